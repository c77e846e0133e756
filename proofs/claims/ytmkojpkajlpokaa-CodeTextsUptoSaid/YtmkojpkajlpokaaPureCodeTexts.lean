/- What the statement CodeTexts needs: our texts Core, SpecA, SpecB, SpecU, SpecTake, SpecText, PureCodeTexts as one. -/
import Derived.Test.YtmkojpkajlpokaaPx39
import Derived.Test.YtmkojpkajlpokaaPx7
import Derived.Test.YtmkojpkajlpokaaPx34
import Derived.Test.YtmkojpkajlpokaaPx35
import Derived.Test.YtmkojpkajlpokaaPx36
import Derived.Test.YtmkojpkajlpokaaPx37
import Derived.Test.YtmkojpkajlpokaaPx38
import Derived.Test.YtmkojpkajlpokaaPx14
import Derived.Test.YtmkojpkajlpokaaPx28
import Derived.Test.YtmkojpkajlpokaaPx29
import Derived.Test.YtmkojpkajlpokaaPx12
import Derived.Test.YtmkojpkajlpokaaPx15
import Derived.Test.YtmkojpkajlpokaaPx8
import Derived.Test.YtmkojpkajlpokaaPx9
import Derived.Test.YtmkojpkajlpokaaPx10
import Derived.Test.YtmkojpkajlpokaaPx13
import Derived.Test.YtmkojpkajlpokaaWMore
import Derived.Lib.Bytealg
import Derived.Lib.Bytes
/- Plain lemmas on rows of bytes: their order, when two are the same, which begins which. No program in sight. -/
set_option linter.unusedVariables false
set_option linter.unusedSimpArgs false
namespace Go.Proofs.Ytmkojpkajlpokaa.Sw
open Go.RowKit Go.Proofs.YtmkojpkajlpokaaW.PrintWords Go.Proofs.YtmkojpkajlpokaaW.PrintMore

/-- All numbers of a row are bytes. -/
def Byts (l : List Int) : Prop := ∀ x ∈ l, 0 ≤ x ∧ x < 256
theorem Byts.nil : Byts [] := fun x hx => by cases hx
theorem Byts.cons {a : Int} {l : List Int} (h0 : 0 ≤ a) (h1 : a < 256) (h : Byts l) : Byts (a :: l) := by
  intro x hx
  rcases List.mem_cons.1 hx with rfl | hx
  · exact ⟨h0, h1⟩
  · exact h x hx
theorem Byts.head {a : Int} {l : List Int} (h : Byts (a :: l)) : 0 ≤ a ∧ a < 256 := h a List.mem_cons_self
theorem Byts.tail {a : Int} {l : List Int} (h : Byts (a :: l)) : Byts l := fun x hx => h x (List.mem_cons_of_mem _ hx)
theorem Byts.append {a b : List Int} (ha : Byts a) (hb : Byts b) : Byts (a ++ b) := by
  intro x hx
  rcases List.mem_append.1 hx with hx | hx
  · exact ha x hx
  · exact hb x hx
theorem Byts.left {a b : List Int} (h : Byts (a ++ b)) : Byts a := fun x hx => h x (List.mem_append_left _ hx)
theorem Byts.right {a b : List Int} (h : Byts (a ++ b)) : Byts b := fun x hx => h x (List.mem_append_right _ hx)
theorem Byts.take {a : List Int} (h : Byts a) (n : Nat) : Byts (a.take n) := fun x hx => h x (List.mem_of_mem_take hx)
theorem Byts.drop {a : List Int} (h : Byts a) (n : Nat) : Byts (a.drop n) := fun x hx => h x (List.mem_of_mem_drop hx)
theorem Byts.one {a : Int} (h0 : 0 ≤ a) (h1 : a < 256) : Byts [a] := Byts.cons h0 h1 Byts.nil
theorem byts_of_wf {l : List Int} (h : ∀ x ∈ l, (Lit.int .u8 x).wf = true) : Byts l := by
  intro x hx
  have := h x hx
  simp only [Lit.wf, IntKind.min, IntKind.max, IntKind.signed, IntKind.bits, Bool.and_eq_true, decide_eq_true_eq] at this
  simp at this
  omega
theorem Byts.set {l : List Int} (h : Byts l) (i : Nat) {v : Int} (h0 : 0 ≤ v) (h1 : v < 256) : Byts (l.set i v) := by
  intro x hx
  rcases List.mem_or_eq_of_mem_set hx with hx | rfl
  · exact h x hx
  · exact ⟨h0, h1⟩
theorem i64_of_wf {x : Int} (h : (Lit.int .i64 x).wf = true) : -9223372036854775808 ≤ x ∧ x ≤ 9223372036854775807 := by
  simp only [Lit.wf, IntKind.min, IntKind.max, IntKind.signed, IntKind.bits, Bool.and_eq_true, decide_eq_true_eq] at h
  simp at h
  omega
theorem u8_of_wf {x : Int} (h : (Lit.int .u8 x).wf = true) : 0 ≤ x ∧ x < 256 := by
  simp only [Lit.wf, IntKind.min, IntKind.max, IntKind.signed, IntKind.bits, Bool.and_eq_true, decide_eq_true_eq] at h
  simp at h
  omega
theorem rd_range {l : List Int} (h : Byts l) (i : Int) : 0 ≤ rd l i ∧ rd l i < 256 := by
  unfold rd
  rw [List.getD_eq_getElem?_getD]
  cases hx : l[i.toNat]? with
  | none => simp
  | some x => exact h x (List.mem_of_getElem? hx)

/-- The order of rows of bytes: by the first in which they differ; one that has ended is less. -/
def less : List Int → List Int → Bool
  | _, [] => false
  | [], _ :: _ => true
  | a :: x, b :: y => if a < b then true else if b < a then false else less x y
theorem u8_lt {a b : Int} (ha : 0 ≤ a ∧ a < 256) (hb : 0 ≤ b ∧ b < 256) : (UInt8.ofNat a.toNat < UInt8.ofNat b.toNat) ↔ a < b := by
  rw [UInt8.lt_iff_toNat_lt]
  simp only [UInt8.toNat_ofNat']
  omega
theorem u8_eq {a b : Int} (ha : 0 ≤ a ∧ a < 256) (hb : 0 ≤ b ∧ b < 256) : (UInt8.ofNat a.toNat = UInt8.ofNat b.toNat) ↔ a = b := by
  rw [← UInt8.toNat_inj]
  simp only [UInt8.toNat_ofNat']
  omega
theorem bytesOf_cons (a : Int) (l : List Int) : Lib.bytesOf (a :: l) = UInt8.ofNat a.toNat :: Lib.bytesOf l := rfl
theorem compare_less : ∀ {a b : List Int}, Byts a → Byts b → decide (Lib.compareBytes (Lib.bytesOf a) (Lib.bytesOf b) < 0) = less a b
  | [], [], _, _ => by simp [Lib.bytesOf, Lib.compareBytes, less]
  | [], _ :: _, _, _ => by simp [Lib.bytesOf, Lib.compareBytes, less]
  | _ :: _, [], _, _ => by simp [Lib.bytesOf, Lib.compareBytes, less]
  | a :: x, b :: y, ha, hb => by
    have ih := compare_less ha.tail hb.tail
    have h1 := u8_lt ha.head hb.head
    have h2 := u8_lt hb.head ha.head
    rw [bytesOf_cons, bytesOf_cons]
    unfold Lib.compareBytes less
    by_cases c : a < b
    · rw [if_pos (h1.2 c), if_pos c]; rfl
    · rw [if_neg (fun h => c (h1.1 h)), if_neg c]
      by_cases c2 : b < a
      · rw [if_pos (h2.2 c2), if_pos c2]; rfl
      · rw [if_neg (fun h => c2 (h2.1 h)), if_neg c2]; exact ih
theorem bytesLess_less : ∀ {a b : List Int}, Byts a → Byts b → Op.bytesLess (Lib.bytesOf a) (Lib.bytesOf b) = less a b
  | [], [], _, _ => by simp [Lib.bytesOf, Op.bytesLess, less]
  | [], _ :: _, _, _ => by simp [Lib.bytesOf, Op.bytesLess, less]
  | _ :: _, [], _, _ => by simp [Lib.bytesOf, Op.bytesLess, less]
  | a :: x, b :: y, ha, hb => by
    have ih := bytesLess_less ha.tail hb.tail
    have h1 := u8_lt ha.head hb.head
    have h3 := u8_eq ha.head hb.head
    rw [bytesOf_cons, bytesOf_cons]
    unfold Op.bytesLess less
    by_cases c : a < b
    · rw [if_pos c, decide_eq_true (h1.2 c)]; rfl
    · rw [if_neg c, decide_eq_false (fun h => c (h1.1 h)), Bool.false_or]
      by_cases c2 : b < a
      · rw [if_pos c2, beq_eq_false_iff_ne.2 (fun h => by have := h3.1 h; omega)]; rfl
      · rw [if_neg c2, beq_iff_eq.2 (h3.2 (by omega)), Bool.true_and]; exact ih
theorem bytesOf_inj : ∀ {a b : List Int}, Byts a → Byts b → (Lib.bytesOf a = Lib.bytesOf b ↔ a = b)
  | [], [], _, _ => by simp
  | [], _ :: _, _, _ => by simp [Lib.bytesOf]
  | _ :: _, [], _, _ => by simp [Lib.bytesOf]
  | a :: x, b :: y, ha, hb => by
    have ih := bytesOf_inj ha.tail hb.tail
    have h3 := u8_eq ha.head hb.head
    rw [bytesOf_cons, bytesOf_cons, List.cons.injEq, List.cons.injEq, h3, ih]
/-- Two rows as texts are the same just if they are the same. -/
theorem str_eq {a b : List Int} (ha : Byts a) (hb : Byts b) : ((strOfNums a).toList == (strOfNums b).toList) = decide (a = b) := by
  rw [Lib.strOfNums_toList, Lib.strOfNums_toList]
  by_cases c : a = b
  · subst c; simp
  · rw [decide_eq_false c, beq_eq_false_iff_ne]
    exact fun h => c ((bytesOf_inj ha hb).1 h)
theorem str_less {a b : List Int} (ha : Byts a) (hb : Byts b) : Op.bytesLess (strOfNums a).toList (strOfNums b).toList = less a b := by
  rw [Lib.strOfNums_toList, Lib.strOfNums_toList]
  exact bytesLess_less ha hb

theorem less_nil (a : List Int) : less a [] = false := by cases a <;> rfl
theorem less_irrefl : ∀ a : List Int, less a a = false
  | [] => rfl
  | a :: x => by
    unfold less
    rw [if_neg (by omega), if_neg (by omega)]
    exact less_irrefl x
theorem less_cons (a b : Int) (x y : List Int) : less (a :: x) (b :: y) = true ↔ a < b ∨ a = b ∧ less x y = true := by
  conv => lhs; unfold less
  by_cases c : a < b
  · simp [c]
  · rw [if_neg c]
    by_cases c2 : b < a
    · rw [if_pos c2]
      simp
      omega
    · rw [if_neg c2]
      have : a = b := by omega
      simp [this]
theorem less_trans : ∀ {a b c : List Int}, less a b = true → less b c = true → less a c = true
  | _, [], _, h, _ => by rw [less_nil] at h; cases h
  | _, _ :: _, [], _, h => by rw [less_nil] at h; cases h
  | [], _ :: _, _ :: _, _, _ => rfl
  | a :: x, b :: y, c :: z, h, k => by
    rw [less_cons] at h k ⊢
    rcases h with h | ⟨h, h'⟩ <;> rcases k with k | ⟨k, k'⟩
    · exact .inl (by omega)
    · exact .inl (by omega)
    · exact .inl (by omega)
    · exact .inr ⟨by omega, less_trans h' k'⟩
theorem less_asymm {a b : List Int} (h : less a b = true) : less b a = false := by
  cases c : less b a with
  | false => rfl
  | true => have := less_trans h c; rw [less_irrefl] at this; cases this
theorem less_total : ∀ {a b : List Int}, a ≠ b → less a b = true ∨ less b a = true
  | [], [], h => absurd rfl h
  | [], _ :: _, _ => .inl rfl
  | _ :: _, [], _ => .inr rfl
  | a :: x, b :: y, h => by
    rw [less_cons, less_cons]
    by_cases c : a = b
    · subst c
      rcases less_total (a := x) (b := y) (fun h' => h (by rw [h'])) with k | k
      · exact .inl (.inr ⟨rfl, k⟩)
      · exact .inr (.inr ⟨rfl, k⟩)
    · by_cases c2 : a < b
      · exact .inl (.inl c2)
      · exact .inr (.inl (by omega))
theorem less_append : ∀ (a : List Int) (x : Int) (y : List Int), less a (a ++ x :: y) = true
  | [], _, _ => rfl
  | a :: l, x, y => by
    rw [List.cons_append, less_cons]
    exact .inr ⟨rfl, less_append l x y⟩
/-- A row is not less than what it begins with. -/
theorem less_prefix : ∀ (p l : List Int), less (p ++ l) p = false
  | [], l => less_nil _
  | a :: p, l => by
    cases c : less (a :: p ++ l) (a :: p) with
    | false => rfl
    | true =>
      rw [List.cons_append, less_cons] at c
      rcases c with c | ⟨_, c⟩
      · omega
      · rw [less_prefix p l] at c; cases c
theorem less_append_left : ∀ (p a b : List Int), less (p ++ a) (p ++ b) = less a b
  | [], _, _ => rfl
  | x :: p, a, b => by
    have ih := less_append_left p a b
    rw [List.cons_append, List.cons_append, Bool.eq_iff_iff, less_cons, ← Bool.eq_iff_iff.1 ih]
    constructor
    · rintro (h | ⟨_, h⟩)
      · omega
      · exact h
    · exact fun h => .inr ⟨rfl, h⟩

theorem mx0 (n : Int) : mx n 0 = max n 0 := by unfold mx; split <;> omega
theorem wrap_in {n : Int} (h0 : -9223372036854775808 ≤ n) (h1 : n ≤ 9223372036854775807) : wrap64 n = n := by unfold wrap64; omega
theorem rd_nat (l : List Int) (i : Nat) (h : i < l.length) : rd l (i : Int) = l[i] := by
  unfold rd
  rw [Int.toNat_natCast, List.getD_eq_getElem?_getD, List.getElem?_eq_getElem h]
  rfl
end Go.Proofs.Ytmkojpkajlpokaa.Sw

/- What the functions that lay numbers compute: a number in eight bytes, in groups of seven bits, a text behind a number. -/
set_option linter.unusedVariables false
set_option linter.unusedSimpArgs false
namespace Go.Proofs.Ytmkojpkajlpokaa.Sw
open Go.RowKit Go.Proofs.Ytmkojpkajlpokaa.Px Go.Proofs.YtmkojpkajlpokaaW.PrintWords Go.Proofs.YtmkojpkajlpokaaW.PrintLast Go.Proofs.YtmkojpkajlpokaaW.PrintMore

theorem Ev.none_if {α : Type} {g : Nat → Option α} {c : Prop} [Decidable c] {r : α} (hc : c) (h : Ev g r) : Ev (fun k => if c then g k else none) r := by
  simp only [if_pos hc]; exact h
theorem Ev.pos {α : Type} {g f : Nat → Option α} {c : Prop} [Decidable c] {r : α} (hc : c) (h : Ev g r) : Ev (fun k => if c then g k else f k) r := by
  simp only [if_pos hc]; exact h
theorem Ev.neg {α : Type} {g f : Nat → Option α} {c : Prop} [Decidable c] {r : α} (hc : ¬ c) (h : Ev f r) : Ev (fun k => if c then g k else f k) r := by
  simp only [if_neg hc]; exact h
theorem Ev.bindc {α β : Type} {o : Option α} {f : Nat → α → Option β} {a : α} {r : β} (h : o = some a) (k : Ev (fun n => f n a) r) : Ev (fun n => o.bind (f n)) r := by
  subst h; exact k
theorem Ev.const {α : Type} {o : Option α} {r : α} (h : o = some r) : Ev (fun _ => o) r := ⟨0, fun _ _ => h⟩

/-! ### n bytes of a number, the highest first -/
def be : Nat → Int → List Int
  | 0, _ => []
  | n + 1, x => be n (x / 256) ++ [x % 256]
theorem be_length : ∀ (n : Nat) (x : Int), (be n x).length = n
  | 0, _ => rfl
  | n + 1, x => by rw [be, List.length_append, be_length n]; rfl
theorem be_byts : ∀ (n : Nat) (x : Int), Byts (be n x)
  | 0, _ => Byts.nil
  | n + 1, x => by
    rw [be]
    exact (be_byts n _).append (Byts.one (by omega) (by omega))
/-- What some bytes say, the highest first. -/
def val : List Int → Int → Int
  | [], a => a
  | c :: l, a => val l (a * 256 + c)
theorem val_append : ∀ (x y : List Int) (a : Int), val (x ++ y) a = val y (val x a)
  | [], _, _ => rfl
  | c :: l, y, a => by rw [List.cons_append, val, val, val_append l]
theorem val_be : ∀ (n : Nat) (x a : Int), 0 ≤ x → x < 256 ^ n → val (be n x) a = a * 256 ^ n + x
  | 0, x, a, h0, h1 => by
    simp at h1
    have : x = 0 := by omega
    subst this
    simp [be, val]
  | n + 1, x, a, h0, h1 => by
    have h2 : (256 : Int) ^ (n + 1) = 256 ^ n * 256 := Int.pow_succ _ _
    rw [be, val_append, val_be n (x / 256) a (by omega) (by rw [h2] at h1; omega)]
    simp only [val]
    rw [h2, ← Int.mul_assoc, Int.add_mul]
    omega
theorem rev_ind {P : List Int → Prop} (h0 : P []) (h1 : ∀ l c, P l → P (l ++ [c])) (l : List Int) : P l := by
  have h : ∀ r : List Int, P r.reverse := by
    intro r
    induction r with
    | nil => exact h0
    | cons c r ih => rw [List.reverse_cons]; exact h1 _ _ ih
  have := h l.reverse
  rwa [List.reverse_reverse] at this
theorem be_val : ∀ (l : List Int), Byts l → ∀ a, be l.length (val l a) = l ∧ val l a = a * 256 ^ l.length + val l 0 := by
  refine rev_ind ?_ ?_
  · intro _ a; simp [be, val]
  · intro l c ih h a
    have hc := h.right.head
    obtain ⟨h1, h2⟩ := ih h.left a
    obtain ⟨h3, h4⟩ := ih h.left 0
    rw [val_append, val_append, List.length_append]
    simp only [val, List.length_cons, List.length_nil, Nat.zero_add, be]
    refine ⟨?_, ?_⟩
    · rw [show (val l a * 256 + c) / 256 = val l a by omega, show (val l a * 256 + c) % 256 = c by omega, h1]
    · rw [h2, Int.pow_succ, ← Int.mul_assoc, Int.add_mul]
      omega
theorem val_nonneg : ∀ (l : List Int), Byts l → ∀ a, 0 ≤ a → 0 ≤ val l a
  | [], _, _, h => h
  | c :: l, h, a, h0 => val_nonneg l h.tail _ (by have := h.head; omega)
theorem val_lt : ∀ (l : List Int), Byts l → val l 0 < 256 ^ l.length := by
  refine rev_ind ?_ ?_
  · intro _; simp [val]
  · intro l c ih h
    have hc := h.right.head
    have := ih h.left
    rw [val_append, List.length_append]
    simp only [val, List.length_cons, List.length_nil, Nat.zero_add, Int.pow_succ]
    omega
theorem set_replicate (m : Nat) (v : Int) (t : List Int) : (List.replicate (m + 1) 0 ++ t).set m v = List.replicate m 0 ++ v :: t := by
  rw [List.replicate_succ', List.append_assoc, List.set_append_right _ _ (by simp)]
  simp
theorem high_loop (m : Nat) : ∀ (x : Int) (t : List Int), m ≤ 1000000 → Ev (fun k => code_high.l0 k x (List.replicate m 0 ++ t) ((m : Int) - 1)) (be m x ++ t) := by
  induction m with
  | zero =>
    intro x t _
    refine Ev.step (f := fun _ => some t) (fun k => ?_) (Ev.now _)
    simp only [code_high.l0]
    rw [if_neg (by omega)]
    rfl
  | succ m ih =>
    intro x t hm
    refine Ev.step (f := fun k => code_high.l0 k (x / 256) (List.replicate m 0 ++ (x % 256) :: t) ((m : Int) - 1)) (fun k => ?_) ?_
    · simp only [code_high.l0]
      rw [if_pos (by omega), if_pos (by omega), if_pos (by simp; omega)]
      rw [show (((m + 1 : Nat) : Int) - 1).toNat = m by omega, set_replicate, wrap_in (by omega) (by omega)]
      congr 1
      omega
    · have := ih (x / 256) ((x % 256) :: t) (by omega)
      rw [be, List.append_assoc]
      exact this
theorem high_f (n : Nat) (x : Int) (hn : n ≤ 1000000) : Ev (fun k => code_high.f k x (n : Int)) (be n x) := by
  unfold code_high.f
  refine Ev.pos (by omega) (Ev.pos (by omega) ?_)
  have := high_loop n x [] hn
  rw [List.append_nil] at this
  rw [Int.toNat_natCast, wrap_in (by omega) (by omega)]
  simpa using this
theorem laid_f {a b : List Int} (h : a.length + b.length < 140737488355328) : code_laid_byte.f a b = some (a ++ b) := by
  unfold code_laid_byte.f slices_Clone_byte_byte.f
  rw [if_pos (by omega), Option.bind_some, if_pos h]
theorem putFix_f (l : List Int) (n : Int) (h0 : -9223372036854775808 ≤ n) (h1 : n ≤ 9223372036854775807) (hl : l.length + 8 < 140737488355328) :
    Ev (fun k => code_PutFix.f k l n) (l ++ be 8 (max n 0)) := by
  unfold code_PutFix.f
  rw [mx0, show IntKind.u64.wrap (max n 0) = max n 0 by simp [IntKind.wrap, IntKind.bits, IntKind.signed]; omega]
  refine Ev.bind (high_f 8 _ (by omega)) ?_
  refine Ev.bindc (laid_f (by rw [be_length]; exact hl)) (Ev.now _)

/-! ### groups of seven bits, the lowest first -/
def grp (n : Nat) : List Int := if n < 128 then [(n : Int)] else ((n % 128 + 128 : Nat) : Int) :: grp (n / 128)
termination_by n
theorem grp_lo {n : Nat} (h : n < 128) : grp n = [(n : Int)] := by rw [grp, if_pos h]
theorem grp_hi {n : Nat} (h : ¬ n < 128) : grp n = ((n % 128 + 128 : Nat) : Int) :: grp (n / 128) := by rw [grp, if_neg h]
theorem grp_byts (n : Nat) : Byts (grp n) := by
  induction n using Nat.strongRecOn with
  | ind n ih =>
    by_cases h : n < 128
    · rw [grp_lo h]; exact Byts.one (by omega) (by omega)
    · rw [grp_hi h]; exact Byts.cons (by omega) (by omega) (ih _ (by omega))
theorem grp_length_le (k : Nat) : ∀ n : Nat, n < 128 ^ (k + 1) → (grp n).length ≤ k + 1 := by
  induction k with
  | zero => intro n h; rw [grp_lo (by simpa using h)]; simp
  | succ k ih =>
    intro n h
    by_cases c : n < 128
    · rw [grp_lo c]; simp
    · rw [grp_hi c, List.length_cons]
      have := ih (n / 128) (by rw [Nat.pow_succ] at h; exact Nat.div_lt_of_lt_mul (by rw [Nat.mul_comm]; exact h))
      omega
theorem grp_pos (n : Nat) : 0 < (grp n).length := by
  rw [grp]; split <;> simp
theorem grp9 {n : Nat} (h : n ≤ 4611686018427387903) : (grp n).length ≤ 9 := grp_length_le 8 n (by omega)
theorem or128 (y : Int) (h0 : 0 ≤ y) (h1 : y < 256) : Go.bits .or .u8 y 128 = y % 128 + 128 := by
  have h : ∀ n : Fin 256, Go.bits .or .u8 (n.val : Int) 128 = (n.val : Int) % 128 + 128 := by decide +kernel
  have := h ⟨y.toNat, by omega⟩
  simpa [Int.toNat_of_nonneg h0] using this
theorem putNum_loop (n : Nat) : ∀ (l acc : List Int), n ≤ 4611686018427387903 → l.length + 18 < 140737488355328 → acc.length + (grp n).length ≤ 9 →
    Ev (fun k => code_PutNum.l0 k l (n : Int) acc) (l ++ (acc ++ grp n)) := by
  induction n using Nat.strongRecOn with
  | ind n ih =>
    intro l acc hn hl ha
    by_cases h : n < 128
    · refine Ev.step (f := fun _ => some (l ++ (acc ++ grp n))) (fun k => ?_) (Ev.now _)
      simp only [code_PutNum.l0]
      rw [if_neg (by omega), if_pos (by omega), show ((n : Int) % 256) = n by omega, laid_f (by simp; omega), Option.bind_some, grp_lo h]
    · rw [grp_hi h] at ha ⊢
      rw [List.length_cons] at ha
      have := ih (n / 128) (by omega) l (acc ++ [((n % 128 + 128 : Nat) : Int)]) (by omega) hl (by simp; omega)
      refine Ev.step (fun k => ?_) (show Ev (fun k => code_PutNum.l0 k l ((n / 128 : Nat) : Int) (acc ++ [((n % 128 + 128 : Nat) : Int)])) _ from ?_)
      · simp only [code_PutNum.l0]
        rw [if_pos (by omega), if_pos (by have := grp_pos (n / 128); omega), or128 _ (by omega) (by omega), show (n : Int) / 128 = ((n / 128 : Nat) : Int) by omega, show (n : Int) % 256 % 128 + 128 = ((n % 128 + 128 : Nat) : Int) by omega]
      · rw [List.append_assoc] at this
        exact this
/-- A number as its groups' number: below 0 it counts as 0, above 2^62 - 1 as that. -/
def cap (n : Int) : Nat := (min (max n 0) 4611686018427387903).toNat
theorem cap_le (n : Int) : cap n ≤ 4611686018427387903 := by unfold cap; omega
theorem cap_of {n : Nat} (h : n ≤ 4611686018427387903) : cap (n : Int) = n := by unfold cap; omega
theorem mn_cap (n : Int) : mn (mx n 0) 4611686018427387903 = (cap n : Int) := by
  unfold mn mx cap
  split <;> split <;> omega
theorem putNum_f (l : List Int) (n : Int) (hl : l.length + 18 < 140737488355328) : Ev (fun k => code_PutNum.f k l n) (l ++ grp (cap n)) := by
  unfold code_PutNum.f
  rw [mn_cap]
  have := putNum_loop (cap n) l [] (cap_le n) hl (by simpa using grp9 (cap_le n))
  simpa using this
end Go.Proofs.Ytmkojpkajlpokaa.Sw

/- What the document's functions that lay numbers compute, and the order of fixed numbers. -/
set_option linter.unusedVariables false
set_option linter.unusedSimpArgs false
namespace Go.Proofs.Ytmkojpkajlpokaa.Sw
open Go.RowKit Go.Proofs.Ytmkojpkajlpokaa.Px Go.Proofs.YtmkojpkajlpokaaW.PrintWords Go.Proofs.YtmkojpkajlpokaaW.PrintLast Go.Proofs.YtmkojpkajlpokaaW.PrintMore

theorem pow256_pos (n : Nat) : (0 : Int) < 256 ^ n := Int.pow_pos (by omega)
/-- Rows of one length go as what they say. -/
theorem less_val : ∀ (l m : List Int) (a : Int), Byts l → Byts m → l.length = m.length → (less l m = true ↔ val l a < val m a)
  | [], [], a, _, _, _ => by simp [less, val]
  | [], _ :: _, _, _, _, h => by simp at h
  | _ :: _, [], _, _, _, h => by simp at h
  | c :: l, d :: m, a, hl, hm, h => by
    have hc := hl.head
    have hd := hm.head
    have hlen : l.length = m.length := by simpa using h
    have h1 := (be_val l hl.tail (a * 256 + c)).2
    have h2 := (be_val m hm.tail (a * 256 + d)).2
    have b1 := val_lt l hl.tail
    have b2 := val_lt m hm.tail
    have n1 := val_nonneg l hl.tail 0 (by omega)
    have n2 := val_nonneg m hm.tail 0 (by omega)
    have hp := pow256_pos m.length
    rw [less_cons]
    simp only [val]
    rw [hlen] at h1 b1
    constructor
    · rintro (k | ⟨k, k'⟩)
      · have h3 : (a * 256 + c + 1) * 256 ^ m.length ≤ (a * 256 + d) * 256 ^ m.length := Int.mul_le_mul_of_nonneg_right (by omega) (by omega)
        rw [Int.add_mul, Int.one_mul] at h3
        omega
      · subst k
        exact (less_val l m _ hl.tail hm.tail hlen).1 k'
    · intro k
      by_cases e : c = d
      · subst e
        exact .inr ⟨rfl, (less_val l m _ hl.tail hm.tail hlen).2 k⟩
      · by_cases e2 : c < d
        · exact .inl e2
        · have h3 : (a * 256 + d + 1) * 256 ^ m.length ≤ (a * 256 + c) * 256 ^ m.length := Int.mul_le_mul_of_nonneg_right (by omega) (by omega)
          rw [Int.add_mul, Int.one_mul] at h3
          omega
theorem less_be (n : Nat) {x y : Int} (hx0 : 0 ≤ x) (hx : x < 256 ^ n) (hy0 : 0 ≤ y) (hy : y < 256 ^ n) : less (be n x) (be n y) = decide (x < y) := by
  rw [Bool.eq_iff_iff, less_val _ _ 0 (be_byts _ _) (be_byts _ _) (by rw [be_length, be_length]), val_be n x 0 hx0 hx, val_be n y 0 hy0 hy]
  simp
theorem be_inj (n : Nat) {x y : Int} (hx0 : 0 ≤ x) (hx : x < 256 ^ n) (hy0 : 0 ≤ y) (hy : y < 256 ^ n) (h : be n x = be n y) : x = y := by
  have h1 := val_be n x 0 hx0 hx
  have h2 := val_be n y 0 hy0 hy
  rw [h] at h1
  omega

/-! ### the document's -/
theorem be_shift : ∀ (m : Nat) (x : Int), be (m + 1) x = (x / 256 ^ m) % 256 :: be m x
  | 0, x => by simp [be]
  | m + 1, x => by
    rw [be, be_shift m, be, List.cons_append]
    congr 1
    rw [Int.ediv_ediv_of_nonneg (by omega), Int.pow_succ, Int.mul_comm]
theorem shr_pow (x : Int) (m : Nat) (hm : m < 8) : shr .i64 x (wrap64 (8 * (m : Int))) = x / 256 ^ m := by
  rw [wrap_in (by omega) (by omega)]
  unfold shr
  rw [show (8 * (m : Int)).toNat = 8 * m by omega, Nat.min_eq_left (by simp [IntKind.bits]; omega)]
  congr 1
  rw [Int.pow_mul]
  rfl
theorem refFix_loop (m : Nat) : ∀ (x : Int) (acc : List Int), m ≤ 8 → acc.length + m < 140737488355328 →
    Ev (fun k => sawyerref02_PutFix.l0 k x acc ((m : Int) - 1)) (acc ++ be m x) := by
  induction m with
  | zero =>
    intro x acc _ _
    refine Ev.step (f := fun _ => some acc) (fun k => ?_) ?_
    · simp only [sawyerref02_PutFix.l0]
      rw [if_neg (by omega)]
    · rw [be, List.append_nil]; exact Ev.now _
  | succ m ih =>
    intro x acc hm hl
    have := ih x (acc ++ [(x / 256 ^ m) % 256]) (by omega) (by simp; omega)
    refine Ev.step (fun k => ?_) (show Ev (fun k => sawyerref02_PutFix.l0 k x (acc ++ [(x / 256 ^ m) % 256]) ((m : Int) - 1)) _ from ?_)
    · simp only [sawyerref02_PutFix.l0]
      rw [show ((m + 1 : Nat) : Int) - 1 = (m : Int) by omega, if_pos (by omega), if_pos (by rw [wrap_in (by omega) (by omega)]; omega), if_pos (by omega), shr_pow x m (by omega), wrap_in (n := (m : Int) - 1) (by omega) (by omega)]
    · rw [be_shift]
      rw [List.append_assoc] at this
      exact this
theorem refFix_f (l : List Int) (n : Int) (hl : l.length + 8 < 140737488355328) : Ev (fun k => sawyerref02_PutFix.f k l n) (l ++ be 8 (max n 0)) := by
  unfold sawyerref02_PutFix.f
  refine Ev.pos (by simp; omega) ?_
  rw [mx0]
  have := refFix_loop 8 (max n 0) ([] ++ l) (by omega) (by simpa using hl)
  simpa using this
theorem refNum_loop (n : Nat) : ∀ (acc : List Int), n ≤ 4611686018427387903 → acc.length + (grp n).length < 140737488355328 →
    Ev (fun k => sawyerref02_PutNum.l0 k (n : Int) acc) (acc ++ grp n) := by
  induction n using Nat.strongRecOn with
  | ind n ih =>
    intro acc hn hl
    by_cases h : n < 128
    · rw [grp_lo h] at hl ⊢
      refine Ev.step (f := fun _ => some (acc ++ [(n : Int)])) (fun k => ?_) (Ev.now _)
      simp only [sawyerref02_PutNum.l0]
      rw [if_neg (by omega), if_pos (by simp at hl; omega), show ((n : Int) % 256) = n by omega]
    · rw [grp_hi h] at hl ⊢
      rw [List.length_cons] at hl
      have := ih (n / 128) (by omega) (acc ++ [((n % 128 + 128 : Nat) : Int)]) (by omega) (by simp; omega)
      refine Ev.step (fun k => ?_) (show Ev (fun k => sawyerref02_PutNum.l0 k ((n / 128 : Nat) : Int) (acc ++ [((n % 128 + 128 : Nat) : Int)])) _ from ?_)
      · simp only [sawyerref02_PutNum.l0]
        have e1 : Int.tdiv (n : Int) 128 = ((n / 128 : Nat) : Int) := by rw [Int.tdiv_eq_ediv_of_nonneg (by omega)]; omega
        have e2 : Int.tmod (n : Int) 128 = ((n % 128 : Nat) : Int) := by rw [Int.tmod_eq_emod_of_nonneg (by omega)]; omega
        rw [if_pos (by omega), if_pos (by omega), e1, e2, wrap_in (by omega) (by omega), wrap_in (by omega) (by omega), show (128 + ((n % 128 : Nat) : Int)) % 256 = ((n % 128 + 128 : Nat) : Int) by omega]
      · rw [List.append_assoc] at this
        exact this
theorem refNum_f (l : List Int) (n : Int) (hl : l.length + 9 < 140737488355328) : Ev (fun k => sawyerref02_PutNum.f k l n) (l ++ grp (cap n)) := by
  unfold sawyerref02_PutNum.f
  refine Ev.pos (by simp; omega) ?_
  rw [mn_cap]
  have := refNum_loop (cap n) ([] ++ l) (cap_le n) (by have := grp9 (cap_le n); simp; omega)
  simpa using this
theorem same_f {a b : List Int} (ha : Byts a) (hb : Byts b) : sawyerref02_Same.f a b = some (decide (a = b)) := by
  unfold sawyerref02_Same.f
  rw [str_eq ha hb]
end Go.Proofs.Ytmkojpkajlpokaa.Sw

/- Small lemmas on words of 64 bits, and what a taking function answers. -/

set_option linter.unusedVariables false
set_option linter.unusedSimpArgs false
namespace Go.Proofs.Ytmkojpkajlpokaa.Sw
open Go.RowKit Go.Proofs.Ytmkojpkajlpokaa.Px Go.Proofs.YtmkojpkajlpokaaW.PrintWords Go.Proofs.YtmkojpkajlpokaaW.PrintLast Go.Proofs.YtmkojpkajlpokaaW.PrintMore

/-- What a taking function answers. -/
def tri : Option (Nat × List Int) → Int × List Int × Int
  | some (n, r) => ((n : Int), r, 0)
  | none => (0, [], 2)
theorem u64_nat {n : Nat} (h : n < 18446744073709551616) : IntKind.u64.wrap (n : Int) = (n : Int) := by
  simp only [IntKind.wrap, IntKind.bits, IntKind.signed]
  simp
  omega
theorem or_u64 {t d : Nat} (ht : t < 18446744073709551616) (hd : d < 18446744073709551616) : Go.bits .or .u64 (t : Int) (d : Int) = ((t ||| d : Nat) : Int) := by
  show IntKind.u64.wrap (((BitVec.ofInt 64 (t : Int)) ||| (BitVec.ofInt 64 (d : Int))).toNat : Int) = _
  rw [BitVec.ofInt_natCast, BitVec.ofInt_natCast, BitVec.toNat_or, BitVec.toNat_ofNat, BitVec.toNat_ofNat, Nat.mod_eq_of_lt (by omega), Nat.mod_eq_of_lt (by omega)]
  exact u64_nat (Nat.or_lt_two_pow (n := 64) (by omega) (by omega))
theorem wrap_succ {i : Nat} (h : i < 140737488355328) : wrap64 ((i : Int) + 1) = ((i + 1 : Nat) : Int) := by rw [wrap_in (by omega) (by omega)]; rfl
end Go.Proofs.Ytmkojpkajlpokaa.Sw

/- What the functions that take a number from any bytes compute. -/
set_option linter.unusedVariables false
set_option linter.unusedSimpArgs false
namespace Go.Proofs.Ytmkojpkajlpokaa.Sw
open Go.RowKit Go.Proofs.Ytmkojpkajlpokaa.Px Go.Proofs.YtmkojpkajlpokaaW.PrintWords Go.Proofs.YtmkojpkajlpokaaW.PrintLast Go.Proofs.YtmkojpkajlpokaaW.PrintMore

/-- A number of at most k groups at a row's beginning, and what is behind it; no group of nothing behind the first. -/
def dec : Nat → List Int → Option (Nat × List Int)
  | 0, _ => none
  | _ + 1, [] => none
  | k + 1, c :: l => if c < 128 then some (c.toNat, l) else match dec k l with
    | some (n, r) => if n = 0 then none else some (c.toNat - 128 + 128 * n, r)
    | none => none
theorem dec_grp (k : Nat) : ∀ (n : Nat) (r : List Int), (grp n).length ≤ k → dec k (grp n ++ r) = some (n, r) := by
  induction k with
  | zero => intro n r h; have := grp_pos n; omega
  | succ k ih =>
    intro n r h
    by_cases c : n < 128
    · rw [grp_lo c, List.cons_append, dec, if_pos (by omega)]; rfl
    · rw [grp_hi c] at h ⊢
      rw [List.cons_append, dec, if_neg (by omega), ih (n / 128) r (by simpa using h)]
      simp only
      rw [if_neg (by omega), Int.toNat_natCast]
      congr 2
      omega
theorem dec_back (k : Nat) : ∀ (l : List Int) (n : Nat) (r : List Int), Byts l → dec k l = some (n, r) → l = grp n ++ r ∧ (grp n).length ≤ k := by
  induction k with
  | zero => intro l n r _ h; simp [dec] at h
  | succ k ih =>
    intro l n r hl h
    cases l with
    | nil => simp [dec] at h
    | cons c l =>
      have hc := hl.head
      rw [dec] at h
      by_cases e : c < 128
      · rw [if_pos e] at h
        simp only [Option.some.injEq, Prod.mk.injEq] at h
        obtain ⟨rfl, rfl⟩ := h
        rw [grp_lo (by omega)]
        refine ⟨?_, by simp⟩
        rw [List.singleton_append, Int.toNat_of_nonneg hc.1]
      · rw [if_neg e] at h
        cases hd : dec k l with
        | none => rw [hd] at h; simp at h
        | some p =>
          obtain ⟨m, s⟩ := p
          rw [hd] at h
          simp only at h
          by_cases z : m = 0
          · rw [if_pos z] at h; cases h
          · rw [if_neg z] at h
            simp only [Option.some.injEq, Prod.mk.injEq] at h
            obtain ⟨rfl, rfl⟩ := h
            obtain ⟨h1, h2⟩ := ih l m s hl.tail hd
            rw [grp_hi (by omega), show (c.toNat - 128 + 128 * m) / 128 = m by omega]
            refine ⟨?_, by simp; omega⟩
            rw [List.cons_append, ← h1]
            congr 1
            omega
/-- The number at a row's beginning, and what is behind it. -/
def takeN (l : List Int) : Option (Nat × List Int) := (dec 9 l).bind fun p => if p.1 ≤ 4611686018427387903 then some p else none
theorem takeN_grp {n : Nat} (r : List Int) (h : n ≤ 4611686018427387903) : takeN (grp n ++ r) = some (n, r) := by
  unfold takeN
  rw [dec_grp 9 n r (grp9 h), Option.bind_some, if_pos h]
theorem takeN_back {l r : List Int} {n : Nat} (hl : Byts l) (h : takeN l = some (n, r)) : l = grp n ++ r ∧ n ≤ 4611686018427387903 := by
  unfold takeN at h
  cases hd : dec 9 l with
  | none => rw [hd] at h; simp at h
  | some p =>
    rw [hd, Option.bind_some] at h
    split at h
    · rename_i hp
      simp only [Option.some.injEq] at h
      subst h
      exact ⟨(dec_back 9 l n r hl hd).1, hp⟩
    · cases h
/-- From the i-th group on, with t taken from those ahead. -/
def cont (i t : Nat) (o : Option (Nat × List Int)) : Int × List Int × Int :=
  match o with
  | some (n, r) => if 0 < i ∧ n = 0 then (0, [], 2) else if t + 128 ^ i * n ≤ 4611686018427387903 then (((t + 128 ^ i * n : Nat) : Int), r, 0) else (0, [], 2)
  | none => (0, [], 2)
theorem cont_zero (o : Option (Nat × List Int)) : cont 0 0 o = tri (o.bind fun p => if p.1 ≤ 4611686018427387903 then some p else none) := by
  unfold cont tri
  cases o with
  | none => rfl
  | some p =>
    obtain ⟨n, r⟩ := p
    simp only [Option.bind_some, Nat.pow_zero, Nat.one_mul, Nat.zero_add, Nat.lt_irrefl, false_and, if_false]
    by_cases h : n ≤ 4611686018427387903
    · rw [if_pos h, if_pos h]
    · rw [if_neg h, if_neg h]
theorem cont_step {i t k : Nat} {c : Int} {l : List Int} (h0 : ¬ c < 128) : cont i t (dec (k + 1) (c :: l)) = cont (i + 1) (t + 128 ^ i * (c.toNat - 128)) (dec k l) := by
  rw [dec, if_neg h0]
  cases dec k l with
  | none => rfl
  | some p =>
    obtain ⟨n, r⟩ := p
    simp only
    by_cases z : n = 0
    · rw [if_pos z]
      unfold cont
      simp only
      rw [if_pos ⟨by omega, z⟩]
    · rw [if_neg z]
      unfold cont
      simp only
      have : t + 128 ^ i * (c.toNat - 128 + 128 * n) = t + 128 ^ i * (c.toNat - 128) + 128 ^ (i + 1) * n := by
        rw [Nat.pow_succ, Nat.mul_add, Nat.mul_assoc, Nat.add_assoc]
      rw [if_neg (show ¬ (0 < i ∧ c.toNat - 128 + 128 * n = 0) by omega), if_neg (show ¬ (0 < i + 1 ∧ n = 0) by omega), this]
theorem cont_last {i t k : Nat} {c : Int} {l : List Int} (h0 : c < 128) : cont i t (dec (k + 1) (c :: l)) = if 0 < i ∧ c.toNat = 0 then (0, [], 2) else if t + 128 ^ i * c.toNat ≤ 4611686018427387903 then (((t + 128 ^ i * c.toNat : Nat) : Int), l, 0) else (0, [], 2) := by
  rw [dec, if_pos h0]
  rfl
theorem and127 (y : Int) (h0 : 0 ≤ y) (h1 : y < 256) : Go.bits .and .u8 y 127 = y % 128 := by
  have h : ∀ n : Fin 256, Go.bits .and .u8 (n.val : Int) 127 = (n.val : Int) % 128 := by decide +kernel
  have := h ⟨y.toNat, by omega⟩
  simpa [Int.toNat_of_nonneg h0] using this
theorem pow128 (i : Nat) : (128 : Nat) ^ i = 2 ^ (7 * i) := by rw [Nat.pow_mul]
theorem pow128_le {i : Nat} (h : i ≤ 8) : (128 : Nat) ^ i ≤ 72057594037927936 := by
  have : (128 : Nat) ^ i ≤ 128 ^ 8 := Nat.pow_le_pow_right (by omega) h
  omega
/-- A group laid over those ahead. -/
theorem group (i t : Nat) (c : Int) (hi : i ≤ 8) (ht : t < 128 ^ i) (h0 : 0 ≤ c) (h1 : c < 256) :
    Go.bits .or .u64 (t : Int) (shl .u64 (IntKind.u64.wrap (Go.bits .and .u8 c 127)) (wrap64 (7 * (i : Int)))) = ((t + 128 ^ i * (c.toNat % 128) : Nat) : Int) := by
  have hp := pow128_le hi
  have hm : 128 ^ i * (c.toNat % 128) ≤ 72057594037927936 * 127 := Nat.mul_le_mul hp (by omega)
  have e1 : Go.bits .and .u8 c 127 = ((c.toNat % 128 : Nat) : Int) := by rw [and127 c h0 h1]; omega
  have e2 : shl .u64 (((c.toNat % 128 : Nat) : Int)) (wrap64 (7 * (i : Int))) = ((128 ^ i * (c.toNat % 128) : Nat) : Int) := by
    unfold shl
    rw [wrap_in (by omega) (by omega), show (7 * (i : Int)).toNat = 7 * i by omega, Nat.min_eq_left (by show 7 * i ≤ 64; omega)]
    have : ((c.toNat % 128 : Nat) : Int) * 2 ^ (7 * i) = ((128 ^ i * (c.toNat % 128) : Nat) : Int) := by
      rw [Int.natCast_mul, Int.mul_comm, pow128, Int.natCast_pow]
      rfl
    rw [this]
    exact u64_nat (by omega)
  rw [e1, u64_nat (by omega), e2, or_u64 (by omega) (by omega)]
  rw [pow128] at ht ⊢
  rw [Nat.or_comm, ← Nat.two_pow_add_eq_or_of_lt ht, Nat.add_comm]
theorem group_lo (i t : Nat) (c : Int) (hi : i ≤ 8) (ht : t < 128 ^ i) (h0 : 0 ≤ c) (h1 : c < 128) :
    Go.bits .or .u64 (t : Int) (shl .u64 (IntKind.u64.wrap (Go.bits .and .u8 c 127)) (wrap64 (7 * (i : Int)))) = ((t + 128 ^ i * c.toNat : Nat) : Int) := by
  rw [group i t c hi ht h0 (by omega), show c.toNat % 128 = c.toNat by omega]
theorem group_hi (i t : Nat) (c : Int) (hi : i ≤ 8) (ht : t < 128 ^ i) (h0 : 0 ≤ c) (h1 : c < 256) (h2 : ¬ c < 128) :
    Go.bits .or .u64 (t : Int) (shl .u64 (IntKind.u64.wrap (Go.bits .and .u8 c 127)) (wrap64 (7 * (i : Int)))) = ((t + 128 ^ i * (c.toNat - 128) : Nat) : Int) := by
  rw [group i t c hi ht h0 (by omega), show c.toNat % 128 = c.toNat - 128 by omega]
theorem wrap7 {i : Nat} (h : i ≤ 9) : 0 ≤ wrap64 (7 * (i : Int)) := by rw [wrap_in (by omega) (by omega)]; omega
theorem takeNum_loop (l : List Int) (hl : Byts l) (hb : l.length < 140737488355328) (d : Nat) : ∀ (i t : Nat), 9 - i = d → i ≤ 9 → i ≤ l.length → t < 128 ^ i →
    Ev (fun k => code_TakeNum.l0 k l (t : Int) 0 l (l.length : Int) (i : Int)) (cont i t (dec (9 - i) (l.drop i))) := by
  induction d with
  | zero =>
    intro i t hd h9 hi ht
    have hi9 : i = 9 := by omega
    subst hi9
    refine Ev.step (f := fun _ => some (0, [], 2)) (fun k => ?_) (Ev.const rfl)
    simp only [code_TakeNum.l0]
    by_cases c : (9 : Nat) < l.length
    · rw [if_pos (by omega), if_pos (by omega), if_pos (by omega), if_pos (by omega), if_pos trivial]
    · rw [if_neg (by omega), if_pos trivial]
  | succ d ih =>
    intro i t hd h9 hi ht
    have hi8 : i ≤ 8 := by omega
    by_cases c : i < l.length
    · have hc := hl (l[i]) (List.getElem_mem _)
      have e9 : 9 - i = (9 - (i + 1)) + 1 := by omega
      rw [List.drop_eq_getElem_cons c, e9]
      have hrd := rd_nat l i c
      by_cases z : 0 < i ∧ l[i] = 0
      · rw [cont_last (by omega), if_pos ⟨z.1, by omega⟩]
        refine Ev.step (f := fun k => code_TakeNum.j1 k l (t : Int) 0 (i : Int) (rd l (i : Int)) l (l.length : Int) (i : Int) true) (fun k => ?_) (Ev.step (f := fun _ => some (0, [], 2)) (fun k => ?_) (Ev.const rfl))
        · simp only [code_TakeNum.l0]
          rw [if_pos (by omega), if_pos (by omega), if_pos (by omega), if_neg (by omega), if_pos (by rw [hrd]; exact z.2), decide_eq_true (by omega)]
        · simp only [code_TakeNum.j1]
          rw [if_pos trivial, if_pos trivial]
      · refine Ev.step (f := fun k => code_TakeNum.j1 k l (t : Int) 0 (i : Int) (rd l (i : Int)) l (l.length : Int) (i : Int) false) (fun k => ?_) ?_
        · simp only [code_TakeNum.l0]
          rw [if_pos (by omega), if_pos (by omega), if_pos (by omega), if_neg (by omega)]
          by_cases q : l[i] = 0
          · rw [if_pos (by rw [hrd]; exact q), decide_eq_false (by omega)]
          · rw [if_neg (by rw [hrd]; exact q)]
        · have hp := pow128_le hi8
          by_cases q : l[i] < 128
          · rw [cont_last q, if_neg (by omega)]
            have hm : 128 ^ i * (l[i]).toNat ≤ 72057594037927936 * 127 := Nat.mul_le_mul hp (by omega)
            by_cases big : t + 128 ^ i * (l[i]).toNat ≤ 4611686018427387903
            · rw [if_pos big]
              refine Ev.step (f := fun _ => some (((t + 128 ^ i * (l[i]).toNat : Nat) : Int), l.drop (i + 1), 0)) (fun k => ?_) (Ev.const rfl)
              simp only [code_TakeNum.j1]
              rw [if_neg (by simp), if_pos (wrap7 h9), hrd, if_pos q, wrap_succ (by omega), group_lo i t _ hi8 ht hc.1 q, if_neg (by omega), if_neg (by omega), if_pos (by omega), if_pos (by omega)]
              unfold slices_Clone_byte_byte.f
              rw [if_pos (by simp; omega), Option.bind_some, wrap_in (by omega) (by omega), Int.toNat_natCast]
            · rw [if_neg big]
              refine Ev.step (f := fun _ => some (0, [], 2)) (fun k => ?_) (Ev.const rfl)
              simp only [code_TakeNum.j1]
              rw [if_neg (by simp), if_pos (wrap7 h9), hrd, if_pos q, wrap_succ (by omega), group_lo i t _ hi8 ht hc.1 q, if_neg (by omega), if_pos (by omega)]
          · rw [cont_step q]
            have hlt : t + 128 ^ i * ((l[i]).toNat - 128) < 128 ^ (i + 1) := by
              have : 128 ^ i * ((l[i]).toNat - 128) ≤ 128 ^ i * 127 := Nat.mul_le_mul (Nat.le_refl _) (by omega)
              rw [Nat.pow_succ]
              omega
            have next := ih (i + 1) _ (by omega) (by omega) (by omega) hlt
            refine Ev.step (fun k => ?_) next
            simp only [code_TakeNum.j1]
            rw [if_neg (by simp), if_pos (wrap7 h9), hrd, if_neg q, wrap_succ (by omega), group_hi i t _ hi8 ht hc.1 hc.2 q]
    · rw [List.drop_eq_nil_of_le (by omega), show 9 - i = (9 - (i + 1)) + 1 by omega]
      refine Ev.step (f := fun _ => some (0, [], 2)) (fun k => ?_) (Ev.const rfl)
      simp only [code_TakeNum.l0]
      rw [if_neg (by omega), if_pos trivial]
theorem takeNum_f {l : List Int} (hl : Byts l) (hb : l.length < 140737488355328) : Ev (fun k => code_TakeNum.f k l) (tri (takeN l)) := by
  unfold code_TakeNum.f takeN
  have := takeNum_loop l hl hb 9 0 0 rfl (by omega) (by omega) (by omega)
  rw [cont_zero, List.drop_zero] at this
  exact this

/-! ### the document's -/
theorem grp_length_ge (k : Nat) : ∀ n : Nat, 128 ^ k ≤ n → k + 1 ≤ (grp n).length := by
  induction k with
  | zero => intro n _; exact grp_pos n
  | succ k ih =>
    intro n h
    have h1 : 128 ^ k * 128 ≤ n := by rw [Nat.pow_succ] at h; exact h
    have h2 : 0 < 128 ^ k := Nat.pow_pos (by omega)
    rw [grp_hi (by omega), List.length_cons]
    have := ih (n / 128) ((Nat.le_div_iff_mul_le (by omega)).2 h1)
    omega
theorem ref_digit {c : Int} (h0 : 0 ≤ c) (h1 : c < 256) : wrap64 (Int.tmod c 128) = ((c.toNat % 128 : Nat) : Int) := by
  rw [Int.tmod_eq_emod_of_nonneg h0, wrap_in (by omega) (by omega)]; omega
theorem ref_scale {i : Nat} (h : i ≤ 8) : wrap64 ((128 ^ i : Nat) : Int) = ((128 ^ i : Nat) : Int) := by
  have hp := pow128_le h
  generalize 128 ^ i = p at hp ⊢
  exact wrap_in (by omega) (by omega)
theorem ref_sum (i t d : Nat) (hi : i ≤ 8) (ht : t < 128 ^ i) (hd : d < 128) : wrap64 ((t : Int) + wrap64 ((d : Int) * ((128 ^ i : Nat) : Int))) = ((t + 128 ^ i * d : Nat) : Int) := by
  have hp := pow128_le hi
  have hm : 128 ^ i * d ≤ 72057594037927936 * 127 := Nat.mul_le_mul hp (by omega)
  have : (d : Int) * ((128 ^ i : Nat) : Int) = ((128 ^ i * d : Nat) : Int) := by rw [Int.mul_comm, ← Int.natCast_mul]
  rw [this]
  generalize 128 ^ i * d = q at hm ⊢
  generalize 128 ^ i = p at hp ht
  rw [wrap_in (n := (q : Int)) (by omega) (by omega), wrap_in (by omega) (by omega)]
  omega
theorem refTake_loop (l : List Int) (hl : Byts l) (hb : l.length < 140737488355328) (d : Nat) : ∀ (i t : Nat), 9 - i = d → i ≤ 9 → i ≤ l.length → t < 128 ^ i →
    Ev (fun k => sawyerref02_TakeNum.l0 k l (t : Int) (wrap64 ((128 ^ i : Nat) : Int)) (i : Int)) (cont i t (dec (9 - i) (l.drop i))) := by
  induction d with
  | zero =>
    intro i t hd h9 hi ht
    have hi9 : i = 9 := by omega
    subst hi9
    refine Ev.step (f := fun k => sawyerref02_TakeNum.j1 k l (t : Int) (wrap64 ((128 ^ 9 : Nat) : Int)) ((9 : Nat) : Int) false) (fun k => ?_) (Ev.step (f := fun _ => some (0, [], 2)) (fun k => ?_) (Ev.const rfl))
    · simp only [sawyerref02_TakeNum.l0]
      by_cases c : (9 : Nat) < l.length
      · rw [if_pos (by omega), decide_eq_false (by omega)]
      · rw [if_neg (by omega)]
    · simp only [sawyerref02_TakeNum.j1]
      rw [if_neg (by simp)]
  | succ d ih =>
    intro i t hd h9 hi ht
    have hi8 : i ≤ 8 := by omega
    have hp := pow128_le hi8
    have hp0 : 0 < 128 ^ i := Nat.pow_pos (by omega)
    by_cases c : i < l.length
    · have hc := hl (l[i]) (List.getElem_mem _)
      have e9 : 9 - i = (9 - (i + 1)) + 1 := by omega
      rw [List.drop_eq_getElem_cons c, e9]
      have hrd := rd_nat l i c
      refine Ev.step (f := fun k => sawyerref02_TakeNum.j1 k l (t : Int) (wrap64 ((128 ^ i : Nat) : Int)) (i : Int) true) (fun k => ?_) ?_
      · simp only [sawyerref02_TakeNum.l0]
        rw [if_pos (by omega), decide_eq_true (by omega)]
      · by_cases over : i = 8 ∧ 63 < (l[i]).toNat % 128
        · have e : cont i t (dec (9 - (i + 1) + 1) (l[i] :: l.drop (i + 1))) = (0, [], 2) := by
            obtain ⟨rfl, over⟩ := over
            by_cases q : l[8] < 128
            · rw [cont_last q, if_neg (by omega), if_neg (by
                have : 128 ^ 8 * 64 ≤ 128 ^ 8 * (l[8]).toNat := Nat.mul_le_mul (Nat.le_refl _) (by omega)
                omega)]
            · rw [cont_step q]; rfl
          rw [e]
          refine Ev.step (f := fun k => sawyerref02_TakeNum.j2 k l (t : Int) (wrap64 ((128 ^ i : Nat) : Int)) (i : Int) (((l[i]).toNat % 128 : Nat) : Int) true) (fun k => ?_) (Ev.step (f := fun _ => some (0, [], 2)) (fun k => ?_) (Ev.const rfl))
          · simp only [sawyerref02_TakeNum.j1]
            rw [if_pos trivial, if_pos (by omega), if_pos (by omega), if_pos (by omega), hrd, ref_digit hc.1 hc.2, decide_eq_true (by omega)]
          · simp only [sawyerref02_TakeNum.j2]
            rw [if_pos trivial]
        · refine Ev.step (f := fun k => sawyerref02_TakeNum.j2 k l (t : Int) (wrap64 ((128 ^ i : Nat) : Int)) (i : Int) (((l[i]).toNat % 128 : Nat) : Int) false) (fun k => ?_) ?_
          · simp only [sawyerref02_TakeNum.j1]
            rw [if_pos trivial, if_pos (by omega), if_pos (by omega), hrd, ref_digit hc.1 hc.2]
            by_cases q : (i : Int) = 8
            · rw [if_pos q, decide_eq_false (by omega)]
            · rw [if_neg q]
          · by_cases q : l[i] < 128
            · rw [cont_last q]
              rw [show (l[i]).toNat % 128 = (l[i]).toNat by omega] at over
              have hsmall : t + 128 ^ i * (l[i]).toNat ≤ 4611686018427387903 := by
                by_cases e8 : i = 8
                · subst e8
                  have : 128 ^ 8 * (l[8]).toNat ≤ 128 ^ 8 * 63 := Nat.mul_le_mul (Nat.le_refl _) (by omega)
                  omega
                · have h7 : (128 : Nat) ^ i ≤ 128 ^ 7 := Nat.pow_le_pow_right (by omega) (by omega)
                  have : 128 ^ i * (l[i]).toNat ≤ 128 ^ 7 * 127 := Nat.mul_le_mul h7 (by omega)
                  omega
              have hn : Ev (fun k => sawyerref02_PutNum.f k ([] : List Int) ((t + 128 ^ i * (l[i]).toNat : Nat) : Int)) (grp (t + 128 ^ i * (l[i]).toNat)) := by
                have := refNum_f [] ((t + 128 ^ i * (l[i]).toNat : Nat) : Int) (by simp)
                rw [cap_of hsmall, List.nil_append] at this
                exact this
              by_cases z : 0 < i ∧ (l[i]).toNat = 0
              · rw [if_pos z]
                have hlen : (grp (t + 128 ^ i * (l[i]).toNat)).length ≤ i := by
                  rw [z.2, Nat.mul_zero, Nat.add_zero]
                  obtain ⟨j, rfl⟩ : ∃ j, i = j + 1 := ⟨i - 1, by omega⟩
                  exact grp_length_le j t ht
                refine Ev.step (f := fun k => (sawyerref02_PutNum.f k ([] : List Int) ((t + 128 ^ i * (l[i]).toNat : Nat) : Int)).bind fun t390 => (if (t390.length : Int) = ((i + 1 : Nat) : Int) then some (((t + 128 ^ i * (l[i]).toNat : Nat) : Int), l.drop (i + 1), 0) else some (0, [], 2))) (fun k => ?_) ?_
                · simp only [sawyerref02_TakeNum.j2]
                  rw [if_neg (by simp), if_pos (by omega), if_pos (by omega), hrd, if_pos q, show (l[i]).toNat % 128 = (l[i]).toNat by omega, ref_scale hi8, ref_sum i t _ hi8 ht (by omega), wrap_succ (by omega)]
                  simp only [if_pos (show (0 : Int) ≤ ((i + 1 : Nat) : Int) by omega), if_pos (show ((i + 1 : Nat) : Int) ≤ (l.length : Int) by omega), Option.bind_some, Int.toNat_natCast, List.length_nil, Nat.zero_add, List.nil_append, if_pos (show (l.drop (i + 1)).length < 140737488355328 by simp; omega)]
                · refine Ev.bind hn ?_
                  exact Ev.neg (by omega) (Ev.const rfl)
              · rw [if_neg z, if_pos hsmall]
                have hlen : (grp (t + 128 ^ i * (l[i]).toNat)).length = i + 1 := by
                  have h1 : (grp (t + 128 ^ i * (l[i]).toNat)).length ≤ i + 1 := by
                    refine grp_length_le i _ ?_
                    have : 128 ^ i * (l[i]).toNat ≤ 128 ^ i * 127 := Nat.mul_le_mul (Nat.le_refl _) (by omega)
                    rw [Nat.pow_succ]
                    omega
                  have h2 : i + 1 ≤ (grp (t + 128 ^ i * (l[i]).toNat)).length := by
                    by_cases e0 : i = 0
                    · subst e0; exact grp_pos _
                    · refine grp_length_ge i _ ?_
                      have : 128 ^ i * 1 ≤ 128 ^ i * (l[i]).toNat := Nat.mul_le_mul (Nat.le_refl _) (by omega)
                      omega
                  omega
                refine Ev.step (f := fun k => (sawyerref02_PutNum.f k ([] : List Int) ((t + 128 ^ i * (l[i]).toNat : Nat) : Int)).bind fun t390 => (if (t390.length : Int) = ((i + 1 : Nat) : Int) then some (((t + 128 ^ i * (l[i]).toNat : Nat) : Int), l.drop (i + 1), 0) else some (0, [], 2))) (fun k => ?_) ?_
                · simp only [sawyerref02_TakeNum.j2]
                  rw [if_neg (by simp), if_pos (by omega), if_pos (by omega), hrd, if_pos q, show (l[i]).toNat % 128 = (l[i]).toNat by omega, ref_scale hi8, ref_sum i t _ hi8 ht (by omega), wrap_succ (by omega)]
                  simp only [if_pos (show (0 : Int) ≤ ((i + 1 : Nat) : Int) by omega), if_pos (show ((i + 1 : Nat) : Int) ≤ (l.length : Int) by omega), Option.bind_some, Int.toNat_natCast, List.length_nil, Nat.zero_add, List.nil_append, if_pos (show (l.drop (i + 1)).length < 140737488355328 by simp; omega)]
                · refine Ev.bind hn ?_
                  exact Ev.pos (by omega) (Ev.const rfl)
            · rw [cont_step q]
              have hlt : t + 128 ^ i * ((l[i]).toNat - 128) < 128 ^ (i + 1) := by
                have : 128 ^ i * ((l[i]).toNat - 128) ≤ 128 ^ i * 127 := Nat.mul_le_mul (Nat.le_refl _) (by omega)
                rw [Nat.pow_succ]
                omega
              have next := ih (i + 1) _ (by omega) (by omega) (by omega) hlt
              refine Ev.step (fun k => ?_) next
              clear hlt next
              simp only [sawyerref02_TakeNum.j2]
              rw [if_neg (by simp), if_pos (by omega), if_pos (by omega), hrd, if_neg q, show (l[i]).toNat % 128 = (l[i]).toNat - 128 by omega, ref_scale hi8, ref_sum i t _ hi8 ht (by omega), wrap_succ (by omega), Nat.pow_succ, Int.natCast_mul]
              rfl
    · rw [List.drop_eq_nil_of_le (by omega), show 9 - i = (9 - (i + 1)) + 1 by omega]
      refine Ev.step (f := fun k => sawyerref02_TakeNum.j1 k l (t : Int) (wrap64 ((128 ^ i : Nat) : Int)) (i : Int) false) (fun k => ?_) (Ev.step (f := fun _ => some (0, [], 2)) (fun k => ?_) (Ev.const rfl))
      · simp only [sawyerref02_TakeNum.l0]
        rw [if_neg (by omega)]
      · simp only [sawyerref02_TakeNum.j1]
        rw [if_neg (by simp)]
theorem refTake_f {l : List Int} (hl : Byts l) (hb : l.length < 140737488355328) : Ev (fun k => sawyerref02_TakeNum.f k l) (tri (takeN l)) := by
  unfold sawyerref02_TakeNum.f takeN
  have := refTake_loop l hl hb 9 0 0 rfl (by omega) (by omega) (by omega)
  rw [cont_zero, List.drop_zero, show wrap64 ((128 ^ 0 : Nat) : Int) = 1 from wrap_in (by decide) (by decide)] at this
  exact this
end Go.Proofs.Ytmkojpkajlpokaa.Sw

/- What the functions that lay and take texts compute. -/
set_option linter.unusedVariables false
set_option linter.unusedSimpArgs false
namespace Go.Proofs.Ytmkojpkajlpokaa.Sw
open Go.RowKit Go.Proofs.Ytmkojpkajlpokaa.Px Go.Proofs.YtmkojpkajlpokaaW.PrintWords Go.Proofs.YtmkojpkajlpokaaW.PrintLast Go.Proofs.YtmkojpkajlpokaaW.PrintMore

/-! ### texts -/
def takeTx (l : List Int) (a : Int) : Option (List Int × List Int) :=
  (takeN l).bind fun p => if (p.1 : Int) > a then none else if p.1 > p.2.length then none else some (p.2.take p.1, p.2.drop p.1)
def triT : Option (List Int × List Int) → ByteArray × List Int × Int
  | some (t, r) => (strOfNums t, r, 0)
  | none => (⟨#[]⟩, [], 2)
theorem takeText_f {l : List Int} (a : Int) (hl : Byts l) (hb : l.length < 140737488355328) : Ev (fun k => code_TakeText.f k l a) (triT (takeTx l a)) := by
  unfold code_TakeText.f
  refine Ev.bind (takeNum_f hl hb) ?_
  unfold takeTx
  cases takeN l with
  | none => exact Ev.const rfl
  | some p =>
    obtain ⟨n, r⟩ := p
    refine Ev.pos (show (tri (some (n, r))).2.2 = 0 from rfl) ?_
    rw [Option.bind_some]
    by_cases c1 : (n : Int) > a
    · rw [if_pos c1]
      exact Ev.pos c1 (Ev.const rfl)
    · rw [if_neg c1]
      refine Ev.neg c1 ?_
      by_cases c2 : n > r.length
      · rw [if_pos c2]
        exact Ev.pos (show (n : Int) > (r.length : Int) by omega) (Ev.const rfl)
      · rw [if_neg c2]
        exact Ev.neg (show ¬ (n : Int) > (r.length : Int) by omega) (Ev.pos (show (0 : Int) ≤ (n : Int) by omega) (Ev.pos (show (n : Int) ≤ (r.length : Int) by omega) (Ev.const rfl)))
theorem refTakeText_f {l : List Int} (a : Int) (hl : Byts l) (hb : l.length < 140737488355328) : Ev (fun k => sawyerref02_TakeText.f k l a) (triT (takeTx l a)) := by
  unfold sawyerref02_TakeText.f
  refine Ev.bind (refTake_f hl hb) ?_
  unfold takeTx
  cases takeN l with
  | none => exact Ev.const rfl
  | some p =>
    obtain ⟨n, r⟩ := p
    refine Ev.pos (show (tri (some (n, r))).2.2 = 0 from rfl) ?_
    rw [Option.bind_some]
    by_cases c1 : (n : Int) > a
    · rw [if_pos c1]
      exact Ev.pos c1 (Ev.const rfl)
    · rw [if_neg c1]
      refine Ev.neg c1 ?_
      by_cases c2 : n > r.length
      · rw [if_pos c2]
        exact Ev.pos (show (n : Int) > (r.length : Int) by omega) (Ev.const rfl)
      · rw [if_neg c2]
        exact Ev.neg (show ¬ (n : Int) > (r.length : Int) by omega) (Ev.pos (show (0 : Int) ≤ (n : Int) by omega) (Ev.pos (show (n : Int) ≤ (r.length : Int) by omega) (Ev.const rfl)))
theorem bytesOf_byts (s : ByteArray) : Byts (bytesOf s) := by
  intro x hx
  unfold bytesOf at hx
  obtain ⟨b, _, rfl⟩ := List.mem_map.1 hx
  have := b.toNat_lt
  omega
theorem putText_f (l : List Int) (s : ByteArray) (hb : l.length + s.size + 18 < 140737488355328) : Ev (fun k => code_PutText.f k l s) (l ++ grp s.size ++ bytesOf s) := by
  unfold code_PutText.f
  have h9 := grp9 (n := s.size) (by omega)
  have := putNum_f l (s.size : Int) (by omega)
  rw [cap_of (by omega)] at this
  refine Ev.bind this (Ev.const ?_)
  unfold code_laid_string.f slices_Clone_byte_byte.f
  rw [if_pos (by rw [List.length_append]; omega), Option.bind_some, if_pos (by rw [List.length_append]; omega), Option.bind_some]
theorem refPutText_f (l : List Int) (s : ByteArray) (hb : l.length + s.size + 18 < 140737488355328) : Ev (fun k => sawyerref02_PutText.f k l s) (l ++ grp s.size ++ bytesOf s) := by
  unfold sawyerref02_PutText.f
  have h9 := grp9 (n := s.size) (by omega)
  have := refNum_f l (s.size : Int) (by omega)
  rw [cap_of (by omega)] at this
  refine Ev.bind this (Ev.const ?_)
  rw [if_pos (by rw [List.length_append]; omega)]

end Go.Proofs.Ytmkojpkajlpokaa.Sw

/- The pure statement of CodeTexts: texts, taken and laid as the document says. Condition: the sizes' sum is at most 1048576. -/
set_option linter.unusedVariables false
set_option linter.unusedSimpArgs false
namespace Go.Proofs.Ytmkojpkajlpokaa.Pure
open Go.RowKit Go.Proofs.Ytmkojpkajlpokaa.Px Go.Proofs.Ytmkojpkajlpokaa.Sw Go.Proofs.YtmkojpkajlpokaaW.PrintWords Go.Proofs.YtmkojpkajlpokaaW.PrintLast
theorem takeTx_byts {l : List Int} {a : Int} (hl : Byts l) : Byts (triT (takeTx l a)).2.1 := by
  unfold takeTx
  cases h : takeN l with
  | none => exact Byts.nil
  | some p =>
    obtain ⟨n, r⟩ := p
    have := (takeN_back hl h).1
    rw [this] at hl
    have hr := hl.right
    rw [Option.bind_some]
    simp only
    split
    · exact Byts.nil
    · split
      · exact Byts.nil
      · exact hr.drop _
theorem CodeTexts (l : List Int) (s : ByteArray) (a : Int) (w0 : ∀ x ∈ l, (Lit.int .u8 x).wf = true) (wa : (Lit.int .i64 a).wf = true) (hs : l.length + s.size ≤ 1048576) : ∃ n, sawyerlaw02_CodeTexts.f n l s a = some true := by
  have hl := byts_of_wf w0
  refine Ev.rounds (r := true) ?_
  unfold sawyerlaw02_CodeTexts.f
  have hp : Byts (l ++ grp s.size ++ bytesOf s) := (hl.append (grp_byts _)).append (bytesOf_byts s)
  refine Ev.bind (takeText_f a hl (by omega)) ?_
  refine Ev.bind (refTakeText_f a hl (by omega)) ?_
  refine Ev.bind (putText_f l s (by omega)) ?_
  refine Ev.bind (refPutText_f l s (by omega)) ?_
  refine Ev.bindc (same_f hp hp) ?_
  refine Ev.pos (by simp) (Ev.pos rfl (Ev.pos rfl ?_))
  refine Ev.bindc (same_f (takeTx_byts hl) (takeTx_byts hl)) ?_
  exact Ev.const (by simp)
end Go.Proofs.Ytmkojpkajlpokaa.Pure
