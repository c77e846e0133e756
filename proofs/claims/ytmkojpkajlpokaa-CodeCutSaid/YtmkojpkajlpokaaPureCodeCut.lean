/- What the statement CodeCut needs: our texts Core, SpecA, SpecB, SpecU, SpecTake, SpecCrc, SpecFix, SpecCat, SpecFrame, PureCodeCut as one. -/
import Derived.Test.YtmkojpkajlpokaaPx53
import Derived.Test.YtmkojpkajlpokaaPx58
import Derived.Test.YtmkojpkajlpokaaPx4
import Derived.Test.YtmkojpkajlpokaaPx7
import Derived.Test.YtmkojpkajlpokaaPx8
import Derived.Test.YtmkojpkajlpokaaPx30
import Derived.Test.YtmkojpkajlpokaaPx54
import Derived.Test.YtmkojpkajlpokaaPx55
import Derived.Test.YtmkojpkajlpokaaPx56
import Derived.Test.YtmkojpkajlpokaaPx14
import Derived.Test.YtmkojpkajlpokaaPx28
import Derived.Test.YtmkojpkajlpokaaPx29
import Derived.Test.YtmkojpkajlpokaaPx12
import Derived.Test.YtmkojpkajlpokaaPx15
import Derived.Test.YtmkojpkajlpokaaPx9
import Derived.Test.YtmkojpkajlpokaaPx10
import Derived.Test.YtmkojpkajlpokaaPx13
import Derived.Test.YtmkojpkajlpokaaWMore
import Derived.Lib.Bytealg
import Derived.Lib.Bytes
import Derived.Test.YtmkojpkajlpokaaPx5
import Derived.Test.YtmkojpkajlpokaaPx31
import Derived.Test.YtmkojpkajlpokaaPx32
import Derived.Test.YtmkojpkajlpokaaPx0
import Derived.Test.YtmkojpkajlpokaaPx46
import Derived.Test.YtmkojpkajlpokaaPx47
/- Plain lemmas on rows of bytes: their order, when two are the same, which begins which. No program in sight. -/
set_option linter.unusedVariables false
set_option linter.unusedSimpArgs false
namespace Go.Proofs.Ytmkojpkajlpokaa.Sw
open Go.RowKit Go.Proofs.YtmkojpkajlpokaaW.PrintWords Go.Proofs.YtmkojpkajlpokaaW.PrintMore

/-- All numbers of a row are bytes. -/
def Byts (l : List Int) : Prop := ∀ x ∈ l, 0 ≤ x ∧ x < 256
theorem Byts.nil : Byts [] := fun x hx => by cases hx
theorem Byts.cons {a : Int} {l : List Int} (h0 : 0 ≤ a) (h1 : a < 256) (h : Byts l) : Byts (a :: l) := by
  intro x hx
  rcases List.mem_cons.1 hx with rfl | hx
  · exact ⟨h0, h1⟩
  · exact h x hx
theorem Byts.head {a : Int} {l : List Int} (h : Byts (a :: l)) : 0 ≤ a ∧ a < 256 := h a List.mem_cons_self
theorem Byts.tail {a : Int} {l : List Int} (h : Byts (a :: l)) : Byts l := fun x hx => h x (List.mem_cons_of_mem _ hx)
theorem Byts.append {a b : List Int} (ha : Byts a) (hb : Byts b) : Byts (a ++ b) := by
  intro x hx
  rcases List.mem_append.1 hx with hx | hx
  · exact ha x hx
  · exact hb x hx
theorem Byts.left {a b : List Int} (h : Byts (a ++ b)) : Byts a := fun x hx => h x (List.mem_append_left _ hx)
theorem Byts.right {a b : List Int} (h : Byts (a ++ b)) : Byts b := fun x hx => h x (List.mem_append_right _ hx)
theorem Byts.take {a : List Int} (h : Byts a) (n : Nat) : Byts (a.take n) := fun x hx => h x (List.mem_of_mem_take hx)
theorem Byts.drop {a : List Int} (h : Byts a) (n : Nat) : Byts (a.drop n) := fun x hx => h x (List.mem_of_mem_drop hx)
theorem Byts.one {a : Int} (h0 : 0 ≤ a) (h1 : a < 256) : Byts [a] := Byts.cons h0 h1 Byts.nil
theorem byts_of_wf {l : List Int} (h : ∀ x ∈ l, (Lit.int .u8 x).wf = true) : Byts l := by
  intro x hx
  have := h x hx
  simp only [Lit.wf, IntKind.min, IntKind.max, IntKind.signed, IntKind.bits, Bool.and_eq_true, decide_eq_true_eq] at this
  simp at this
  omega
theorem Byts.set {l : List Int} (h : Byts l) (i : Nat) {v : Int} (h0 : 0 ≤ v) (h1 : v < 256) : Byts (l.set i v) := by
  intro x hx
  rcases List.mem_or_eq_of_mem_set hx with hx | rfl
  · exact h x hx
  · exact ⟨h0, h1⟩
theorem i64_of_wf {x : Int} (h : (Lit.int .i64 x).wf = true) : -9223372036854775808 ≤ x ∧ x ≤ 9223372036854775807 := by
  simp only [Lit.wf, IntKind.min, IntKind.max, IntKind.signed, IntKind.bits, Bool.and_eq_true, decide_eq_true_eq] at h
  simp at h
  omega
theorem u8_of_wf {x : Int} (h : (Lit.int .u8 x).wf = true) : 0 ≤ x ∧ x < 256 := by
  simp only [Lit.wf, IntKind.min, IntKind.max, IntKind.signed, IntKind.bits, Bool.and_eq_true, decide_eq_true_eq] at h
  simp at h
  omega
theorem rd_range {l : List Int} (h : Byts l) (i : Int) : 0 ≤ rd l i ∧ rd l i < 256 := by
  unfold rd
  rw [List.getD_eq_getElem?_getD]
  cases hx : l[i.toNat]? with
  | none => simp
  | some x => exact h x (List.mem_of_getElem? hx)

/-- The order of rows of bytes: by the first in which they differ; one that has ended is less. -/
def less : List Int → List Int → Bool
  | _, [] => false
  | [], _ :: _ => true
  | a :: x, b :: y => if a < b then true else if b < a then false else less x y
theorem u8_lt {a b : Int} (ha : 0 ≤ a ∧ a < 256) (hb : 0 ≤ b ∧ b < 256) : (UInt8.ofNat a.toNat < UInt8.ofNat b.toNat) ↔ a < b := by
  rw [UInt8.lt_iff_toNat_lt]
  simp only [UInt8.toNat_ofNat']
  omega
theorem u8_eq {a b : Int} (ha : 0 ≤ a ∧ a < 256) (hb : 0 ≤ b ∧ b < 256) : (UInt8.ofNat a.toNat = UInt8.ofNat b.toNat) ↔ a = b := by
  rw [← UInt8.toNat_inj]
  simp only [UInt8.toNat_ofNat']
  omega
theorem bytesOf_cons (a : Int) (l : List Int) : Lib.bytesOf (a :: l) = UInt8.ofNat a.toNat :: Lib.bytesOf l := rfl
theorem compare_less : ∀ {a b : List Int}, Byts a → Byts b → decide (Lib.compareBytes (Lib.bytesOf a) (Lib.bytesOf b) < 0) = less a b
  | [], [], _, _ => by simp [Lib.bytesOf, Lib.compareBytes, less]
  | [], _ :: _, _, _ => by simp [Lib.bytesOf, Lib.compareBytes, less]
  | _ :: _, [], _, _ => by simp [Lib.bytesOf, Lib.compareBytes, less]
  | a :: x, b :: y, ha, hb => by
    have ih := compare_less ha.tail hb.tail
    have h1 := u8_lt ha.head hb.head
    have h2 := u8_lt hb.head ha.head
    rw [bytesOf_cons, bytesOf_cons]
    unfold Lib.compareBytes less
    by_cases c : a < b
    · rw [if_pos (h1.2 c), if_pos c]; rfl
    · rw [if_neg (fun h => c (h1.1 h)), if_neg c]
      by_cases c2 : b < a
      · rw [if_pos (h2.2 c2), if_pos c2]; rfl
      · rw [if_neg (fun h => c2 (h2.1 h)), if_neg c2]; exact ih
theorem bytesLess_less : ∀ {a b : List Int}, Byts a → Byts b → Op.bytesLess (Lib.bytesOf a) (Lib.bytesOf b) = less a b
  | [], [], _, _ => by simp [Lib.bytesOf, Op.bytesLess, less]
  | [], _ :: _, _, _ => by simp [Lib.bytesOf, Op.bytesLess, less]
  | _ :: _, [], _, _ => by simp [Lib.bytesOf, Op.bytesLess, less]
  | a :: x, b :: y, ha, hb => by
    have ih := bytesLess_less ha.tail hb.tail
    have h1 := u8_lt ha.head hb.head
    have h3 := u8_eq ha.head hb.head
    rw [bytesOf_cons, bytesOf_cons]
    unfold Op.bytesLess less
    by_cases c : a < b
    · rw [if_pos c, decide_eq_true (h1.2 c)]; rfl
    · rw [if_neg c, decide_eq_false (fun h => c (h1.1 h)), Bool.false_or]
      by_cases c2 : b < a
      · rw [if_pos c2, beq_eq_false_iff_ne.2 (fun h => by have := h3.1 h; omega)]; rfl
      · rw [if_neg c2, beq_iff_eq.2 (h3.2 (by omega)), Bool.true_and]; exact ih
theorem bytesOf_inj : ∀ {a b : List Int}, Byts a → Byts b → (Lib.bytesOf a = Lib.bytesOf b ↔ a = b)
  | [], [], _, _ => by simp
  | [], _ :: _, _, _ => by simp [Lib.bytesOf]
  | _ :: _, [], _, _ => by simp [Lib.bytesOf]
  | a :: x, b :: y, ha, hb => by
    have ih := bytesOf_inj ha.tail hb.tail
    have h3 := u8_eq ha.head hb.head
    rw [bytesOf_cons, bytesOf_cons, List.cons.injEq, List.cons.injEq, h3, ih]
/-- Two rows as texts are the same just if they are the same. -/
theorem str_eq {a b : List Int} (ha : Byts a) (hb : Byts b) : ((strOfNums a).toList == (strOfNums b).toList) = decide (a = b) := by
  rw [Lib.strOfNums_toList, Lib.strOfNums_toList]
  by_cases c : a = b
  · subst c; simp
  · rw [decide_eq_false c, beq_eq_false_iff_ne]
    exact fun h => c ((bytesOf_inj ha hb).1 h)
theorem str_less {a b : List Int} (ha : Byts a) (hb : Byts b) : Op.bytesLess (strOfNums a).toList (strOfNums b).toList = less a b := by
  rw [Lib.strOfNums_toList, Lib.strOfNums_toList]
  exact bytesLess_less ha hb

theorem less_nil (a : List Int) : less a [] = false := by cases a <;> rfl
theorem less_irrefl : ∀ a : List Int, less a a = false
  | [] => rfl
  | a :: x => by
    unfold less
    rw [if_neg (by omega), if_neg (by omega)]
    exact less_irrefl x
theorem less_cons (a b : Int) (x y : List Int) : less (a :: x) (b :: y) = true ↔ a < b ∨ a = b ∧ less x y = true := by
  conv => lhs; unfold less
  by_cases c : a < b
  · simp [c]
  · rw [if_neg c]
    by_cases c2 : b < a
    · rw [if_pos c2]
      simp
      omega
    · rw [if_neg c2]
      have : a = b := by omega
      simp [this]
theorem less_trans : ∀ {a b c : List Int}, less a b = true → less b c = true → less a c = true
  | _, [], _, h, _ => by rw [less_nil] at h; cases h
  | _, _ :: _, [], _, h => by rw [less_nil] at h; cases h
  | [], _ :: _, _ :: _, _, _ => rfl
  | a :: x, b :: y, c :: z, h, k => by
    rw [less_cons] at h k ⊢
    rcases h with h | ⟨h, h'⟩ <;> rcases k with k | ⟨k, k'⟩
    · exact .inl (by omega)
    · exact .inl (by omega)
    · exact .inl (by omega)
    · exact .inr ⟨by omega, less_trans h' k'⟩
theorem less_asymm {a b : List Int} (h : less a b = true) : less b a = false := by
  cases c : less b a with
  | false => rfl
  | true => have := less_trans h c; rw [less_irrefl] at this; cases this
theorem less_total : ∀ {a b : List Int}, a ≠ b → less a b = true ∨ less b a = true
  | [], [], h => absurd rfl h
  | [], _ :: _, _ => .inl rfl
  | _ :: _, [], _ => .inr rfl
  | a :: x, b :: y, h => by
    rw [less_cons, less_cons]
    by_cases c : a = b
    · subst c
      rcases less_total (a := x) (b := y) (fun h' => h (by rw [h'])) with k | k
      · exact .inl (.inr ⟨rfl, k⟩)
      · exact .inr (.inr ⟨rfl, k⟩)
    · by_cases c2 : a < b
      · exact .inl (.inl c2)
      · exact .inr (.inl (by omega))
theorem less_append : ∀ (a : List Int) (x : Int) (y : List Int), less a (a ++ x :: y) = true
  | [], _, _ => rfl
  | a :: l, x, y => by
    rw [List.cons_append, less_cons]
    exact .inr ⟨rfl, less_append l x y⟩
/-- A row is not less than what it begins with. -/
theorem less_prefix : ∀ (p l : List Int), less (p ++ l) p = false
  | [], l => less_nil _
  | a :: p, l => by
    cases c : less (a :: p ++ l) (a :: p) with
    | false => rfl
    | true =>
      rw [List.cons_append, less_cons] at c
      rcases c with c | ⟨_, c⟩
      · omega
      · rw [less_prefix p l] at c; cases c
theorem less_append_left : ∀ (p a b : List Int), less (p ++ a) (p ++ b) = less a b
  | [], _, _ => rfl
  | x :: p, a, b => by
    have ih := less_append_left p a b
    rw [List.cons_append, List.cons_append, Bool.eq_iff_iff, less_cons, ← Bool.eq_iff_iff.1 ih]
    constructor
    · rintro (h | ⟨_, h⟩)
      · omega
      · exact h
    · exact fun h => .inr ⟨rfl, h⟩

theorem mx0 (n : Int) : mx n 0 = max n 0 := by unfold mx; split <;> omega
theorem wrap_in {n : Int} (h0 : -9223372036854775808 ≤ n) (h1 : n ≤ 9223372036854775807) : wrap64 n = n := by unfold wrap64; omega
theorem rd_nat (l : List Int) (i : Nat) (h : i < l.length) : rd l (i : Int) = l[i] := by
  unfold rd
  rw [Int.toNat_natCast, List.getD_eq_getElem?_getD, List.getElem?_eq_getElem h]
  rfl
end Go.Proofs.Ytmkojpkajlpokaa.Sw

/- What the functions that lay numbers compute: a number in eight bytes, in groups of seven bits, a text behind a number. -/
set_option linter.unusedVariables false
set_option linter.unusedSimpArgs false
namespace Go.Proofs.Ytmkojpkajlpokaa.Sw
open Go.RowKit Go.Proofs.Ytmkojpkajlpokaa.Px Go.Proofs.YtmkojpkajlpokaaW.PrintWords Go.Proofs.YtmkojpkajlpokaaW.PrintLast Go.Proofs.YtmkojpkajlpokaaW.PrintMore

theorem Ev.none_if {α : Type} {g : Nat → Option α} {c : Prop} [Decidable c] {r : α} (hc : c) (h : Ev g r) : Ev (fun k => if c then g k else none) r := by
  simp only [if_pos hc]; exact h
theorem Ev.pos {α : Type} {g f : Nat → Option α} {c : Prop} [Decidable c] {r : α} (hc : c) (h : Ev g r) : Ev (fun k => if c then g k else f k) r := by
  simp only [if_pos hc]; exact h
theorem Ev.neg {α : Type} {g f : Nat → Option α} {c : Prop} [Decidable c] {r : α} (hc : ¬ c) (h : Ev f r) : Ev (fun k => if c then g k else f k) r := by
  simp only [if_neg hc]; exact h
theorem Ev.bindc {α β : Type} {o : Option α} {f : Nat → α → Option β} {a : α} {r : β} (h : o = some a) (k : Ev (fun n => f n a) r) : Ev (fun n => o.bind (f n)) r := by
  subst h; exact k
theorem Ev.const {α : Type} {o : Option α} {r : α} (h : o = some r) : Ev (fun _ => o) r := ⟨0, fun _ _ => h⟩

/-! ### n bytes of a number, the highest first -/
def be : Nat → Int → List Int
  | 0, _ => []
  | n + 1, x => be n (x / 256) ++ [x % 256]
theorem be_length : ∀ (n : Nat) (x : Int), (be n x).length = n
  | 0, _ => rfl
  | n + 1, x => by rw [be, List.length_append, be_length n]; rfl
theorem be_byts : ∀ (n : Nat) (x : Int), Byts (be n x)
  | 0, _ => Byts.nil
  | n + 1, x => by
    rw [be]
    exact (be_byts n _).append (Byts.one (by omega) (by omega))
/-- What some bytes say, the highest first. -/
def val : List Int → Int → Int
  | [], a => a
  | c :: l, a => val l (a * 256 + c)
theorem val_append : ∀ (x y : List Int) (a : Int), val (x ++ y) a = val y (val x a)
  | [], _, _ => rfl
  | c :: l, y, a => by rw [List.cons_append, val, val, val_append l]
theorem val_be : ∀ (n : Nat) (x a : Int), 0 ≤ x → x < 256 ^ n → val (be n x) a = a * 256 ^ n + x
  | 0, x, a, h0, h1 => by
    simp at h1
    have : x = 0 := by omega
    subst this
    simp [be, val]
  | n + 1, x, a, h0, h1 => by
    have h2 : (256 : Int) ^ (n + 1) = 256 ^ n * 256 := Int.pow_succ _ _
    rw [be, val_append, val_be n (x / 256) a (by omega) (by rw [h2] at h1; omega)]
    simp only [val]
    rw [h2, ← Int.mul_assoc, Int.add_mul]
    omega
theorem rev_ind {P : List Int → Prop} (h0 : P []) (h1 : ∀ l c, P l → P (l ++ [c])) (l : List Int) : P l := by
  have h : ∀ r : List Int, P r.reverse := by
    intro r
    induction r with
    | nil => exact h0
    | cons c r ih => rw [List.reverse_cons]; exact h1 _ _ ih
  have := h l.reverse
  rwa [List.reverse_reverse] at this
theorem be_val : ∀ (l : List Int), Byts l → ∀ a, be l.length (val l a) = l ∧ val l a = a * 256 ^ l.length + val l 0 := by
  refine rev_ind ?_ ?_
  · intro _ a; simp [be, val]
  · intro l c ih h a
    have hc := h.right.head
    obtain ⟨h1, h2⟩ := ih h.left a
    obtain ⟨h3, h4⟩ := ih h.left 0
    rw [val_append, val_append, List.length_append]
    simp only [val, List.length_cons, List.length_nil, Nat.zero_add, be]
    refine ⟨?_, ?_⟩
    · rw [show (val l a * 256 + c) / 256 = val l a by omega, show (val l a * 256 + c) % 256 = c by omega, h1]
    · rw [h2, Int.pow_succ, ← Int.mul_assoc, Int.add_mul]
      omega
theorem val_nonneg : ∀ (l : List Int), Byts l → ∀ a, 0 ≤ a → 0 ≤ val l a
  | [], _, _, h => h
  | c :: l, h, a, h0 => val_nonneg l h.tail _ (by have := h.head; omega)
theorem val_lt : ∀ (l : List Int), Byts l → val l 0 < 256 ^ l.length := by
  refine rev_ind ?_ ?_
  · intro _; simp [val]
  · intro l c ih h
    have hc := h.right.head
    have := ih h.left
    rw [val_append, List.length_append]
    simp only [val, List.length_cons, List.length_nil, Nat.zero_add, Int.pow_succ]
    omega
theorem set_replicate (m : Nat) (v : Int) (t : List Int) : (List.replicate (m + 1) 0 ++ t).set m v = List.replicate m 0 ++ v :: t := by
  rw [List.replicate_succ', List.append_assoc, List.set_append_right _ _ (by simp)]
  simp
theorem high_loop (m : Nat) : ∀ (x : Int) (t : List Int), m ≤ 1000000 → Ev (fun k => code_high.l0 k x (List.replicate m 0 ++ t) ((m : Int) - 1)) (be m x ++ t) := by
  induction m with
  | zero =>
    intro x t _
    refine Ev.step (f := fun _ => some t) (fun k => ?_) (Ev.now _)
    simp only [code_high.l0]
    rw [if_neg (by omega)]
    rfl
  | succ m ih =>
    intro x t hm
    refine Ev.step (f := fun k => code_high.l0 k (x / 256) (List.replicate m 0 ++ (x % 256) :: t) ((m : Int) - 1)) (fun k => ?_) ?_
    · simp only [code_high.l0]
      rw [if_pos (by omega), if_pos (by omega), if_pos (by simp; omega)]
      rw [show (((m + 1 : Nat) : Int) - 1).toNat = m by omega, set_replicate, wrap_in (by omega) (by omega)]
      congr 1
      omega
    · have := ih (x / 256) ((x % 256) :: t) (by omega)
      rw [be, List.append_assoc]
      exact this
theorem high_f (n : Nat) (x : Int) (hn : n ≤ 1000000) : Ev (fun k => code_high.f k x (n : Int)) (be n x) := by
  unfold code_high.f
  refine Ev.pos (by omega) (Ev.pos (by omega) ?_)
  have := high_loop n x [] hn
  rw [List.append_nil] at this
  rw [Int.toNat_natCast, wrap_in (by omega) (by omega)]
  simpa using this
theorem laid_f {a b : List Int} (h : a.length + b.length < 140737488355328) : code_laid_byte.f a b = some (a ++ b) := by
  unfold code_laid_byte.f slices_Clone_byte_byte.f
  rw [if_pos (by omega), Option.bind_some, if_pos h]
theorem putFix_f (l : List Int) (n : Int) (h0 : -9223372036854775808 ≤ n) (h1 : n ≤ 9223372036854775807) (hl : l.length + 8 < 140737488355328) :
    Ev (fun k => code_PutFix.f k l n) (l ++ be 8 (max n 0)) := by
  unfold code_PutFix.f
  rw [mx0, show IntKind.u64.wrap (max n 0) = max n 0 by simp [IntKind.wrap, IntKind.bits, IntKind.signed]; omega]
  refine Ev.bind (high_f 8 _ (by omega)) ?_
  refine Ev.bindc (laid_f (by rw [be_length]; exact hl)) (Ev.now _)

/-! ### groups of seven bits, the lowest first -/
def grp (n : Nat) : List Int := if n < 128 then [(n : Int)] else ((n % 128 + 128 : Nat) : Int) :: grp (n / 128)
termination_by n
theorem grp_lo {n : Nat} (h : n < 128) : grp n = [(n : Int)] := by rw [grp, if_pos h]
theorem grp_hi {n : Nat} (h : ¬ n < 128) : grp n = ((n % 128 + 128 : Nat) : Int) :: grp (n / 128) := by rw [grp, if_neg h]
theorem grp_byts (n : Nat) : Byts (grp n) := by
  induction n using Nat.strongRecOn with
  | ind n ih =>
    by_cases h : n < 128
    · rw [grp_lo h]; exact Byts.one (by omega) (by omega)
    · rw [grp_hi h]; exact Byts.cons (by omega) (by omega) (ih _ (by omega))
theorem grp_length_le (k : Nat) : ∀ n : Nat, n < 128 ^ (k + 1) → (grp n).length ≤ k + 1 := by
  induction k with
  | zero => intro n h; rw [grp_lo (by simpa using h)]; simp
  | succ k ih =>
    intro n h
    by_cases c : n < 128
    · rw [grp_lo c]; simp
    · rw [grp_hi c, List.length_cons]
      have := ih (n / 128) (by rw [Nat.pow_succ] at h; exact Nat.div_lt_of_lt_mul (by rw [Nat.mul_comm]; exact h))
      omega
theorem grp_pos (n : Nat) : 0 < (grp n).length := by
  rw [grp]; split <;> simp
theorem grp9 {n : Nat} (h : n ≤ 4611686018427387903) : (grp n).length ≤ 9 := grp_length_le 8 n (by omega)
theorem or128 (y : Int) (h0 : 0 ≤ y) (h1 : y < 256) : Go.bits .or .u8 y 128 = y % 128 + 128 := by
  have h : ∀ n : Fin 256, Go.bits .or .u8 (n.val : Int) 128 = (n.val : Int) % 128 + 128 := by decide +kernel
  have := h ⟨y.toNat, by omega⟩
  simpa [Int.toNat_of_nonneg h0] using this
theorem putNum_loop (n : Nat) : ∀ (l acc : List Int), n ≤ 4611686018427387903 → l.length + 18 < 140737488355328 → acc.length + (grp n).length ≤ 9 →
    Ev (fun k => code_PutNum.l0 k l (n : Int) acc) (l ++ (acc ++ grp n)) := by
  induction n using Nat.strongRecOn with
  | ind n ih =>
    intro l acc hn hl ha
    by_cases h : n < 128
    · refine Ev.step (f := fun _ => some (l ++ (acc ++ grp n))) (fun k => ?_) (Ev.now _)
      simp only [code_PutNum.l0]
      rw [if_neg (by omega), if_pos (by omega), show ((n : Int) % 256) = n by omega, laid_f (by simp; omega), Option.bind_some, grp_lo h]
    · rw [grp_hi h] at ha ⊢
      rw [List.length_cons] at ha
      have := ih (n / 128) (by omega) l (acc ++ [((n % 128 + 128 : Nat) : Int)]) (by omega) hl (by simp; omega)
      refine Ev.step (fun k => ?_) (show Ev (fun k => code_PutNum.l0 k l ((n / 128 : Nat) : Int) (acc ++ [((n % 128 + 128 : Nat) : Int)])) _ from ?_)
      · simp only [code_PutNum.l0]
        rw [if_pos (by omega), if_pos (by have := grp_pos (n / 128); omega), or128 _ (by omega) (by omega), show (n : Int) / 128 = ((n / 128 : Nat) : Int) by omega, show (n : Int) % 256 % 128 + 128 = ((n % 128 + 128 : Nat) : Int) by omega]
      · rw [List.append_assoc] at this
        exact this
/-- A number as its groups' number: below 0 it counts as 0, above 2^62 - 1 as that. -/
def cap (n : Int) : Nat := (min (max n 0) 4611686018427387903).toNat
theorem cap_le (n : Int) : cap n ≤ 4611686018427387903 := by unfold cap; omega
theorem cap_of {n : Nat} (h : n ≤ 4611686018427387903) : cap (n : Int) = n := by unfold cap; omega
theorem mn_cap (n : Int) : mn (mx n 0) 4611686018427387903 = (cap n : Int) := by
  unfold mn mx cap
  split <;> split <;> omega
theorem putNum_f (l : List Int) (n : Int) (hl : l.length + 18 < 140737488355328) : Ev (fun k => code_PutNum.f k l n) (l ++ grp (cap n)) := by
  unfold code_PutNum.f
  rw [mn_cap]
  have := putNum_loop (cap n) l [] (cap_le n) hl (by simpa using grp9 (cap_le n))
  simpa using this
end Go.Proofs.Ytmkojpkajlpokaa.Sw

/- What the document's functions that lay numbers compute, and the order of fixed numbers. -/
set_option linter.unusedVariables false
set_option linter.unusedSimpArgs false
namespace Go.Proofs.Ytmkojpkajlpokaa.Sw
open Go.RowKit Go.Proofs.Ytmkojpkajlpokaa.Px Go.Proofs.YtmkojpkajlpokaaW.PrintWords Go.Proofs.YtmkojpkajlpokaaW.PrintLast Go.Proofs.YtmkojpkajlpokaaW.PrintMore

theorem pow256_pos (n : Nat) : (0 : Int) < 256 ^ n := Int.pow_pos (by omega)
/-- Rows of one length go as what they say. -/
theorem less_val : ∀ (l m : List Int) (a : Int), Byts l → Byts m → l.length = m.length → (less l m = true ↔ val l a < val m a)
  | [], [], a, _, _, _ => by simp [less, val]
  | [], _ :: _, _, _, _, h => by simp at h
  | _ :: _, [], _, _, _, h => by simp at h
  | c :: l, d :: m, a, hl, hm, h => by
    have hc := hl.head
    have hd := hm.head
    have hlen : l.length = m.length := by simpa using h
    have h1 := (be_val l hl.tail (a * 256 + c)).2
    have h2 := (be_val m hm.tail (a * 256 + d)).2
    have b1 := val_lt l hl.tail
    have b2 := val_lt m hm.tail
    have n1 := val_nonneg l hl.tail 0 (by omega)
    have n2 := val_nonneg m hm.tail 0 (by omega)
    have hp := pow256_pos m.length
    rw [less_cons]
    simp only [val]
    rw [hlen] at h1 b1
    constructor
    · rintro (k | ⟨k, k'⟩)
      · have h3 : (a * 256 + c + 1) * 256 ^ m.length ≤ (a * 256 + d) * 256 ^ m.length := Int.mul_le_mul_of_nonneg_right (by omega) (by omega)
        rw [Int.add_mul, Int.one_mul] at h3
        omega
      · subst k
        exact (less_val l m _ hl.tail hm.tail hlen).1 k'
    · intro k
      by_cases e : c = d
      · subst e
        exact .inr ⟨rfl, (less_val l m _ hl.tail hm.tail hlen).2 k⟩
      · by_cases e2 : c < d
        · exact .inl e2
        · have h3 : (a * 256 + d + 1) * 256 ^ m.length ≤ (a * 256 + c) * 256 ^ m.length := Int.mul_le_mul_of_nonneg_right (by omega) (by omega)
          rw [Int.add_mul, Int.one_mul] at h3
          omega
theorem less_be (n : Nat) {x y : Int} (hx0 : 0 ≤ x) (hx : x < 256 ^ n) (hy0 : 0 ≤ y) (hy : y < 256 ^ n) : less (be n x) (be n y) = decide (x < y) := by
  rw [Bool.eq_iff_iff, less_val _ _ 0 (be_byts _ _) (be_byts _ _) (by rw [be_length, be_length]), val_be n x 0 hx0 hx, val_be n y 0 hy0 hy]
  simp
theorem be_inj (n : Nat) {x y : Int} (hx0 : 0 ≤ x) (hx : x < 256 ^ n) (hy0 : 0 ≤ y) (hy : y < 256 ^ n) (h : be n x = be n y) : x = y := by
  have h1 := val_be n x 0 hx0 hx
  have h2 := val_be n y 0 hy0 hy
  rw [h] at h1
  omega

/-! ### the document's -/
theorem be_shift : ∀ (m : Nat) (x : Int), be (m + 1) x = (x / 256 ^ m) % 256 :: be m x
  | 0, x => by simp [be]
  | m + 1, x => by
    rw [be, be_shift m, be, List.cons_append]
    congr 1
    rw [Int.ediv_ediv_of_nonneg (by omega), Int.pow_succ, Int.mul_comm]
theorem shr_pow (x : Int) (m : Nat) (hm : m < 8) : shr .i64 x (wrap64 (8 * (m : Int))) = x / 256 ^ m := by
  rw [wrap_in (by omega) (by omega)]
  unfold shr
  rw [show (8 * (m : Int)).toNat = 8 * m by omega, Nat.min_eq_left (by simp [IntKind.bits]; omega)]
  congr 1
  rw [Int.pow_mul]
  rfl
theorem refFix_loop (m : Nat) : ∀ (x : Int) (acc : List Int), m ≤ 8 → acc.length + m < 140737488355328 →
    Ev (fun k => sawyerref02_PutFix.l0 k x acc ((m : Int) - 1)) (acc ++ be m x) := by
  induction m with
  | zero =>
    intro x acc _ _
    refine Ev.step (f := fun _ => some acc) (fun k => ?_) ?_
    · simp only [sawyerref02_PutFix.l0]
      rw [if_neg (by omega)]
    · rw [be, List.append_nil]; exact Ev.now _
  | succ m ih =>
    intro x acc hm hl
    have := ih x (acc ++ [(x / 256 ^ m) % 256]) (by omega) (by simp; omega)
    refine Ev.step (fun k => ?_) (show Ev (fun k => sawyerref02_PutFix.l0 k x (acc ++ [(x / 256 ^ m) % 256]) ((m : Int) - 1)) _ from ?_)
    · simp only [sawyerref02_PutFix.l0]
      rw [show ((m + 1 : Nat) : Int) - 1 = (m : Int) by omega, if_pos (by omega), if_pos (by rw [wrap_in (by omega) (by omega)]; omega), if_pos (by omega), shr_pow x m (by omega), wrap_in (n := (m : Int) - 1) (by omega) (by omega)]
    · rw [be_shift]
      rw [List.append_assoc] at this
      exact this
theorem refFix_f (l : List Int) (n : Int) (hl : l.length + 8 < 140737488355328) : Ev (fun k => sawyerref02_PutFix.f k l n) (l ++ be 8 (max n 0)) := by
  unfold sawyerref02_PutFix.f
  refine Ev.pos (by simp; omega) ?_
  rw [mx0]
  have := refFix_loop 8 (max n 0) ([] ++ l) (by omega) (by simpa using hl)
  simpa using this
theorem refNum_loop (n : Nat) : ∀ (acc : List Int), n ≤ 4611686018427387903 → acc.length + (grp n).length < 140737488355328 →
    Ev (fun k => sawyerref02_PutNum.l0 k (n : Int) acc) (acc ++ grp n) := by
  induction n using Nat.strongRecOn with
  | ind n ih =>
    intro acc hn hl
    by_cases h : n < 128
    · rw [grp_lo h] at hl ⊢
      refine Ev.step (f := fun _ => some (acc ++ [(n : Int)])) (fun k => ?_) (Ev.now _)
      simp only [sawyerref02_PutNum.l0]
      rw [if_neg (by omega), if_pos (by simp at hl; omega), show ((n : Int) % 256) = n by omega]
    · rw [grp_hi h] at hl ⊢
      rw [List.length_cons] at hl
      have := ih (n / 128) (by omega) (acc ++ [((n % 128 + 128 : Nat) : Int)]) (by omega) (by simp; omega)
      refine Ev.step (fun k => ?_) (show Ev (fun k => sawyerref02_PutNum.l0 k ((n / 128 : Nat) : Int) (acc ++ [((n % 128 + 128 : Nat) : Int)])) _ from ?_)
      · simp only [sawyerref02_PutNum.l0]
        have e1 : Int.tdiv (n : Int) 128 = ((n / 128 : Nat) : Int) := by rw [Int.tdiv_eq_ediv_of_nonneg (by omega)]; omega
        have e2 : Int.tmod (n : Int) 128 = ((n % 128 : Nat) : Int) := by rw [Int.tmod_eq_emod_of_nonneg (by omega)]; omega
        rw [if_pos (by omega), if_pos (by omega), e1, e2, wrap_in (by omega) (by omega), wrap_in (by omega) (by omega), show (128 + ((n % 128 : Nat) : Int)) % 256 = ((n % 128 + 128 : Nat) : Int) by omega]
      · rw [List.append_assoc] at this
        exact this
theorem refNum_f (l : List Int) (n : Int) (hl : l.length + 9 < 140737488355328) : Ev (fun k => sawyerref02_PutNum.f k l n) (l ++ grp (cap n)) := by
  unfold sawyerref02_PutNum.f
  refine Ev.pos (by simp; omega) ?_
  rw [mn_cap]
  have := refNum_loop (cap n) ([] ++ l) (cap_le n) (by have := grp9 (cap_le n); simp; omega)
  simpa using this
theorem same_f {a b : List Int} (ha : Byts a) (hb : Byts b) : sawyerref02_Same.f a b = some (decide (a = b)) := by
  unfold sawyerref02_Same.f
  rw [str_eq ha hb]
end Go.Proofs.Ytmkojpkajlpokaa.Sw

/- Small lemmas on words of 64 bits, and what a taking function answers. -/

set_option linter.unusedVariables false
set_option linter.unusedSimpArgs false
namespace Go.Proofs.Ytmkojpkajlpokaa.Sw
open Go.RowKit Go.Proofs.Ytmkojpkajlpokaa.Px Go.Proofs.YtmkojpkajlpokaaW.PrintWords Go.Proofs.YtmkojpkajlpokaaW.PrintLast Go.Proofs.YtmkojpkajlpokaaW.PrintMore

/-- What a taking function answers. -/
def tri : Option (Nat × List Int) → Int × List Int × Int
  | some (n, r) => ((n : Int), r, 0)
  | none => (0, [], 2)
theorem u64_nat {n : Nat} (h : n < 18446744073709551616) : IntKind.u64.wrap (n : Int) = (n : Int) := by
  simp only [IntKind.wrap, IntKind.bits, IntKind.signed]
  simp
  omega
theorem or_u64 {t d : Nat} (ht : t < 18446744073709551616) (hd : d < 18446744073709551616) : Go.bits .or .u64 (t : Int) (d : Int) = ((t ||| d : Nat) : Int) := by
  show IntKind.u64.wrap (((BitVec.ofInt 64 (t : Int)) ||| (BitVec.ofInt 64 (d : Int))).toNat : Int) = _
  rw [BitVec.ofInt_natCast, BitVec.ofInt_natCast, BitVec.toNat_or, BitVec.toNat_ofNat, BitVec.toNat_ofNat, Nat.mod_eq_of_lt (by omega), Nat.mod_eq_of_lt (by omega)]
  exact u64_nat (Nat.or_lt_two_pow (n := 64) (by omega) (by omega))
theorem wrap_succ {i : Nat} (h : i < 140737488355328) : wrap64 ((i : Int) + 1) = ((i + 1 : Nat) : Int) := by rw [wrap_in (by omega) (by omega)]; rfl
end Go.Proofs.Ytmkojpkajlpokaa.Sw

/- What the functions that take a number from any bytes compute. -/
set_option linter.unusedVariables false
set_option linter.unusedSimpArgs false
namespace Go.Proofs.Ytmkojpkajlpokaa.Sw
open Go.RowKit Go.Proofs.Ytmkojpkajlpokaa.Px Go.Proofs.YtmkojpkajlpokaaW.PrintWords Go.Proofs.YtmkojpkajlpokaaW.PrintLast Go.Proofs.YtmkojpkajlpokaaW.PrintMore

/-- A number of at most k groups at a row's beginning, and what is behind it; no group of nothing behind the first. -/
def dec : Nat → List Int → Option (Nat × List Int)
  | 0, _ => none
  | _ + 1, [] => none
  | k + 1, c :: l => if c < 128 then some (c.toNat, l) else match dec k l with
    | some (n, r) => if n = 0 then none else some (c.toNat - 128 + 128 * n, r)
    | none => none
theorem dec_grp (k : Nat) : ∀ (n : Nat) (r : List Int), (grp n).length ≤ k → dec k (grp n ++ r) = some (n, r) := by
  induction k with
  | zero => intro n r h; have := grp_pos n; omega
  | succ k ih =>
    intro n r h
    by_cases c : n < 128
    · rw [grp_lo c, List.cons_append, dec, if_pos (by omega)]; rfl
    · rw [grp_hi c] at h ⊢
      rw [List.cons_append, dec, if_neg (by omega), ih (n / 128) r (by simpa using h)]
      simp only
      rw [if_neg (by omega), Int.toNat_natCast]
      congr 2
      omega
theorem dec_back (k : Nat) : ∀ (l : List Int) (n : Nat) (r : List Int), Byts l → dec k l = some (n, r) → l = grp n ++ r ∧ (grp n).length ≤ k := by
  induction k with
  | zero => intro l n r _ h; simp [dec] at h
  | succ k ih =>
    intro l n r hl h
    cases l with
    | nil => simp [dec] at h
    | cons c l =>
      have hc := hl.head
      rw [dec] at h
      by_cases e : c < 128
      · rw [if_pos e] at h
        simp only [Option.some.injEq, Prod.mk.injEq] at h
        obtain ⟨rfl, rfl⟩ := h
        rw [grp_lo (by omega)]
        refine ⟨?_, by simp⟩
        rw [List.singleton_append, Int.toNat_of_nonneg hc.1]
      · rw [if_neg e] at h
        cases hd : dec k l with
        | none => rw [hd] at h; simp at h
        | some p =>
          obtain ⟨m, s⟩ := p
          rw [hd] at h
          simp only at h
          by_cases z : m = 0
          · rw [if_pos z] at h; cases h
          · rw [if_neg z] at h
            simp only [Option.some.injEq, Prod.mk.injEq] at h
            obtain ⟨rfl, rfl⟩ := h
            obtain ⟨h1, h2⟩ := ih l m s hl.tail hd
            rw [grp_hi (by omega), show (c.toNat - 128 + 128 * m) / 128 = m by omega]
            refine ⟨?_, by simp; omega⟩
            rw [List.cons_append, ← h1]
            congr 1
            omega
/-- The number at a row's beginning, and what is behind it. -/
def takeN (l : List Int) : Option (Nat × List Int) := (dec 9 l).bind fun p => if p.1 ≤ 4611686018427387903 then some p else none
theorem takeN_grp {n : Nat} (r : List Int) (h : n ≤ 4611686018427387903) : takeN (grp n ++ r) = some (n, r) := by
  unfold takeN
  rw [dec_grp 9 n r (grp9 h), Option.bind_some, if_pos h]
theorem takeN_back {l r : List Int} {n : Nat} (hl : Byts l) (h : takeN l = some (n, r)) : l = grp n ++ r ∧ n ≤ 4611686018427387903 := by
  unfold takeN at h
  cases hd : dec 9 l with
  | none => rw [hd] at h; simp at h
  | some p =>
    rw [hd, Option.bind_some] at h
    split at h
    · rename_i hp
      simp only [Option.some.injEq] at h
      subst h
      exact ⟨(dec_back 9 l n r hl hd).1, hp⟩
    · cases h
/-- From the i-th group on, with t taken from those ahead. -/
def cont (i t : Nat) (o : Option (Nat × List Int)) : Int × List Int × Int :=
  match o with
  | some (n, r) => if 0 < i ∧ n = 0 then (0, [], 2) else if t + 128 ^ i * n ≤ 4611686018427387903 then (((t + 128 ^ i * n : Nat) : Int), r, 0) else (0, [], 2)
  | none => (0, [], 2)
theorem cont_zero (o : Option (Nat × List Int)) : cont 0 0 o = tri (o.bind fun p => if p.1 ≤ 4611686018427387903 then some p else none) := by
  unfold cont tri
  cases o with
  | none => rfl
  | some p =>
    obtain ⟨n, r⟩ := p
    simp only [Option.bind_some, Nat.pow_zero, Nat.one_mul, Nat.zero_add, Nat.lt_irrefl, false_and, if_false]
    by_cases h : n ≤ 4611686018427387903
    · rw [if_pos h, if_pos h]
    · rw [if_neg h, if_neg h]
theorem cont_step {i t k : Nat} {c : Int} {l : List Int} (h0 : ¬ c < 128) : cont i t (dec (k + 1) (c :: l)) = cont (i + 1) (t + 128 ^ i * (c.toNat - 128)) (dec k l) := by
  rw [dec, if_neg h0]
  cases dec k l with
  | none => rfl
  | some p =>
    obtain ⟨n, r⟩ := p
    simp only
    by_cases z : n = 0
    · rw [if_pos z]
      unfold cont
      simp only
      rw [if_pos ⟨by omega, z⟩]
    · rw [if_neg z]
      unfold cont
      simp only
      have : t + 128 ^ i * (c.toNat - 128 + 128 * n) = t + 128 ^ i * (c.toNat - 128) + 128 ^ (i + 1) * n := by
        rw [Nat.pow_succ, Nat.mul_add, Nat.mul_assoc, Nat.add_assoc]
      rw [if_neg (show ¬ (0 < i ∧ c.toNat - 128 + 128 * n = 0) by omega), if_neg (show ¬ (0 < i + 1 ∧ n = 0) by omega), this]
theorem cont_last {i t k : Nat} {c : Int} {l : List Int} (h0 : c < 128) : cont i t (dec (k + 1) (c :: l)) = if 0 < i ∧ c.toNat = 0 then (0, [], 2) else if t + 128 ^ i * c.toNat ≤ 4611686018427387903 then (((t + 128 ^ i * c.toNat : Nat) : Int), l, 0) else (0, [], 2) := by
  rw [dec, if_pos h0]
  rfl
theorem and127 (y : Int) (h0 : 0 ≤ y) (h1 : y < 256) : Go.bits .and .u8 y 127 = y % 128 := by
  have h : ∀ n : Fin 256, Go.bits .and .u8 (n.val : Int) 127 = (n.val : Int) % 128 := by decide +kernel
  have := h ⟨y.toNat, by omega⟩
  simpa [Int.toNat_of_nonneg h0] using this
theorem pow128 (i : Nat) : (128 : Nat) ^ i = 2 ^ (7 * i) := by rw [Nat.pow_mul]
theorem pow128_le {i : Nat} (h : i ≤ 8) : (128 : Nat) ^ i ≤ 72057594037927936 := by
  have : (128 : Nat) ^ i ≤ 128 ^ 8 := Nat.pow_le_pow_right (by omega) h
  omega
/-- A group laid over those ahead. -/
theorem group (i t : Nat) (c : Int) (hi : i ≤ 8) (ht : t < 128 ^ i) (h0 : 0 ≤ c) (h1 : c < 256) :
    Go.bits .or .u64 (t : Int) (shl .u64 (IntKind.u64.wrap (Go.bits .and .u8 c 127)) (wrap64 (7 * (i : Int)))) = ((t + 128 ^ i * (c.toNat % 128) : Nat) : Int) := by
  have hp := pow128_le hi
  have hm : 128 ^ i * (c.toNat % 128) ≤ 72057594037927936 * 127 := Nat.mul_le_mul hp (by omega)
  have e1 : Go.bits .and .u8 c 127 = ((c.toNat % 128 : Nat) : Int) := by rw [and127 c h0 h1]; omega
  have e2 : shl .u64 (((c.toNat % 128 : Nat) : Int)) (wrap64 (7 * (i : Int))) = ((128 ^ i * (c.toNat % 128) : Nat) : Int) := by
    unfold shl
    rw [wrap_in (by omega) (by omega), show (7 * (i : Int)).toNat = 7 * i by omega, Nat.min_eq_left (by show 7 * i ≤ 64; omega)]
    have : ((c.toNat % 128 : Nat) : Int) * 2 ^ (7 * i) = ((128 ^ i * (c.toNat % 128) : Nat) : Int) := by
      rw [Int.natCast_mul, Int.mul_comm, pow128, Int.natCast_pow]
      rfl
    rw [this]
    exact u64_nat (by omega)
  rw [e1, u64_nat (by omega), e2, or_u64 (by omega) (by omega)]
  rw [pow128] at ht ⊢
  rw [Nat.or_comm, ← Nat.two_pow_add_eq_or_of_lt ht, Nat.add_comm]
theorem group_lo (i t : Nat) (c : Int) (hi : i ≤ 8) (ht : t < 128 ^ i) (h0 : 0 ≤ c) (h1 : c < 128) :
    Go.bits .or .u64 (t : Int) (shl .u64 (IntKind.u64.wrap (Go.bits .and .u8 c 127)) (wrap64 (7 * (i : Int)))) = ((t + 128 ^ i * c.toNat : Nat) : Int) := by
  rw [group i t c hi ht h0 (by omega), show c.toNat % 128 = c.toNat by omega]
theorem group_hi (i t : Nat) (c : Int) (hi : i ≤ 8) (ht : t < 128 ^ i) (h0 : 0 ≤ c) (h1 : c < 256) (h2 : ¬ c < 128) :
    Go.bits .or .u64 (t : Int) (shl .u64 (IntKind.u64.wrap (Go.bits .and .u8 c 127)) (wrap64 (7 * (i : Int)))) = ((t + 128 ^ i * (c.toNat - 128) : Nat) : Int) := by
  rw [group i t c hi ht h0 (by omega), show c.toNat % 128 = c.toNat - 128 by omega]
theorem wrap7 {i : Nat} (h : i ≤ 9) : 0 ≤ wrap64 (7 * (i : Int)) := by rw [wrap_in (by omega) (by omega)]; omega
theorem takeNum_loop (l : List Int) (hl : Byts l) (hb : l.length < 140737488355328) (d : Nat) : ∀ (i t : Nat), 9 - i = d → i ≤ 9 → i ≤ l.length → t < 128 ^ i →
    Ev (fun k => code_TakeNum.l0 k l (t : Int) 0 l (l.length : Int) (i : Int)) (cont i t (dec (9 - i) (l.drop i))) := by
  induction d with
  | zero =>
    intro i t hd h9 hi ht
    have hi9 : i = 9 := by omega
    subst hi9
    refine Ev.step (f := fun _ => some (0, [], 2)) (fun k => ?_) (Ev.const rfl)
    simp only [code_TakeNum.l0]
    by_cases c : (9 : Nat) < l.length
    · rw [if_pos (by omega), if_pos (by omega), if_pos (by omega), if_pos (by omega), if_pos trivial]
    · rw [if_neg (by omega), if_pos trivial]
  | succ d ih =>
    intro i t hd h9 hi ht
    have hi8 : i ≤ 8 := by omega
    by_cases c : i < l.length
    · have hc := hl (l[i]) (List.getElem_mem _)
      have e9 : 9 - i = (9 - (i + 1)) + 1 := by omega
      rw [List.drop_eq_getElem_cons c, e9]
      have hrd := rd_nat l i c
      by_cases z : 0 < i ∧ l[i] = 0
      · rw [cont_last (by omega), if_pos ⟨z.1, by omega⟩]
        refine Ev.step (f := fun k => code_TakeNum.j1 k l (t : Int) 0 (i : Int) (rd l (i : Int)) l (l.length : Int) (i : Int) true) (fun k => ?_) (Ev.step (f := fun _ => some (0, [], 2)) (fun k => ?_) (Ev.const rfl))
        · simp only [code_TakeNum.l0]
          rw [if_pos (by omega), if_pos (by omega), if_pos (by omega), if_neg (by omega), if_pos (by rw [hrd]; exact z.2), decide_eq_true (by omega)]
        · simp only [code_TakeNum.j1]
          rw [if_pos trivial, if_pos trivial]
      · refine Ev.step (f := fun k => code_TakeNum.j1 k l (t : Int) 0 (i : Int) (rd l (i : Int)) l (l.length : Int) (i : Int) false) (fun k => ?_) ?_
        · simp only [code_TakeNum.l0]
          rw [if_pos (by omega), if_pos (by omega), if_pos (by omega), if_neg (by omega)]
          by_cases q : l[i] = 0
          · rw [if_pos (by rw [hrd]; exact q), decide_eq_false (by omega)]
          · rw [if_neg (by rw [hrd]; exact q)]
        · have hp := pow128_le hi8
          by_cases q : l[i] < 128
          · rw [cont_last q, if_neg (by omega)]
            have hm : 128 ^ i * (l[i]).toNat ≤ 72057594037927936 * 127 := Nat.mul_le_mul hp (by omega)
            by_cases big : t + 128 ^ i * (l[i]).toNat ≤ 4611686018427387903
            · rw [if_pos big]
              refine Ev.step (f := fun _ => some (((t + 128 ^ i * (l[i]).toNat : Nat) : Int), l.drop (i + 1), 0)) (fun k => ?_) (Ev.const rfl)
              simp only [code_TakeNum.j1]
              rw [if_neg (by simp), if_pos (wrap7 h9), hrd, if_pos q, wrap_succ (by omega), group_lo i t _ hi8 ht hc.1 q, if_neg (by omega), if_neg (by omega), if_pos (by omega), if_pos (by omega)]
              unfold slices_Clone_byte_byte.f
              rw [if_pos (by simp; omega), Option.bind_some, wrap_in (by omega) (by omega), Int.toNat_natCast]
            · rw [if_neg big]
              refine Ev.step (f := fun _ => some (0, [], 2)) (fun k => ?_) (Ev.const rfl)
              simp only [code_TakeNum.j1]
              rw [if_neg (by simp), if_pos (wrap7 h9), hrd, if_pos q, wrap_succ (by omega), group_lo i t _ hi8 ht hc.1 q, if_neg (by omega), if_pos (by omega)]
          · rw [cont_step q]
            have hlt : t + 128 ^ i * ((l[i]).toNat - 128) < 128 ^ (i + 1) := by
              have : 128 ^ i * ((l[i]).toNat - 128) ≤ 128 ^ i * 127 := Nat.mul_le_mul (Nat.le_refl _) (by omega)
              rw [Nat.pow_succ]
              omega
            have next := ih (i + 1) _ (by omega) (by omega) (by omega) hlt
            refine Ev.step (fun k => ?_) next
            simp only [code_TakeNum.j1]
            rw [if_neg (by simp), if_pos (wrap7 h9), hrd, if_neg q, wrap_succ (by omega), group_hi i t _ hi8 ht hc.1 hc.2 q]
    · rw [List.drop_eq_nil_of_le (by omega), show 9 - i = (9 - (i + 1)) + 1 by omega]
      refine Ev.step (f := fun _ => some (0, [], 2)) (fun k => ?_) (Ev.const rfl)
      simp only [code_TakeNum.l0]
      rw [if_neg (by omega), if_pos trivial]
theorem takeNum_f {l : List Int} (hl : Byts l) (hb : l.length < 140737488355328) : Ev (fun k => code_TakeNum.f k l) (tri (takeN l)) := by
  unfold code_TakeNum.f takeN
  have := takeNum_loop l hl hb 9 0 0 rfl (by omega) (by omega) (by omega)
  rw [cont_zero, List.drop_zero] at this
  exact this

/-! ### the document's -/
theorem grp_length_ge (k : Nat) : ∀ n : Nat, 128 ^ k ≤ n → k + 1 ≤ (grp n).length := by
  induction k with
  | zero => intro n _; exact grp_pos n
  | succ k ih =>
    intro n h
    have h1 : 128 ^ k * 128 ≤ n := by rw [Nat.pow_succ] at h; exact h
    have h2 : 0 < 128 ^ k := Nat.pow_pos (by omega)
    rw [grp_hi (by omega), List.length_cons]
    have := ih (n / 128) ((Nat.le_div_iff_mul_le (by omega)).2 h1)
    omega
theorem ref_digit {c : Int} (h0 : 0 ≤ c) (h1 : c < 256) : wrap64 (Int.tmod c 128) = ((c.toNat % 128 : Nat) : Int) := by
  rw [Int.tmod_eq_emod_of_nonneg h0, wrap_in (by omega) (by omega)]; omega
theorem ref_scale {i : Nat} (h : i ≤ 8) : wrap64 ((128 ^ i : Nat) : Int) = ((128 ^ i : Nat) : Int) := by
  have hp := pow128_le h
  generalize 128 ^ i = p at hp ⊢
  exact wrap_in (by omega) (by omega)
theorem ref_sum (i t d : Nat) (hi : i ≤ 8) (ht : t < 128 ^ i) (hd : d < 128) : wrap64 ((t : Int) + wrap64 ((d : Int) * ((128 ^ i : Nat) : Int))) = ((t + 128 ^ i * d : Nat) : Int) := by
  have hp := pow128_le hi
  have hm : 128 ^ i * d ≤ 72057594037927936 * 127 := Nat.mul_le_mul hp (by omega)
  have : (d : Int) * ((128 ^ i : Nat) : Int) = ((128 ^ i * d : Nat) : Int) := by rw [Int.mul_comm, ← Int.natCast_mul]
  rw [this]
  generalize 128 ^ i * d = q at hm ⊢
  generalize 128 ^ i = p at hp ht
  rw [wrap_in (n := (q : Int)) (by omega) (by omega), wrap_in (by omega) (by omega)]
  omega
theorem refTake_loop (l : List Int) (hl : Byts l) (hb : l.length < 140737488355328) (d : Nat) : ∀ (i t : Nat), 9 - i = d → i ≤ 9 → i ≤ l.length → t < 128 ^ i →
    Ev (fun k => sawyerref02_TakeNum.l0 k l (t : Int) (wrap64 ((128 ^ i : Nat) : Int)) (i : Int)) (cont i t (dec (9 - i) (l.drop i))) := by
  induction d with
  | zero =>
    intro i t hd h9 hi ht
    have hi9 : i = 9 := by omega
    subst hi9
    refine Ev.step (f := fun k => sawyerref02_TakeNum.j1 k l (t : Int) (wrap64 ((128 ^ 9 : Nat) : Int)) ((9 : Nat) : Int) false) (fun k => ?_) (Ev.step (f := fun _ => some (0, [], 2)) (fun k => ?_) (Ev.const rfl))
    · simp only [sawyerref02_TakeNum.l0]
      by_cases c : (9 : Nat) < l.length
      · rw [if_pos (by omega), decide_eq_false (by omega)]
      · rw [if_neg (by omega)]
    · simp only [sawyerref02_TakeNum.j1]
      rw [if_neg (by simp)]
  | succ d ih =>
    intro i t hd h9 hi ht
    have hi8 : i ≤ 8 := by omega
    have hp := pow128_le hi8
    have hp0 : 0 < 128 ^ i := Nat.pow_pos (by omega)
    by_cases c : i < l.length
    · have hc := hl (l[i]) (List.getElem_mem _)
      have e9 : 9 - i = (9 - (i + 1)) + 1 := by omega
      rw [List.drop_eq_getElem_cons c, e9]
      have hrd := rd_nat l i c
      refine Ev.step (f := fun k => sawyerref02_TakeNum.j1 k l (t : Int) (wrap64 ((128 ^ i : Nat) : Int)) (i : Int) true) (fun k => ?_) ?_
      · simp only [sawyerref02_TakeNum.l0]
        rw [if_pos (by omega), decide_eq_true (by omega)]
      · by_cases over : i = 8 ∧ 63 < (l[i]).toNat % 128
        · have e : cont i t (dec (9 - (i + 1) + 1) (l[i] :: l.drop (i + 1))) = (0, [], 2) := by
            obtain ⟨rfl, over⟩ := over
            by_cases q : l[8] < 128
            · rw [cont_last q, if_neg (by omega), if_neg (by
                have : 128 ^ 8 * 64 ≤ 128 ^ 8 * (l[8]).toNat := Nat.mul_le_mul (Nat.le_refl _) (by omega)
                omega)]
            · rw [cont_step q]; rfl
          rw [e]
          refine Ev.step (f := fun k => sawyerref02_TakeNum.j2 k l (t : Int) (wrap64 ((128 ^ i : Nat) : Int)) (i : Int) (((l[i]).toNat % 128 : Nat) : Int) true) (fun k => ?_) (Ev.step (f := fun _ => some (0, [], 2)) (fun k => ?_) (Ev.const rfl))
          · simp only [sawyerref02_TakeNum.j1]
            rw [if_pos trivial, if_pos (by omega), if_pos (by omega), if_pos (by omega), hrd, ref_digit hc.1 hc.2, decide_eq_true (by omega)]
          · simp only [sawyerref02_TakeNum.j2]
            rw [if_pos trivial]
        · refine Ev.step (f := fun k => sawyerref02_TakeNum.j2 k l (t : Int) (wrap64 ((128 ^ i : Nat) : Int)) (i : Int) (((l[i]).toNat % 128 : Nat) : Int) false) (fun k => ?_) ?_
          · simp only [sawyerref02_TakeNum.j1]
            rw [if_pos trivial, if_pos (by omega), if_pos (by omega), hrd, ref_digit hc.1 hc.2]
            by_cases q : (i : Int) = 8
            · rw [if_pos q, decide_eq_false (by omega)]
            · rw [if_neg q]
          · by_cases q : l[i] < 128
            · rw [cont_last q]
              rw [show (l[i]).toNat % 128 = (l[i]).toNat by omega] at over
              have hsmall : t + 128 ^ i * (l[i]).toNat ≤ 4611686018427387903 := by
                by_cases e8 : i = 8
                · subst e8
                  have : 128 ^ 8 * (l[8]).toNat ≤ 128 ^ 8 * 63 := Nat.mul_le_mul (Nat.le_refl _) (by omega)
                  omega
                · have h7 : (128 : Nat) ^ i ≤ 128 ^ 7 := Nat.pow_le_pow_right (by omega) (by omega)
                  have : 128 ^ i * (l[i]).toNat ≤ 128 ^ 7 * 127 := Nat.mul_le_mul h7 (by omega)
                  omega
              have hn : Ev (fun k => sawyerref02_PutNum.f k ([] : List Int) ((t + 128 ^ i * (l[i]).toNat : Nat) : Int)) (grp (t + 128 ^ i * (l[i]).toNat)) := by
                have := refNum_f [] ((t + 128 ^ i * (l[i]).toNat : Nat) : Int) (by simp)
                rw [cap_of hsmall, List.nil_append] at this
                exact this
              by_cases z : 0 < i ∧ (l[i]).toNat = 0
              · rw [if_pos z]
                have hlen : (grp (t + 128 ^ i * (l[i]).toNat)).length ≤ i := by
                  rw [z.2, Nat.mul_zero, Nat.add_zero]
                  obtain ⟨j, rfl⟩ : ∃ j, i = j + 1 := ⟨i - 1, by omega⟩
                  exact grp_length_le j t ht
                refine Ev.step (f := fun k => (sawyerref02_PutNum.f k ([] : List Int) ((t + 128 ^ i * (l[i]).toNat : Nat) : Int)).bind fun t390 => (if (t390.length : Int) = ((i + 1 : Nat) : Int) then some (((t + 128 ^ i * (l[i]).toNat : Nat) : Int), l.drop (i + 1), 0) else some (0, [], 2))) (fun k => ?_) ?_
                · simp only [sawyerref02_TakeNum.j2]
                  rw [if_neg (by simp), if_pos (by omega), if_pos (by omega), hrd, if_pos q, show (l[i]).toNat % 128 = (l[i]).toNat by omega, ref_scale hi8, ref_sum i t _ hi8 ht (by omega), wrap_succ (by omega)]
                  simp only [if_pos (show (0 : Int) ≤ ((i + 1 : Nat) : Int) by omega), if_pos (show ((i + 1 : Nat) : Int) ≤ (l.length : Int) by omega), Option.bind_some, Int.toNat_natCast, List.length_nil, Nat.zero_add, List.nil_append, if_pos (show (l.drop (i + 1)).length < 140737488355328 by simp; omega)]
                · refine Ev.bind hn ?_
                  exact Ev.neg (by omega) (Ev.const rfl)
              · rw [if_neg z, if_pos hsmall]
                have hlen : (grp (t + 128 ^ i * (l[i]).toNat)).length = i + 1 := by
                  have h1 : (grp (t + 128 ^ i * (l[i]).toNat)).length ≤ i + 1 := by
                    refine grp_length_le i _ ?_
                    have : 128 ^ i * (l[i]).toNat ≤ 128 ^ i * 127 := Nat.mul_le_mul (Nat.le_refl _) (by omega)
                    rw [Nat.pow_succ]
                    omega
                  have h2 : i + 1 ≤ (grp (t + 128 ^ i * (l[i]).toNat)).length := by
                    by_cases e0 : i = 0
                    · subst e0; exact grp_pos _
                    · refine grp_length_ge i _ ?_
                      have : 128 ^ i * 1 ≤ 128 ^ i * (l[i]).toNat := Nat.mul_le_mul (Nat.le_refl _) (by omega)
                      omega
                  omega
                refine Ev.step (f := fun k => (sawyerref02_PutNum.f k ([] : List Int) ((t + 128 ^ i * (l[i]).toNat : Nat) : Int)).bind fun t390 => (if (t390.length : Int) = ((i + 1 : Nat) : Int) then some (((t + 128 ^ i * (l[i]).toNat : Nat) : Int), l.drop (i + 1), 0) else some (0, [], 2))) (fun k => ?_) ?_
                · simp only [sawyerref02_TakeNum.j2]
                  rw [if_neg (by simp), if_pos (by omega), if_pos (by omega), hrd, if_pos q, show (l[i]).toNat % 128 = (l[i]).toNat by omega, ref_scale hi8, ref_sum i t _ hi8 ht (by omega), wrap_succ (by omega)]
                  simp only [if_pos (show (0 : Int) ≤ ((i + 1 : Nat) : Int) by omega), if_pos (show ((i + 1 : Nat) : Int) ≤ (l.length : Int) by omega), Option.bind_some, Int.toNat_natCast, List.length_nil, Nat.zero_add, List.nil_append, if_pos (show (l.drop (i + 1)).length < 140737488355328 by simp; omega)]
                · refine Ev.bind hn ?_
                  exact Ev.pos (by omega) (Ev.const rfl)
            · rw [cont_step q]
              have hlt : t + 128 ^ i * ((l[i]).toNat - 128) < 128 ^ (i + 1) := by
                have : 128 ^ i * ((l[i]).toNat - 128) ≤ 128 ^ i * 127 := Nat.mul_le_mul (Nat.le_refl _) (by omega)
                rw [Nat.pow_succ]
                omega
              have next := ih (i + 1) _ (by omega) (by omega) (by omega) hlt
              refine Ev.step (fun k => ?_) next
              clear hlt next
              simp only [sawyerref02_TakeNum.j2]
              rw [if_neg (by simp), if_pos (by omega), if_pos (by omega), hrd, if_neg q, show (l[i]).toNat % 128 = (l[i]).toNat - 128 by omega, ref_scale hi8, ref_sum i t _ hi8 ht (by omega), wrap_succ (by omega), Nat.pow_succ, Int.natCast_mul]
              rfl
    · rw [List.drop_eq_nil_of_le (by omega), show 9 - i = (9 - (i + 1)) + 1 by omega]
      refine Ev.step (f := fun k => sawyerref02_TakeNum.j1 k l (t : Int) (wrap64 ((128 ^ i : Nat) : Int)) (i : Int) false) (fun k => ?_) (Ev.step (f := fun _ => some (0, [], 2)) (fun k => ?_) (Ev.const rfl))
      · simp only [sawyerref02_TakeNum.l0]
        rw [if_neg (by omega)]
      · simp only [sawyerref02_TakeNum.j1]
        rw [if_neg (by simp)]
theorem refTake_f {l : List Int} (hl : Byts l) (hb : l.length < 140737488355328) : Ev (fun k => sawyerref02_TakeNum.f k l) (tri (takeN l)) := by
  unfold sawyerref02_TakeNum.f takeN
  have := refTake_loop l hl hb 9 0 0 rfl (by omega) (by omega) (by omega)
  rw [cont_zero, List.drop_zero, show wrap64 ((128 ^ 0 : Nat) : Int) = 1 from wrap_in (by decide) (by decide)] at this
  exact this
end Go.Proofs.Ytmkojpkajlpokaa.Sw

/- What the sums compute: a word of 32 bits, turned byte by byte; it is linear, and one byte turned turns it. -/
set_option linter.unusedVariables false
set_option linter.unusedSimpArgs false
namespace Go.Proofs.Ytmkojpkajlpokaa.Sw
open Go.RowKit Go.Proofs.Ytmkojpkajlpokaa.Px Go.Proofs.YtmkojpkajlpokaaW.PrintWords Go.Proofs.YtmkojpkajlpokaaW.PrintLast Go.Proofs.YtmkojpkajlpokaaW.PrintMore

abbrev W32 := BitVec 32
def poly : W32 := 3988292384#32
/-- One step of eight: a place down, and, if the bit that left was one, turned by the polynomial. -/
def turn (w : W32) : W32 := (w >>> 1) ^^^ (if w.getLsbD 0 then poly else 0#32)
def turns : Nat → W32 → W32
  | 0, w => w
  | n + 1, w => turns n (turn w)
def byteStep (w : W32) (c : Int) : W32 := turns 8 (w ^^^ BitVec.ofInt 32 c)
def crcFrom (w : W32) (l : List Int) : W32 := l.foldl byteStep w
/-- The sum of a row of bytes, as a number. -/
def crc (l : List Int) : Int := ((~~~ crcFrom (BitVec.allOnes 32) l).toNat : Int)

/-- A word as the program has it: a number from 0 to 2^32 - 1. -/
def num32 (w : W32) : Int := (w.toNat : Int)
theorem num32_range (w : W32) : 0 ≤ num32 w ∧ num32 w < 4294967296 := by unfold num32; have := w.isLt; omega
theorem ofInt_num32 (w : W32) : BitVec.ofInt 32 (num32 w) = w := by
  unfold num32
  rw [BitVec.ofInt_natCast, BitVec.ofNat_toNat, BitVec.setWidth_eq]
theorem wrap_u32 (w : W32) : IntKind.u32.wrap ((w.toNat : Nat) : Int) = num32 w := by
  rw [IntKind.wrap_u32]
  have := w.isLt
  unfold num32
  omega
theorem xor_u32 (x y : Int) : Go.bits .xor .u32 x y = num32 (BitVec.ofInt 32 x ^^^ BitVec.ofInt 32 y) := wrap_u32 _
theorem and_u32 (x y : Int) : Go.bits .and .u32 x y = num32 (BitVec.ofInt 32 x &&& BitVec.ofInt 32 y) := wrap_u32 _
theorem num32_div2 (w : W32) : (num32 w / (2 : Int) : Int) = num32 (w >>> (1 : Nat)) := by
  unfold num32
  rw [BitVec.toNat_ushiftRight, Nat.shiftRight_eq_div_pow]
  omega
theorem lsb_mod (w : W32) : w.getLsbD 0 = decide (num32 w % 2 = 1) := by
  unfold num32
  rw [BitVec.getLsbD, Nat.testBit_zero]
  congr 1
  apply propext
  omega
theorem mask (w : W32) : BitVec.ofInt 32 ((-(num32 (w &&& 1#32))) % 4294967296) = if w.getLsbD 0 then BitVec.allOnes 32 else 0#32 := by
  have h1 : num32 (w &&& 1#32) = num32 w % 2 := by
    unfold num32
    rw [BitVec.toNat_and]
    have : (1#32).toNat = 1 := rfl
    rw [this, Nat.and_one_is_mod]
    omega
  rw [h1, lsb_mod]
  have := num32_range w
  by_cases c : num32 w % 2 = 1
  · rw [c, decide_eq_true rfl]; rfl
  · have c0 : num32 w % 2 = 0 := by omega
    rw [c0, decide_eq_false (by omega)]; rfl
/-- What the program does in a step. -/
theorem turn_code (w : W32) : Go.bits .xor .u32 (num32 w / 2) (Go.bits .and .u32 3988292384 ((-(Go.bits .and .u32 (num32 w) 1)) % 4294967296)) = num32 (turn w) := by
  rw [and_u32 (num32 w) 1, ofInt_num32, show BitVec.ofInt 32 1 = 1#32 from rfl, and_u32, mask, xor_u32, ofInt_num32, num32_div2, ofInt_num32, show BitVec.ofInt 32 3988292384 = poly from rfl]
  congr 1
  unfold turn
  congr 1
  by_cases c : w.getLsbD 0
  · rw [if_pos c, if_pos c, BitVec.and_allOnes]
  · rw [if_neg c, if_neg c, BitVec.and_zero]
theorem turn_ref (w : W32) : (if (Int.tmod (num32 w) 2) = 1 then Go.bits .xor .u32 ((Int.tdiv (num32 w) 2) % 4294967296) 3988292384 else (Int.tdiv (num32 w) 2) % 4294967296) = num32 (turn w) := by
  have h := num32_range w
  rw [Int.tmod_eq_emod_of_nonneg h.1, Int.tdiv_eq_ediv_of_nonneg h.1, show num32 w / 2 % 4294967296 = num32 w / 2 by omega, num32_div2]
  unfold turn
  rw [lsb_mod]
  by_cases c : num32 w % 2 = 1
  · rw [if_pos c, decide_eq_true c, if_pos rfl, xor_u32, ofInt_num32]; rfl
  · rw [if_neg c, decide_eq_false c, if_neg (by simp), BitVec.xor_zero]
theorem code_rounds (l : List Int) (n i : Int) (j : Nat) : ∀ (m : Nat) (w : W32), m + j = 8 → ∀ r, Ev (fun k => code_Crc.l0 k (num32 (turns m w)) l n (wrap64 (i + 1))) r → Ev (fun k => code_Crc.l1 k (num32 w) l n i (j : Int)) r := by
  intro m
  induction m generalizing j with
  | zero =>
    intro w hm r h
    refine Ev.step (fun k => ?_) h
    simp only [code_Crc.l1]
    rw [if_neg (by omega)]
    rfl
  | succ m ih =>
    intro w hm r h
    refine Ev.step (fun k => ?_) (show Ev (fun k => code_Crc.l1 k (num32 (turn w)) l n i ((j + 1 : Nat) : Int)) r from ih (j + 1) (turn w) (by omega) r h)
    simp only [code_Crc.l1]
    rw [if_pos (by omega), turn_code, wrap_in (by omega) (by omega)]
    rfl
theorem ref_rounds (l : List Int) (i : Int) (j : Nat) : ∀ (m : Nat) (w : W32), m + j = 8 → ∀ r, Ev (fun k => sawyerref02_Crc.l0 k l (num32 (turns m w)) (wrap64 (i + 1))) r → Ev (fun k => sawyerref02_Crc.l1 k l (num32 w) i (j : Int)) r := by
  intro m
  induction m generalizing j with
  | zero =>
    intro w hm r h
    refine Ev.step (fun k => ?_) h
    simp only [sawyerref02_Crc.l1]
    rw [if_neg (by omega)]
    rfl
  | succ m ih =>
    intro w hm r h
    refine Ev.step (fun k => ?_) (show Ev (fun k => sawyerref02_Crc.l1 k l (num32 (turn w)) i ((j + 1 : Nat) : Int)) r from ih (j + 1) (turn w) (by omega) r h)
    simp only [sawyerref02_Crc.l1]
    rw [if_pos (by omega), wrap_in (n := (j : Int) + 1) (by omega) (by omega), show (j : Int) + 1 = ((j + 1 : Nat) : Int) by omega, ← turn_ref]
    split <;> rfl
theorem xor_byte (w : W32) (c : Int) (h0 : 0 ≤ c) (h1 : c < 256) : Go.bits .xor .u32 (num32 w) (c % 4294967296) = num32 (w ^^^ BitVec.ofInt 32 c) := by
  rw [xor_u32, ofInt_num32, show c % 4294967296 = c by omega]
theorem not_code (w : W32) : Go.bits .xor .u32 4294967295 (num32 w) = num32 (~~~ w) := by
  rw [xor_u32, ofInt_num32, show BitVec.ofInt 32 4294967295 = BitVec.allOnes 32 from rfl, BitVec.allOnes_xor]
theorem crc_loop (l : List Int) (hl : Byts l) (hb : l.length ≤ 140737488355328) (d : Nat) : ∀ (i : Nat) (w : W32), l.length - i = d → i ≤ l.length →
    Ev (fun k => code_Crc.l0 k (num32 w) l (l.length : Int) (i : Int)) (num32 (~~~ crcFrom w (l.drop i))) := by
  induction d with
  | zero =>
    intro i w hd hi
    rw [List.drop_eq_nil_of_le (by omega)]
    refine Ev.step (f := fun _ => some (num32 (~~~ w))) (fun k => ?_) (Ev.const rfl)
    simp only [code_Crc.l0]
    rw [if_neg (by omega), not_code]
  | succ d ih =>
    intro i w hd hi
    have hlt : i < l.length := by omega
    have hc := hl (l[i]) (List.getElem_mem _)
    rw [List.drop_eq_getElem_cons hlt]
    refine Ev.step (f := fun k => code_Crc.l1 k (num32 (w ^^^ BitVec.ofInt 32 (l[i]))) l (l.length : Int) (i : Int) ((0 : Nat) : Int)) (fun k => ?_) (code_rounds l _ _ 0 8 _ (by omega) _ ?_)
    · simp only [code_Crc.l0]
      rw [if_pos (by omega), if_pos (by omega), if_pos (by omega), rd_nat l i hlt, xor_byte _ _ hc.1 hc.2]
      rfl
    · have := ih (i + 1) (byteStep w (l[i])) (by omega) (by omega)
      rw [wrap_in (by omega) (by omega)]
      exact this
theorem crc_f {l : List Int} (hl : Byts l) (hb : l.length ≤ 140737488355328) : Ev (fun k => code_Crc.f k l) (crc l) := by
  unfold code_Crc.f
  exact crc_loop l hl hb l.length 0 (BitVec.allOnes 32) (by omega) (by omega)
theorem refCrc_loop (l : List Int) (hl : Byts l) (hb : l.length ≤ 140737488355328) (d : Nat) : ∀ (i : Nat) (w : W32), l.length - i = d → i ≤ l.length →
    Ev (fun k => sawyerref02_Crc.l0 k l (num32 w) (i : Int)) (num32 (~~~ crcFrom w (l.drop i))) := by
  induction d with
  | zero =>
    intro i w hd hi
    rw [List.drop_eq_nil_of_le (by omega)]
    refine Ev.step (f := fun _ => some (num32 (~~~ w))) (fun k => ?_) (Ev.const rfl)
    simp only [sawyerref02_Crc.l0]
    rw [if_neg (by omega), not_code]
  | succ d ih =>
    intro i w hd hi
    have hlt : i < l.length := by omega
    have hc := hl (l[i]) (List.getElem_mem _)
    rw [List.drop_eq_getElem_cons hlt]
    refine Ev.step (f := fun k => sawyerref02_Crc.l1 k l (num32 (w ^^^ BitVec.ofInt 32 (l[i]))) (i : Int) ((0 : Nat) : Int)) (fun k => ?_) (ref_rounds l _ 0 8 _ (by omega) _ ?_)
    · simp only [sawyerref02_Crc.l0]
      rw [if_pos (by omega), if_pos (by omega), rd_nat l i hlt, xor_byte _ _ hc.1 hc.2]
      rfl
    · have := ih (i + 1) (byteStep w (l[i])) (by omega) (by omega)
      rw [wrap_in (by omega) (by omega)]
      exact this
theorem refCrc_f {l : List Int} (hl : Byts l) (hb : l.length ≤ 140737488355328) : Ev (fun k => sawyerref02_Crc.f k l) (crc l) := by
  unfold sawyerref02_Crc.f
  exact refCrc_loop l hl hb l.length 0 (BitVec.allOnes 32) (by omega) (by omega)
theorem crc_range (l : List Int) : 0 ≤ crc l ∧ crc l < 4294967296 := num32_range _

/-! ### the sum is linear, and no two words come to one -/
theorem turn_xor (a b : W32) : turn (a ^^^ b) = turn a ^^^ turn b := by
  unfold turn
  rw [BitVec.ushiftRight_xor_distrib, BitVec.getLsbD_xor]
  generalize a >>> 1 = x
  generalize b >>> 1 = y
  generalize a.getLsbD 0 = p
  generalize b.getLsbD 0 = q
  apply BitVec.eq_of_getLsbD_eq
  intro i hi
  cases p <;> cases q <;> simp only [Bool.xor_false, Bool.xor_true, Bool.not_true, Bool.not_false, Bool.false_eq_true, if_true, if_false, BitVec.getLsbD_xor, BitVec.getLsbD_zero] <;> cases x.getLsbD i <;> cases y.getLsbD i <;> cases poly.getLsbD i <;> rfl
theorem turns_xor (n : Nat) : ∀ a b : W32, turns n (a ^^^ b) = turns n a ^^^ turns n b := by
  induction n with
  | zero => intro a b; rfl
  | succ n ih => intro a b; simp only [turns]; rw [turn_xor, ih]
theorem turn_zero {w : W32} (h : turn w = 0#32) : w = 0#32 := by
  unfold turn at h
  have hm : ((w >>> 1) ^^^ (if w.getLsbD 0 then poly else 0#32)).getLsbD 31 = false := by rw [h]; rfl
  rw [BitVec.getLsbD_xor, BitVec.getLsbD_ushiftRight] at hm
  have h32 : w.getLsbD (1 + 31) = false := BitVec.getLsbD_of_ge _ _ (by omega)
  rw [h32, Bool.false_xor] at hm
  have h0 : w.getLsbD 0 = false := by
    cases c : w.getLsbD 0 with
    | false => rfl
    | true => rw [c, if_pos rfl] at hm; exact absurd hm (by decide)
  rw [h0, if_neg (by simp), BitVec.xor_zero] at h
  apply BitVec.eq_of_getLsbD_eq
  intro i hi
  rw [BitVec.getLsbD_zero]
  cases i with
  | zero => exact h0
  | succ i =>
    have := congrArg (fun v : W32 => v.getLsbD i) h
    simp only [BitVec.getLsbD_ushiftRight, BitVec.getLsbD_zero] at this
    rw [Nat.add_comm] at this
    exact this
theorem turns_zero (n : Nat) : ∀ w : W32, turns n w = 0#32 → w = 0#32 := by
  induction n with
  | zero => intro w h; exact h
  | succ n ih => intro w h; exact turn_zero (ih _ h)
theorem xor_eq_zero {a b : W32} (h : a ^^^ b = 0#32) : a = b := by
  have := congrArg (· ^^^ b) h
  simpa [BitVec.xor_assoc] using this
theorem turns_inj (n : Nat) {a b : W32} (h : turns n a = turns n b) : a = b := by
  apply xor_eq_zero
  apply turns_zero n
  rw [turns_xor, h, BitVec.xor_self]
theorem byteStep_left {a b : W32} {c : Int} (h : byteStep a c = byteStep b c) : a = b := by
  have := turns_inj 8 h
  have h2 := congrArg (· ^^^ BitVec.ofInt 32 c) this
  simpa [BitVec.xor_assoc] using h2
theorem ofInt_byte {a b : Int} (ha : 0 ≤ a ∧ a < 256) (hb : 0 ≤ b ∧ b < 256) (h : BitVec.ofInt 32 a = BitVec.ofInt 32 b) : a = b := by
  have := congrArg BitVec.toInt h
  rw [BitVec.toInt_ofInt, BitVec.toInt_ofInt] at this
  rw [Int.bmod_eq_of_le (by simp; omega) (by simp; omega), Int.bmod_eq_of_le (by simp; omega) (by simp; omega)] at this
  exact this
theorem byteStep_right {w : W32} {a b : Int} (ha : 0 ≤ a ∧ a < 256) (hb : 0 ≤ b ∧ b < 256) (h : byteStep w a = byteStep w b) : a = b := by
  have h1 := turns_inj 8 h
  have h2 := congrArg (w ^^^ ·) h1
  simp only [← BitVec.xor_assoc, BitVec.xor_self, BitVec.zero_xor] at h2
  exact ofInt_byte ha hb h2
theorem crcFrom_inj : ∀ (l : List Int) {a b : W32}, crcFrom a l = crcFrom b l → a = b
  | [], _, _, h => h
  | c :: l, _, _, h => byteStep_left (crcFrom_inj l h)
theorem not_inj {a b : W32} (h : ~~~ a = ~~~ b) : a = b := by
  have := congrArg (~~~ ·) h
  simpa using this
theorem num32_inj {a b : W32} (h : num32 a = num32 b) : a = b := by
  rw [← ofInt_num32 a, h, ofInt_num32]
/-- One byte turned turns the sum. -/
theorem crc_byte (x y : List Int) {a b : Int} (ha : 0 ≤ a ∧ a < 256) (hb : 0 ≤ b ∧ b < 256) (h : crc (x ++ a :: y) = crc (x ++ b :: y)) : a = b := by
  have h1 : crcFrom (BitVec.allOnes 32) (x ++ a :: y) = crcFrom (BitVec.allOnes 32) (x ++ b :: y) := not_inj (num32_inj h)
  unfold crcFrom at h1
  rw [List.foldl_append, List.foldl_append, List.foldl_cons, List.foldl_cons] at h1
  exact byteStep_right ha hb (crcFrom_inj y h1)
end Go.Proofs.Ytmkojpkajlpokaa.Sw

/- What the functions that take fixed numbers from any bytes compute. -/
set_option linter.unusedVariables false
set_option linter.unusedSimpArgs false
namespace Go.Proofs.Ytmkojpkajlpokaa.Sw
open Go.RowKit Go.Proofs.Ytmkojpkajlpokaa.Px Go.Proofs.YtmkojpkajlpokaaW.PrintWords Go.Proofs.YtmkojpkajlpokaaW.PrintLast Go.Proofs.YtmkojpkajlpokaaW.PrintMore

/-! ### fixed numbers -/
theorem val_ge : ∀ (l : List Int), Byts l → ∀ a, 0 ≤ a → a ≤ val l a
  | [], _, a, _ => Int.le_refl _
  | c :: l, h, a, h0 => by
    have hc := h.head
    have := val_ge l h.tail (a * 256 + c) (by omega)
    simp only [val]
    omega
theorem or_byte (x c : Int) (h0 : 0 ≤ x) (h1 : x < 72057594037927936) (c0 : 0 ≤ c) (c1 : c < 256) : Go.bits .or .u64 (IntKind.u64.wrap (x * 256)) (IntKind.u64.wrap c) = x * 256 + c := by
  obtain ⟨m, rfl⟩ := Int.eq_ofNat_of_zero_le h0
  obtain ⟨n, rfl⟩ := Int.eq_ofNat_of_zero_le c0
  rw [show (m : Int) * 256 = ((2 ^ 8 * m : Nat) : Int) by omega, u64_nat (by omega), u64_nat (by omega), or_u64 (by omega) (by omega), ← Nat.two_pow_add_eq_or_of_lt (by omega)]
  omega
theorem number_loop (l : List Int) (hl : Byts l) (hb : l.length ≤ 8) (d : Nat) : ∀ (i : Nat) (x : Int), l.length - i = d → i ≤ l.length → 0 ≤ x → x < 256 ^ i →
    Ev (fun k => code_number.l0 k x l (l.length : Int) (i : Int)) (val (l.drop i) x) := by
  induction d with
  | zero =>
    intro i x hd hi h0 h1
    rw [List.drop_eq_nil_of_le (by omega)]
    refine Ev.step (f := fun _ => some x) (fun k => ?_) (Ev.const rfl)
    simp only [code_number.l0]
    rw [if_neg (by omega)]
  | succ d ih =>
    intro i x hd hi h0 h1
    have hlt : i < l.length := by omega
    have hc := hl (l[i]) (List.getElem_mem _)
    rw [List.drop_eq_getElem_cons hlt]
    have hp : (256 : Int) ^ i ≤ 72057594037927936 := by
      have : (256 : Nat) ^ i ≤ 256 ^ 7 := Nat.pow_le_pow_right (by omega) (by omega)
      have h2 : ((256 ^ i : Nat) : Int) ≤ ((256 ^ 7 : Nat) : Int) := Int.ofNat_le.2 this
      simpa using h2
    have hs : x * 256 + l[i] < 256 ^ (i + 1) := by
      rw [Int.pow_succ]
      omega
    have next := ih (i + 1) (x * 256 + l[i]) (by omega) (by omega) (by omega) hs
    refine Ev.step (fun k => ?_) next
    clear next hs
    simp only [code_number.l0]
    rw [if_pos (by omega), if_pos (by omega), if_pos (by omega), rd_nat l i hlt, or_byte x _ h0 (by omega) hc.1 hc.2, wrap_succ (by omega)]
theorem number_f {l : List Int} (hl : Byts l) (hb : l.length ≤ 8) : Ev (fun k => code_number.f k l) (val l 0) := by
  unfold code_number.f
  have := number_loop l hl hb l.length 0 0 (by omega) (by omega) (by omega) (by decide)
  rw [List.drop_zero] at this
  exact this
/-- The fixed number at a row's beginning, and what is behind it. -/
def takeF (l : List Int) : Option (Nat × List Int) :=
  if l.length < 8 then none else if 9223372036854775808 ≤ val (l.take 8) 0 then none else some ((val (l.take 8) 0).toNat, l.drop 8)
theorem val8 {l : List Int} (hl : Byts l) : 0 ≤ val (l.take 8) 0 ∧ val (l.take 8) 0 < 18446744073709551616 := by
  have h1 := val_nonneg _ (hl.take 8) 0 (by omega)
  have h2 := val_lt _ (hl.take 8)
  have h3 : (l.take 8).length ≤ 8 := by rw [List.length_take]; omega
  have h4 : (256 : Nat) ^ (l.take 8).length ≤ 256 ^ 8 := Nat.pow_le_pow_right (by omega) h3
  have h5 : ((256 ^ (l.take 8).length : Nat) : Int) ≤ ((256 ^ 8 : Nat) : Int) := Int.ofNat_le.2 h4
  have h6 : (256 : Int) ^ (l.take 8).length ≤ 18446744073709551616 := by simpa using h5
  omega
theorem takeFix_f {l : List Int} (hl : Byts l) (hb : l.length < 140737488355328) : Ev (fun k => code_TakeFix.f k l) (tri (takeF l)) := by
  unfold code_TakeFix.f takeF
  by_cases c : l.length < 8
  · rw [if_pos c]
    refine Ev.pos (by omega) (Ev.step (f := fun _ => some (0, [], 2)) (fun k => ?_) (Ev.const rfl))
    simp only [code_TakeFix.j0]
    rw [if_pos trivial]
  · rw [if_neg c]
    have hn := number_f (hl.take 8) (by rw [List.length_take]; omega)
    have h8 := val8 hl
    refine Ev.neg (by omega) (Ev.pos (by omega) (Ev.bind hn ?_))
    by_cases q : 9223372036854775808 ≤ val (l.take 8) 0
    · rw [if_pos q]
      refine Ev.step (f := fun _ => some (0, [], 2)) (fun k => ?_) (Ev.const rfl)
      simp only [code_TakeFix.j0]
      rw [if_pos (decide_eq_true (by unfold wrap64; omega))]
    · rw [if_neg q]
      refine Ev.step (f := fun k => (code_number.f k (l.take 8)).bind fun t413 => ((slices_Clone_byte_byte.f (l.drop 8)).bind fun t418 => (some (wrap64 t413, t418, 0)))) (fun k => ?_) (Ev.bind hn (Ev.const ?_))
      · simp only [code_TakeFix.j0]
        rw [if_neg (by rw [decide_eq_true_eq]; unfold wrap64; omega), if_pos (by omega)]
      · unfold slices_Clone_byte_byte.f
        rw [if_pos (by simp; omega), Option.bind_some, wrap_in (by omega) (by omega)]
        show some (val (l.take 8) 0, l.drop 8, (0 : Int)) = some (((val (l.take 8) 0).toNat : Int), l.drop 8, (0 : Int))
        rw [Int.toNat_of_nonneg h8.1]
theorem refFixT_loop (l : List Int) (hl : Byts l) (h8 : 8 ≤ l.length) (hb : l.length < 140737488355328) (d : Nat) : ∀ (i : Nat) (x : Int), 8 - i = d → i ≤ 8 → 0 ≤ x → val ((l.take 8).drop i) x < 9223372036854775808 →
    Ev (fun k => sawyerref02_TakeFix.l0 k l x (i : Int)) (val ((l.take 8).drop i) x, l.drop 8, 0) := by
  have hL : (l.take 8).length = 8 := by rw [List.length_take]; omega
  induction d with
  | zero =>
    intro i x hd hi h0 h1
    rw [List.drop_eq_nil_of_le (by omega)]
    refine Ev.step (f := fun _ => some (x, l.drop 8, 0)) (fun k => ?_) (Ev.const rfl)
    simp only [sawyerref02_TakeFix.l0]
    rw [if_neg (by omega), Option.bind_some, if_pos (by omega), Option.bind_some, if_pos (by simp; omega), List.nil_append]
  | succ d ih =>
    intro i x hd hi h0 h1
    have hlt : i < l.length := by omega
    have hc := hl (l[i]) (List.getElem_mem _)
    have e : (l.take 8).drop i = l[i] :: (l.take 8).drop (i + 1) := by
      rw [List.drop_eq_getElem_cons (by omega), List.getElem_take]
    rw [e] at h1 ⊢
    simp only [val] at h1 ⊢
    have hge := val_ge _ ((hl.take 8).drop (i + 1)) (x * 256 + l[i]) (by omega)
    have next := ih (i + 1) (x * 256 + l[i]) (by omega) (by omega) (by omega) h1
    refine Ev.step (fun k => ?_) next
    have hsmall : x * 256 + l[i] < 9223372036854775808 := by omega
    clear next hge h1 e
    simp only [sawyerref02_TakeFix.l0]
    rw [if_pos (by omega), if_pos (by omega), if_pos (by omega), rd_nat l i hlt, wrap_succ (by omega), wrap_in (n := x * 256) (by omega) (by omega), wrap_in (n := l[i]) (by omega) (by omega), wrap_in (by omega) (by omega)]
theorem refFixT_f {l : List Int} (hl : Byts l) (hb : l.length < 140737488355328) : Ev (fun k => sawyerref02_TakeFix.f k l) (tri (takeF l)) := by
  unfold sawyerref02_TakeFix.f takeF
  by_cases c : l.length < 8
  · rw [if_pos c]
    refine Ev.pos (by omega) (Ev.step (f := fun _ => some (0, [], 2)) (fun k => ?_) (Ev.const rfl))
    simp only [sawyerref02_TakeFix.j0]
    rw [if_pos trivial]
  · rw [if_neg c]
    refine Ev.neg (by omega) (Ev.pos (by omega) ?_)
    have hv : 9223372036854775808 ≤ val (l.take 8) 0 ↔ 128 ≤ rd l 0 := by
      cases l with
      | nil => simp at c
      | cons a r =>
        have ha := hl.head
        have hb7 := hl.tail.take 7
        have h1 := val_nonneg _ hb7 0 (by omega)
        have h2 := val_lt _ hb7
        have h3 := (be_val _ hb7 a).2
        have h7 : (r.take 7).length = 7 := by rw [List.length_take]; simp at c; omega
        rw [h7] at h2 h3
        have e : val ((a :: r).take 8) 0 = val (r.take 7) a := by simp [val]
        rw [e, h3]
        show _ ↔ 128 ≤ a
        omega
    have h8 := val8 hl
    by_cases q : 9223372036854775808 ≤ val (l.take 8) 0
    · rw [if_pos q]
      refine Ev.step (f := fun _ => some (0, [], 2)) (fun k => ?_) (Ev.const rfl)
      simp only [sawyerref02_TakeFix.j0]
      rw [if_pos (decide_eq_true (hv.1 q))]
    · rw [if_neg q]
      refine Ev.step (f := fun k => sawyerref02_TakeFix.l0 k l 0 0) (fun k => ?_) ?_
      · simp only [sawyerref02_TakeFix.j0]
        rw [if_neg (by rw [decide_eq_true_eq]; exact fun h => q (hv.2 h))]
      · have := refFixT_loop l hl (by omega) hb 8 0 0 rfl (by omega) (by omega) (by rw [List.drop_zero]; omega)
        rw [List.drop_zero] at this
        unfold tri
        simp only
        rw [Int.toNat_of_nonneg h8.1]
        exact this
theorem takeF_be {n : Int} (r : List Int) (h0 : 0 ≤ n) (h1 : n < 9223372036854775808) : takeF (be 8 n ++ r) = some (n.toNat, r) := by
  unfold takeF
  have hL := be_length 8 n
  have e : (be 8 n ++ r).take 8 = be 8 n := List.take_left' hL
  have e2 : (be 8 n ++ r).drop 8 = r := List.drop_left' hL
  have hv := val_be 8 n 0 h0 (by omega)
  rw [if_neg (by rw [List.length_append, hL]; omega), e, e2, hv, if_neg (by omega)]
  simp
theorem takeF_back {l r : List Int} {n : Nat} (hl : Byts l) (h : takeF l = some (n, r)) : l = be 8 n ++ r ∧ n < 9223372036854775808 := by
  unfold takeF at h
  have h8 := val8 hl
  split at h
  · cases h
  · rename_i c
    split at h
    · cases h
    · rename_i q
      simp only [Option.some.injEq, Prod.mk.injEq] at h
      obtain ⟨rfl, rfl⟩ := h
      have hL : (l.take 8).length = 8 := by rw [List.length_take]; omega
      have := (be_val _ (hl.take 8) 0).1
      rw [hL] at this
      rw [Int.toNat_of_nonneg h8.1, this, List.take_append_drop]
      exact ⟨rfl, by omega⟩

end Go.Proofs.Ytmkojpkajlpokaa.Sw

/- What slices.Concat computes. -/
set_option linter.unusedVariables false
set_option linter.unusedSimpArgs false
namespace Go.Proofs.Ytmkojpkajlpokaa.Sw
open Go.RowKit Go.Proofs.Ytmkojpkajlpokaa.Px Go.Proofs.YtmkojpkajlpokaaW.PrintWords Go.Proofs.YtmkojpkajlpokaaW.PrintLast Go.Proofs.YtmkojpkajlpokaaW.PrintMore

/-! ### rows laid one behind the other -/
theorem rdL_nat (L : List (List Int)) (i : Nat) (h : i < L.length) : rd_L1 L (i : Int) = L[i] := by
  unfold rd_L1
  rw [Int.toNat_natCast, List.getD_eq_getElem?_getD, List.getElem?_eq_getElem h]
  rfl
theorem concat_loop1 (L : List (List Int)) (hn : L.length < 140737488355328) (d : Nat) : ∀ (i : Nat) (acc : List Int), L.length - i = d → i ≤ L.length → acc.length + (L.drop i).flatten.length < 140737488355328 →
    Ev (fun k => slices_Concat_byte_byte.l1 k acc L (L.length : Int) (i : Int)) (acc ++ (L.drop i).flatten) := by
  induction d with
  | zero =>
    intro i acc hd hi hb
    rw [List.drop_eq_nil_of_le (by omega), List.flatten_nil, List.append_nil]
    refine Ev.step (f := fun _ => some acc) (fun k => ?_) (Ev.const rfl)
    simp only [slices_Concat_byte_byte.l1]
    rw [if_neg (by omega)]
  | succ d ih =>
    intro i acc hd hi hb
    have hlt : i < L.length := by omega
    rw [List.drop_eq_getElem_cons hlt, List.flatten_cons] at hb ⊢
    rw [List.length_append] at hb
    have next := ih (i + 1) (acc ++ L[i]) (by omega) (by omega) (by rw [List.length_append]; omega)
    rw [List.append_assoc] at next
    refine Ev.step (fun k => ?_) next
    clear next
    simp only [slices_Concat_byte_byte.l1]
    rw [if_pos (by omega), if_pos (by omega), if_pos (by omega), rdL_nat L i hlt, if_pos (by omega), wrap_succ (by omega)]
theorem concat_loop0 (L : List (List Int)) (hn : L.length < 140737488355328) (hb : L.flatten.length < 140737488355328) (d : Nat) : ∀ (i n : Nat), L.length - i = d → i ≤ L.length → n + (L.drop i).flatten.length < 140737488355328 →
    Ev (fun k => slices_Concat_byte_byte.l0 k L (n : Int) L (L.length : Int) (i : Int)) L.flatten := by
  induction d with
  | zero =>
    intro i n hd hi hn'
    refine Ev.step (f := fun k => slices_Concat_byte_byte.l1 k [] L (L.length : Int) 0) (fun k => ?_) ?_
    · simp only [slices_Concat_byte_byte.l0]
      unfold slices_Grow_byte_byte.f
      rw [if_neg (by omega), if_pos (by omega), Option.bind_some]
    · have := concat_loop1 L hn L.length 0 [] (by omega) (by omega) (by rw [List.drop_zero, List.length_nil]; omega)
      rw [List.drop_zero, List.nil_append] at this
      exact this
  | succ d ih =>
    intro i n hd hi hn'
    have hlt : i < L.length := by omega
    rw [List.drop_eq_getElem_cons hlt, List.flatten_cons, List.length_append] at hn'
    have next := ih (i + 1) (n + (L[i]).length) (by omega) (by omega) (by omega)
    refine Ev.step (fun k => ?_) next
    clear next
    simp only [slices_Concat_byte_byte.l0]
    rw [if_pos (by omega), if_pos (by omega), if_pos (by omega), rdL_nat L i hlt, wrap_in (n := (n : Int) + ((L[i]).length : Int)) (by omega) (by omega), if_neg (by omega), wrap_succ (by omega)]
    rfl
theorem concat_f {L : List (List Int)} (hn : L.length < 140737488355328) (hb : L.flatten.length < 140737488355328) : Ev (fun k => slices_Concat_byte_byte.f k L) L.flatten := by
  unfold slices_Concat_byte_byte.f
  exact concat_loop0 L hn hb L.length 0 0 (by omega) (by omega) (by rw [List.drop_zero]; omega)

end Go.Proofs.Ytmkojpkajlpokaa.Sw

/- What the functions that lay and take frames compute. -/
set_option linter.unusedVariables false
set_option linter.unusedSimpArgs false
namespace Go.Proofs.Ytmkojpkajlpokaa.Sw
open Go.RowKit Go.Proofs.Ytmkojpkajlpokaa.Px Go.Proofs.YtmkojpkajlpokaaW.PrintWords Go.Proofs.YtmkojpkajlpokaaW.PrintLast Go.Proofs.YtmkojpkajlpokaaW.PrintMore

/-! ### frames -/
/-- A frame: how long, the sum, the bytes. -/
def frame (b : List Int) : List Int := grp b.length ++ (be 4 (crc (grp b.length ++ b)) ++ b)
theorem frame_byts {b : List Int} (hb : Byts b) : Byts (frame b) := (grp_byts _).append ((be_byts _ _).append hb)
theorem frame_length (b : List Int) : (frame b).length = (grp b.length).length + 4 + b.length := by
  unfold frame
  rw [List.length_append, List.length_append, be_length]
  omega
theorem putFrame_f {p b : List Int} (hb : Byts b) (hs : p.length + b.length + 31 < 140737488355328) : Ev (fun k => code_PutFrame.f k p b) (p ++ frame b) := by
  unfold code_PutFrame.f
  have h9 := grp9 (n := b.length) (by omega)
  have hn := putNum_f [] (b.length : Int) (by simp)
  rw [cap_of (by omega), List.nil_append] at hn
  refine Ev.bind hn ?_
  refine Ev.bindc (laid_f (by omega)) ?_
  refine Ev.bind (crc_f ((grp_byts _).append hb) (by rw [List.length_append]; omega)) ?_
  have hc := crc_range (grp b.length ++ b)
  rw [show IntKind.u64.wrap (crc (grp b.length ++ b)) = crc (grp b.length ++ b) by simp [IntKind.wrap, IntKind.bits, IntKind.signed]; omega]
  refine Ev.bind (high_f 4 _ (by omega)) ?_
  refine Ev.bind (concat_f (by simp) ?_) (Ev.const ?_)
  · simp only [List.flatten_cons, List.flatten_nil, List.length_append, List.length_nil, be_length]
    omega
  · simp [frame]
theorem be4 (t : Int) : be 4 t = [(t / 16777216) % 256, (t / 65536) % 256, (t / 256) % 256, t % 256] := by
  simp only [be, List.nil_append, List.cons_append]
  rw [show t / 256 / 256 / 256 = t / 16777216 by omega, show t / 256 / 256 = t / 65536 by omega]
theorem refPutFrame_f {p b : List Int} (hb : Byts b) (hs : p.length + b.length + 31 < 140737488355328) : Ev (fun k => sawyerref02_PutFrame.f k p b) (p ++ frame b) := by
  unfold sawyerref02_PutFrame.f
  have h9 := grp9 (n := b.length) (by omega)
  have hn := refNum_f [] (b.length : Int) (by simp)
  rw [cap_of (by omega), List.nil_append] at hn
  refine Ev.bind hn ?_
  refine Ev.pos (by simp; omega) (Ev.bindc rfl ?_)
  refine Ev.pos (by simp; omega) (Ev.bindc rfl ?_)
  refine Ev.pos (by omega) ?_
  refine Ev.bind (refCrc_f ((grp_byts _).append hb) (by rw [List.length_append]; omega)) (Ev.const ?_)
  rw [← be4, Option.bind_some, if_pos (by simp [be_length]; omega), Option.bind_some, if_pos (by simp [be_length]; omega)]
  simp [frame]
/-- The frame at a row's beginning, and what is behind it. -/
def takeR (l : List Int) (a : Int) : Option (List Int × List Int) :=
  (takeN l).bind fun p => if (p.1 : Int) > a ∨ p.2.length < 4 + p.1 then none
    else if val (p.2.take 4) 0 = crc (grp p.1 ++ (p.2.drop 4).take p.1) then some ((p.2.drop 4).take p.1, p.2.drop (4 + p.1)) else none
def triR : Option (List Int × List Int) → List Int × List Int × Int
  | some (t, r) => (t, r, 0)
  | none => ([], [], 2)
theorem takeR_of {l : List Int} (hl : Byts l) {n : Nat} {r : List Int} (a : Int) (h : takeN l = some (n, r)) : takeR l a = if (n : Int) > a ∨ r.length < 4 + n then none
    else if val (r.take 4) 0 = crc (grp n ++ (r.drop 4).take n) then some ((r.drop 4).take n, r.drop (4 + n)) else none := by
  unfold takeR
  rw [h, Option.bind_some]
theorem cut4 (r : List Int) (n : Nat) : (r.take (4 + n)).drop 4 = (r.drop 4).take n := by
  rw [List.drop_take]
  congr 1
  omega
theorem frame_j0 {n : Nat} {r : List Int} (hr : Byts r) (hn : 4 + n ≤ r.length) (hb : (grp n ++ r).length < 140737488355328) :
    Ev (fun k => code_TakeFrame.j0 k (grp n ++ r) (n : Int) r false) (triR (if val (r.take 4) 0 = crc (grp n ++ (r.drop 4).take n) then some ((r.drop 4).take n, r.drop (4 + n)) else none)) := by
  rw [List.length_append] at hb
  have e1 : wrap64 (((grp n ++ r).length : Int) - (r.length : Int)) = ((grp n).length : Int) := by
    rw [List.length_append, wrap_in (by omega) (by omega)]; omega
  have e2 : wrap64 (4 + (n : Int)) = ((4 + n : Nat) : Int) := by rw [wrap_in (by omega) (by omega)]; rfl
  refine Ev.step (f := fun k => (code_number.f k (r.take 4)).bind fun t669 => ((code_laid_byte.f (grp n) ((r.drop 4).take n)).bind fun t670 => ((code_Crc.f k t670).bind fun t673 => (if t669 = (IntKind.u64.wrap (t673)) then ((slices_Clone_byte_byte.f ((r.drop 4).take n)).bind fun t674 => (some (t674, r.drop (4 + n), 0))) else (some (([] : List Int), ([] : List Int), 2)))))) (fun k => ?_) ?_
  · simp only [code_TakeFrame.j0]
    rw [if_neg (by simp), e1, e2]
    simp only [if_pos (show (0 : Int) ≤ ((grp n).length : Int) by omega), if_pos (show ((grp n).length : Int) ≤ ((grp n ++ r).length : Int) by rw [List.length_append]; omega), if_pos (show (4 : Int) ≤ ((4 + n : Nat) : Int) by omega), if_pos (show ((4 + n : Nat) : Int) ≤ (r.length : Int) by omega), if_pos (show (4 : Int) ≤ (r.length : Int) by omega), if_pos (show (0 : Int) ≤ ((4 + n : Nat) : Int) by omega), Option.bind_some, Int.toNat_natCast, List.take_left, cut4]
  · have hc := crc_range (grp n ++ (r.drop 4).take n)
    have hl : ((r.drop 4).take n).length ≤ r.length := by rw [List.length_take, List.length_drop]; omega
    refine Ev.bind (number_f (hr.take 4) (by rw [List.length_take]; omega)) ?_
    refine Ev.bindc (laid_f (by omega)) ?_
    refine Ev.bind (crc_f ((grp_byts n).append ((hr.drop 4).take n)) (by rw [List.length_append]; omega)) ?_
    rw [show IntKind.u64.wrap (crc (grp n ++ (r.drop 4).take n)) = crc (grp n ++ (r.drop 4).take n) by simp [IntKind.wrap, IntKind.bits, IntKind.signed]; omega]
    by_cases q : val (r.take 4) 0 = crc (grp n ++ (r.drop 4).take n)
    · refine Ev.pos q (Ev.const ?_)
      unfold slices_Clone_byte_byte.f
      rw [if_pos q, if_pos (by omega), Option.bind_some]
      rfl
    · refine Ev.neg q (Ev.const ?_)
      rw [if_neg q]
      rfl
theorem takeFrame_f {l : List Int} (a : Int) (hl : Byts l) (hb : l.length < 140737488355328) : Ev (fun k => code_TakeFrame.f k l a) (triR (takeR l a)) := by
  unfold code_TakeFrame.f
  refine Ev.bind (takeNum_f hl hb) ?_
  have bad : ∀ (x : Int) (y : List Int), Ev (fun k => code_TakeFrame.j0 k l x y true) ([], [], 2) := fun x y => by
    refine Ev.step (f := fun _ => some ([], [], 2)) (fun k => ?_) (Ev.const rfl)
    simp only [code_TakeFrame.j0]
    rw [if_pos trivial]
  cases h : takeN l with
  | none =>
    have e : takeR l a = none := by unfold takeR; rw [h]; rfl
    rw [e]
    exact Ev.neg (by simp [tri]) (bad _ _)
  | some p =>
    obtain ⟨n, r⟩ := p
    rw [takeR_of hl a h]
    obtain ⟨hE, hn⟩ := takeN_back hl h
    have hr : Byts r := by rw [hE] at hl; exact hl.right
    have hb' : (grp n ++ r).length < 140737488355328 := by rw [← hE]; exact hb
    have hb2 := hb'
    rw [List.length_append] at hb2
    have e3 : wrap64 ((r.length : Int) - 4) = (r.length : Int) - 4 := wrap_in (by omega) (by omega)
    refine Ev.pos (show (tri (some (n, r))).2.2 = 0 from rfl) ?_
    by_cases c1 : (n : Int) > a
    · rw [if_pos (.inl c1)]
      exact Ev.pos c1 (bad _ _)
    · refine Ev.neg c1 ?_
      show Ev (fun k => code_TakeFrame.j0 k l (n : Int) r (decide ((n : Int) > wrap64 ((r.length : Int) - 4)))) _
      rw [e3]
      by_cases c2 : r.length < 4 + n
      · rw [if_pos (.inr c2), decide_eq_true (by omega)]
        exact bad _ _
      · rw [if_neg (by omega), decide_eq_false (by omega), hE]
        exact frame_j0 hr (by omega) hb'
theorem str_iff {a b : List Int} (ha : Byts a) (hb : Byts b) : (strOfNums a).toList = (strOfNums b).toList ↔ a = b := by
  have := str_eq ha hb
  by_cases c : a = b
  · subst c; simp
  · rw [decide_eq_false c, beq_eq_false_iff_ne] at this
    exact ⟨fun h => absurd h this, fun h => absurd h c⟩
theorem sum_iff {r : List Int} (hr : Byts r) (h4 : 4 ≤ r.length) (c : Int) (h0 : 0 ≤ c) (h1 : c < 4294967296) : be 4 c = r.take 4 ↔ val (r.take 4) 0 = c := by
  have hL : (r.take 4).length = 4 := by rw [List.length_take]; omega
  constructor
  · intro h
    rw [← h, val_be 4 c 0 h0 (by omega)]
    omega
  · intro h
    have := (be_val _ (hr.take 4) 0).1
    rw [hL, h] at this
    exact this
theorem refFrame_j0 {n : Nat} {r : List Int} (hr : Byts r) (hn : 4 + n ≤ r.length) (hb : (grp n ++ r).length < 140737488355328 - 31) :
    Ev (fun k => sawyerref02_TakeFrame.j0 k (grp n ++ r) (n : Int) r false) (triR (if val (r.take 4) 0 = crc (grp n ++ (r.drop 4).take n) then some ((r.drop 4).take n, r.drop (4 + n)) else none)) := by
  rw [List.length_append] at hb
  have hg := grp_pos n
  have e2 : wrap64 (4 + (n : Int)) = ((4 + n : Nat) : Int) := by rw [wrap_in (by omega) (by omega)]; rfl
  have hlen : ((r.drop 4).take n).length = n := by rw [List.length_take, List.length_drop]; omega
  refine Ev.step (f := fun k => (sawyerref02_PutFrame.f k ([] : List Int) ((r.drop 4).take n)).bind fun t712 => (if (t712.length : Int) ≤ ((grp n ++ r).length : Int) then (if (strOfNums t712).toList = (strOfNums ((grp n ++ r).take t712.length)).toList then (some ((r.drop 4).take n, r.drop (4 + n), 0)) else (some (([] : List Int), ([] : List Int), 2))) else none)) (fun k => ?_) ?_
  · simp only [sawyerref02_TakeFrame.j0]
    rw [if_neg (by simp), e2]
    simp only [if_pos (show (4 : Int) ≤ ((4 + n : Nat) : Int) by omega), if_pos (show ((4 + n : Nat) : Int) ≤ (r.length : Int) by omega), if_pos (show (0 : Int) ≤ ((4 + n : Nat) : Int) by omega), Option.bind_some, Int.toNat_natCast, cut4, if_pos (Int.natCast_nonneg _)]
  · have hc := crc_range (grp n ++ (r.drop 4).take n)
    have hy := (hr.drop 4).take n
    have hp := refPutFrame_f (p := []) hy (by rw [hlen, List.length_nil]; omega)
    rw [List.nil_append] at hp
    refine Ev.bind hp ?_
    have hfl := frame_length ((r.drop 4).take n)
    rw [hlen] at hfl
    refine Ev.pos (by rw [hfl, List.length_append]; omega) ?_
    have e3 : (grp n ++ r).take (frame ((r.drop 4).take n)).length = grp n ++ (r.take 4 ++ (r.drop 4).take n) := by
      rw [hfl, Nat.add_assoc, List.take_length_add_append, List.take_add]
    have e4 : frame ((r.drop 4).take n) = grp n ++ (be 4 (crc (grp n ++ (r.drop 4).take n)) ++ (r.drop 4).take n) := by
      unfold frame
      rw [hlen]
    rw [e3]
    have key : (strOfNums (frame ((r.drop 4).take n))).toList = (strOfNums (grp n ++ (r.take 4 ++ (r.drop 4).take n))).toList ↔ val (r.take 4) 0 = crc (grp n ++ (r.drop 4).take n) := by
      rw [str_iff (frame_byts hy) ((grp_byts n).append ((hr.take 4).append hy)), e4, List.append_cancel_left_eq, List.append_cancel_right_eq, sum_iff hr (by omega) _ hc.1 hc.2]
    by_cases q : val (r.take 4) 0 = crc (grp n ++ (r.drop 4).take n)
    · refine Ev.pos (key.2 q) (Ev.const ?_)
      rw [if_pos q]
      rfl
    · refine Ev.neg (fun h => q (key.1 h)) (Ev.const ?_)
      rw [if_neg q]
      rfl
theorem refTakeFrame_f {l : List Int} (a : Int) (hl : Byts l) (hb : l.length < 140737488355328 - 31) : Ev (fun k => sawyerref02_TakeFrame.f k l a) (triR (takeR l a)) := by
  unfold sawyerref02_TakeFrame.f
  refine Ev.bind (refTake_f hl (by omega)) ?_
  have bad : ∀ (x : Int) (y : List Int), Ev (fun k => sawyerref02_TakeFrame.j0 k l x y true) ([], [], 2) := fun x y => by
    refine Ev.step (f := fun _ => some ([], [], 2)) (fun k => ?_) (Ev.const rfl)
    simp only [sawyerref02_TakeFrame.j0]
    rw [if_pos trivial]
  cases h : takeN l with
  | none =>
    have e : takeR l a = none := by unfold takeR; rw [h]; rfl
    rw [e]
    exact Ev.neg (by simp [tri]) (bad _ _)
  | some p =>
    obtain ⟨n, r⟩ := p
    rw [takeR_of hl a h]
    obtain ⟨hE, hn⟩ := takeN_back hl h
    have hr : Byts r := by rw [hE] at hl; exact hl.right
    have hb' : (grp n ++ r).length < 140737488355328 - 31 := by rw [← hE]; exact hb
    have hb2 := hb'
    rw [List.length_append] at hb2
    have e3 : wrap64 ((r.length : Int) - 4) = (r.length : Int) - 4 := wrap_in (by omega) (by omega)
    refine Ev.pos (show (tri (some (n, r))).2.2 = 0 from rfl) ?_
    by_cases c1 : (n : Int) > a
    · rw [if_pos (.inl c1)]
      exact Ev.pos c1 (bad _ _)
    · refine Ev.neg c1 ?_
      show Ev (fun k => sawyerref02_TakeFrame.j0 k l (n : Int) r (decide ((n : Int) > wrap64 ((r.length : Int) - 4)))) _
      rw [e3]
      by_cases c2 : r.length < 4 + n
      · rw [if_pos (.inr c2), decide_eq_true (by omega)]
        exact bad _ _
      · rw [if_neg (by omega), decide_eq_false (by omega), hE]
        exact refFrame_j0 hr (by omega) (by omega)
/-- What begins with a frame. -/
theorem takeR_frame {b : List Int} (r : List Int) {a : Int} (hb : Byts b) (hr : Byts r) (hs : b.length ≤ 4611686018427387903) (ha : (b.length : Int) ≤ a) : takeR (frame b ++ r) a = some (b, r) := by
  have e : frame b ++ r = grp b.length ++ (be 4 (crc (grp b.length ++ b)) ++ (b ++ r)) := by unfold frame; simp
  have hc := crc_range (grp b.length ++ b)
  have h4 := be_length 4 (crc (grp b.length ++ b))
  have hall : Byts (frame b ++ r) := (frame_byts hb).append hr
  rw [takeR_of hall a (by rw [e]; exact takeN_grp _ hs)]
  have t4 : (be 4 (crc (grp b.length ++ b)) ++ (b ++ r)).take 4 = be 4 (crc (grp b.length ++ b)) := List.take_left' h4
  have d4 : (be 4 (crc (grp b.length ++ b)) ++ (b ++ r)).drop 4 = b ++ r := List.drop_left' h4
  rw [if_neg (by rw [List.length_append, List.length_append, h4]; omega), ← List.drop_drop, d4, t4, List.take_left, List.drop_left, val_be 4 _ 0 hc.1 (by omega), if_pos (by omega)]
/-- A frame and what is behind it is all there was. -/
theorem takeR_back {l b r : List Int} {a : Int} (hl : Byts l) (h : takeR l a = some (b, r)) : l = frame b ++ r ∧ (b.length : Int) ≤ a ∧ b.length ≤ 4611686018427387903 := by
  cases hn : takeN l with
  | none => unfold takeR at h; rw [hn] at h; simp at h
  | some p =>
    obtain ⟨n, s⟩ := p
    rw [takeR_of hl a hn] at h
    obtain ⟨hE, hmax⟩ := takeN_back hl hn
    have hs : Byts s := by rw [hE] at hl; exact hl.right
    split at h
    · cases h
    · rename_i c
      split at h
      · rename_i q
        simp only [Option.some.injEq, Prod.mk.injEq] at h
        obtain ⟨rfl, rfl⟩ := h
        have hlen : ((s.drop 4).take n).length = n := by rw [List.length_take, List.length_drop]; omega
        have hc := crc_range (grp n ++ (s.drop 4).take n)
        have hsum := (sum_iff hs (by omega) _ hc.1 hc.2).2 q
        refine ⟨?_, by rw [hlen]; omega, by rw [hlen]; exact hmax⟩
        unfold frame
        rw [hlen, hsum, hE, List.append_assoc, List.append_assoc]
        congr 1
        rw [← List.drop_drop, List.take_append_drop, List.take_append_drop]
      · cases h
end Go.Proofs.Ytmkojpkajlpokaa.Sw

/- The pure statement of CodeCut: of a frame, what is cut off, or turned in a bit, is none. No condition. -/
set_option linter.unusedVariables false
set_option linter.unusedSimpArgs false
namespace Go.Proofs.Ytmkojpkajlpokaa.Pure
open Go.RowKit Go.Proofs.Ytmkojpkajlpokaa.Px Go.Proofs.Ytmkojpkajlpokaa.Sw Go.Proofs.YtmkojpkajlpokaaW.PrintWords Go.Proofs.YtmkojpkajlpokaaW.PrintLast
theorem and_mask (x : Int) (j : Nat) (hj : j ≤ 16) : 0 ≤ Go.bits .and .i64 x ((2 ^ j - 1 : Nat) : Int) ∧ Go.bits .and .i64 x ((2 ^ j - 1 : Nat) : Int) < 2 ^ j := by
  have h2 : (2 : Nat) ^ j ≤ 2 ^ 16 := Nat.pow_le_pow_right (by omega) hj
  have h0 : 0 < (2 : Nat) ^ j := Nat.pow_pos (by omega)
  have e : ∃ n : Nat, n < 2 ^ j ∧ Go.bits .and .i64 x ((2 ^ j - 1 : Nat) : Int) = (n : Int) := by
    refine ⟨((BitVec.ofInt 64 x) &&& (BitVec.ofInt 64 ((2 ^ j - 1 : Nat) : Int))).toNat, ?_, ?_⟩
    · rw [BitVec.ofInt_natCast, BitVec.toNat_and, BitVec.toNat_ofNat, Nat.mod_eq_of_lt (by omega), Nat.and_two_pow_sub_one_eq_mod]
      exact Nat.mod_lt _ h0
    · have hlt : ((BitVec.ofInt 64 x) &&& (BitVec.ofInt 64 ((2 ^ j - 1 : Nat) : Int))).toNat < 2 ^ j := by
        rw [BitVec.ofInt_natCast, BitVec.toNat_and, BitVec.toNat_ofNat, Nat.mod_eq_of_lt (by omega), Nat.and_two_pow_sub_one_eq_mod]
        exact Nat.mod_lt _ h0
      show IntKind.i64.wrap ((((BitVec.ofInt 64 x) &&& (BitVec.ofInt 64 ((2 ^ j - 1 : Nat) : Int))).toNat : Nat) : Int) = _
      revert hlt
      generalize ((BitVec.ofInt 64 x) &&& (BitVec.ofInt 64 ((2 ^ j - 1 : Nat) : Int))).toNat = n
      intro hlt
      simp only [IntKind.wrap, IntKind.bits, IntKind.signed]
      simp
      omega
  obtain ⟨n, hn, e⟩ := e
  rw [e]
  have : ((2 ^ j : Nat) : Int) = (2 : Int) ^ j := by simp
  omega
theorem turn_bit (x s : Int) (h0 : 0 ≤ x) (h1 : x < 256) (s0 : 0 ≤ s) (s1 : s < 8) : Go.bits .xor .u8 x (shl .u8 1 s) ≠ x ∧ 0 ≤ Go.bits .xor .u8 x (shl .u8 1 s) ∧ Go.bits .xor .u8 x (shl .u8 1 s) < 256 := by
  have h : ∀ n : Fin 256, ∀ m : Fin 8, Go.bits .xor .u8 (n.val : Int) (shl .u8 1 (m.val : Int)) ≠ (n.val : Int) ∧ 0 ≤ Go.bits .xor .u8 (n.val : Int) (shl .u8 1 (m.val : Int)) ∧ Go.bits .xor .u8 (n.val : Int) (shl .u8 1 (m.val : Int)) < 256 := by decide +kernel
  have := h ⟨x.toNat, by omega⟩ ⟨s.toNat, by omega⟩
  simpa [Int.toNat_of_nonneg h0, Int.toNat_of_nonneg s0] using this
theorem grp_split {n m : Nat} {x y : List Int} (hn : n ≤ 4611686018427387903) (hm : m ≤ 4611686018427387903) (h : grp n ++ x = grp m ++ y) : n = m ∧ x = y := by
  have h1 := takeN_grp x hn
  rw [h, takeN_grp y hm] at h1
  simp only [Option.some.injEq, Prod.mk.injEq] at h1
  exact ⟨h1.1.symm, h1.2.symm⟩
/-- What is cut off a frame is none. -/
theorem cut_none {l : List Int} (hl : Byts l) (hb : l.length ≤ 1000) (m : Nat) (hm : m < (frame l).length) (a : Int) : takeR ((frame l).take m) a = none := by
  cases h : takeR ((frame l).take m) a with
  | none => rfl
  | some p =>
    exfalso
    obtain ⟨b, r⟩ := p
    obtain ⟨hE, h1, h2⟩ := takeR_back ((frame_byts hl).take m) h
    have hw : frame l = frame b ++ (r ++ (frame l).drop m) := by
      conv => lhs; rw [← List.take_append_drop m (frame l), hE, List.append_assoc]
    have hlen := congrArg List.length hE
    rw [List.length_take, List.length_append, frame_length b] at hlen
    have hfl := frame_length l
    have hw2 := hw
    unfold frame at hw2
    rw [List.append_assoc] at hw2
    obtain ⟨e, -⟩ := grp_split (by omega) h2 hw2
    rw [e] at hfl
    omega
theorem be4_inj {a b : Int} (ha : 0 ≤ a ∧ a < 4294967296) (hb : 0 ≤ b ∧ b < 4294967296) (h : be 4 a = be 4 b) : a = b := be_inj 4 ha.1 (by omega) hb.1 (by omega) h
/-- A frame with a byte turned behind its length is none. -/
theorem turn_none {l : List Int} (hl : Byts l) (hb : l.length ≤ 1000) (i : Nat) (v a : Int) (hi : i < 4 + l.length) (v0 : 0 ≤ v) (v1 : v < 256)
    (hv : ∀ x, (frame l)[(grp l.length).length + i]? = some x → v ≠ x) : takeR ((frame l).set ((grp l.length).length + i) v) a = none := by
  cases h : takeR ((frame l).set ((grp l.length).length + i) v) a with
  | none => rfl
  | some p =>
    exfalso
    obtain ⟨b, r⟩ := p
    obtain ⟨hE, h1, h2⟩ := takeR_back ((frame_byts hl).set _ v0 v1) h
    have hfl := frame_length l
    have hfb := frame_length b
    have hlen := congrArg List.length hE
    rw [List.length_set, List.length_append] at hlen
    have c4 := be_length 4 (crc (grp l.length ++ l))
    have c4b := be_length 4 (crc (grp b.length ++ b))
    have es : (frame l).set ((grp l.length).length + i) v = grp l.length ++ (be 4 (crc (grp l.length ++ l)) ++ l).set i v := by
      unfold frame
      rw [List.set_append_right _ _ (by omega), Nat.add_sub_cancel_left]
    rw [es] at hE
    have hE2 := hE
    unfold frame at hE2
    rw [List.append_assoc] at hE2
    obtain ⟨e, e2⟩ := grp_split (by omega) h2 hE2
    rw [e] at hfl
    have hr : r = [] := List.eq_nil_of_length_eq_zero (by omega)
    rw [hr, List.append_nil, ← e] at e2
    have hx := crc_range (grp l.length ++ l)
    have hy := crc_range (grp l.length ++ b)
    rw [← e] at c4b
    have hv' : ∀ x, (be 4 (crc (grp l.length ++ l)) ++ l)[i]? = some x → v ≠ x := by
      intro x hx
      refine hv x ?_
      unfold frame
      rw [List.getElem?_append_right (by omega), Nat.add_sub_cancel_left]
      exact hx
    by_cases q : i < 4
    · rw [List.set_append_left _ _ (by omega)] at e2
      obtain ⟨e3, e4⟩ := List.append_inj e2 (by rw [List.length_set, c4, c4b])
      rw [← e4] at e3
      have hg : (be 4 (crc (grp l.length ++ l)))[i]? = some v := by
        have : ((be 4 (crc (grp l.length ++ l))).set i v)[i]? = some v := List.getElem?_set_self (by omega)
        rw [e3] at this
        exact this
      exact hv' v (by rw [List.getElem?_append_left (by omega)]; exact hg) rfl
    · rw [List.set_append_right _ _ (by omega), c4] at e2
      obtain ⟨e3, e4⟩ := List.append_inj e2 (by rw [c4, c4b])
      have hcrc := be4_inj hx hy e3
      have hj : i - 4 < l.length := by omega
      have d1 : l = l.take (i - 4) ++ l[i - 4] :: l.drop (i - 4 + 1) := by
        rw [← List.drop_eq_getElem_cons hj, List.take_append_drop]
      have d2 : b = l.take (i - 4) ++ v :: l.drop (i - 4 + 1) := by
        rw [← e4, List.set_eq_take_append_cons_drop, if_pos hj]
      have hbyte := hl (l[i - 4]) (List.getElem_mem _)
      have k1 : grp l.length ++ l = (grp l.length ++ l.take (i - 4)) ++ l[i - 4] :: l.drop (i - 4 + 1) := by
        rw [List.append_assoc, ← d1]
      have k2 : grp l.length ++ b = (grp l.length ++ l.take (i - 4)) ++ v :: l.drop (i - 4 + 1) := by
        rw [List.append_assoc, ← d2]
      rw [k1, k2] at hcrc
      have := crc_byte _ _ hbyte ⟨v0, v1⟩ hcrc
      refine hv' (l[i - 4]) ?_ this.symm
      rw [List.getElem?_append_right (by omega), c4, List.getElem?_eq_getElem hj]
theorem tm {A n : Int} (hA : 0 ≤ A) (hn : 0 < n) : ∃ x : Nat, Int.tmod A n = (x : Int) ∧ (x : Int) < n := by
  have h1 := Int.emod_nonneg A (b := n) (by omega)
  have h2 := Int.emod_lt_of_pos A hn
  refine ⟨(A % n).toNat, ?_, ?_⟩
  · rw [Int.tmod_eq_emod_of_nonneg hA]; omega
  · omega
theorem w1 {F g n : Nat} (h : F = g + 4 + n) (hb : F < 140737488355328) : wrap64 (wrap64 ((F : Int) - (n : Int)) - 4) = (g : Int) := by
  rw [wrap_in (n := (F : Int) - (n : Int)) (by omega) (by omega), wrap_in (by omega) (by omega)]; omega
theorem w2 {F g n : Nat} (h : F = g + 4 + n) (hb : F < 140737488355328) : wrap64 ((F : Int) - (g : Int)) = ((4 + n : Nat) : Int) := by
  rw [wrap_in (by omega) (by omega)]; omega
theorem w3 {g y : Nat} (hb : g + y < 140737488355328) : wrap64 ((g : Int) + (y : Int)) = ((g + y : Nat) : Int) := by
  rw [wrap_in (by omega) (by omega)]; omega
theorem cut_core {l : List Int} (hl : Byts l) (hb : l.length ≤ 1000) (A B : Int) (rA : 0 ≤ A) (rB : 0 ≤ B) (rB2 : B < 8) (F : List Int) (hF : F = frame l) :
    Ev (fun k => (if (F.length : Int) = 0 then (none) else (if 0 ≤ (Int.tmod A (F.length : Int)) then (if (Int.tmod A (F.length : Int)) ≤ (F.length : Int) then ((code_TakeFrame.f k (F.take ((Int.tmod A (F.length : Int)) : Int).toNat) (l.length : Int)).bind fun bt770 => (if (wrap64 ((wrap64 ((F.length : Int) - (l.length : Int))) - 4)) < 1 then (some false) else (if (wrap64 ((F.length : Int) - (wrap64 ((wrap64 ((F.length : Int) - (l.length : Int))) - 4)))) = 0 then (none) else (if 0 ≤ (wrap64 ((wrap64 ((wrap64 ((F.length : Int) - (l.length : Int))) - 4)) + (Int.tmod A (wrap64 ((F.length : Int) - (wrap64 ((wrap64 ((F.length : Int) - (l.length : Int))) - 4))))))) then (if (wrap64 ((wrap64 ((wrap64 ((F.length : Int) - (l.length : Int))) - 4)) + (Int.tmod A (wrap64 ((F.length : Int) - (wrap64 ((wrap64 ((F.length : Int) - (l.length : Int))) - 4))))))) < (F.length : Int) then (if 0 ≤ B then ((code_TakeFrame.f k (F.set ((wrap64 ((wrap64 ((wrap64 ((F.length : Int) - (l.length : Int))) - 4)) + (Int.tmod A (wrap64 ((F.length : Int) - (wrap64 ((wrap64 ((F.length : Int) - (l.length : Int))) - 4))))))) : Int).toNat (Go.bits .xor .u8 (rd F (wrap64 ((wrap64 ((wrap64 ((F.length : Int) - (l.length : Int))) - 4)) + (Int.tmod A (wrap64 ((F.length : Int) - (wrap64 ((wrap64 ((F.length : Int) - (l.length : Int))) - 4)))))))) (shl .u8 1 B))) (l.length : Int)).bind fun bt779 => (if bt770.2.2 = 2 then (some (bt779.2.2 == 2)) else (some false))) else (none)) else (none)) else (none))))) else (none)) else (none)))) true := by
  have hfl := frame_length l
  have hg := grp_pos l.length
  have hg9 := grp9 (n := l.length) (by omega)
  rw [← hF] at hfl
  have hFb : F.length < 140737488355328 := by omega
  have f0 : ¬ (F.length : Int) = 0 := by omega
  have f1 : (0 : Int) < (F.length : Int) := by omega
  have f2 : ¬ ((grp l.length).length : Int) < 1 := by omega
  have f3 : ¬ ((4 + l.length : Nat) : Int) = 0 := by omega
  have f4 : (0 : Int) < ((4 + l.length : Nat) : Int) := by omega
  obtain ⟨x, hx, hx2⟩ := tm rA f1
  obtain ⟨y, hy, hy2⟩ := tm rA f4
  have p1 : (0 : Int) ≤ (x : Int) := Int.natCast_nonneg x
  have p2 : (x : Int) ≤ (F.length : Int) := Int.le_of_lt hx2
  have p3 : (0 : Int) ≤ (((grp l.length).length + y : Nat) : Int) := Int.natCast_nonneg _
  have hi : (grp l.length).length + y < F.length := by clear hx hy; omega
  have p4 : (((grp l.length).length + y : Nat) : Int) < (F.length : Int) := Int.ofNat_lt.2 hi
  have hrd := rd_nat F _ hi
  have hFy : Byts F := by rw [hF]; exact frame_byts hl
  have hby := hFy _ (List.getElem_mem hi)
  have hv := turn_bit _ B hby.1 hby.2 rB rB2
  have t1 := takeFrame_f (l.length : Int) (hFy.take x) (by rw [List.length_take]; exact Nat.lt_of_le_of_lt (Nat.min_le_right _ _) hFb)
  have n1 := cut_none hl hb x (by rw [← hF]; exact Int.ofNat_lt.1 hx2) (l.length : Int)
  rw [← hF] at n1
  rw [n1] at t1
  have t2 := takeFrame_f (l.length : Int) (hFy.set ((grp l.length).length + y) hv.2.1 hv.2.2) (by rw [List.length_set]; exact hFb)
  have n2 := turn_none hl hb y (Go.bits .xor .u8 (F[(grp l.length).length + y]) (shl .u8 1 B)) (l.length : Int) (Int.ofNat_lt.1 hy2) hv.2.1 hv.2.2 (fun z hz => by
    rw [← hF, List.getElem?_eq_getElem hi, Option.some.injEq] at hz
    rw [← hz]; exact hv.1)
  rw [← hF] at n2
  rw [n2] at t2
  rw [w1 hfl hFb, w2 hfl hFb, hx, hy, w3 (Nat.lt_trans hi hFb), hrd, Int.toNat_natCast, Int.toNat_natCast]
  refine Ev.neg f0 (Ev.pos p1 (Ev.pos p2 (Ev.bind t1 (Ev.neg f2 (Ev.neg f3 (Ev.pos p3 (Ev.pos p4 (Ev.pos rB (Ev.bind t2 (Ev.pos rfl (Ev.const rfl)))))))))))
theorem CodeCut : sawyerlaw02_CodeCut.Pure := by
  intro l a s _ h0 w0 wa ws
  have hl := byts_of_wf w0
  have hp := putFrame_f (p := []) hl (by rw [List.length_nil]; omega)
  rw [List.nil_append] at hp
  have hfl := frame_length l
  have hg := grp_pos l.length
  refine Ev.rounds (r := true) ?_
  unfold sawyerlaw02_CodeCut.f
  refine Ev.bind hp (Ev.neg (by omega) ?_)
  by_cases c : (l.length : Int) > 1000
  · rw [decide_eq_true c]
    refine Ev.step (f := fun _ => some true) (fun k => ?_) (Ev.const rfl)
    simp only [sawyerlaw02_CodeCut.j0]
    rw [if_pos trivial, decide_eq_true c]
  · rw [decide_eq_false c]
    have ma := and_mask a 16 (by omega)
    have ms := and_mask s 3 (by omega)
    rw [show ((2 ^ 16 - 1 : Nat) : Int) = 65535 from rfl, show (2 : Int) ^ 16 = 65536 from rfl] at ma
    rw [show ((2 ^ 3 - 1 : Nat) : Int) = 7 from rfl, show (2 : Int) ^ 3 = 8 from rfl] at ms
    have core := cut_core hl (by clear ma ms; omega) _ _ ma.1 ms.1 ms.2 (frame l) rfl
    refine Ev.step (fun k => ?_) core
    simp only [sawyerlaw02_CodeCut.j0]
    rw [if_neg (by simp)]
end Go.Proofs.Ytmkojpkajlpokaa.Pure
