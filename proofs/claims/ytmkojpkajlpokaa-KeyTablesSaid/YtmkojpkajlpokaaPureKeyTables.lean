/- What the statement KeyTables needs: our texts Core, SpecA, SpecB, SpecU, SpecFix, SpecCat, SpecMake, SpecKey, PureKeyTables as one. -/
import Derived.Test.YtmkojpkajlpokaaPx2
import Derived.Test.YtmkojpkajlpokaaPx22
import Derived.Test.YtmkojpkajlpokaaPx24
import Derived.Test.YtmkojpkajlpokaaPx62
import Derived.Test.YtmkojpkajlpokaaPx10
import Derived.Test.YtmkojpkajlpokaaPx15
import Derived.Test.YtmkojpkajlpokaaPx40
import Derived.Test.YtmkojpkajlpokaaPx41
import Derived.Test.YtmkojpkajlpokaaPx42
import Derived.Test.YtmkojpkajlpokaaPx43
import Derived.Test.YtmkojpkajlpokaaPx44
import Derived.Test.YtmkojpkajlpokaaPx48
import Derived.Test.YtmkojpkajlpokaaPx50
import Derived.Test.YtmkojpkajlpokaaPx51
import Derived.Test.YtmkojpkajlpokaaPx7
import Derived.Test.YtmkojpkajlpokaaPx30
import Derived.Test.YtmkojpkajlpokaaPx31
import Derived.Test.YtmkojpkajlpokaaPx32
import Derived.Test.YtmkojpkajlpokaaPx12
import Derived.Test.YtmkojpkajlpokaaPx14
import Derived.Test.YtmkojpkajlpokaaPx8
import Derived.Test.YtmkojpkajlpokaaPx9
import Derived.Test.YtmkojpkajlpokaaPx13
import Derived.Test.YtmkojpkajlpokaaWMore
import Derived.Lib.Bytealg
import Derived.Lib.Bytes
import Derived.Test.YtmkojpkajlpokaaPx0
import Derived.Test.YtmkojpkajlpokaaPx46
import Derived.Test.YtmkojpkajlpokaaPx47
import Derived.Test.YtmkojpkajlpokaaPx1
import Derived.Test.YtmkojpkajlpokaaPx20
import Derived.Test.YtmkojpkajlpokaaPx21
/- Plain lemmas on rows of bytes: their order, when two are the same, which begins which. No program in sight. -/
set_option linter.unusedVariables false
set_option linter.unusedSimpArgs false
namespace Go.Proofs.Ytmkojpkajlpokaa.Sw
open Go.RowKit Go.Proofs.YtmkojpkajlpokaaW.PrintWords Go.Proofs.YtmkojpkajlpokaaW.PrintMore

/-- All numbers of a row are bytes. -/
def Byts (l : List Int) : Prop := ∀ x ∈ l, 0 ≤ x ∧ x < 256
theorem Byts.nil : Byts [] := fun x hx => by cases hx
theorem Byts.cons {a : Int} {l : List Int} (h0 : 0 ≤ a) (h1 : a < 256) (h : Byts l) : Byts (a :: l) := by
  intro x hx
  rcases List.mem_cons.1 hx with rfl | hx
  · exact ⟨h0, h1⟩
  · exact h x hx
theorem Byts.head {a : Int} {l : List Int} (h : Byts (a :: l)) : 0 ≤ a ∧ a < 256 := h a List.mem_cons_self
theorem Byts.tail {a : Int} {l : List Int} (h : Byts (a :: l)) : Byts l := fun x hx => h x (List.mem_cons_of_mem _ hx)
theorem Byts.append {a b : List Int} (ha : Byts a) (hb : Byts b) : Byts (a ++ b) := by
  intro x hx
  rcases List.mem_append.1 hx with hx | hx
  · exact ha x hx
  · exact hb x hx
theorem Byts.left {a b : List Int} (h : Byts (a ++ b)) : Byts a := fun x hx => h x (List.mem_append_left _ hx)
theorem Byts.right {a b : List Int} (h : Byts (a ++ b)) : Byts b := fun x hx => h x (List.mem_append_right _ hx)
theorem Byts.take {a : List Int} (h : Byts a) (n : Nat) : Byts (a.take n) := fun x hx => h x (List.mem_of_mem_take hx)
theorem Byts.drop {a : List Int} (h : Byts a) (n : Nat) : Byts (a.drop n) := fun x hx => h x (List.mem_of_mem_drop hx)
theorem Byts.one {a : Int} (h0 : 0 ≤ a) (h1 : a < 256) : Byts [a] := Byts.cons h0 h1 Byts.nil
theorem byts_of_wf {l : List Int} (h : ∀ x ∈ l, (Lit.int .u8 x).wf = true) : Byts l := by
  intro x hx
  have := h x hx
  simp only [Lit.wf, IntKind.min, IntKind.max, IntKind.signed, IntKind.bits, Bool.and_eq_true, decide_eq_true_eq] at this
  simp at this
  omega
theorem Byts.set {l : List Int} (h : Byts l) (i : Nat) {v : Int} (h0 : 0 ≤ v) (h1 : v < 256) : Byts (l.set i v) := by
  intro x hx
  rcases List.mem_or_eq_of_mem_set hx with hx | rfl
  · exact h x hx
  · exact ⟨h0, h1⟩
theorem i64_of_wf {x : Int} (h : (Lit.int .i64 x).wf = true) : -9223372036854775808 ≤ x ∧ x ≤ 9223372036854775807 := by
  simp only [Lit.wf, IntKind.min, IntKind.max, IntKind.signed, IntKind.bits, Bool.and_eq_true, decide_eq_true_eq] at h
  simp at h
  omega
theorem u8_of_wf {x : Int} (h : (Lit.int .u8 x).wf = true) : 0 ≤ x ∧ x < 256 := by
  simp only [Lit.wf, IntKind.min, IntKind.max, IntKind.signed, IntKind.bits, Bool.and_eq_true, decide_eq_true_eq] at h
  simp at h
  omega
theorem rd_range {l : List Int} (h : Byts l) (i : Int) : 0 ≤ rd l i ∧ rd l i < 256 := by
  unfold rd
  rw [List.getD_eq_getElem?_getD]
  cases hx : l[i.toNat]? with
  | none => simp
  | some x => exact h x (List.mem_of_getElem? hx)

/-- The order of rows of bytes: by the first in which they differ; one that has ended is less. -/
def less : List Int → List Int → Bool
  | _, [] => false
  | [], _ :: _ => true
  | a :: x, b :: y => if a < b then true else if b < a then false else less x y
theorem u8_lt {a b : Int} (ha : 0 ≤ a ∧ a < 256) (hb : 0 ≤ b ∧ b < 256) : (UInt8.ofNat a.toNat < UInt8.ofNat b.toNat) ↔ a < b := by
  rw [UInt8.lt_iff_toNat_lt]
  simp only [UInt8.toNat_ofNat']
  omega
theorem u8_eq {a b : Int} (ha : 0 ≤ a ∧ a < 256) (hb : 0 ≤ b ∧ b < 256) : (UInt8.ofNat a.toNat = UInt8.ofNat b.toNat) ↔ a = b := by
  rw [← UInt8.toNat_inj]
  simp only [UInt8.toNat_ofNat']
  omega
theorem bytesOf_cons (a : Int) (l : List Int) : Lib.bytesOf (a :: l) = UInt8.ofNat a.toNat :: Lib.bytesOf l := rfl
theorem compare_less : ∀ {a b : List Int}, Byts a → Byts b → decide (Lib.compareBytes (Lib.bytesOf a) (Lib.bytesOf b) < 0) = less a b
  | [], [], _, _ => by simp [Lib.bytesOf, Lib.compareBytes, less]
  | [], _ :: _, _, _ => by simp [Lib.bytesOf, Lib.compareBytes, less]
  | _ :: _, [], _, _ => by simp [Lib.bytesOf, Lib.compareBytes, less]
  | a :: x, b :: y, ha, hb => by
    have ih := compare_less ha.tail hb.tail
    have h1 := u8_lt ha.head hb.head
    have h2 := u8_lt hb.head ha.head
    rw [bytesOf_cons, bytesOf_cons]
    unfold Lib.compareBytes less
    by_cases c : a < b
    · rw [if_pos (h1.2 c), if_pos c]; rfl
    · rw [if_neg (fun h => c (h1.1 h)), if_neg c]
      by_cases c2 : b < a
      · rw [if_pos (h2.2 c2), if_pos c2]; rfl
      · rw [if_neg (fun h => c2 (h2.1 h)), if_neg c2]; exact ih
theorem bytesLess_less : ∀ {a b : List Int}, Byts a → Byts b → Op.bytesLess (Lib.bytesOf a) (Lib.bytesOf b) = less a b
  | [], [], _, _ => by simp [Lib.bytesOf, Op.bytesLess, less]
  | [], _ :: _, _, _ => by simp [Lib.bytesOf, Op.bytesLess, less]
  | _ :: _, [], _, _ => by simp [Lib.bytesOf, Op.bytesLess, less]
  | a :: x, b :: y, ha, hb => by
    have ih := bytesLess_less ha.tail hb.tail
    have h1 := u8_lt ha.head hb.head
    have h3 := u8_eq ha.head hb.head
    rw [bytesOf_cons, bytesOf_cons]
    unfold Op.bytesLess less
    by_cases c : a < b
    · rw [if_pos c, decide_eq_true (h1.2 c)]; rfl
    · rw [if_neg c, decide_eq_false (fun h => c (h1.1 h)), Bool.false_or]
      by_cases c2 : b < a
      · rw [if_pos c2, beq_eq_false_iff_ne.2 (fun h => by have := h3.1 h; omega)]; rfl
      · rw [if_neg c2, beq_iff_eq.2 (h3.2 (by omega)), Bool.true_and]; exact ih
theorem bytesOf_inj : ∀ {a b : List Int}, Byts a → Byts b → (Lib.bytesOf a = Lib.bytesOf b ↔ a = b)
  | [], [], _, _ => by simp
  | [], _ :: _, _, _ => by simp [Lib.bytesOf]
  | _ :: _, [], _, _ => by simp [Lib.bytesOf]
  | a :: x, b :: y, ha, hb => by
    have ih := bytesOf_inj ha.tail hb.tail
    have h3 := u8_eq ha.head hb.head
    rw [bytesOf_cons, bytesOf_cons, List.cons.injEq, List.cons.injEq, h3, ih]
/-- Two rows as texts are the same just if they are the same. -/
theorem str_eq {a b : List Int} (ha : Byts a) (hb : Byts b) : ((strOfNums a).toList == (strOfNums b).toList) = decide (a = b) := by
  rw [Lib.strOfNums_toList, Lib.strOfNums_toList]
  by_cases c : a = b
  · subst c; simp
  · rw [decide_eq_false c, beq_eq_false_iff_ne]
    exact fun h => c ((bytesOf_inj ha hb).1 h)
theorem str_less {a b : List Int} (ha : Byts a) (hb : Byts b) : Op.bytesLess (strOfNums a).toList (strOfNums b).toList = less a b := by
  rw [Lib.strOfNums_toList, Lib.strOfNums_toList]
  exact bytesLess_less ha hb

theorem less_nil (a : List Int) : less a [] = false := by cases a <;> rfl
theorem less_irrefl : ∀ a : List Int, less a a = false
  | [] => rfl
  | a :: x => by
    unfold less
    rw [if_neg (by omega), if_neg (by omega)]
    exact less_irrefl x
theorem less_cons (a b : Int) (x y : List Int) : less (a :: x) (b :: y) = true ↔ a < b ∨ a = b ∧ less x y = true := by
  conv => lhs; unfold less
  by_cases c : a < b
  · simp [c]
  · rw [if_neg c]
    by_cases c2 : b < a
    · rw [if_pos c2]
      simp
      omega
    · rw [if_neg c2]
      have : a = b := by omega
      simp [this]
theorem less_trans : ∀ {a b c : List Int}, less a b = true → less b c = true → less a c = true
  | _, [], _, h, _ => by rw [less_nil] at h; cases h
  | _, _ :: _, [], _, h => by rw [less_nil] at h; cases h
  | [], _ :: _, _ :: _, _, _ => rfl
  | a :: x, b :: y, c :: z, h, k => by
    rw [less_cons] at h k ⊢
    rcases h with h | ⟨h, h'⟩ <;> rcases k with k | ⟨k, k'⟩
    · exact .inl (by omega)
    · exact .inl (by omega)
    · exact .inl (by omega)
    · exact .inr ⟨by omega, less_trans h' k'⟩
theorem less_asymm {a b : List Int} (h : less a b = true) : less b a = false := by
  cases c : less b a with
  | false => rfl
  | true => have := less_trans h c; rw [less_irrefl] at this; cases this
theorem less_total : ∀ {a b : List Int}, a ≠ b → less a b = true ∨ less b a = true
  | [], [], h => absurd rfl h
  | [], _ :: _, _ => .inl rfl
  | _ :: _, [], _ => .inr rfl
  | a :: x, b :: y, h => by
    rw [less_cons, less_cons]
    by_cases c : a = b
    · subst c
      rcases less_total (a := x) (b := y) (fun h' => h (by rw [h'])) with k | k
      · exact .inl (.inr ⟨rfl, k⟩)
      · exact .inr (.inr ⟨rfl, k⟩)
    · by_cases c2 : a < b
      · exact .inl (.inl c2)
      · exact .inr (.inl (by omega))
theorem less_append : ∀ (a : List Int) (x : Int) (y : List Int), less a (a ++ x :: y) = true
  | [], _, _ => rfl
  | a :: l, x, y => by
    rw [List.cons_append, less_cons]
    exact .inr ⟨rfl, less_append l x y⟩
/-- A row is not less than what it begins with. -/
theorem less_prefix : ∀ (p l : List Int), less (p ++ l) p = false
  | [], l => less_nil _
  | a :: p, l => by
    cases c : less (a :: p ++ l) (a :: p) with
    | false => rfl
    | true =>
      rw [List.cons_append, less_cons] at c
      rcases c with c | ⟨_, c⟩
      · omega
      · rw [less_prefix p l] at c; cases c
theorem less_append_left : ∀ (p a b : List Int), less (p ++ a) (p ++ b) = less a b
  | [], _, _ => rfl
  | x :: p, a, b => by
    have ih := less_append_left p a b
    rw [List.cons_append, List.cons_append, Bool.eq_iff_iff, less_cons, ← Bool.eq_iff_iff.1 ih]
    constructor
    · rintro (h | ⟨_, h⟩)
      · omega
      · exact h
    · exact fun h => .inr ⟨rfl, h⟩

theorem mx0 (n : Int) : mx n 0 = max n 0 := by unfold mx; split <;> omega
theorem wrap_in {n : Int} (h0 : -9223372036854775808 ≤ n) (h1 : n ≤ 9223372036854775807) : wrap64 n = n := by unfold wrap64; omega
theorem rd_nat (l : List Int) (i : Nat) (h : i < l.length) : rd l (i : Int) = l[i] := by
  unfold rd
  rw [Int.toNat_natCast, List.getD_eq_getElem?_getD, List.getElem?_eq_getElem h]
  rfl
end Go.Proofs.Ytmkojpkajlpokaa.Sw

/- What the functions that lay numbers compute: a number in eight bytes, in groups of seven bits, a text behind a number. -/
set_option linter.unusedVariables false
set_option linter.unusedSimpArgs false
namespace Go.Proofs.Ytmkojpkajlpokaa.Sw
open Go.RowKit Go.Proofs.Ytmkojpkajlpokaa.Px Go.Proofs.YtmkojpkajlpokaaW.PrintWords Go.Proofs.YtmkojpkajlpokaaW.PrintLast Go.Proofs.YtmkojpkajlpokaaW.PrintMore

theorem Ev.none_if {α : Type} {g : Nat → Option α} {c : Prop} [Decidable c] {r : α} (hc : c) (h : Ev g r) : Ev (fun k => if c then g k else none) r := by
  simp only [if_pos hc]; exact h
theorem Ev.pos {α : Type} {g f : Nat → Option α} {c : Prop} [Decidable c] {r : α} (hc : c) (h : Ev g r) : Ev (fun k => if c then g k else f k) r := by
  simp only [if_pos hc]; exact h
theorem Ev.neg {α : Type} {g f : Nat → Option α} {c : Prop} [Decidable c] {r : α} (hc : ¬ c) (h : Ev f r) : Ev (fun k => if c then g k else f k) r := by
  simp only [if_neg hc]; exact h
theorem Ev.bindc {α β : Type} {o : Option α} {f : Nat → α → Option β} {a : α} {r : β} (h : o = some a) (k : Ev (fun n => f n a) r) : Ev (fun n => o.bind (f n)) r := by
  subst h; exact k
theorem Ev.const {α : Type} {o : Option α} {r : α} (h : o = some r) : Ev (fun _ => o) r := ⟨0, fun _ _ => h⟩

/-! ### n bytes of a number, the highest first -/
def be : Nat → Int → List Int
  | 0, _ => []
  | n + 1, x => be n (x / 256) ++ [x % 256]
theorem be_length : ∀ (n : Nat) (x : Int), (be n x).length = n
  | 0, _ => rfl
  | n + 1, x => by rw [be, List.length_append, be_length n]; rfl
theorem be_byts : ∀ (n : Nat) (x : Int), Byts (be n x)
  | 0, _ => Byts.nil
  | n + 1, x => by
    rw [be]
    exact (be_byts n _).append (Byts.one (by omega) (by omega))
/-- What some bytes say, the highest first. -/
def val : List Int → Int → Int
  | [], a => a
  | c :: l, a => val l (a * 256 + c)
theorem val_append : ∀ (x y : List Int) (a : Int), val (x ++ y) a = val y (val x a)
  | [], _, _ => rfl
  | c :: l, y, a => by rw [List.cons_append, val, val, val_append l]
theorem val_be : ∀ (n : Nat) (x a : Int), 0 ≤ x → x < 256 ^ n → val (be n x) a = a * 256 ^ n + x
  | 0, x, a, h0, h1 => by
    simp at h1
    have : x = 0 := by omega
    subst this
    simp [be, val]
  | n + 1, x, a, h0, h1 => by
    have h2 : (256 : Int) ^ (n + 1) = 256 ^ n * 256 := Int.pow_succ _ _
    rw [be, val_append, val_be n (x / 256) a (by omega) (by rw [h2] at h1; omega)]
    simp only [val]
    rw [h2, ← Int.mul_assoc, Int.add_mul]
    omega
theorem rev_ind {P : List Int → Prop} (h0 : P []) (h1 : ∀ l c, P l → P (l ++ [c])) (l : List Int) : P l := by
  have h : ∀ r : List Int, P r.reverse := by
    intro r
    induction r with
    | nil => exact h0
    | cons c r ih => rw [List.reverse_cons]; exact h1 _ _ ih
  have := h l.reverse
  rwa [List.reverse_reverse] at this
theorem be_val : ∀ (l : List Int), Byts l → ∀ a, be l.length (val l a) = l ∧ val l a = a * 256 ^ l.length + val l 0 := by
  refine rev_ind ?_ ?_
  · intro _ a; simp [be, val]
  · intro l c ih h a
    have hc := h.right.head
    obtain ⟨h1, h2⟩ := ih h.left a
    obtain ⟨h3, h4⟩ := ih h.left 0
    rw [val_append, val_append, List.length_append]
    simp only [val, List.length_cons, List.length_nil, Nat.zero_add, be]
    refine ⟨?_, ?_⟩
    · rw [show (val l a * 256 + c) / 256 = val l a by omega, show (val l a * 256 + c) % 256 = c by omega, h1]
    · rw [h2, Int.pow_succ, ← Int.mul_assoc, Int.add_mul]
      omega
theorem val_nonneg : ∀ (l : List Int), Byts l → ∀ a, 0 ≤ a → 0 ≤ val l a
  | [], _, _, h => h
  | c :: l, h, a, h0 => val_nonneg l h.tail _ (by have := h.head; omega)
theorem val_lt : ∀ (l : List Int), Byts l → val l 0 < 256 ^ l.length := by
  refine rev_ind ?_ ?_
  · intro _; simp [val]
  · intro l c ih h
    have hc := h.right.head
    have := ih h.left
    rw [val_append, List.length_append]
    simp only [val, List.length_cons, List.length_nil, Nat.zero_add, Int.pow_succ]
    omega
theorem set_replicate (m : Nat) (v : Int) (t : List Int) : (List.replicate (m + 1) 0 ++ t).set m v = List.replicate m 0 ++ v :: t := by
  rw [List.replicate_succ', List.append_assoc, List.set_append_right _ _ (by simp)]
  simp
theorem high_loop (m : Nat) : ∀ (x : Int) (t : List Int), m ≤ 1000000 → Ev (fun k => code_high.l0 k x (List.replicate m 0 ++ t) ((m : Int) - 1)) (be m x ++ t) := by
  induction m with
  | zero =>
    intro x t _
    refine Ev.step (f := fun _ => some t) (fun k => ?_) (Ev.now _)
    simp only [code_high.l0]
    rw [if_neg (by omega)]
    rfl
  | succ m ih =>
    intro x t hm
    refine Ev.step (f := fun k => code_high.l0 k (x / 256) (List.replicate m 0 ++ (x % 256) :: t) ((m : Int) - 1)) (fun k => ?_) ?_
    · simp only [code_high.l0]
      rw [if_pos (by omega), if_pos (by omega), if_pos (by simp; omega)]
      rw [show (((m + 1 : Nat) : Int) - 1).toNat = m by omega, set_replicate, wrap_in (by omega) (by omega)]
      congr 1
      omega
    · have := ih (x / 256) ((x % 256) :: t) (by omega)
      rw [be, List.append_assoc]
      exact this
theorem high_f (n : Nat) (x : Int) (hn : n ≤ 1000000) : Ev (fun k => code_high.f k x (n : Int)) (be n x) := by
  unfold code_high.f
  refine Ev.pos (by omega) (Ev.pos (by omega) ?_)
  have := high_loop n x [] hn
  rw [List.append_nil] at this
  rw [Int.toNat_natCast, wrap_in (by omega) (by omega)]
  simpa using this
theorem laid_f {a b : List Int} (h : a.length + b.length < 140737488355328) : code_laid_byte.f a b = some (a ++ b) := by
  unfold code_laid_byte.f slices_Clone_byte_byte.f
  rw [if_pos (by omega), Option.bind_some, if_pos h]
theorem putFix_f (l : List Int) (n : Int) (h0 : -9223372036854775808 ≤ n) (h1 : n ≤ 9223372036854775807) (hl : l.length + 8 < 140737488355328) :
    Ev (fun k => code_PutFix.f k l n) (l ++ be 8 (max n 0)) := by
  unfold code_PutFix.f
  rw [mx0, show IntKind.u64.wrap (max n 0) = max n 0 by simp [IntKind.wrap, IntKind.bits, IntKind.signed]; omega]
  refine Ev.bind (high_f 8 _ (by omega)) ?_
  refine Ev.bindc (laid_f (by rw [be_length]; exact hl)) (Ev.now _)

/-! ### groups of seven bits, the lowest first -/
def grp (n : Nat) : List Int := if n < 128 then [(n : Int)] else ((n % 128 + 128 : Nat) : Int) :: grp (n / 128)
termination_by n
theorem grp_lo {n : Nat} (h : n < 128) : grp n = [(n : Int)] := by rw [grp, if_pos h]
theorem grp_hi {n : Nat} (h : ¬ n < 128) : grp n = ((n % 128 + 128 : Nat) : Int) :: grp (n / 128) := by rw [grp, if_neg h]
theorem grp_byts (n : Nat) : Byts (grp n) := by
  induction n using Nat.strongRecOn with
  | ind n ih =>
    by_cases h : n < 128
    · rw [grp_lo h]; exact Byts.one (by omega) (by omega)
    · rw [grp_hi h]; exact Byts.cons (by omega) (by omega) (ih _ (by omega))
theorem grp_length_le (k : Nat) : ∀ n : Nat, n < 128 ^ (k + 1) → (grp n).length ≤ k + 1 := by
  induction k with
  | zero => intro n h; rw [grp_lo (by simpa using h)]; simp
  | succ k ih =>
    intro n h
    by_cases c : n < 128
    · rw [grp_lo c]; simp
    · rw [grp_hi c, List.length_cons]
      have := ih (n / 128) (by rw [Nat.pow_succ] at h; exact Nat.div_lt_of_lt_mul (by rw [Nat.mul_comm]; exact h))
      omega
theorem grp_pos (n : Nat) : 0 < (grp n).length := by
  rw [grp]; split <;> simp
theorem grp9 {n : Nat} (h : n ≤ 4611686018427387903) : (grp n).length ≤ 9 := grp_length_le 8 n (by omega)
theorem or128 (y : Int) (h0 : 0 ≤ y) (h1 : y < 256) : Go.bits .or .u8 y 128 = y % 128 + 128 := by
  have h : ∀ n : Fin 256, Go.bits .or .u8 (n.val : Int) 128 = (n.val : Int) % 128 + 128 := by decide +kernel
  have := h ⟨y.toNat, by omega⟩
  simpa [Int.toNat_of_nonneg h0] using this
theorem putNum_loop (n : Nat) : ∀ (l acc : List Int), n ≤ 4611686018427387903 → l.length + 18 < 140737488355328 → acc.length + (grp n).length ≤ 9 →
    Ev (fun k => code_PutNum.l0 k l (n : Int) acc) (l ++ (acc ++ grp n)) := by
  induction n using Nat.strongRecOn with
  | ind n ih =>
    intro l acc hn hl ha
    by_cases h : n < 128
    · refine Ev.step (f := fun _ => some (l ++ (acc ++ grp n))) (fun k => ?_) (Ev.now _)
      simp only [code_PutNum.l0]
      rw [if_neg (by omega), if_pos (by omega), show ((n : Int) % 256) = n by omega, laid_f (by simp; omega), Option.bind_some, grp_lo h]
    · rw [grp_hi h] at ha ⊢
      rw [List.length_cons] at ha
      have := ih (n / 128) (by omega) l (acc ++ [((n % 128 + 128 : Nat) : Int)]) (by omega) hl (by simp; omega)
      refine Ev.step (fun k => ?_) (show Ev (fun k => code_PutNum.l0 k l ((n / 128 : Nat) : Int) (acc ++ [((n % 128 + 128 : Nat) : Int)])) _ from ?_)
      · simp only [code_PutNum.l0]
        rw [if_pos (by omega), if_pos (by have := grp_pos (n / 128); omega), or128 _ (by omega) (by omega), show (n : Int) / 128 = ((n / 128 : Nat) : Int) by omega, show (n : Int) % 256 % 128 + 128 = ((n % 128 + 128 : Nat) : Int) by omega]
      · rw [List.append_assoc] at this
        exact this
/-- A number as its groups' number: below 0 it counts as 0, above 2^62 - 1 as that. -/
def cap (n : Int) : Nat := (min (max n 0) 4611686018427387903).toNat
theorem cap_le (n : Int) : cap n ≤ 4611686018427387903 := by unfold cap; omega
theorem cap_of {n : Nat} (h : n ≤ 4611686018427387903) : cap (n : Int) = n := by unfold cap; omega
theorem mn_cap (n : Int) : mn (mx n 0) 4611686018427387903 = (cap n : Int) := by
  unfold mn mx cap
  split <;> split <;> omega
theorem putNum_f (l : List Int) (n : Int) (hl : l.length + 18 < 140737488355328) : Ev (fun k => code_PutNum.f k l n) (l ++ grp (cap n)) := by
  unfold code_PutNum.f
  rw [mn_cap]
  have := putNum_loop (cap n) l [] (cap_le n) hl (by simpa using grp9 (cap_le n))
  simpa using this
end Go.Proofs.Ytmkojpkajlpokaa.Sw

/- What the document's functions that lay numbers compute, and the order of fixed numbers. -/
set_option linter.unusedVariables false
set_option linter.unusedSimpArgs false
namespace Go.Proofs.Ytmkojpkajlpokaa.Sw
open Go.RowKit Go.Proofs.Ytmkojpkajlpokaa.Px Go.Proofs.YtmkojpkajlpokaaW.PrintWords Go.Proofs.YtmkojpkajlpokaaW.PrintLast Go.Proofs.YtmkojpkajlpokaaW.PrintMore

theorem pow256_pos (n : Nat) : (0 : Int) < 256 ^ n := Int.pow_pos (by omega)
/-- Rows of one length go as what they say. -/
theorem less_val : ∀ (l m : List Int) (a : Int), Byts l → Byts m → l.length = m.length → (less l m = true ↔ val l a < val m a)
  | [], [], a, _, _, _ => by simp [less, val]
  | [], _ :: _, _, _, _, h => by simp at h
  | _ :: _, [], _, _, _, h => by simp at h
  | c :: l, d :: m, a, hl, hm, h => by
    have hc := hl.head
    have hd := hm.head
    have hlen : l.length = m.length := by simpa using h
    have h1 := (be_val l hl.tail (a * 256 + c)).2
    have h2 := (be_val m hm.tail (a * 256 + d)).2
    have b1 := val_lt l hl.tail
    have b2 := val_lt m hm.tail
    have n1 := val_nonneg l hl.tail 0 (by omega)
    have n2 := val_nonneg m hm.tail 0 (by omega)
    have hp := pow256_pos m.length
    rw [less_cons]
    simp only [val]
    rw [hlen] at h1 b1
    constructor
    · rintro (k | ⟨k, k'⟩)
      · have h3 : (a * 256 + c + 1) * 256 ^ m.length ≤ (a * 256 + d) * 256 ^ m.length := Int.mul_le_mul_of_nonneg_right (by omega) (by omega)
        rw [Int.add_mul, Int.one_mul] at h3
        omega
      · subst k
        exact (less_val l m _ hl.tail hm.tail hlen).1 k'
    · intro k
      by_cases e : c = d
      · subst e
        exact .inr ⟨rfl, (less_val l m _ hl.tail hm.tail hlen).2 k⟩
      · by_cases e2 : c < d
        · exact .inl e2
        · have h3 : (a * 256 + d + 1) * 256 ^ m.length ≤ (a * 256 + c) * 256 ^ m.length := Int.mul_le_mul_of_nonneg_right (by omega) (by omega)
          rw [Int.add_mul, Int.one_mul] at h3
          omega
theorem less_be (n : Nat) {x y : Int} (hx0 : 0 ≤ x) (hx : x < 256 ^ n) (hy0 : 0 ≤ y) (hy : y < 256 ^ n) : less (be n x) (be n y) = decide (x < y) := by
  rw [Bool.eq_iff_iff, less_val _ _ 0 (be_byts _ _) (be_byts _ _) (by rw [be_length, be_length]), val_be n x 0 hx0 hx, val_be n y 0 hy0 hy]
  simp
theorem be_inj (n : Nat) {x y : Int} (hx0 : 0 ≤ x) (hx : x < 256 ^ n) (hy0 : 0 ≤ y) (hy : y < 256 ^ n) (h : be n x = be n y) : x = y := by
  have h1 := val_be n x 0 hx0 hx
  have h2 := val_be n y 0 hy0 hy
  rw [h] at h1
  omega

/-! ### the document's -/
theorem be_shift : ∀ (m : Nat) (x : Int), be (m + 1) x = (x / 256 ^ m) % 256 :: be m x
  | 0, x => by simp [be]
  | m + 1, x => by
    rw [be, be_shift m, be, List.cons_append]
    congr 1
    rw [Int.ediv_ediv_of_nonneg (by omega), Int.pow_succ, Int.mul_comm]
theorem shr_pow (x : Int) (m : Nat) (hm : m < 8) : shr .i64 x (wrap64 (8 * (m : Int))) = x / 256 ^ m := by
  rw [wrap_in (by omega) (by omega)]
  unfold shr
  rw [show (8 * (m : Int)).toNat = 8 * m by omega, Nat.min_eq_left (by simp [IntKind.bits]; omega)]
  congr 1
  rw [Int.pow_mul]
  rfl
theorem refFix_loop (m : Nat) : ∀ (x : Int) (acc : List Int), m ≤ 8 → acc.length + m < 140737488355328 →
    Ev (fun k => sawyerref02_PutFix.l0 k x acc ((m : Int) - 1)) (acc ++ be m x) := by
  induction m with
  | zero =>
    intro x acc _ _
    refine Ev.step (f := fun _ => some acc) (fun k => ?_) ?_
    · simp only [sawyerref02_PutFix.l0]
      rw [if_neg (by omega)]
    · rw [be, List.append_nil]; exact Ev.now _
  | succ m ih =>
    intro x acc hm hl
    have := ih x (acc ++ [(x / 256 ^ m) % 256]) (by omega) (by simp; omega)
    refine Ev.step (fun k => ?_) (show Ev (fun k => sawyerref02_PutFix.l0 k x (acc ++ [(x / 256 ^ m) % 256]) ((m : Int) - 1)) _ from ?_)
    · simp only [sawyerref02_PutFix.l0]
      rw [show ((m + 1 : Nat) : Int) - 1 = (m : Int) by omega, if_pos (by omega), if_pos (by rw [wrap_in (by omega) (by omega)]; omega), if_pos (by omega), shr_pow x m (by omega), wrap_in (n := (m : Int) - 1) (by omega) (by omega)]
    · rw [be_shift]
      rw [List.append_assoc] at this
      exact this
theorem refFix_f (l : List Int) (n : Int) (hl : l.length + 8 < 140737488355328) : Ev (fun k => sawyerref02_PutFix.f k l n) (l ++ be 8 (max n 0)) := by
  unfold sawyerref02_PutFix.f
  refine Ev.pos (by simp; omega) ?_
  rw [mx0]
  have := refFix_loop 8 (max n 0) ([] ++ l) (by omega) (by simpa using hl)
  simpa using this
theorem refNum_loop (n : Nat) : ∀ (acc : List Int), n ≤ 4611686018427387903 → acc.length + (grp n).length < 140737488355328 →
    Ev (fun k => sawyerref02_PutNum.l0 k (n : Int) acc) (acc ++ grp n) := by
  induction n using Nat.strongRecOn with
  | ind n ih =>
    intro acc hn hl
    by_cases h : n < 128
    · rw [grp_lo h] at hl ⊢
      refine Ev.step (f := fun _ => some (acc ++ [(n : Int)])) (fun k => ?_) (Ev.now _)
      simp only [sawyerref02_PutNum.l0]
      rw [if_neg (by omega), if_pos (by simp at hl; omega), show ((n : Int) % 256) = n by omega]
    · rw [grp_hi h] at hl ⊢
      rw [List.length_cons] at hl
      have := ih (n / 128) (by omega) (acc ++ [((n % 128 + 128 : Nat) : Int)]) (by omega) (by simp; omega)
      refine Ev.step (fun k => ?_) (show Ev (fun k => sawyerref02_PutNum.l0 k ((n / 128 : Nat) : Int) (acc ++ [((n % 128 + 128 : Nat) : Int)])) _ from ?_)
      · simp only [sawyerref02_PutNum.l0]
        have e1 : Int.tdiv (n : Int) 128 = ((n / 128 : Nat) : Int) := by rw [Int.tdiv_eq_ediv_of_nonneg (by omega)]; omega
        have e2 : Int.tmod (n : Int) 128 = ((n % 128 : Nat) : Int) := by rw [Int.tmod_eq_emod_of_nonneg (by omega)]; omega
        rw [if_pos (by omega), if_pos (by omega), e1, e2, wrap_in (by omega) (by omega), wrap_in (by omega) (by omega), show (128 + ((n % 128 : Nat) : Int)) % 256 = ((n % 128 + 128 : Nat) : Int) by omega]
      · rw [List.append_assoc] at this
        exact this
theorem refNum_f (l : List Int) (n : Int) (hl : l.length + 9 < 140737488355328) : Ev (fun k => sawyerref02_PutNum.f k l n) (l ++ grp (cap n)) := by
  unfold sawyerref02_PutNum.f
  refine Ev.pos (by simp; omega) ?_
  rw [mn_cap]
  have := refNum_loop (cap n) ([] ++ l) (cap_le n) (by have := grp9 (cap_le n); simp; omega)
  simpa using this
theorem same_f {a b : List Int} (ha : Byts a) (hb : Byts b) : sawyerref02_Same.f a b = some (decide (a = b)) := by
  unfold sawyerref02_Same.f
  rw [str_eq ha hb]
end Go.Proofs.Ytmkojpkajlpokaa.Sw

/- Small lemmas on words of 64 bits, and what a taking function answers. -/

set_option linter.unusedVariables false
set_option linter.unusedSimpArgs false
namespace Go.Proofs.Ytmkojpkajlpokaa.Sw
open Go.RowKit Go.Proofs.Ytmkojpkajlpokaa.Px Go.Proofs.YtmkojpkajlpokaaW.PrintWords Go.Proofs.YtmkojpkajlpokaaW.PrintLast Go.Proofs.YtmkojpkajlpokaaW.PrintMore

/-- What a taking function answers. -/
def tri : Option (Nat × List Int) → Int × List Int × Int
  | some (n, r) => ((n : Int), r, 0)
  | none => (0, [], 2)
theorem u64_nat {n : Nat} (h : n < 18446744073709551616) : IntKind.u64.wrap (n : Int) = (n : Int) := by
  simp only [IntKind.wrap, IntKind.bits, IntKind.signed]
  simp
  omega
theorem or_u64 {t d : Nat} (ht : t < 18446744073709551616) (hd : d < 18446744073709551616) : Go.bits .or .u64 (t : Int) (d : Int) = ((t ||| d : Nat) : Int) := by
  show IntKind.u64.wrap (((BitVec.ofInt 64 (t : Int)) ||| (BitVec.ofInt 64 (d : Int))).toNat : Int) = _
  rw [BitVec.ofInt_natCast, BitVec.ofInt_natCast, BitVec.toNat_or, BitVec.toNat_ofNat, BitVec.toNat_ofNat, Nat.mod_eq_of_lt (by omega), Nat.mod_eq_of_lt (by omega)]
  exact u64_nat (Nat.or_lt_two_pow (n := 64) (by omega) (by omega))
theorem wrap_succ {i : Nat} (h : i < 140737488355328) : wrap64 ((i : Int) + 1) = ((i + 1 : Nat) : Int) := by rw [wrap_in (by omega) (by omega)]; rfl
end Go.Proofs.Ytmkojpkajlpokaa.Sw

/- What the functions that take fixed numbers from any bytes compute. -/
set_option linter.unusedVariables false
set_option linter.unusedSimpArgs false
namespace Go.Proofs.Ytmkojpkajlpokaa.Sw
open Go.RowKit Go.Proofs.Ytmkojpkajlpokaa.Px Go.Proofs.YtmkojpkajlpokaaW.PrintWords Go.Proofs.YtmkojpkajlpokaaW.PrintLast Go.Proofs.YtmkojpkajlpokaaW.PrintMore

/-! ### fixed numbers -/
theorem val_ge : ∀ (l : List Int), Byts l → ∀ a, 0 ≤ a → a ≤ val l a
  | [], _, a, _ => Int.le_refl _
  | c :: l, h, a, h0 => by
    have hc := h.head
    have := val_ge l h.tail (a * 256 + c) (by omega)
    simp only [val]
    omega
theorem or_byte (x c : Int) (h0 : 0 ≤ x) (h1 : x < 72057594037927936) (c0 : 0 ≤ c) (c1 : c < 256) : Go.bits .or .u64 (IntKind.u64.wrap (x * 256)) (IntKind.u64.wrap c) = x * 256 + c := by
  obtain ⟨m, rfl⟩ := Int.eq_ofNat_of_zero_le h0
  obtain ⟨n, rfl⟩ := Int.eq_ofNat_of_zero_le c0
  rw [show (m : Int) * 256 = ((2 ^ 8 * m : Nat) : Int) by omega, u64_nat (by omega), u64_nat (by omega), or_u64 (by omega) (by omega), ← Nat.two_pow_add_eq_or_of_lt (by omega)]
  omega
theorem number_loop (l : List Int) (hl : Byts l) (hb : l.length ≤ 8) (d : Nat) : ∀ (i : Nat) (x : Int), l.length - i = d → i ≤ l.length → 0 ≤ x → x < 256 ^ i →
    Ev (fun k => code_number.l0 k x l (l.length : Int) (i : Int)) (val (l.drop i) x) := by
  induction d with
  | zero =>
    intro i x hd hi h0 h1
    rw [List.drop_eq_nil_of_le (by omega)]
    refine Ev.step (f := fun _ => some x) (fun k => ?_) (Ev.const rfl)
    simp only [code_number.l0]
    rw [if_neg (by omega)]
  | succ d ih =>
    intro i x hd hi h0 h1
    have hlt : i < l.length := by omega
    have hc := hl (l[i]) (List.getElem_mem _)
    rw [List.drop_eq_getElem_cons hlt]
    have hp : (256 : Int) ^ i ≤ 72057594037927936 := by
      have : (256 : Nat) ^ i ≤ 256 ^ 7 := Nat.pow_le_pow_right (by omega) (by omega)
      have h2 : ((256 ^ i : Nat) : Int) ≤ ((256 ^ 7 : Nat) : Int) := Int.ofNat_le.2 this
      simpa using h2
    have hs : x * 256 + l[i] < 256 ^ (i + 1) := by
      rw [Int.pow_succ]
      omega
    have next := ih (i + 1) (x * 256 + l[i]) (by omega) (by omega) (by omega) hs
    refine Ev.step (fun k => ?_) next
    clear next hs
    simp only [code_number.l0]
    rw [if_pos (by omega), if_pos (by omega), if_pos (by omega), rd_nat l i hlt, or_byte x _ h0 (by omega) hc.1 hc.2, wrap_succ (by omega)]
theorem number_f {l : List Int} (hl : Byts l) (hb : l.length ≤ 8) : Ev (fun k => code_number.f k l) (val l 0) := by
  unfold code_number.f
  have := number_loop l hl hb l.length 0 0 (by omega) (by omega) (by omega) (by decide)
  rw [List.drop_zero] at this
  exact this
/-- The fixed number at a row's beginning, and what is behind it. -/
def takeF (l : List Int) : Option (Nat × List Int) :=
  if l.length < 8 then none else if 9223372036854775808 ≤ val (l.take 8) 0 then none else some ((val (l.take 8) 0).toNat, l.drop 8)
theorem val8 {l : List Int} (hl : Byts l) : 0 ≤ val (l.take 8) 0 ∧ val (l.take 8) 0 < 18446744073709551616 := by
  have h1 := val_nonneg _ (hl.take 8) 0 (by omega)
  have h2 := val_lt _ (hl.take 8)
  have h3 : (l.take 8).length ≤ 8 := by rw [List.length_take]; omega
  have h4 : (256 : Nat) ^ (l.take 8).length ≤ 256 ^ 8 := Nat.pow_le_pow_right (by omega) h3
  have h5 : ((256 ^ (l.take 8).length : Nat) : Int) ≤ ((256 ^ 8 : Nat) : Int) := Int.ofNat_le.2 h4
  have h6 : (256 : Int) ^ (l.take 8).length ≤ 18446744073709551616 := by simpa using h5
  omega
theorem takeFix_f {l : List Int} (hl : Byts l) (hb : l.length < 140737488355328) : Ev (fun k => code_TakeFix.f k l) (tri (takeF l)) := by
  unfold code_TakeFix.f takeF
  by_cases c : l.length < 8
  · rw [if_pos c]
    refine Ev.pos (by omega) (Ev.step (f := fun _ => some (0, [], 2)) (fun k => ?_) (Ev.const rfl))
    simp only [code_TakeFix.j0]
    rw [if_pos trivial]
  · rw [if_neg c]
    have hn := number_f (hl.take 8) (by rw [List.length_take]; omega)
    have h8 := val8 hl
    refine Ev.neg (by omega) (Ev.pos (by omega) (Ev.bind hn ?_))
    by_cases q : 9223372036854775808 ≤ val (l.take 8) 0
    · rw [if_pos q]
      refine Ev.step (f := fun _ => some (0, [], 2)) (fun k => ?_) (Ev.const rfl)
      simp only [code_TakeFix.j0]
      rw [if_pos (decide_eq_true (by unfold wrap64; omega))]
    · rw [if_neg q]
      refine Ev.step (f := fun k => (code_number.f k (l.take 8)).bind fun t413 => ((slices_Clone_byte_byte.f (l.drop 8)).bind fun t418 => (some (wrap64 t413, t418, 0)))) (fun k => ?_) (Ev.bind hn (Ev.const ?_))
      · simp only [code_TakeFix.j0]
        rw [if_neg (by rw [decide_eq_true_eq]; unfold wrap64; omega), if_pos (by omega)]
      · unfold slices_Clone_byte_byte.f
        rw [if_pos (by simp; omega), Option.bind_some, wrap_in (by omega) (by omega)]
        show some (val (l.take 8) 0, l.drop 8, (0 : Int)) = some (((val (l.take 8) 0).toNat : Int), l.drop 8, (0 : Int))
        rw [Int.toNat_of_nonneg h8.1]
theorem refFixT_loop (l : List Int) (hl : Byts l) (h8 : 8 ≤ l.length) (hb : l.length < 140737488355328) (d : Nat) : ∀ (i : Nat) (x : Int), 8 - i = d → i ≤ 8 → 0 ≤ x → val ((l.take 8).drop i) x < 9223372036854775808 →
    Ev (fun k => sawyerref02_TakeFix.l0 k l x (i : Int)) (val ((l.take 8).drop i) x, l.drop 8, 0) := by
  have hL : (l.take 8).length = 8 := by rw [List.length_take]; omega
  induction d with
  | zero =>
    intro i x hd hi h0 h1
    rw [List.drop_eq_nil_of_le (by omega)]
    refine Ev.step (f := fun _ => some (x, l.drop 8, 0)) (fun k => ?_) (Ev.const rfl)
    simp only [sawyerref02_TakeFix.l0]
    rw [if_neg (by omega), Option.bind_some, if_pos (by omega), Option.bind_some, if_pos (by simp; omega), List.nil_append]
  | succ d ih =>
    intro i x hd hi h0 h1
    have hlt : i < l.length := by omega
    have hc := hl (l[i]) (List.getElem_mem _)
    have e : (l.take 8).drop i = l[i] :: (l.take 8).drop (i + 1) := by
      rw [List.drop_eq_getElem_cons (by omega), List.getElem_take]
    rw [e] at h1 ⊢
    simp only [val] at h1 ⊢
    have hge := val_ge _ ((hl.take 8).drop (i + 1)) (x * 256 + l[i]) (by omega)
    have next := ih (i + 1) (x * 256 + l[i]) (by omega) (by omega) (by omega) h1
    refine Ev.step (fun k => ?_) next
    have hsmall : x * 256 + l[i] < 9223372036854775808 := by omega
    clear next hge h1 e
    simp only [sawyerref02_TakeFix.l0]
    rw [if_pos (by omega), if_pos (by omega), if_pos (by omega), rd_nat l i hlt, wrap_succ (by omega), wrap_in (n := x * 256) (by omega) (by omega), wrap_in (n := l[i]) (by omega) (by omega), wrap_in (by omega) (by omega)]
theorem refFixT_f {l : List Int} (hl : Byts l) (hb : l.length < 140737488355328) : Ev (fun k => sawyerref02_TakeFix.f k l) (tri (takeF l)) := by
  unfold sawyerref02_TakeFix.f takeF
  by_cases c : l.length < 8
  · rw [if_pos c]
    refine Ev.pos (by omega) (Ev.step (f := fun _ => some (0, [], 2)) (fun k => ?_) (Ev.const rfl))
    simp only [sawyerref02_TakeFix.j0]
    rw [if_pos trivial]
  · rw [if_neg c]
    refine Ev.neg (by omega) (Ev.pos (by omega) ?_)
    have hv : 9223372036854775808 ≤ val (l.take 8) 0 ↔ 128 ≤ rd l 0 := by
      cases l with
      | nil => simp at c
      | cons a r =>
        have ha := hl.head
        have hb7 := hl.tail.take 7
        have h1 := val_nonneg _ hb7 0 (by omega)
        have h2 := val_lt _ hb7
        have h3 := (be_val _ hb7 a).2
        have h7 : (r.take 7).length = 7 := by rw [List.length_take]; simp at c; omega
        rw [h7] at h2 h3
        have e : val ((a :: r).take 8) 0 = val (r.take 7) a := by simp [val]
        rw [e, h3]
        show _ ↔ 128 ≤ a
        omega
    have h8 := val8 hl
    by_cases q : 9223372036854775808 ≤ val (l.take 8) 0
    · rw [if_pos q]
      refine Ev.step (f := fun _ => some (0, [], 2)) (fun k => ?_) (Ev.const rfl)
      simp only [sawyerref02_TakeFix.j0]
      rw [if_pos (decide_eq_true (hv.1 q))]
    · rw [if_neg q]
      refine Ev.step (f := fun k => sawyerref02_TakeFix.l0 k l 0 0) (fun k => ?_) ?_
      · simp only [sawyerref02_TakeFix.j0]
        rw [if_neg (by rw [decide_eq_true_eq]; exact fun h => q (hv.2 h))]
      · have := refFixT_loop l hl (by omega) hb 8 0 0 rfl (by omega) (by omega) (by rw [List.drop_zero]; omega)
        rw [List.drop_zero] at this
        unfold tri
        simp only
        rw [Int.toNat_of_nonneg h8.1]
        exact this
theorem takeF_be {n : Int} (r : List Int) (h0 : 0 ≤ n) (h1 : n < 9223372036854775808) : takeF (be 8 n ++ r) = some (n.toNat, r) := by
  unfold takeF
  have hL := be_length 8 n
  have e : (be 8 n ++ r).take 8 = be 8 n := List.take_left' hL
  have e2 : (be 8 n ++ r).drop 8 = r := List.drop_left' hL
  have hv := val_be 8 n 0 h0 (by omega)
  rw [if_neg (by rw [List.length_append, hL]; omega), e, e2, hv, if_neg (by omega)]
  simp
theorem takeF_back {l r : List Int} {n : Nat} (hl : Byts l) (h : takeF l = some (n, r)) : l = be 8 n ++ r ∧ n < 9223372036854775808 := by
  unfold takeF at h
  have h8 := val8 hl
  split at h
  · cases h
  · rename_i c
    split at h
    · cases h
    · rename_i q
      simp only [Option.some.injEq, Prod.mk.injEq] at h
      obtain ⟨rfl, rfl⟩ := h
      have hL : (l.take 8).length = 8 := by rw [List.length_take]; omega
      have := (be_val _ (hl.take 8) 0).1
      rw [hL] at this
      rw [Int.toNat_of_nonneg h8.1, this, List.take_append_drop]
      exact ⟨rfl, by omega⟩

end Go.Proofs.Ytmkojpkajlpokaa.Sw

/- What slices.Concat computes. -/
set_option linter.unusedVariables false
set_option linter.unusedSimpArgs false
namespace Go.Proofs.Ytmkojpkajlpokaa.Sw
open Go.RowKit Go.Proofs.Ytmkojpkajlpokaa.Px Go.Proofs.YtmkojpkajlpokaaW.PrintWords Go.Proofs.YtmkojpkajlpokaaW.PrintLast Go.Proofs.YtmkojpkajlpokaaW.PrintMore

/-! ### rows laid one behind the other -/
theorem rdL_nat (L : List (List Int)) (i : Nat) (h : i < L.length) : rd_L1 L (i : Int) = L[i] := by
  unfold rd_L1
  rw [Int.toNat_natCast, List.getD_eq_getElem?_getD, List.getElem?_eq_getElem h]
  rfl
theorem concat_loop1 (L : List (List Int)) (hn : L.length < 140737488355328) (d : Nat) : ∀ (i : Nat) (acc : List Int), L.length - i = d → i ≤ L.length → acc.length + (L.drop i).flatten.length < 140737488355328 →
    Ev (fun k => slices_Concat_byte_byte.l1 k acc L (L.length : Int) (i : Int)) (acc ++ (L.drop i).flatten) := by
  induction d with
  | zero =>
    intro i acc hd hi hb
    rw [List.drop_eq_nil_of_le (by omega), List.flatten_nil, List.append_nil]
    refine Ev.step (f := fun _ => some acc) (fun k => ?_) (Ev.const rfl)
    simp only [slices_Concat_byte_byte.l1]
    rw [if_neg (by omega)]
  | succ d ih =>
    intro i acc hd hi hb
    have hlt : i < L.length := by omega
    rw [List.drop_eq_getElem_cons hlt, List.flatten_cons] at hb ⊢
    rw [List.length_append] at hb
    have next := ih (i + 1) (acc ++ L[i]) (by omega) (by omega) (by rw [List.length_append]; omega)
    rw [List.append_assoc] at next
    refine Ev.step (fun k => ?_) next
    clear next
    simp only [slices_Concat_byte_byte.l1]
    rw [if_pos (by omega), if_pos (by omega), if_pos (by omega), rdL_nat L i hlt, if_pos (by omega), wrap_succ (by omega)]
theorem concat_loop0 (L : List (List Int)) (hn : L.length < 140737488355328) (hb : L.flatten.length < 140737488355328) (d : Nat) : ∀ (i n : Nat), L.length - i = d → i ≤ L.length → n + (L.drop i).flatten.length < 140737488355328 →
    Ev (fun k => slices_Concat_byte_byte.l0 k L (n : Int) L (L.length : Int) (i : Int)) L.flatten := by
  induction d with
  | zero =>
    intro i n hd hi hn'
    refine Ev.step (f := fun k => slices_Concat_byte_byte.l1 k [] L (L.length : Int) 0) (fun k => ?_) ?_
    · simp only [slices_Concat_byte_byte.l0]
      unfold slices_Grow_byte_byte.f
      rw [if_neg (by omega), if_pos (by omega), Option.bind_some]
    · have := concat_loop1 L hn L.length 0 [] (by omega) (by omega) (by rw [List.drop_zero, List.length_nil]; omega)
      rw [List.drop_zero, List.nil_append] at this
      exact this
  | succ d ih =>
    intro i n hd hi hn'
    have hlt : i < L.length := by omega
    rw [List.drop_eq_getElem_cons hlt, List.flatten_cons, List.length_append] at hn'
    have next := ih (i + 1) (n + (L[i]).length) (by omega) (by omega) (by omega)
    refine Ev.step (fun k => ?_) next
    clear next
    simp only [slices_Concat_byte_byte.l0]
    rw [if_pos (by omega), if_pos (by omega), if_pos (by omega), rdL_nat L i hlt, wrap_in (n := (n : Int) + ((L[i]).length : Int)) (by omega) (by omega), if_neg (by omega), wrap_succ (by omega)]
    rfl
theorem concat_f {L : List (List Int)} (hn : L.length < 140737488355328) (hb : L.flatten.length < 140737488355328) : Ev (fun k => slices_Concat_byte_byte.f k L) L.flatten := by
  unfold slices_Concat_byte_byte.f
  exact concat_loop0 L hn hb L.length 0 0 (by omega) (by omega) (by rw [List.drop_zero]; omega)

end Go.Proofs.Ytmkojpkajlpokaa.Sw

/- What the functions that make and split keys compute. -/
set_option linter.unusedVariables false
set_option linter.unusedSimpArgs false
namespace Go.Proofs.Ytmkojpkajlpokaa.Sw
open Go.RowKit Go.Proofs.Ytmkojpkajlpokaa.Px Go.Proofs.YtmkojpkajlpokaaW.PrintWords Go.Proofs.YtmkojpkajlpokaaW.PrintLast Go.Proofs.YtmkojpkajlpokaaW.PrintMore

/-- May a key have these parts? -/
def okK (a t : Int) (n : Nat) : Prop := 0 ≤ a ∧ a ≤ 1099511627776 ∧ 0 ≤ t ∧ t ≤ 255 ∧ n ≤ 55
instance (a t : Int) (n : Nat) : Decidable (okK a t n) := by unfold okK; infer_instance
theorem nok {a t : Int} {n : Nat} (h : ¬ (0 ≤ a ∧ a ≤ 1099511627776 ∧ 0 ≤ t ∧ t ≤ 255 ∧ n ≤ 55)) : ¬ okK a t n := h
theorem yok {a t : Int} {n : Nat} (h : 0 ≤ a ∧ a ≤ 1099511627776 ∧ 0 ≤ t ∧ t ≤ 255 ∧ n ≤ 55) : okK a t n := h
def mk (a t : Int) (l : List Int) : Option (List Int) := if okK a t l.length then some (be 8 a ++ t :: l) else none
def triK : Option (List Int) → List Int × Int
  | some k => (k, 0)
  | none => ([], 1)
theorem mk_byts {a t : Int} {l k : List Int} (hl : Byts l) (h : mk a t l = some k) : Byts k := by
  unfold mk at h
  split at h
  · rename_i c
    unfold okK at c
    simp only [Option.some.injEq] at h
    subst h
    exact (be_byts 8 a).append (Byts.cons (by omega) (by omega) hl)
  · cases h
theorem triK_byts {a t : Int} {l : List Int} (hl : Byts l) : Byts (triK (mk a t l)).1 := by
  cases h : mk a t l with
  | none => exact Byts.nil
  | some k => exact mk_byts hl h
theorem right_f {a t : Int} {n : Nat} (hn : n < 140737488355328) : key_right.f a t (n : Int) = some (if okK a t n then none else some 1) := by
  unfold key_right.f
  rw [wrap_in (n := 9 + (n : Int)) (by omega) (by omega)]
  by_cases c1 : a < 0
  · rw [if_pos c1, if_neg (nok (by omega))]
  · rw [if_neg c1]
    by_cases c2 : a > 1099511627776
    · rw [if_pos c2, if_neg (nok (by omega))]
    · rw [if_neg c2]
      by_cases c3 : t < 0
      · rw [if_pos c3, if_neg (nok (by omega))]
      · rw [if_neg c3]
        by_cases c4 : t > 255
        · rw [if_pos c4, if_neg (nok (by omega))]
        · rw [if_neg c4]
          by_cases c5 : 9 + (n : Int) > 64
          · rw [if_pos c5, if_neg (nok (by omega))]
          · rw [if_neg c5, if_pos (yok (by omega))]
theorem make_f {a t : Int} {l : List Int} (hb : l.length < 140737488355328) : Ev (fun k => key_Make.f k a t l) (triK (mk a t l)) := by
  unfold key_Make.f mk
  refine Ev.bindc (right_f hb) ?_
  by_cases c : okK a t l.length
  · rw [if_pos c, if_pos c]
    have c' := c
    unfold okK at c'
    refine Ev.bindc (a := false) rfl (Ev.neg (by simp) ?_)
    have hp := putFix_f [] a (by omega) (by omega) (by simp)
    rw [List.nil_append, show max a 0 = a by omega] at hp
    refine Ev.bind hp ?_
    have hL := be_length 8 a
    refine Ev.bind (concat_f (by simp) (by simp [hL]; omega)) (Ev.const ?_)
    rw [show t % 256 = t by omega]
    simp [triK]
  · rw [if_neg c, if_neg c]
    exact Ev.bindc (a := true) rfl (Ev.pos rfl (Ev.const rfl))
theorem refMake_f {a t : Int} {l : List Int} (hb : l.length < 140737488355328) : Ev (fun k => sawyerref03_Make.f k a t l) (triK (mk a t l)) := by
  unfold sawyerref03_Make.f mk
  by_cases c : okK a t l.length
  · rw [if_pos c]
    unfold okK at c
    refine Ev.neg (by omega) (Ev.neg (by omega) (Ev.neg (by omega) (Ev.neg (by omega) (Ev.neg (by omega) ?_))))
    have hp := refFix_f [] a (by simp)
    rw [List.nil_append, show max a 0 = a by omega] at hp
    refine Ev.bind hp ?_
    have hL := be_length 8 a
    refine Ev.pos (by omega) (Ev.bindc rfl (Ev.pos (by simp [hL]; omega) (Ev.const ?_)))
    rw [show t % 256 = t by omega]
    simp [triK]
  · rw [if_neg c]
    unfold okK at c
    by_cases c1 : a < 0
    · exact Ev.pos c1 (Ev.const rfl)
    · refine Ev.neg c1 ?_
      by_cases c2 : a > 1099511627776
      · exact Ev.pos c2 (Ev.const rfl)
      · refine Ev.neg c2 ?_
        by_cases c3 : t < 0
        · exact Ev.pos c3 (Ev.const rfl)
        · refine Ev.neg c3 ?_
          by_cases c4 : t > 255
          · exact Ev.pos c4 (Ev.const rfl)
          · refine Ev.neg c4 ?_
            exact Ev.pos (by omega) (Ev.const rfl)
/-- The key of a number. -/
def nm (a t n : Int) : Option (List Int) := if 0 ≤ n ∧ n ≤ 1099511627776 then mk a t (be 8 n) else none
theorem num_f (a t n : Int) : Ev (fun k => key_Num.f k a t n) (triK (nm a t n)) := by
  unfold key_Num.f nm
  have bad : Ev (fun k => key_Num.j0 k a t n true) ([], 1) := by
    refine Ev.step (f := fun _ => some ([], 1)) (fun k => ?_) (Ev.const rfl)
    simp only [key_Num.j0]
    rw [if_pos trivial]
  by_cases c1 : n < 0
  · rw [if_neg (by omega)]
    exact Ev.pos c1 bad
  · refine Ev.neg c1 ?_
    by_cases c2 : n > 1099511627776
    · rw [if_neg (by omega), decide_eq_true c2]
      exact bad
    · rw [if_pos (by omega), decide_eq_false c2]
      refine Ev.step (f := fun k => (code_PutFix.f k ([] : List Int) n).bind fun t620 => ((key_Make.f k a t t620).bind fun bt623 => (some (bt623.1, bt623.2)))) (fun k => ?_) ?_
      · simp only [key_Num.j0]
        rw [if_neg (by simp)]
      · have hp := putFix_f [] n (by omega) (by omega) (by simp)
        rw [List.nil_append, show max n 0 = n by omega] at hp
        refine Ev.bind hp (Ev.bind (make_f (by rw [be_length]; omega)) (Ev.const rfl))
theorem refNumK_f (a t n : Int) : Ev (fun k => sawyerref03_Num.f k a t n) (triK (nm a t n)) := by
  unfold sawyerref03_Num.f nm
  have bad : Ev (fun k => sawyerref03_Num.j0 k a t n true) ([], 1) := by
    refine Ev.step (f := fun _ => some ([], 1)) (fun k => ?_) (Ev.const rfl)
    simp only [sawyerref03_Num.j0]
    rw [if_pos trivial]
  by_cases c1 : n < 0
  · rw [if_neg (by omega)]
    exact Ev.pos c1 bad
  · refine Ev.neg c1 ?_
    by_cases c2 : n > 1099511627776
    · rw [if_neg (by omega), decide_eq_true c2]
      exact bad
    · rw [if_pos (by omega), decide_eq_false c2]
      refine Ev.step (f := fun k => (sawyerref02_PutFix.f k ([] : List Int) n).bind fun t620 => ((sawyerref03_Make.f k a t t620).bind fun bt623 => (some (bt623.1, bt623.2)))) (fun k => ?_) ?_
      · simp only [sawyerref03_Num.j0]
        rw [if_neg (by simp)]
      · have hp := refFix_f [] n (by simp)
        rw [List.nil_append, show max n 0 = n by omega] at hp
        refine Ev.bind hp (Ev.bind (refMake_f (by rw [be_length]; omega)) (Ev.const rfl))
theorem nm_byts {a t n : Int} : Byts (triK (nm a t n)).1 := by
  unfold nm
  split
  · exact triK_byts (be_byts 8 n)
  · exact Byts.nil
/-- What a row was made of. -/
def splitK (l : List Int) : Option (Nat × Int × List Int) :=
  (takeF l).bind fun p => match p.2 with
    | [] => none
    | t :: r => if okK (p.1 : Int) t r.length then some (p.1, t, r) else none
def triS : Option (Nat × Int × List Int) → Int × Int × List Int × Int
  | some (n, t, r) => ((n : Int), t, r, 0)
  | none => (0, 0, [], 2)
theorem split_f {l : List Int} (hl : Byts l) (hb : l.length < 140737488355328) : Ev (fun k => key_Split.f k l) (triS (splitK l)) := by
  unfold key_Split.f splitK
  refine Ev.bind (takeFix_f hl hb) ?_
  cases h : takeF l with
  | none => exact Ev.neg (by simp [tri]) (Ev.const rfl)
  | some p =>
    obtain ⟨n, r⟩ := p
    obtain ⟨hE, h1⟩ := takeF_back hl h
    have hr : Byts r := by rw [hE] at hl; exact hl.right
    have hlen : l.length = (be 8 (n : Int)).length + r.length := by rw [hE, List.length_append]
    refine Ev.pos (show (tri (some (n, r))).2.2 = 0 from rfl) ?_
    rw [Option.bind_some]
    cases r with
    | nil => exact Ev.pos rfl (Ev.const rfl)
    | cons t r =>
      have ht := hr.head
      rw [List.length_cons] at hlen
      refine Ev.neg (show ¬ ((t :: r).length : Int) = 0 by rw [List.length_cons]; omega) (Ev.pos (show (0 : Int) < ((t :: r).length : Int) by rw [List.length_cons]; omega) ?_)
      have e1 : wrap64 (rd (t :: r) 0) = t := wrap_in (n := t) (by omega) (by omega)
      have e2 : wrap64 (((t :: r).length : Int) - 1) = (r.length : Int) := by rw [List.length_cons, wrap_in (by omega) (by omega)]; omega
      show Ev (fun _ => (key_right.f (n : Int) (wrap64 (rd (t :: r) 0)) (wrap64 (((t :: r).length : Int) - 1))).bind fun t526 => ((errors_Is.f t526 (some 1)).bind fun t527 => (if t527 = true then (some (0, 0, ([] : List Int), 2)) else (if 1 ≤ ((t :: r).length : Int) then (some ((n : Int), wrap64 (rd (t :: r) 0), ((t :: r).drop (1 : Int).toNat), 0)) else (none))))) _
      rw [e1, e2]
      refine Ev.bindc (right_f (by omega)) ?_
      simp only
      by_cases c : okK (n : Int) t r.length
      · rw [if_pos c, if_pos c]
        exact Ev.bindc (a := false) rfl (Ev.neg (by simp) (Ev.pos (by rw [List.length_cons]; omega) (Ev.const rfl)))
      · rw [if_neg c, if_neg c]
        exact Ev.bindc (a := true) rfl (Ev.pos rfl (Ev.const rfl))
theorem refSplit_f {l : List Int} (hl : Byts l) (hb : l.length < 140737488355328) : Ev (fun k => sawyerref03_Split.f k l) (triS (splitK l)) := by
  unfold sawyerref03_Split.f splitK
  refine Ev.bind (refFixT_f hl hb) ?_
  have bad : ∀ (x : Int) (y : List Int), Ev (fun k => sawyerref03_Split.j0 k x y true) (0, 0, [], 2) := fun x y => by
    refine Ev.step (f := fun _ => some (0, 0, [], 2)) (fun k => ?_) (Ev.const rfl)
    simp only [sawyerref03_Split.j0]
    rw [if_pos trivial]
  cases h : takeF l with
  | none => exact Ev.neg (by simp [tri]) (bad _ _)
  | some p =>
    obtain ⟨n, r⟩ := p
    obtain ⟨hE, h1⟩ := takeF_back hl h
    have hr : Byts r := by rw [hE] at hl; exact hl.right
    have hlen : l.length = (be 8 (n : Int)).length + r.length := by rw [hE, List.length_append]
    refine Ev.pos (show (tri (some (n, r))).2.2 = 0 from rfl) ?_
    rw [Option.bind_some]
    cases r with
    | nil => exact bad _ _
    | cons t r =>
      have ht := hr.head
      rw [List.length_cons] at hlen
      show Ev (fun k => sawyerref03_Split.j0 k (n : Int) (t :: r) (((t :: r).length : Int) == 0)) _
      rw [show (((t :: r).length : Int) == 0) = false by rw [beq_eq_false_iff_ne, List.length_cons]; omega]
      have e1 : wrap64 (rd (t :: r) 0) = t := wrap_in (n := t) (by omega) (by omega)
      refine Ev.step (f := fun k => (sawyerref03_Make.f k (n : Int) t r).bind fun bt551 => (if bt551.2 = 0 then (some ((n : Int), t, r, 0)) else (some (0, 0, ([] : List Int), 2)))) (fun k => ?_) ?_
      · simp only [sawyerref03_Split.j0]
        rw [if_neg (by simp), if_pos (by rw [List.length_cons]; omega), if_pos (by rw [List.length_cons]; omega), e1]
        rfl
      · refine Ev.bind (refMake_f (by omega)) ?_
        unfold mk
        simp only
        by_cases c : okK (n : Int) t r.length
        · rw [if_pos c, if_pos c]
          exact Ev.pos rfl (Ev.const rfl)
        · rw [if_neg c, if_neg c]
          exact Ev.neg (by simp [triK]) (Ev.const rfl)
theorem splitK_byts {l : List Int} (hl : Byts l) : Byts (triS (splitK l)).2.2.1 := by
  unfold splitK
  cases h : takeF l with
  | none => exact Byts.nil
  | some p =>
    obtain ⟨n, r⟩ := p
    have := (takeF_back hl h).1
    rw [this] at hl
    have hr := hl.right
    rw [Option.bind_some]
    simp only
    cases r with
    | nil => exact Byts.nil
    | cons t r =>
      simp only
      split
      · exact hr.tail
      · exact Byts.nil
theorem splitK_mk {a t : Int} {l : List Int} (c : okK a t l.length) : splitK (be 8 a ++ t :: l) = some (a.toNat, t, l) := by
  have c' := c
  unfold okK at c'
  unfold splitK
  rw [takeF_be _ (by omega) (by omega), Option.bind_some]
  simp only
  rw [Int.toNat_of_nonneg c'.1, if_pos c]
/-- Which key is less. -/
theorem less_key {a t b u : Int} {l m : List Int} (ha : 0 ≤ a ∧ a ≤ 1099511627776) (hb : 0 ≤ b ∧ b ≤ 1099511627776) :
    less (be 8 a ++ t :: l) (be 8 b ++ u :: m) = if a < b then true else if a = b then (if t < u then true else if u < t then false else less l m) else false := by
  by_cases e : a = b
  · subst e
    rw [less_append_left, if_neg (by omega), if_pos rfl]
    rfl
  · have h1 := less_be 8 ha.1 (by omega) hb.1 (by omega)
    have h2 := less_be 8 hb.1 (by omega) ha.1 (by omega)
    have key : ∀ (x y p q : List Int), x.length = y.length → less x y = true → less (x ++ p) (y ++ q) = true := by
      intro x
      induction x with
      | nil => intro y p q hxy h; cases y with | nil => simp [less] at h | cons _ _ => simp at hxy
      | cons c x ih =>
        intro y p q hxy h
        cases y with
        | nil => simp at hxy
        | cons d y =>
          rw [less_cons] at h
          rw [List.cons_append, List.cons_append, less_cons]
          rcases h with h | ⟨h, h'⟩
          · exact .inl h
          · exact .inr ⟨h, ih y p q (by simpa using hxy) h'⟩
    by_cases c : a < b
    · rw [if_pos c]
      rw [decide_eq_true c] at h1
      exact key _ _ _ _ (by rw [be_length, be_length]) h1
    · rw [if_neg c, if_neg e]
      rw [decide_eq_true (show b < a by omega)] at h2
      exact less_asymm (key _ _ _ _ (by rw [be_length, be_length]) h2)
end Go.Proofs.Ytmkojpkajlpokaa.Sw

/- What the functions on keys compute: less, beginnings, what is next. -/
set_option linter.unusedVariables false
set_option linter.unusedSimpArgs false
namespace Go.Proofs.Ytmkojpkajlpokaa.Sw
open Go.RowKit Go.Proofs.Ytmkojpkajlpokaa.Px Go.Proofs.YtmkojpkajlpokaaW.PrintWords Go.Proofs.YtmkojpkajlpokaaW.PrintLast Go.Proofs.YtmkojpkajlpokaaW.PrintMore

theorem less_f {a b : List Int} (ha : Byts a) (hb : Byts b) : key_Less.f a b = some (less a b) := by
  unfold key_Less.f bytes_Compare.f
  rw [Option.bind_some, compare_less ha hb]
/-- Does a row begin with another one? -/
def has (l p : List Int) : Bool := decide (l.take p.length = p)
theorem has_iff {l p : List Int} : has l p = true ↔ ∃ r, l = p ++ r := by
  unfold has
  rw [decide_eq_true_iff]
  constructor
  · intro h; exact ⟨l.drop p.length, by conv => lhs; rw [← List.take_append_drop p.length l, h]⟩
  · rintro ⟨r, rfl⟩; simp
theorem has_f {a b : List Int} (ha : Byts a) (hb : Byts b) : key_Has.f a b = some (has a b) := by
  unfold key_Has.f bytes_HasPrefix.f bytes_Equal.f has
  by_cases c : (a.length : Int) ≥ (b.length : Int)
  · rw [if_pos c, if_pos (by omega), if_pos (by omega), Int.toNat_natCast, Option.bind_some, Option.bind_some, str_eq (ha.take _) hb]
  · rw [if_neg c, Option.bind_some, decide_eq_false]
    intro h
    have := congrArg List.length h
    rw [List.length_take] at this
    omega
/-- A row without the bytes 255 at its end. -/
def trim : List Int → List Int
  | [] => []
  | c :: l => let t := trim l; if t = [] ∧ c = 255 then [] else c :: t
theorem trim_snoc_255 : ∀ l : List Int, trim (l ++ [255]) = trim l
  | [] => by simp [trim]
  | c :: l => by simp only [List.cons_append, trim, trim_snoc_255 l]
theorem trim_snoc : ∀ (l : List Int) (c : Int), c ≠ 255 → trim (l ++ [c]) = l ++ [c]
  | [], c, h => by simp [trim, h]
  | d :: l, c, h => by simp [trim, trim_snoc l c h]
/-- Its last byte one more. -/
def bump : List Int → List Int
  | [] => []
  | [c] => [c + 1]
  | c :: d :: l => c :: bump (d :: l)
theorem bump_snoc : ∀ (l : List Int) (c : Int), bump (l ++ [c]) = l ++ [c + 1]
  | [], c => rfl
  | [d], c => rfl
  | d :: e :: l, c => by
    have := bump_snoc (e :: l) c
    simp only [List.cons_append] at this ⊢
    rw [bump, this]
def next (l : List Int) : List Int := bump (trim l)
theorem trim_byts : ∀ {l : List Int}, Byts l → Byts (trim l)
  | [], _ => Byts.nil
  | c :: l, h => by
    simp only [trim]
    split
    · exact Byts.nil
    · exact Byts.cons h.head.1 h.head.2 (trim_byts h.tail)
theorem trim_last : ∀ {l : List Int} {m : List Int} {c : Int}, trim l = m ++ [c] → c ≠ 255
  | [], m, c, h => by simp [trim] at h
  | d :: l, m, c, h => by
    simp only [trim] at h
    split at h
    · simp at h
    · rename_i hn
      cases m with
      | nil =>
        simp only [List.nil_append, List.cons.injEq] at h
        exact fun e => hn ⟨h.2, by rw [h.1]; exact e⟩
      | cons e m =>
        simp only [List.cons_append, List.cons.injEq] at h
        exact trim_last h.2
theorem next_byts {l : List Int} (h : Byts l) : Byts (next l) := by
  unfold next
  have ht := trim_byts h
  have hl := @trim_last l
  revert ht hl
  generalize trim l = t
  intro ht hl
  revert t
  refine rev_ind ?_ ?_
  · intro _ _; exact Byts.nil
  · intro m c _ ht hl
    have := hl rfl
    have hc := ht.right.head
    rw [bump_snoc]
    exact ht.left.append (Byts.one (by omega) (by omega))
theorem next_loop : ∀ (l : List Int), Byts l → l.length < 140737488355328 → Ev (fun k => key_Next.l0 k l) (next l) := by
  refine rev_ind ?_ ?_
  · intro _ _
    refine Ev.step (f := fun _ => some []) (fun k => ?_) (Ev.now _)
    simp [key_Next.l0]
  · intro l c ih h hl
    have hc := h.right.head
    rw [List.length_append, List.length_cons, List.length_nil] at hl
    have hL : (l ++ [c]).length = l.length + 1 := by simp
    have e1 : wrap64 (((l ++ [c]).length : Int) - 1) = (l.length : Int) := by
      rw [hL, wrap_in (by omega) (by omega)]
      omega
    have e2 : rd (l ++ [c]) (l.length : Int) = c := by rw [rd_nat _ _ (by simp)]; simp
    by_cases hz : c = 255
    · refine Ev.step (f := fun k => key_Next.l0 k l) (fun k => ?_) ?_
      · simp only [key_Next.l0]
        rw [e1, e2, if_pos (by simp only [List.length_append, List.length_cons, List.length_nil]; omega), if_pos (by omega), if_pos (by simp only [List.length_append, List.length_cons, List.length_nil]; omega), if_pos hz, if_pos (by simp only [List.length_append, List.length_cons, List.length_nil]; omega), Int.toNat_natCast, List.take_left]
      · subst hz
        unfold next
        rw [trim_snoc_255]
        exact ih h.left (by omega)
    · refine Ev.step (f := fun _ => some (next (l ++ [c]))) (fun k => ?_) (Ev.now _)
      simp only [key_Next.l0]
      rw [e1, e2, if_pos (by simp only [List.length_append, List.length_cons, List.length_nil]; omega), if_pos (by omega), if_pos (by simp only [List.length_append, List.length_cons, List.length_nil]; omega), if_neg hz, Int.toNat_natCast]
      unfold next
      rw [trim_snoc _ _ hz, bump_snoc, show (c + 1) % 256 = c + 1 by omega]
      simp
theorem next_f {l : List Int} (h : Byts l) (hl : l.length < 140737488355328) : Ev (fun k => key_Next.f k l) (next l) := by
  unfold key_Next.f
  refine Ev.bindc (a := l) (by unfold slices_Clone_byte_byte.f; rw [if_pos hl]) (next_loop l h hl)
/-- What is not less than a row, and less than what is next to it, begins with it; and the other way round. -/
theorem next_between : ∀ {p k : List Int}, Byts p → Byts k → ((less k p = false ∧ (next p = [] ∨ less k (next p) = true)) ↔ has k p = true) := by
  intro p k hp hk
  have key : ∀ (t s k : List Int), Byts k → (∀ x ∈ s, x = 255) → (∀ m c, t = m ++ [c] → c ≠ 255) → ((less k (t ++ s) = false ∧ (bump t = [] ∨ less k (bump t) = true)) ↔ has k (t ++ s) = true) := by
    intro t
    induction t with
    | nil =>
      intro s
      induction s with
      | nil => intro k _ _ _; simp [bump, less_nil, has]
      | cons a s ih =>
        intro k hk hs _
        have ha := hs a List.mem_cons_self
        subst ha
        simp only [List.nil_append, bump, true_or, and_true]
        have ih' := fun k hk => ih k hk (fun x hx => hs x (List.mem_cons_of_mem _ hx)) (by simp)
        simp only [List.nil_append, bump, true_or, and_true] at ih'
        cases k with
        | nil => simp [less, has]
        | cons c k =>
          have hc := hk.head
          have h1 : less (c :: k) (255 :: s) = false ↔ c = 255 ∧ less k s = false := by
            rw [← Bool.not_eq_true, less_cons, ← Bool.not_eq_true]
            by_cases e : c = 255
            · subst e; simp
            · simp [e]; omega
          rw [h1, ih' k hk.tail]
          simp [has]
    | cons a t ih =>
      intro s k hk hs ht
      cases k with
      | nil => simp [less, has]
      | cons c k =>
        have hc := hk.head
        cases t with
        | nil =>
          have ha : a ≠ 255 := ht [] a rfl
          have h1 : less (c :: k) ([a] ++ s) = false ↔ a < c ∨ c = a ∧ less k s = false := by
            rw [← Bool.not_eq_true, List.cons_append, List.nil_append, less_cons, ← Bool.not_eq_true]
            by_cases e : c = a
            · subst e; simp
            · simp [e]; omega
          have h2 : less (c :: k) (bump [a]) = true ↔ c < a + 1 := by
            simp only [bump]
            rw [less_cons, less_nil]
            simp
          rw [h1, h2]
          simp only [bump, List.cons_ne_nil, false_or, reduceCtorEq]
          have ih' := ih s k hk.tail hs (by simp)
          simp only [List.nil_append, bump, true_or, and_true] at ih'
          have h3 : has (c :: k) ([a] ++ s) = true ↔ c = a ∧ has k s = true := by simp [has]
          rw [h3, ← ih']
          constructor
          · rintro ⟨h | h, h'⟩
            · omega
            · exact h
          · rintro ⟨rfl, h⟩
            exact ⟨.inr ⟨rfl, h⟩, by omega⟩
        | cons b t =>
          have ht' : ∀ m c, b :: t = m ++ [c] → c ≠ 255 := fun m c h => ht (a :: m) c (by rw [h]; rfl)
          have ih' := ih s k hk.tail hs ht'
          have hb : bump (b :: t) ≠ [] := by cases t <;> simp [bump]
          have h1 : less (c :: k) (a :: b :: t ++ s) = false ↔ a < c ∨ c = a ∧ less k (b :: t ++ s) = false := by
            rw [← Bool.not_eq_true, List.cons_append, less_cons, ← Bool.not_eq_true]
            by_cases e : c = a
            · subst e; simp
            · simp [e]; omega
          have h2 : less (c :: k) (bump (a :: b :: t)) = true ↔ c < a ∨ c = a ∧ less k (bump (b :: t)) = true := by
            rw [bump, less_cons]
          have h3 : has (c :: k) (a :: b :: t ++ s) = true ↔ c = a ∧ has k (b :: t ++ s) = true := by simp [has]
          rw [h1, h2, h3, ← ih']
          simp only [hb, false_or, show bump (a :: b :: t) ≠ [] by simp [bump]]
          constructor
          · rintro ⟨h, h'⟩
            rcases h' with h' | ⟨rfl, h'⟩
            · rcases h with h | ⟨h, _⟩ <;> omega
            · rcases h with h | ⟨_, h⟩
              · omega
              · exact ⟨rfl, h, h'⟩
          · rintro ⟨rfl, h, h'⟩
            exact ⟨.inr ⟨rfl, h⟩, .inr ⟨rfl, h'⟩⟩
  have split : ∀ l : List Int, ∃ s, l = trim l ++ s ∧ ∀ x ∈ s, x = 255 := by
    intro l
    induction l with
    | nil => exact ⟨[], rfl, by simp⟩
    | cons c l ih =>
      obtain ⟨s, h1, h2⟩ := ih
      simp only [trim]
      split
      · rename_i h
        refine ⟨c :: l, rfl, ?_⟩
        rw [h.1, List.nil_append] at h1
        intro x hx
        rcases List.mem_cons.1 hx with rfl | hx
        · exact h.2
        · rw [h1] at hx; exact h2 x hx
      · exact ⟨s, by rw [List.cons_append, ← h1], h2⟩
  obtain ⟨s, h1, h2⟩ := split p
  have := key (trim p) s k hk h2 (fun m c h => trim_last h)
  rw [← h1] at this
  exact this
theorem less_true : key_Less.f ([] : List Int) [1] = some true := by
  rw [less_f Byts.nil (Byts.one (by omega) (by omega))]
  rfl
end Go.Proofs.Ytmkojpkajlpokaa.Sw

/- The pure statement of KeyTables: a table lies between its beginning and what is next. No condition. -/
set_option linter.unusedVariables false
set_option linter.unusedSimpArgs false
namespace Go.Proofs.Ytmkojpkajlpokaa.Pure
open Go.RowKit Go.Proofs.Ytmkojpkajlpokaa.Px Go.Proofs.Ytmkojpkajlpokaa.Sw Go.Proofs.YtmkojpkajlpokaaW.PrintWords Go.Proofs.YtmkojpkajlpokaaW.PrintLast
theorem tables_bad (a t b u : Int) (x y : List Int) (p q : Int) (hp : p = 0 ∨ p = 1) (hq : q = 0 ∨ q = 1) : Ev (fun k => sawyerlaw03_KeyTables.j0 k a t b u x p y q true) true := by
  refine Ev.step (f := fun _ => some true) (fun k => ?_) (Ev.const rfl)
  simp only [sawyerlaw03_KeyTables.j0, less_true, Option.bind_some]
  rcases hp with rfl | rfl <;> rcases hq with rfl | rfl <;> rfl
theorem two (o : Option (List Int)) : (triK o).2 = 0 ∨ (triK o).2 = 1 := by
  cases o with
  | none => exact .inr rfl
  | some _ => exact .inl rfl
theorem mk_of {a t : Int} {l k : List Int} (h : mk a t l = some k) : k = be 8 a ++ t :: l ∧ (0 ≤ a ∧ a ≤ 1099511627776) ∧ 0 ≤ t ∧ t ≤ 255 ∧ l.length ≤ 55 := by
  unfold mk at h
  split at h
  · rename_i c2
    unfold okK at c2
    simp only [Option.some.injEq] at h
    exact ⟨h.symm, ⟨c2.1, c2.2.1⟩, c2.2.2.1, c2.2.2.2.1, c2.2.2.2.2⟩
  · cases h
theorem next_ne {c : Int} {l : List Int} (h : c ≠ 255) : next (c :: l) ≠ [] := by
  unfold next
  simp only [trim]
  rw [if_neg (fun e => h e.2)]
  cases trim l with
  | nil => simp [bump]
  | cons d m => simp [bump]
theorem has_table {a t b u : Int} {l : List Int} (ha : 0 ≤ a ∧ a ≤ 1099511627776) (hb : 0 ≤ b ∧ b ≤ 1099511627776) : has (be 8 b ++ u :: l) (be 8 a ++ [t]) = decide (a = b ∧ t = u) := by
  rw [Bool.eq_iff_iff, has_iff, decide_eq_true_iff]
  constructor
  · rintro ⟨r, h⟩
    rw [List.append_assoc] at h
    obtain ⟨h1, h2⟩ := List.append_inj h (by rw [be_length, be_length])
    simp only [List.singleton_append, List.cons.injEq] at h2
    exact ⟨(be_inj 8 hb.1 (by omega) ha.1 (by omega) h1).symm, h2.1.symm⟩
  · rintro ⟨rfl, rfl⟩
    exact ⟨l, by simp⟩
theorem KeyTables : sawyerlaw03_KeyTables.Pure := by
  intro a t b u l _ _ _ _ _ h0 w0
  have hl := byts_of_wf w0
  refine Ev.rounds (r := true) ?_
  unfold sawyerlaw03_KeyTables.f
  refine Ev.bind (make_f (by simp)) (Ev.bind (make_f (by omega)) ?_)
  cases h1 : mk a t [] with
  | none => exact Ev.neg (by simp [triK]) (tables_bad _ _ _ _ _ _ _ _ (two _) (two _))
  | some p =>
    refine Ev.pos rfl ?_
    cases h2 : mk b u l with
    | none => exact tables_bad _ _ _ _ _ _ _ _ (two _) (two _)
    | some k =>
      obtain ⟨rfl, r1⟩ := mk_of h1
      obtain ⟨rfl, r2⟩ := mk_of h2
      have kp : Byts (be 8 a ++ [t]) := (be_byts 8 a).append (Byts.one (by omega) (by omega))
      have kk : Byts (be 8 b ++ u :: l) := (be_byts 8 b).append (Byts.cons (by omega) (by omega) hl)
      have hL : (be 8 a ++ [t]).length = 9 := by rw [List.length_append, be_length]; rfl
      have hne : next (be 8 a ++ [t]) ≠ [] := by
        rw [be_shift 7 a, List.cons_append]
        refine next_ne ?_
        rw [Int.ediv_eq_zero_of_lt r1.1.1 (by omega)]
        decide
      have hpos : ((next (be 8 a ++ [t])).length : Int) > 0 := by
        have : (next (be 8 a ++ [t])).length ≠ 0 := fun h => hne (List.eq_nil_of_length_eq_zero h)
        omega
      have hb := next_between kp kk
      have ht := has_table (t := t) (u := u) (l := l) r1.1 r2.1
      have hn := next_f kp (by omega)
      show Ev (fun k => sawyerlaw03_KeyTables.j0 k a t b u (be 8 a ++ [t]) 0 (be 8 b ++ u :: l) 0 false) true
      by_cases c : less (be 8 b ++ u :: l) (be 8 a ++ [t]) = true
      · have hh : has (be 8 b ++ u :: l) (be 8 a ++ [t]) = false := by
          cases e : has (be 8 b ++ u :: l) (be 8 a ++ [t]) with
          | false => rfl
          | true => rw [(hb.2 e).1] at c; cases c
        have hd : ¬ (a = b ∧ t = u) := by rw [hh] at ht; exact of_decide_eq_false ht.symm
        refine Ev.step (f := fun k => (key_Next.f k (be 8 a ++ [t])).bind fun t905 => (if (t905.length : Int) > 0 then some true else some false)) (fun k => ?_) (Ev.bind hn (Ev.pos hpos (Ev.const rfl)))
        simp only [sawyerlaw03_KeyTables.j0, less_f kk kp, has_f kk kp, hh, c, Option.bind_some]
        rw [if_neg (by simp)]
        by_cases q : a = b
        · have q2 : t ≠ u := fun h => hd ⟨q, h⟩
          simp [q, q2]
        · simp [q]
      · have c' : less (be 8 b ++ u :: l) (be 8 a ++ [t]) = false := by simpa using c
        have hh : less (be 8 b ++ u :: l) (next (be 8 a ++ [t])) = has (be 8 b ++ u :: l) (be 8 a ++ [t]) := by
          rw [Bool.eq_iff_iff, ← hb]
          simp [c', hne]
        have hln := less_f kk (next_byts kp)
        rw [hh, ht] at hln
        have hhf := has_f kk kp
        rw [ht] at hhf
        refine Ev.step (f := fun k => (key_Next.f k (be 8 a ++ [t])).bind fun t910 => ((key_Less.f (be 8 b ++ u :: l) t910).bind fun t913 => ((key_Next.f k (be 8 a ++ [t])).bind fun t914 => (if (t914.length : Int) > 0 then (if a = b then (if (t913 == (t == u)) = true then ((key_Has.f (be 8 b ++ u :: l) (be 8 a ++ [t])).bind fun t917 => (some (t917 == t913))) else (some false)) else (if (t913 == false) = true then ((key_Has.f (be 8 b ++ u :: l) (be 8 a ++ [t])).bind fun t918 => (some (t918 == t913))) else (some false))) else (some false))))) (fun k => ?_) ?_
        · simp only [sawyerlaw03_KeyTables.j0, less_f kk kp, c', Option.bind_some]
          rw [if_neg (by simp), if_neg (by simp)]
        · refine Ev.bind hn (Ev.bindc hln (Ev.bind hn (Ev.pos hpos ?_)))
          by_cases q : a = b
          · refine Ev.pos q ?_
            by_cases q2 : t = u
            · refine Ev.pos (by simp [q, q2]) (Ev.bindc hhf (Ev.const (by simp)))
            · refine Ev.pos (by simp [q, q2]) (Ev.bindc hhf (Ev.const (by simp)))
          · refine Ev.neg q (Ev.pos (by simp [q]) (Ev.bindc hhf (Ev.const (by simp))))
end Go.Proofs.Ytmkojpkajlpokaa.Pure
