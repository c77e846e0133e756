/- Plain lemmas on rows of bytes: their order, when two are the same, which begins which. No program in sight. -/
import Derived.Test.YtobjkjmmkbhecaaVWGuardMoreInvWordsC
import Derived.Lib.Bytealg
import Derived.Lib.Bytes
set_option linter.unusedVariables false
set_option linter.unusedSimpArgs false
namespace Go.Proofs.Ytobjkjmmkbhecaa.Sw
open Go.RowKit Go.Proofs.YtobjkjmmkbhecaaW.PrintWords Go.Proofs.YtobjkjmmkbhecaaW.PrintMore

/-- All numbers of a row are bytes. -/
def Byts (l : List Int) : Prop := ∀ x ∈ l, 0 ≤ x ∧ x < 256
theorem Byts.nil : Byts [] := fun x hx => by cases hx
theorem Byts.cons {a : Int} {l : List Int} (h0 : 0 ≤ a) (h1 : a < 256) (h : Byts l) : Byts (a :: l) := by
  intro x hx
  rcases List.mem_cons.1 hx with rfl | hx
  · exact ⟨h0, h1⟩
  · exact h x hx
theorem Byts.head {a : Int} {l : List Int} (h : Byts (a :: l)) : 0 ≤ a ∧ a < 256 := h a List.mem_cons_self
theorem Byts.tail {a : Int} {l : List Int} (h : Byts (a :: l)) : Byts l := fun x hx => h x (List.mem_cons_of_mem _ hx)
theorem Byts.append {a b : List Int} (ha : Byts a) (hb : Byts b) : Byts (a ++ b) := by
  intro x hx
  rcases List.mem_append.1 hx with hx | hx
  · exact ha x hx
  · exact hb x hx
theorem Byts.left {a b : List Int} (h : Byts (a ++ b)) : Byts a := fun x hx => h x (List.mem_append_left _ hx)
theorem Byts.right {a b : List Int} (h : Byts (a ++ b)) : Byts b := fun x hx => h x (List.mem_append_right _ hx)
theorem Byts.take {a : List Int} (h : Byts a) (n : Nat) : Byts (a.take n) := fun x hx => h x (List.mem_of_mem_take hx)
theorem Byts.drop {a : List Int} (h : Byts a) (n : Nat) : Byts (a.drop n) := fun x hx => h x (List.mem_of_mem_drop hx)
theorem Byts.one {a : Int} (h0 : 0 ≤ a) (h1 : a < 256) : Byts [a] := Byts.cons h0 h1 Byts.nil
theorem byts_of_wf {l : List Int} (h : ∀ x ∈ l, (Lit.int .u8 x).wf = true) : Byts l := by
  intro x hx
  have := h x hx
  simp only [Lit.wf, IntKind.min, IntKind.max, IntKind.signed, IntKind.bits, Bool.and_eq_true, decide_eq_true_eq] at this
  simp at this
  omega
theorem Byts.set {l : List Int} (h : Byts l) (i : Nat) {v : Int} (h0 : 0 ≤ v) (h1 : v < 256) : Byts (l.set i v) := by
  intro x hx
  rcases List.mem_or_eq_of_mem_set hx with hx | rfl
  · exact h x hx
  · exact ⟨h0, h1⟩
theorem i64_of_wf {x : Int} (h : (Lit.int .i64 x).wf = true) : -9223372036854775808 ≤ x ∧ x ≤ 9223372036854775807 := by
  simp only [Lit.wf, IntKind.min, IntKind.max, IntKind.signed, IntKind.bits, Bool.and_eq_true, decide_eq_true_eq] at h
  simp at h
  omega
theorem u8_of_wf {x : Int} (h : (Lit.int .u8 x).wf = true) : 0 ≤ x ∧ x < 256 := by
  simp only [Lit.wf, IntKind.min, IntKind.max, IntKind.signed, IntKind.bits, Bool.and_eq_true, decide_eq_true_eq] at h
  simp at h
  omega
theorem rd_range {l : List Int} (h : Byts l) (i : Int) : 0 ≤ rd l i ∧ rd l i < 256 := by
  unfold rd
  rw [List.getD_eq_getElem?_getD]
  cases hx : l[i.toNat]? with
  | none => simp
  | some x => exact h x (List.mem_of_getElem? hx)

/-- The order of rows of bytes: by the first in which they differ; one that has ended is less. -/
def less : List Int → List Int → Bool
  | _, [] => false
  | [], _ :: _ => true
  | a :: x, b :: y => if a < b then true else if b < a then false else less x y
theorem u8_lt {a b : Int} (ha : 0 ≤ a ∧ a < 256) (hb : 0 ≤ b ∧ b < 256) : (UInt8.ofNat a.toNat < UInt8.ofNat b.toNat) ↔ a < b := by
  rw [UInt8.lt_iff_toNat_lt]
  simp only [UInt8.toNat_ofNat']
  omega
theorem u8_eq {a b : Int} (ha : 0 ≤ a ∧ a < 256) (hb : 0 ≤ b ∧ b < 256) : (UInt8.ofNat a.toNat = UInt8.ofNat b.toNat) ↔ a = b := by
  rw [← UInt8.toNat_inj]
  simp only [UInt8.toNat_ofNat']
  omega
theorem bytesOf_cons (a : Int) (l : List Int) : Lib.bytesOf (a :: l) = UInt8.ofNat a.toNat :: Lib.bytesOf l := rfl
theorem compare_less : ∀ {a b : List Int}, Byts a → Byts b → decide (Lib.compareBytes (Lib.bytesOf a) (Lib.bytesOf b) < 0) = less a b
  | [], [], _, _ => by simp [Lib.bytesOf, Lib.compareBytes, less]
  | [], _ :: _, _, _ => by simp [Lib.bytesOf, Lib.compareBytes, less]
  | _ :: _, [], _, _ => by simp [Lib.bytesOf, Lib.compareBytes, less]
  | a :: x, b :: y, ha, hb => by
    have ih := compare_less ha.tail hb.tail
    have h1 := u8_lt ha.head hb.head
    have h2 := u8_lt hb.head ha.head
    rw [bytesOf_cons, bytesOf_cons]
    unfold Lib.compareBytes less
    by_cases c : a < b
    · rw [if_pos (h1.2 c), if_pos c]; rfl
    · rw [if_neg (fun h => c (h1.1 h)), if_neg c]
      by_cases c2 : b < a
      · rw [if_pos (h2.2 c2), if_pos c2]; rfl
      · rw [if_neg (fun h => c2 (h2.1 h)), if_neg c2]; exact ih
theorem bytesLess_less : ∀ {a b : List Int}, Byts a → Byts b → Op.bytesLess (Lib.bytesOf a) (Lib.bytesOf b) = less a b
  | [], [], _, _ => by simp [Lib.bytesOf, Op.bytesLess, less]
  | [], _ :: _, _, _ => by simp [Lib.bytesOf, Op.bytesLess, less]
  | _ :: _, [], _, _ => by simp [Lib.bytesOf, Op.bytesLess, less]
  | a :: x, b :: y, ha, hb => by
    have ih := bytesLess_less ha.tail hb.tail
    have h1 := u8_lt ha.head hb.head
    have h3 := u8_eq ha.head hb.head
    rw [bytesOf_cons, bytesOf_cons]
    unfold Op.bytesLess less
    by_cases c : a < b
    · rw [if_pos c, decide_eq_true (h1.2 c)]; rfl
    · rw [if_neg c, decide_eq_false (fun h => c (h1.1 h)), Bool.false_or]
      by_cases c2 : b < a
      · rw [if_pos c2, beq_eq_false_iff_ne.2 (fun h => by have := h3.1 h; omega)]; rfl
      · rw [if_neg c2, beq_iff_eq.2 (h3.2 (by omega)), Bool.true_and]; exact ih
theorem bytesOf_inj : ∀ {a b : List Int}, Byts a → Byts b → (Lib.bytesOf a = Lib.bytesOf b ↔ a = b)
  | [], [], _, _ => by simp
  | [], _ :: _, _, _ => by simp [Lib.bytesOf]
  | _ :: _, [], _, _ => by simp [Lib.bytesOf]
  | a :: x, b :: y, ha, hb => by
    have ih := bytesOf_inj ha.tail hb.tail
    have h3 := u8_eq ha.head hb.head
    rw [bytesOf_cons, bytesOf_cons, List.cons.injEq, List.cons.injEq, h3, ih]
/-- Two rows as texts are the same just if they are the same. -/
theorem str_eq {a b : List Int} (ha : Byts a) (hb : Byts b) : ((strOfNums a).toList == (strOfNums b).toList) = decide (a = b) := by
  rw [Lib.strOfNums_toList, Lib.strOfNums_toList]
  by_cases c : a = b
  · subst c; simp
  · rw [decide_eq_false c, beq_eq_false_iff_ne]
    exact fun h => c ((bytesOf_inj ha hb).1 h)
theorem str_less {a b : List Int} (ha : Byts a) (hb : Byts b) : Op.bytesLess (strOfNums a).toList (strOfNums b).toList = less a b := by
  rw [Lib.strOfNums_toList, Lib.strOfNums_toList]
  exact bytesLess_less ha hb

theorem less_nil (a : List Int) : less a [] = false := by cases a <;> rfl
theorem less_irrefl : ∀ a : List Int, less a a = false
  | [] => rfl
  | a :: x => by
    unfold less
    rw [if_neg (by omega), if_neg (by omega)]
    exact less_irrefl x
theorem less_cons (a b : Int) (x y : List Int) : less (a :: x) (b :: y) = true ↔ a < b ∨ a = b ∧ less x y = true := by
  conv => lhs; unfold less
  by_cases c : a < b
  · simp [c]
  · rw [if_neg c]
    by_cases c2 : b < a
    · rw [if_pos c2]
      simp
      omega
    · rw [if_neg c2]
      have : a = b := by omega
      simp [this]
theorem less_trans : ∀ {a b c : List Int}, less a b = true → less b c = true → less a c = true
  | _, [], _, h, _ => by rw [less_nil] at h; cases h
  | _, _ :: _, [], _, h => by rw [less_nil] at h; cases h
  | [], _ :: _, _ :: _, _, _ => rfl
  | a :: x, b :: y, c :: z, h, k => by
    rw [less_cons] at h k ⊢
    rcases h with h | ⟨h, h'⟩ <;> rcases k with k | ⟨k, k'⟩
    · exact .inl (by omega)
    · exact .inl (by omega)
    · exact .inl (by omega)
    · exact .inr ⟨by omega, less_trans h' k'⟩
theorem less_asymm {a b : List Int} (h : less a b = true) : less b a = false := by
  cases c : less b a with
  | false => rfl
  | true => have := less_trans h c; rw [less_irrefl] at this; cases this
theorem less_total : ∀ {a b : List Int}, a ≠ b → less a b = true ∨ less b a = true
  | [], [], h => absurd rfl h
  | [], _ :: _, _ => .inl rfl
  | _ :: _, [], _ => .inr rfl
  | a :: x, b :: y, h => by
    rw [less_cons, less_cons]
    by_cases c : a = b
    · subst c
      rcases less_total (a := x) (b := y) (fun h' => h (by rw [h'])) with k | k
      · exact .inl (.inr ⟨rfl, k⟩)
      · exact .inr (.inr ⟨rfl, k⟩)
    · by_cases c2 : a < b
      · exact .inl (.inl c2)
      · exact .inr (.inl (by omega))
theorem less_append : ∀ (a : List Int) (x : Int) (y : List Int), less a (a ++ x :: y) = true
  | [], _, _ => rfl
  | a :: l, x, y => by
    rw [List.cons_append, less_cons]
    exact .inr ⟨rfl, less_append l x y⟩
/-- A row is not less than what it begins with. -/
theorem less_prefix : ∀ (p l : List Int), less (p ++ l) p = false
  | [], l => less_nil _
  | a :: p, l => by
    cases c : less (a :: p ++ l) (a :: p) with
    | false => rfl
    | true =>
      rw [List.cons_append, less_cons] at c
      rcases c with c | ⟨_, c⟩
      · omega
      · rw [less_prefix p l] at c; cases c
theorem less_append_left : ∀ (p a b : List Int), less (p ++ a) (p ++ b) = less a b
  | [], _, _ => rfl
  | x :: p, a, b => by
    have ih := less_append_left p a b
    rw [List.cons_append, List.cons_append, Bool.eq_iff_iff, less_cons, ← Bool.eq_iff_iff.1 ih]
    constructor
    · rintro (h | ⟨_, h⟩)
      · omega
      · exact h
    · exact fun h => .inr ⟨rfl, h⟩

theorem mx0 (n : Int) : mx n 0 = max n 0 := by unfold mx; split <;> omega
theorem wrap_in {n : Int} (h0 : -9223372036854775808 ≤ n) (h1 : n ≤ 9223372036854775807) : wrap64 n = n := by unfold wrap64; omega
theorem rd_nat (l : List Int) (i : Nat) (h : i < l.length) : rd l (i : Int) = l[i] := by
  unfold rd
  rw [Int.toNat_natCast, List.getD_eq_getElem?_getD, List.getElem?_eq_getElem h]
  rfl
end Go.Proofs.Ytobjkjmmkbhecaa.Sw
