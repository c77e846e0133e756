/- Notes and versions in plain Lean. Conditions: those of each theorem. -/
import Derived.Test.YthpklhkibcenoaaCore
import Derived.Test.YthpklhkibcenoaaHso
import Derived.Test.YthpklhkibcenoaaPx0
import Derived.Test.YthpklhkibcenoaaMA
namespace Go.Proofs.Ythpklhkibcenoaa.Sk
open Go.RowKit Go.Proofs.YthpklhkibcenoaaW.PrintWords Go.Proofs.YthpklhkibcenoaaW.PrintLast Go.Proofs.YthpklhkibcenoaaW.PrintMore Go.Proofs.Ythpklhkibcenoaa.Px Go.Proofs.Ythpklhkibcenoaa.Sw
set_option linter.unusedVariables false
set_option linter.unusedSimpArgs false

def I64 (n : Int) : Prop := -9223372036854775808 ≤ n ∧ n ≤ 9223372036854775807
def i64B (n : Int) : Bool := decide (-9223372036854775808 ≤ n ∧ n ≤ 9223372036854775807)
theorem i64B_iff {n : Int} : i64B n = true ↔ I64 n := by unfold i64B I64; exact decide_eq_true_iff
def mbB (m : S57) : Bool := m.f3.all (fun x => decide (0 ≤ x ∧ x < 256)) && (m.f4.all (fun x => decide (0 ≤ x ∧ x < 256)) && i64B m.f0)
def MB (m : S57) : Prop := Byts m.f3 ∧ Byts m.f4 ∧ I64 m.f0
theorem mb_iff {m : S57} : mbB m = true ↔ MB m := by
 unfold mbB MB Byts
 rw [← i64B_iff]
 simp
theorem mbs_iff {l : List S57} : l.all mbB = true ↔ ∀ m ∈ l, MB m := by
 rw [List.all_eq_true]
 exact ⟨fun h m hm => mb_iff.1 (h m hm), fun h m hm => mb_iff.2 (h m hm)⟩
def cmpI (a b : Int) : Int := if a < b then -1 else if a > b then 1 else 0
theorem cmpI_neg {a b : Int} : cmpI a b < 0 ↔ a < b := by
 unfold cmpI
 split
 ·
  simp_all
 ·
  split <;> simp_all
theorem cmpI_zero {a b : Int} : cmpI a b = 0 ↔ a = b := by
 unfold cmpI
 split
 ·
  constructor <;> intro h <;> omega
 ·
  split
  ·
   constructor <;> intro h <;> omega
  ·
   constructor <;> intro h <;> omega
def cmpB (a b : List Int) : Int := Lib.compareBytes (Lib.bytesOf a) (Lib.bytesOf b)
/-- How notes go. -/
def cmpM (x y : S57) : Int := if cmpI x.f1 y.f1 = 0 then (if x.f1 > 0 then cmpB x.f3 y.f3 else cmpI y.f0 x.f0) else cmpI x.f1 y.f1
theorem cmpB_neg {a b : List Int} (ha : Byts a) (hb : Byts b) : cmpB a b < 0 ↔ less a b = true := by
 have h := compare_less ha hb
 unfold cmpB
 constructor
 ·
  intro h2; rw [← h]; exact decide_eq_true h2
 ·
  intro h2; rw [← h] at h2; exact of_decide_eq_true h2
theorem cmpM_neg {x y : S57} (hx : MB x) (hy : MB y) : cmpM x y < 0 ↔ x.f1 < y.f1 ∨ x.f1 = y.f1 ∧ (0 < x.f1 ∧ less x.f3 y.f3 = true ∨ ¬ 0 < x.f1 ∧ y.f0 < x.f0) := by
 unfold cmpM
 by_cases h : x.f1 = y.f1
 ·
  rw [if_pos (cmpI_zero.2 h)]
  by_cases hp : x.f1 > 0
  ·
   rw [if_pos hp, cmpB_neg hx.1 hy.1]
   constructor
   ·
    intro h2; exact .inr ⟨h, .inl ⟨hp, h2⟩⟩
   ·
    rintro (h2 | ⟨_, h2 | h2⟩)
    ·
     omega
    ·
     exact h2.2
    ·
     exact absurd hp h2.1
  ·
   rw [if_neg hp, cmpI_neg]
   constructor
   ·
    intro h2; exact .inr ⟨h, .inr ⟨hp, h2⟩⟩
   ·
    rintro (h2 | ⟨_, h2 | h2⟩)
    ·
     omega
    ·
     exact absurd h2.1 hp
    ·
     exact h2.2
 ·
  rw [if_neg (fun h2 => h (cmpI_zero.1 h2)), cmpI_neg]
  constructor
  ·
   intro h2; exact .inl h2
  ·
   rintro (h2 | h2)
   ·
    exact h2
   ·
    exact absurd h2.1 h
/-- Notes' order is one. -/
theorem cmpM_ord : POrd MB cmpM := by
 refine ⟨fun a b c ha hb hc h1 h2 h3 => ?_, fun a b ha hb h1 h2 => ?_⟩
 ·
  rw [cmpM_neg hb ha] at h1
  rw [cmpM_neg hc hb] at h2
  rw [cmpM_neg hc ha] at h3
  rcases h3 with h3 | ⟨e, h3⟩
  ·
   have h4 : ¬ b.f1 < a.f1 := fun h => h1 (.inl h)
   have h5 : ¬ c.f1 < b.f1 := fun h => h2 (.inl h)
   omega
  ·
   have h4 : ¬ b.f1 < a.f1 := fun h => h1 (.inl h)
   have h5 : ¬ c.f1 < b.f1 := fun h => h2 (.inl h)
   have e1 : b.f1 = a.f1 := by omega
   have e2 : c.f1 = b.f1 := by omega
   rcases h3 with ⟨hp, hl⟩ | ⟨hp, hl⟩
   ·
    have h6 : ¬ less b.f3 a.f3 = true := fun h => h1 (.inr ⟨e1, .inl ⟨by omega, h⟩⟩)
    have h7 : ¬ less c.f3 b.f3 = true := fun h => h2 (.inr ⟨e2, .inl ⟨hp, h⟩⟩)
    by_cases hab : b.f3 = a.f3
    ·
     rw [hab] at h7; exact h7 hl
    rcases less_total hab with h | h
    ·
     exact h6 h
    ·
     exact h7 (less_trans hl h)
   ·
    have h6 : ¬ a.f0 < b.f0 := fun h => h1 (.inr ⟨e1, .inr ⟨by omega, h⟩⟩)
    have h7 : ¬ b.f0 < c.f0 := fun h => h2 (.inr ⟨e2, .inr ⟨by omega, h⟩⟩)
    omega
 ·
  rw [cmpM_neg ha hb] at h1
  rw [cmpM_neg hb ha] at h2
  rcases h1 with h1 | ⟨e, h1⟩ <;> rcases h2 with h2 | ⟨e2, h2⟩
  ·
   omega
  ·
   omega
  ·
   omega
  ·
   rcases h1 with ⟨p1, l1⟩ | ⟨p1, l1⟩ <;> rcases h2 with ⟨p2, l2⟩ | ⟨p2, l2⟩
   ·
    rw [less_asymm l1] at l2; cases l2
   ·
    omega
   ·
    omega
   ·
    omega
theorem isNaN_f (a : Int) : cmp_isNaN_int.f a = some false := by
 show some (a != a) = _
 simp
theorem cmpI_f (a b : Int) : cmp_Compare_int.f a b = some (cmpI a b) := by
 unfold cmp_Compare_int.f cmpI
 simp only [isNaN_f, Option.bind_some]
 rw [if_neg (by simp), if_neg (by simp)]
 split
 ·
  rfl
 ·
  split <;> rfl
theorem or2_f (k : Nat) (a b : Int) : cmp_Or_int.f (k + 3) [a, b] = some (if a = 0 then b else a) := by
 unfold cmp_Or_int.f
 simp only [cmp_Or_int.l0, List.length_cons, List.length_nil]
 rw [if_pos (by omega), if_pos (by omega), if_pos (by omega)]
 have e0 : rd ([a, b] : List Int) 0 = a := rfl
 rw [e0]
 by_cases ha : a = 0
 ·
  rw [if_pos ha, if_pos ha]
  have w1 : wrap64 (0 + 1) = 1 := by rw [wrap_in (by omega) (by omega)]; rfl
  rw [w1, if_pos (by omega), if_pos (by omega), if_pos (by omega)]
  have e1 : rd ([a, b] : List Int) 1 = b := rfl
  rw [e1]
  by_cases hb : b = 0
  ·
   rw [if_pos hb]
   have w2 : wrap64 (1 + 1) = 2 := by rw [wrap_in (by omega) (by omega)]; rfl
   rw [w2, if_neg (by omega), hb]
  ·
   rw [if_neg hb]
 ·
  rw [if_neg ha, if_neg ha]
theorem compare_f (k : Nat) (x y : S57) : edit_Meta_compare.f (k + 4) x.f0 x.f1 x.f2 x.f3 x.f4 y.f0 y.f1 y.f2 y.f3 y.f4 = some (cmpM x y) := by
 unfold edit_Meta_compare.f cmpM
 rw [cmpI_f, Option.bind_some]
 by_cases h : cmpI x.f1 y.f1 = 0
 ·
  rw [if_pos h, if_pos h]
  simp only [edit_Meta_compare.j0]
  by_cases hp : x.f1 > 0
  ·
   rw [if_pos (decide_eq_true hp), if_pos hp]
   show (cmp_Or_int.f (k + 3) [cmpI x.f1 y.f1, cmpB x.f3 y.f3]).bind _ = _
   rw [or2_f, if_pos h]
   rfl
  ·
   rw [if_neg (by simpa using hp), if_neg hp, cmpI_f]
   rfl
 ·
  rw [if_neg h, if_neg h]
  simp only [edit_Meta_compare.j0, if_true]
  show (cmp_Or_int.f (k + 3) [cmpI x.f1 y.f1, cmpB x.f3 y.f3]).bind _ = _
  rw [or2_f, if_neg h]
  rfl
def inB (n : Int) : Bool := decide (0 ≤ n ∧ n ≤ 1099511627776)
def keyB (l : List Int) : Bool := decide (1 ≤ l.length ∧ l.length ≤ 64)
/-- May a note be? -/
def rightM (m : S57) : Bool := inB m.f0 && decide (0 ≤ m.f1 ∧ m.f1 ≤ 3) && decide (1 ≤ m.f2 ∧ m.f2 ≤ 64) && keyB m.f3 && keyB m.f4 && !less m.f4 m.f3
theorem in_f (n : Int) : edit_in.f n = some (inB n) := by
 unfold edit_in.f inB
 by_cases h : n ≥ 0
 ·
  rw [if_pos h]; congr 1; rw [decide_eq_decide]; constructor <;> intro h2 <;> omega
 ·
  rw [if_neg h]; congr 1; symm; rw [decide_eq_false_iff_not]; omega
theorem isKey_f (l : List Int) : edit_isKey.f l = some (keyB l) := by
 unfold edit_isKey.f keyB
 by_cases h : (l.length : Int) ≥ 1
 ·
  rw [if_pos h]; congr 1; rw [decide_eq_decide]; constructor <;> intro h2 <;> omega
 ·
  rw [if_neg h]; congr 1; symm; rw [decide_eq_false_iff_not]; omega
theorem kless_f {a b : List Int} (ha : Byts a) (hb : Byts b) : key_Less.f a b = some (less a b) := by
 unfold key_Less.f bytes_Compare.f
 rw [Option.bind_some, compare_less ha hb]
/-- May a note stand behind another one? -/
def stepB (p m : S57) : Bool := decide (cmpM p m < 0) && !(decide (p.f1 = m.f1) && decide (0 < m.f1) && !less p.f4 m.f3)
def preB (pre : List S57) (m : S57) : Bool := match pre.getLast? with | none => true | some p => stepB p m
/-- May notes stand behind others? -/
def tabsB (nx : Int) : List S57 → List S57 → Bool
 | _, [] => true
 | pre, m :: ts => !(pre.any fun p => decide (p.f0 = m.f0)) && rightM m && decide (m.f0 < nx) && preB pre m && tabsB nx (pre ++ [m]) ts
/-- May a version be? -/
def checkB (g n l s : Int) (ts : List S57) : Bool := inB g && inB n && inB l && inB s && decide (ts.length ≤ 4096) && tabsB n [] ts
def errB (b : Bool) : Int := if b then 0 else 1
end Go.Proofs.Ythpklhkibcenoaa.Sk
