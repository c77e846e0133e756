/- Notes that came in. Conditions: those of each theorem. -/
import Derived.Test.YthpklhkibcenoaaCore
import Derived.Test.YthpklhkibcenoaaHap
import Derived.Test.YthpklhkibcenoaaHpl
import Derived.Test.YthpklhkibcenoaaHto
import Derived.Test.YthpklhkibcenoaaPx0
namespace Go.Proofs.Ythpklhkibcenoaa.Sk
open Go.RowKit Go.Proofs.YthpklhkibcenoaaW.PrintWords Go.Proofs.YthpklhkibcenoaaW.PrintLast Go.Proofs.YthpklhkibcenoaaW.PrintMore Go.Proofs.Ythpklhkibcenoaa.Px Go.Proofs.Ythpklhkibcenoaa.Sw
set_option linter.unusedVariables false
set_option linter.unusedSimpArgs false

/-- A note that came in: its bytes are bytes, its number a number. -/
def RB (m : S37) : Prop := MB (toM m)
def RZ (m : S37) : Prop := m.f3.length ≤ 140737488351232 ∧ m.f4.length ≤ 140737488351232
theorem RZ.lens {m : S37} (h : RZ m) : Lens (toM m) := by obtain ⟨h1, h2⟩ := h; unfold Lens toM; exact ⟨by show m.f3.length < _; omega, by show m.f4.length < _; omega⟩
theorem mb_map {l : List S37} (hw : ∀ m ∈ l, RB m) : ∀ m ∈ l.map toM, MB m := by
 intro m hm
 obtain ⟨r, hr, rfl⟩ := List.mem_map.1 hm
 exact hw r hr
theorem lens_map {l : List S37} (hz : ∀ m ∈ l, RZ m) : ∀ m ∈ l.map toM, Lens m := by
 intro m hm
 obtain ⟨r, hr, rfl⟩ := List.mem_map.1 hm
 exact (hz r hr).lens
theorem checkB_len {g n s q : Int} {l : List S57} (h : checkB g n s q l = true) : l.length ≤ 4096 ∧ inB g = true ∧ inB n = true ∧ inB s = true ∧ inB q = true := by
 unfold checkB at h
 simp only [Bool.and_eq_true, decide_eq_true_eq] at h
 exact ⟨h.1.2, h.1.1.1.1.1, h.1.1.1.1.2, h.1.1.1.2, h.1.1.2⟩
theorem inB_iff {n : Int} : inB n = true ↔ 0 ≤ n ∧ n ≤ 1099511627776 := by unfold inB; exact decide_eq_true_iff
theorem rightM_level {m : S57} (h : rightM m = true) : 0 ≤ m.f1 ∧ m.f1 ≤ 3 := by
 unfold rightM at h
 simp only [Bool.and_eq_true, decide_eq_true_eq] at h
 exact h.1.1.1.1.2
end Go.Proofs.Ythpklhkibcenoaa.Sk
