/- The document's notes as the program's. Conditions: those of each theorem. -/
import Derived.Test.YthpklhkibcenoaaCore
import Derived.Test.YthpklhkibcenoaaPx0
import Derived.Test.YthpklhkibcenoaaHpl
namespace Go.Proofs.Ythpklhkibcenoaa.Sk
open Go.RowKit Go.Proofs.YthpklhkibcenoaaW.PrintWords Go.Proofs.YthpklhkibcenoaaW.PrintLast Go.Proofs.YthpklhkibcenoaaW.PrintMore Go.Proofs.Ythpklhkibcenoaa.Px Go.Proofs.Ythpklhkibcenoaa.Sw
set_option linter.unusedVariables false
set_option linter.unusedSimpArgs false

def toM (m : S37) : S57 := ⟨m.f0, m.f1, m.f2, m.f3, m.f4⟩
def toR (m : S57) : S37 := ⟨m.f0, m.f1, m.f2, m.f3, m.f4⟩
theorem toR_toM (m : S37) : toR (toM m) = m := rfl
theorem toM_toR (m : S57) : toM (toR m) = m := rfl
theorem map_toR_toM (l : List S37) : (l.map toM).map toR = l := by rw [List.map_map]; exact (List.map_congr_left (fun m _ => toR_toM m)).trans (List.map_id l)
theorem toM_inj {a b : List S37} (h : a.map toM = b.map toM) : a = b := by rw [← map_toR_toM a, h, map_toR_toM]
theorem byts_iff {l : List Int} : l.all (fun x => decide (0 ≤ x ∧ x < 256)) = true ↔ Byts l := by
 unfold Byts
 simp
def byB (x : Int) : Bool := decide (0 ≤ x ∧ x < 256)
theorem bys_iff {l : List Int} : l.all byB = true ↔ Byts l := byts_iff
end Go.Proofs.Ythpklhkibcenoaa.Sk
