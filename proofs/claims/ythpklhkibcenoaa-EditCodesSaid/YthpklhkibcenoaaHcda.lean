/- Both Encodes as they are told. Conditions: those of each theorem. -/
import Derived.Test.YthpklhkibcenoaaCore
import Derived.Test.YthpklhkibcenoaaHen
import Derived.Test.YthpklhkibcenoaaHpl
import Derived.Test.YthpklhkibcenoaaHto
import Derived.Test.YthpklhkibcenoaaPx0
import Derived.Test.YthpklhkibcenoaaPx43
import Derived.Test.YthpklhkibcenoaaPx50
import Derived.Test.YthpklhkibcenoaaHspa
import Derived.Test.YthpklhkibcenoaaHap
import Derived.Test.YthpklhkibcenoaaHrb
namespace Go.Proofs.Ythpklhkibcenoaa.Sk
open Go.RowKit Go.Proofs.YthpklhkibcenoaaW.PrintWords Go.Proofs.YthpklhkibcenoaaW.PrintLast Go.Proofs.YthpklhkibcenoaaW.PrintMore Go.Proofs.Ythpklhkibcenoaa.Px Go.Proofs.Ythpklhkibcenoaa.Sw
set_option linter.unusedVariables false
set_option linter.unusedSimpArgs false

theorem enc_f (g n s q : Int) {l : List S57} (hM : ∀ m ∈ l, MB m) : edit_Encode.f g n s q l = some (if checkB g n s q l = true then (encM g n s q l, (0 : Int)) else ([], 1)) := by
 unfold edit_Encode.f
 rw [if_pos (mbs_iff.2 hM)]
theorem renc_f (g n s q : Int) {l : List S37} (hM : ∀ m ∈ l.map toM, MB m) : sawyerref10_Encode.f g n s q l = some (if checkB g n s q (l.map toM) = true then (encM g n s q (l.map toM), (0 : Int)) else ([], 1)) := by
 unfold sawyerref10_Encode.f
 rw [if_pos (mbs_iff.2 hM)]
theorem encR_byts (g n s q : Int) {l : List S57} (hM : ∀ m ∈ l, MB m) : Byts (if checkB g n s q l = true then (encM g n s q l, (0 : Int)) else ([], 1)).1 := by
 split
 ·
  exact encM_byts g n s q hM
 ·
  exact Byts.nil
end Go.Proofs.Ythpklhkibcenoaa.Sk
