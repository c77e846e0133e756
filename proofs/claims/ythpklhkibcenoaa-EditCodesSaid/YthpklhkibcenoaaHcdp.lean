/- The pure statement of EditCodes. Conditions: those of each theorem. -/
import Derived.Test.YthpklhkibcenoaaCore
import Derived.Test.YthpklhkibcenoaaHcda
import Derived.Test.YthpklhkibcenoaaHpl
import Derived.Test.YthpklhkibcenoaaHrb
import Derived.Test.YthpklhkibcenoaaHspa
import Derived.Test.YthpklhkibcenoaaHto
import Derived.Test.YthpklhkibcenoaaPx0
import Derived.Test.YthpklhkibcenoaaPx28
import Derived.Test.YthpklhkibcenoaaPx52
import Derived.Test.YthpklhkibcenoaaHap
import Derived.Test.YthpklhkibcenoaaHen
namespace Go.Proofs.Ythpklhkibcenoaa.Sk
open Go.RowKit Go.Proofs.YthpklhkibcenoaaW.PrintWords Go.Proofs.YthpklhkibcenoaaW.PrintLast Go.Proofs.YthpklhkibcenoaaW.PrintMore Go.Proofs.Ythpklhkibcenoaa.Px Go.Proofs.Ythpklhkibcenoaa.Sw
set_option linter.unusedVariables false
set_option linter.unusedSimpArgs false

theorem EditCodes (g n s q : Int) (l : List S37) (hw : ∀ m ∈ l, RB m) (hz : ∀ m ∈ l, RZ m) (hl : l.length ≤ 1954687338211) (ig : I64 g) (in_ : I64 n) (is_ : I64 s) (iq : I64 q) : ∃ k, sawyerlaw10_EditCodes.f k g n s q l = some true := by
 apply Ev.rounds
 have hM := mb_map hw
 have hB := encR_byts g n s q hM
 unfold sawyerlaw10_EditCodes.f
 refine Ev.bindc (show sawyerlaw10_awake.f = some true from rfl) (Ev.bind (mine_f g n s q l hl) (Ev.bindc (enc_f g n s q hM) (Ev.bindc (renc_f g n s q hM) (Ev.pos rfl (Ev.pos rfl ?_)))))
 refine Ev.bindc (Sw.same_f hB hB) (Ev.pos (by simp) (Ev.bind (mine_f g n s q l hl) (Ev.bindc (check_f g n s q hM) (Ev.const ?_))))
 cases checkB g n s q (l.map toM) <;> rfl
end Go.Proofs.Ythpklhkibcenoaa.Sk
