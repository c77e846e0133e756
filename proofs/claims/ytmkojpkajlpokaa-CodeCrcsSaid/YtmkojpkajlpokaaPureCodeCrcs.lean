/- The pure statement of CodeCrcs: the sum of any bytes is the document's; that of "123456789" is CBF43926 (hexadecimal). No condition. -/
import Derived.Test.YtmkojpkajlpokaaPx6
import Derived.Test.YtmkojpkajlpokaaSpecCrc
namespace Go.Proofs.Ytmkojpkajlpokaa.Pure
open Go.RowKit Go.Proofs.Ytmkojpkajlpokaa.Px Go.Proofs.Ytmkojpkajlpokaa.Sw Go.Proofs.YtmkojpkajlpokaaW.PrintWords Go.Proofs.YtmkojpkajlpokaaW.PrintLast
theorem check_crc : crc [49, 50, 51, 52, 53, 54, 55, 56, 57] = 3421780262 := by decide +kernel
theorem CodeCrcs : sawyerlaw02_CodeCrcs.Pure := by
  intro l _ h0 w0
  have hl := byts_of_wf w0
  refine Ev.rounds (r := true) ?_
  unfold sawyerlaw02_CodeCrcs.f
  have h9 : Byts [49, 50, 51, 52, 53, 54, 55, 56, 57] := by
    intro x hx
    simp at hx
    omega
  refine Ev.bind (crc_f h9 (by simp)) ?_
  refine Ev.pos check_crc ?_
  refine Ev.bind (crc_f hl (by omega)) ?_
  refine Ev.bind (refCrc_f hl (by omega)) ?_
  exact Ev.const (by simp)
end Go.Proofs.Ytmkojpkajlpokaa.Pure
