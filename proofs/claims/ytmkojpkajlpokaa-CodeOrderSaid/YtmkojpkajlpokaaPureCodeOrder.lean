/- The pure statement of CodeOrder: fixed numbers go by their bytes as they go by themselves. No condition. -/
import Derived.Test.YtmkojpkajlpokaaPx11
import Derived.Test.YtmkojpkajlpokaaSpecB
namespace Go.Proofs.Ytmkojpkajlpokaa.Pure
open Go.RowKit Go.Proofs.Ytmkojpkajlpokaa.Px Go.Proofs.Ytmkojpkajlpokaa.Sw Go.Proofs.YtmkojpkajlpokaaW.PrintWords Go.Proofs.YtmkojpkajlpokaaW.PrintLast
theorem CodeOrder : sawyerlaw02_CodeOrder.Pure := by
  intro a b wa wb
  have ha := i64_of_wf wa
  have hb := i64_of_wf wb
  refine Ev.rounds (r := true) ?_
  unfold sawyerlaw02_CodeOrder.f
  rw [mx0, mx0]
  refine Ev.bind (putFix_f [] (max a 0) (by omega) (by omega) (by simp)) ?_
  refine Ev.bind (putFix_f [] (max b 0) (by omega) (by omega) (by simp)) ?_
  refine Ev.const ?_
  rw [List.nil_append, List.nil_append, str_less (be_byts _ _) (be_byts _ _), less_be 8 (by omega) (by omega) (by omega) (by omega)]
  rw [show max (max a 0) 0 = max a 0 by omega, show max (max b 0) 0 = max b 0 by omega]
  simp
end Go.Proofs.Ytmkojpkajlpokaa.Pure
