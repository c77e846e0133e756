/- The pure statement of CodePuts: numbers laid behind bytes, in groups and in eight bytes, are the document's. No condition. -/
import Derived.Test.YtmkojpkajlpokaaPx16
import Derived.Test.YtmkojpkajlpokaaSpecB
namespace Go.Proofs.Ytmkojpkajlpokaa.Pure
open Go.RowKit Go.Proofs.Ytmkojpkajlpokaa.Px Go.Proofs.Ytmkojpkajlpokaa.Sw Go.Proofs.YtmkojpkajlpokaaW.PrintWords Go.Proofs.YtmkojpkajlpokaaW.PrintLast
theorem CodePuts : sawyerlaw02_CodePuts.Pure := by
  intro l n _ h0 w0 wn
  have hl := byts_of_wf w0
  have hn := i64_of_wf wn
  refine Ev.rounds (r := true) ?_
  unfold sawyerlaw02_CodePuts.f
  have hg : Byts (l ++ grp (cap n)) := hl.append (grp_byts _)
  have hf : Byts (l ++ be 8 (max n 0)) := hl.append (be_byts _ _)
  refine Ev.bind (putNum_f l n (by omega)) ?_
  refine Ev.bind (refNum_f l n (by omega)) ?_
  refine Ev.bindc (same_f hg hg) ?_
  refine Ev.pos (by simp) ?_
  refine Ev.bind (putFix_f l n hn.1 hn.2 (by omega)) ?_
  refine Ev.bind (refFix_f l n (by omega)) ?_
  refine Ev.bindc (same_f hf hf) ?_
  exact Ev.const (by simp)
end Go.Proofs.Ytmkojpkajlpokaa.Pure
