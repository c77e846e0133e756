/- The pure statement of KeyAsks: less, beginnings and what is next are the document's. No condition. -/
import Derived.Test.YtmkojpkajlpokaaPx26
import Derived.Test.YtmkojpkajlpokaaSpecKeyR
namespace Go.Proofs.Ytmkojpkajlpokaa.Pure
open Go.RowKit Go.Proofs.Ytmkojpkajlpokaa.Px Go.Proofs.Ytmkojpkajlpokaa.Sw Go.Proofs.YtmkojpkajlpokaaW.PrintWords Go.Proofs.YtmkojpkajlpokaaW.PrintLast
theorem KeyAsks : sawyerlaw03_KeyAsks.Pure := by
  intro a b _ h0 w0 _ h1 w1
  have ha := byts_of_wf w0
  have hb := byts_of_wf w1
  refine Ev.rounds (r := true) ?_
  unfold sawyerlaw03_KeyAsks.f
  refine Ev.bindc (less_f ha hb) ?_
  refine Ev.bind (refLess_f a b (by omega)) ?_
  refine Ev.pos (by simp) ?_
  refine Ev.bindc (has_f ha hb) ?_
  refine Ev.bindc (refHas_f ha hb) ?_
  refine Ev.pos (by simp) ?_
  refine Ev.bind (next_f ha (by omega)) ?_
  refine Ev.bind (refNext_f ha (by omega)) ?_
  refine Ev.bindc (same_f (next_byts ha) (next_byts ha)) ?_
  refine Ev.pos (by simp) ?_
  refine Ev.bindc (less_f Byts.nil (Byts.one (by omega) (by omega))) ?_
  exact Ev.const rfl
end Go.Proofs.Ytmkojpkajlpokaa.Pure
