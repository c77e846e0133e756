/- The pure statement of KeyNext: what is not less than a prefix, and less than what is next, begins with it, and all that does is so. Condition: the sizes' sum is at most 1048576. -/
import Derived.Test.YtmkojpkajlpokaaPx27
import Derived.Test.YtmkojpkajlpokaaSpecKey
namespace Go.Proofs.Ytmkojpkajlpokaa.Pure
open Go.RowKit Go.Proofs.Ytmkojpkajlpokaa.Px Go.Proofs.Ytmkojpkajlpokaa.Sw Go.Proofs.YtmkojpkajlpokaaW.PrintWords Go.Proofs.YtmkojpkajlpokaaW.PrintLast
theorem KeyNext (p k : List Int) (wp : ∀ x ∈ p, (Lit.int .u8 x).wf = true) (wk : ∀ x ∈ k, (Lit.int .u8 x).wf = true) (hs : p.length + k.length ≤ 1048576) : ∃ n, sawyerlaw03_KeyNext.f n p k = some true := by
  have hp := byts_of_wf wp
  have hk := byts_of_wf wk
  have hpk := hp.append hk
  refine Ev.rounds (r := true) ?_
  unfold sawyerlaw03_KeyNext.f
  refine Ev.bind (next_f hp (by omega)) ?_
  refine Ev.bindc (less_f hk hp) ?_
  have hb := next_between hp hk
  have h1 : has (p ++ k) p = true := has_iff.2 ⟨k, rfl⟩
  have h2 : less (p ++ k) p = false := less_prefix p k
  have hl : p.length < 140737488355328 := by omega
  have hl2 : p.length + k.length < 140737488355328 := by omega
  simp only [has_f hk hp, has_f hpk hp, less_f hpk hp, less_f hk (next_byts hp), Option.bind_some, h1, h2, List.nil_append, List.length_nil, Nat.zero_add, if_pos hl, if_pos hl2, if_true, Bool.not_false]
  by_cases c : less k p = true
  · have hh : has k p = false := by
      cases e : has k p with
      | false => rfl
      | true => rw [(hb.2 e).1] at c; cases c
    refine Ev.const ?_
    simp [c, hh]
  · have c' : less k p = false := by simpa using c
    refine Ev.const ?_
    simp only [c', Bool.false_eq_true, if_false]
    by_cases e : next p = []
    · have hh : has k p = true := hb.1 ⟨c', .inl e⟩
      simp [e, hh]
    · have e2 : ¬ ((next p).length : Int) = 0 := by
        intro h
        exact e (List.eq_nil_of_length_eq_zero (by omega))
      have hh : less k (next p) = has k p := by
        rw [Bool.eq_iff_iff, ← hb]
        simp [c', e]
      rw [if_neg e2]
      simp [hh]
end Go.Proofs.Ytmkojpkajlpokaa.Pure
