/- The pure statement of CodeLong: a number takes a byte for each seven bits, one at least, nine at most; a fixed one eight. No condition. -/
import Derived.Test.YtmkojpkajlpokaaPx10
import Derived.Test.YtmkojpkajlpokaaPx13
import Derived.Test.YtmkojpkajlpokaaPx17
import Derived.Test.YtmkojpkajlpokaaSpecB
namespace Go.Proofs.Ytmkojpkajlpokaa.Pure
open Go.RowKit Go.Proofs.Ytmkojpkajlpokaa.Px Go.Proofs.Ytmkojpkajlpokaa.Sw Go.Proofs.YtmkojpkajlpokaaW.PrintWords Go.Proofs.YtmkojpkajlpokaaW.PrintLast
theorem long_loop (n : Int) (h0 : -9223372036854775808 ≤ n) (h1 : n ≤ 9223372036854775807) (m : Nat) : ∀ j : Nat, j + (if m = 0 then 0 else (grp m).length) = (grp (cap n)).length → m ≤ 4611686018427387903 →
    Ev (fun k => sawyerlaw02_CodeLong.l0 k n (j : Int) (m : Int)) true := by
  induction m using Nat.strongRecOn with
  | ind m ih =>
    intro j hj hm
    have h9 := grp9 (cap_le n)
    by_cases hz : m = 0
    · subst hz
      rw [if_pos rfl] at hj
      refine Ev.step (f := fun k => ((code_PutNum.f k ([] : List Int) n).bind fun t204 => (if (t204.length : Int) = (j : Int) then (if (j : Int) ≤ 9 then ((code_PutFix.f k ([] : List Int) n).bind fun t207 => (some ((t207.length : Int) == 8))) else (some false)) else (some false)))) (fun k => ?_) ?_
      · simp only [sawyerlaw02_CodeLong.l0]
        rw [if_neg (by omega)]
      · refine Ev.bind (putNum_f [] n (by simp)) ?_
        refine Ev.pos (by simp; omega) (Ev.pos (by omega) ?_)
        refine Ev.bind (putFix_f [] n h0 h1 (by simp)) ?_
        exact Ev.const (by simp [be_length])
    · rw [if_neg hz] at hj
      have e1 : Int.tdiv (m : Int) 128 = ((m / 128 : Nat) : Int) := by rw [Int.tdiv_eq_ediv_of_nonneg (by omega)]; omega
      refine Ev.step (fun k => ?_) (show Ev (fun k => sawyerlaw02_CodeLong.l0 k n ((j + 1 : Nat) : Int) ((m / 128 : Nat) : Int)) true from ?_)
      · simp only [sawyerlaw02_CodeLong.l0]
        rw [if_pos (by omega), e1, wrap_in (by omega) (by omega), wrap_in (by omega) (by omega)]
        rfl
      · refine ih (m / 128) (by omega) (j + 1) ?_ (by omega)
        by_cases c : m < 128
        · rw [grp_lo c] at hj
          rw [if_pos (by omega)]
          simpa using hj
        · rw [grp_hi c, List.length_cons] at hj
          rw [if_neg (by omega)]
          omega
theorem CodeLong : sawyerlaw02_CodeLong.Pure := by
  intro n wn
  have hn := i64_of_wf wn
  refine Ev.rounds (r := true) ?_
  unfold sawyerlaw02_CodeLong.f
  rw [mn_cap]
  have := long_loop n hn.1 hn.2 (cap n / 128) 1 ?_ (by have := cap_le n; omega)
  · rw [show (cap n : Int) / 128 = ((cap n / 128 : Nat) : Int) by omega]
    exact this
  · by_cases c : cap n < 128
    · rw [if_pos (by omega), grp_lo c]; rfl
    · rw [if_neg (by omega), grp_hi c, List.length_cons]; omega
end Go.Proofs.Ytmkojpkajlpokaa.Pure
