/- The pure statement of KeyChain: less leads on; of two rows of bytes one is less, or they are the same. No condition. -/
import Derived.Test.YtmkojpkajlpokaaPx1
import Derived.Test.YtmkojpkajlpokaaPx2
import Derived.Test.YtmkojpkajlpokaaPx3
import Derived.Test.YtmkojpkajlpokaaCore
namespace Go.Proofs.Ytmkojpkajlpokaa.Pure
open Go.RowKit Go.Proofs.Ytmkojpkajlpokaa.Px Go.Proofs.Ytmkojpkajlpokaa.Sw Go.Proofs.YtmkojpkajlpokaaW.PrintWords Go.Proofs.YtmkojpkajlpokaaW.PrintLast

theorem less_f {a b : List Int} (ha : Byts a) (hb : Byts b) : key_Less.f a b = some (less a b) := by
  unfold key_Less.f bytes_Compare.f
  rw [Option.bind_some, compare_less ha hb]
theorem KeyChain : sawyerlaw03_KeyChain.Pure := by
  intro a b c _ h0 w0 _ h1 w1 _ h2 w2
  have ha := byts_of_wf w0
  have hb := byts_of_wf w1
  have hc := byts_of_wf w2
  unfold sawyerlaw03_KeyChain.f
  simp only [List.nil_append, less_f ha hb, less_f hb ha, less_f hb hc, less_f ha hc, Option.bind_some, str_eq ha hb]
  rw [if_pos (show ([] : List Int).length + a.length < 140737488355328 by simp; omega)]
  rw [if_pos (show a.length < 140737488355328 by omega)]
  rw [less_f ha (ha.append (Byts.one (by omega) (by omega)))]
  simp only [Option.bind_some, less_append]
  cases hab : less a b with
  | true =>
    have hba := less_asymm hab
    have hne : a ≠ b := by
      rintro rfl
      rw [less_irrefl] at hab
      cases hab
    simp only [hba, decide_eq_false hne]
    cases hbc : less b c with
    | true => simp [less_trans hab hbc]
    | false => simp
  | false =>
    cases hba : less b a with
    | true =>
      have hne : a ≠ b := by
        rintro rfl
        rw [less_irrefl] at hba
        cases hba
      simp [decide_eq_false hne]
    | false =>
      have he : a = b := Classical.byContradiction fun h => by
        rcases less_total h with k | k
        · rw [hab] at k; cases k
        · rw [hba] at k; cases k
      simp [he]
end Go.Proofs.Ytmkojpkajlpokaa.Pure
