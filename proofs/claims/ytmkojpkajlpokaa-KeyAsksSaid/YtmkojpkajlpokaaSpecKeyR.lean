/- What the document's functions on keys compute: less, beginnings, what is next. -/
import Derived.Test.YtmkojpkajlpokaaPx19
import Derived.Test.YtmkojpkajlpokaaPx23
import Derived.Test.YtmkojpkajlpokaaPx25
import Derived.Test.YtmkojpkajlpokaaSpecKey
set_option linter.unusedVariables false
set_option linter.unusedSimpArgs false
namespace Go.Proofs.Ytmkojpkajlpokaa.Sw
open Go.RowKit Go.Proofs.Ytmkojpkajlpokaa.Px Go.Proofs.YtmkojpkajlpokaaW.PrintWords Go.Proofs.YtmkojpkajlpokaaW.PrintLast Go.Proofs.YtmkojpkajlpokaaW.PrintMore

theorem refLess_loop (a b : List Int) (hl : a.length ≤ 140737488355328) (d : Nat) : ∀ i : Nat, a.length - i = d → i ≤ a.length → Ev (fun k => sawyerref03_Less.l0 k a b (i : Int)) (less (a.drop i) (b.drop i)) := by
  induction d with
  | zero =>
    intro i hd hi
    have hi : i = a.length := by omega
    subst hi
    refine Ev.step (f := fun k => sawyerref03_Less.j1 k a b (a.length : Int) false) (fun k => ?_) (Ev.step (f := fun _ => some (decide ((a.length : Int) < (b.length : Int)))) (fun k => ?_) (Ev.const ?_))
    · simp only [sawyerref03_Less.l0]; rw [if_neg (by omega)]
    · simp only [sawyerref03_Less.j1]; rw [if_neg (by simp)]
    · rw [List.drop_length]
      by_cases c : a.length < b.length
      · rw [List.drop_eq_getElem_cons c]
        simp [less, c]
      · rw [List.drop_eq_nil_of_le (by omega)]
        simp [less]
        omega
  | succ d ih =>
    intro i hd hi
    have hlt : i < a.length := by omega
    rw [List.drop_eq_getElem_cons hlt]
    by_cases c : i < b.length
    · rw [List.drop_eq_getElem_cons c]
      refine Ev.step (f := fun k => sawyerref03_Less.j1 k a b (i : Int) true) (fun k => ?_) ?_
      · simp only [sawyerref03_Less.l0]; rw [if_pos (by omega), decide_eq_true (by omega)]
      · by_cases e : a[i] = b[i]
        · refine Ev.step (f := fun k => sawyerref03_Less.l0 k a b ((i + 1 : Nat) : Int)) (fun k => ?_) ?_
          · simp only [sawyerref03_Less.j1]
            rw [if_pos trivial, if_pos (by omega), if_pos (by omega), if_pos (by omega), rd_nat a i hlt, rd_nat b i c, if_pos e, wrap_in (by omega) (by omega)]
            rfl
          · have := ih (i + 1) (by omega) (by omega)
            unfold less
            rw [if_neg (by omega), if_neg (by omega)]
            exact this
        · refine Ev.step (f := fun _ => some (decide (a[i] < b[i]))) (fun k => ?_) (Ev.const ?_)
          · simp only [sawyerref03_Less.j1]
            rw [if_pos trivial, if_pos (by omega), if_pos (by omega), if_pos (by omega), rd_nat a i hlt, rd_nat b i c, if_neg e]
          · unfold less
            by_cases e2 : a[i] < b[i]
            · rw [if_pos e2, decide_eq_true e2]
            · rw [if_neg e2, if_pos (by omega), decide_eq_false e2]
    · rw [show b.drop i = [] from List.drop_eq_nil_of_le (by omega)]
      refine Ev.step (f := fun k => sawyerref03_Less.j1 k a b (i : Int) false) (fun k => ?_) (Ev.step (f := fun _ => some (decide ((a.length : Int) < (b.length : Int)))) (fun k => ?_) (Ev.const ?_))
      · simp only [sawyerref03_Less.l0]; rw [if_pos (by omega), decide_eq_false (by omega)]
      · simp only [sawyerref03_Less.j1]; rw [if_neg (by simp)]
      · simp [less]; omega
theorem refLess_f (a b : List Int) (hl : a.length ≤ 140737488355328) : Ev (fun k => sawyerref03_Less.f k a b) (less a b) := by
  unfold sawyerref03_Less.f
  have := refLess_loop a b hl a.length 0 (by omega) (by omega)
  simpa using this
theorem refHas_f {a b : List Int} (ha : Byts a) (hb : Byts b) : sawyerref03_Has.f a b = some (has a b) := by
  unfold sawyerref03_Has.f has
  by_cases c : (a.length : Int) ≥ (b.length : Int)
  · rw [if_pos c, if_pos (by omega), if_pos (by omega), Int.toNat_natCast, str_eq (ha.take _) hb]
  · rw [if_neg c, decide_eq_false]
    intro h
    have := congrArg List.length h
    rw [List.length_take] at this
    omega
theorem refNext_loop (l : List Int) (h : Byts l) (hl : l.length < 140737488355328) (n : Nat) : n ≤ l.length → Ev (fun k => sawyerref03_Next.l0 k l (n : Int)) (next (l.take n)) := by
  induction n with
  | zero =>
    intro _
    refine Ev.step (f := fun _ => some []) (fun k => ?_) (Ev.const rfl)
    simp [sawyerref03_Next.l0]
  | succ n ih =>
    intro hn
    have e1 : wrap64 (((n + 1 : Nat) : Int) - 1) = (n : Int) := by rw [wrap_in (by omega) (by omega)]; omega
    have e2 : rd l (n : Int) = l[n] := rd_nat l n (by omega)
    have e3 : l.take (n + 1) = l.take n ++ [l[n]] := by rw [List.take_succ_eq_append_getElem (by omega)]
    have hc := h (l[n]) (List.getElem_mem _)
    by_cases hz : l[n] = 255
    · refine Ev.step (f := fun k => sawyerref03_Next.l0 k l (n : Int)) (fun k => ?_) ?_
      · simp only [sawyerref03_Next.l0]
        rw [e1, e2, if_pos (by omega), if_pos (by omega), if_pos (by omega), if_pos hz]
      · have := ih (by omega)
        rw [e3, hz]
        unfold next
        rw [trim_snoc_255]
        exact this
    · refine Ev.step (f := fun _ => some (next (l.take (n + 1)))) (fun k => ?_) (Ev.const rfl)
      have e4 : rd (l.take (n + 1)) (n : Int) = l[n] := by rw [rd_nat _ _ (by simp; omega)]; simp
      have e5 : (l.take (n + 1)).length = n + 1 := by simp; omega
      simp only [sawyerref03_Next.l0]
      rw [e1, e2, if_pos (by omega), if_pos (by omega), if_pos (by omega), if_neg hz, if_neg (by omega)]
      simp only [Option.bind_some, List.nil_append, List.length_nil, Nat.zero_add, Int.toNat_natCast]
      rw [if_pos (by omega), if_pos (by omega), if_pos (by omega), if_pos (by omega), e4]
      unfold next
      rw [e3, trim_snoc _ _ hz, bump_snoc, show (l[n] + 1) % 256 = l[n] + 1 by omega]
      have e6 : (l.take n).length = n := by rw [List.length_take]; omega
      have e7 : ∀ (t : List Int) (c d : Int), t.length = n → (t ++ [c]).set n d = t ++ [d] := by
        intro t c d ht
        subst ht
        simp
      rw [e7 _ _ _ e6]
theorem refNext_f {l : List Int} (h : Byts l) (hl : l.length < 140737488355328) : Ev (fun k => sawyerref03_Next.f k l) (next l) := by
  unfold sawyerref03_Next.f
  have := refNext_loop l h hl l.length (Nat.le_refl _)
  rw [List.take_length] at this
  exact this
end Go.Proofs.Ytmkojpkajlpokaa.Sw
