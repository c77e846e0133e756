/- The pure statement of EditUndo. Conditions: those of each theorem. -/
import Derived.Test.YthpklhkibcenoaaCore
import Derived.Test.YthpklhkibcenoaaHap
import Derived.Test.YthpklhkibcenoaaHcop
import Derived.Test.YthpklhkibcenoaaHpl
import Derived.Test.YthpklhkibcenoaaHrb
import Derived.Test.YthpklhkibcenoaaHso
import Derived.Test.YthpklhkibcenoaaHsp
import Derived.Test.YthpklhkibcenoaaHto
import Derived.Test.YthpklhkibcenoaaPx0
import Derived.Test.YthpklhkibcenoaaPx25
import Derived.Test.YthpklhkibcenoaaPx28
import Derived.Test.YthpklhkibcenoaaPx31
import Derived.Test.YthpklhkibcenoaaPx32
import Derived.Test.YthpklhkibcenoaaPx33
namespace Go.Proofs.Ythpklhkibcenoaa.Sk
open Go.RowKit Go.Proofs.YthpklhkibcenoaaW.PrintWords Go.Proofs.YthpklhkibcenoaaW.PrintLast Go.Proofs.YthpklhkibcenoaaW.PrintMore Go.Proofs.Ythpklhkibcenoaa.Px Go.Proofs.Ythpklhkibcenoaa.Sw
set_option linter.unusedVariables false
set_option linter.unusedSimpArgs false

theorem EditUndo (g n s q : Int) (l ad : List S37) (hw : ∀ m ∈ l, RB m) (hz : ∀ m ∈ l, RZ m) (hl : l.length ≤ 1954687338211) (hw2 : ∀ m ∈ ad, RB m) (hz2 : ∀ m ∈ ad, RZ m) (hl2 : ad.length ≤ 1954687338211) (hgw : I64 g) : ∃ k, sawyerlaw10_EditUndo.f k g n s q l ad = some true := by
 apply Ev.rounds
 have hM := mb_map hw
 have hM2 := mb_map hw2
 have hZ2 := lens_map hz2
 unfold sawyerlaw10_EditUndo.f
 refine Ev.bindc (show sawyerlaw10_awake.f = some true from rfl) ?_
 by_cases h200 : (l.length : Int) > 200
 ·
  exact Ev.pos h200 (Ev.step (fun k => sawyerlaw10_EditUndo.j0.eq_2 _ _ _ _ _ _ _ _ _) (Ev.pos rfl (Ev.now _)))
 refine Ev.neg h200 (Ev.step (fun k => sawyerlaw10_EditUndo.j0.eq_2 _ _ _ _ _ _ _ _ _) ?_)
 by_cases h201 : (ad.length : Int) > 200
 ·
  exact Ev.pos (decide_eq_true h201) (Ev.now _)
 refine Ev.neg (by simpa using h201) (Ev.bind (mine_f g n s q l hl) (Ev.bind (metas_f ad hl2) ?_))
 refine Ev.bindc (apply_f g n s q hM (dr := []) (fun x hx => by cases hx) (by decide) hM2 hZ2) ?_
 have hst : stayM (l.map toM) [] = l.map toM := by unfold stayM; exact List.filter_eq_self.2 (fun m hm => rfl)
 have hal : (ad.map toM).length ≤ 4096 := by rw [List.length_map]; omega
 have hR0 : applyR g n s q (l.map toM) [] (ad.map toM) = if (checkB g n s q (l.map toM) && checkB (g + 1) n s q (sortM (l.map toM ++ ad.map toM))) = true then (g + 1, n, s, q, sortM (l.map toM ++ ad.map toM), 0) else (0, 0, 0, 0, [], 1) := by
  unfold applyR
  rw [hst, decide_eq_true hal]
  have : dropB (l.map toM) [] [] = true := rfl
  rw [this]
  simp
 cases hc : checkB g n s q (l.map toM) with
 | false =>
  rw [hc] at hR0
  rw [hR0]
  exact Ev.neg (show ¬ (1 : Int) = 0 by decide) (Ev.pos rfl (Ev.now _))
 | true =>
  cases hc2 : checkB (g + 1) n s q (sortM (l.map toM ++ ad.map toM)) with
  | false =>
   rw [hc, hc2] at hR0
   rw [hR0]
   exact Ev.neg (show ¬ (1 : Int) = 0 by decide) (Ev.pos rfl (Ev.now _))
  | true =>
   rw [hc, hc2] at hR0
   rw [hR0]
   refine Ev.pos rfl ?_
   show Ev (fun k => sawyerlaw10_EditUndo.l0 k ad true [] 0 g n s q l (g + 1) n s q (sortM (l.map toM ++ ad.map toM))) true
   obtain ⟨A, hA⟩ : ∃ A, A = sortM (l.map toM ++ ad.map toM) := ⟨_, rfl⟩
   rw [← hA] at hc2 ⊢
   have hMM : ∀ m ∈ l.map toM ++ ad.map toM, MB m := fun m hm => (List.mem_append.1 hm).elim (hM m) (hM2 m)
   have hp : A.Perm (l.map toM ++ ad.map toM) := by rw [hA]; exact sortM_perm _
   have hMA : ∀ m ∈ A, MB m := fun m hm => hMM m (hp.mem_iff.1 hm)
   have hnd := (hp.map (·.f0)).nodup_iff.1 (checkB_nodup hc2)
   rw [List.map_append] at hnd
   have hnd2 := List.nodup_append.1 hnd
   have hf0 : (ad.map toM).map (·.f0) = ad.map (·.f0) := map_f0 ad
   have loop : ∀ {r : Bool} (post pre : List S37), ad = pre ++ post →
     Ev (fun k => (edit_Apply.f (g + 1) n s q A (ad.map (·.f0)) ([] : List S57)).bind fun bt207 => (if bt207.2.2.2.2.2 = 0 then (if true = true then (if bt207.1 = (wrap64 (g + 2)) then ((sawyerlaw10_notes.f k bt207.2.2.2.2.1).bind fun t216 => ((sawyerref10_SameMetas.f k t216 l).bind fun t219 => (if t219 = true then (some ((A.length : Int) == (wrap64 ((l.length : Int) + (ad.length : Int))))) else (some false)))) else (some false)) else (some false)) else (if true = true then (some ((g + 1) == 1099511627776)) else (some false)))) r →
     Ev (fun k => sawyerlaw10_EditUndo.l0 k ad true (pre.map (·.f0)) (pre.length : Int) g n s q l (g + 1) n s q A) r := by
    intro r post
    induction post with
    | nil =>
     intro pre h hr
     have e : pre = ad := by rw [h]; simp
     subst e
     exact Ev.step (fun k => sawyerlaw10_EditUndo.l0.eq_2 _ _ _ _ _ _ _ _ _ _ _ _ _ _ _) (Ev.neg (by omega) hr)
    | cons m post ih =>
     intro pre h hr
     have hlen : pre.length < ad.length := by rw [h]; simp
     have hm : ad[pre.length]? = some m := by rw [h]; exact get_app _ _ _
     have := ih (pre ++ [m]) (by rw [h]; simp) hr
     rw [List.map_append, List.length_append] at this
     refine Ev.step (fun k => sawyerlaw10_EditUndo.l0.eq_2 _ _ _ _ _ _ _ _ _ _ _ _ _ _ _) (Ev.pos (by omega) (Ev.pos (by omega) (Ev.pos (by rw [List.length_map]; omega) ?_)))
     rw [rd37 _ _ _ hm, wrapn (by omega)]
     exact this
   refine loop ad [] rfl ?_
   have hI : ∀ x ∈ ad.map (·.f0), I64 x := by rw [← hf0]; exact i64_mb hM2
   refine Ev.bindc (apply_f (g + 1) n s q hMA hI (by rw [List.length_map]; omega) (fun m hm => by cases hm) (fun m hm => by cases hm)) ?_
   have hd : dropB A [] (ad.map (·.f0)) = true := by
    refine dropB_of _ _ _ (by rw [List.nil_append, ← hf0]; exact hnd2.2.1) (fun x hx => ?_)
    rw [← hf0] at hx
    obtain ⟨m, hm, rfl⟩ := List.mem_map.1 hx
    exact any_mem (hp.mem_iff.2 (List.mem_append_right _ hm))
   have hsp : (stayM A (ad.map (·.f0))).Perm (l.map toM) := by
    unfold stayM
    refine (hp.filter _).trans ?_
    rw [List.filter_append]
    have e1 : (l.map toM).filter (fun m => !((ad.map (·.f0)).any fun p => decide (p = m.f0))) = l.map toM := by
     refine List.filter_eq_self.2 (fun m hm => ?_)
     have : (ad.map (·.f0)).any (fun p => decide (p = m.f0)) = false := by
      rw [List.any_eq_false]
      intro p hp2
      rw [← hf0] at hp2
      have := hnd2.2.2 m.f0 (List.mem_map_of_mem hm) p hp2
      simp only [decide_eq_true_eq]
      exact fun e => this e.symm
     rw [this]; rfl
    have e2 : (ad.map toM).filter (fun m => !((ad.map (·.f0)).any fun p => decide (p = m.f0))) = [] := by
     refine List.filter_eq_nil_iff.2 (fun m hm => ?_)
     have : (ad.map (·.f0)).any (fun p => decide (p = m.f0)) = true := by
      rw [← hf0]
      exact List.any_eq_true.2 ⟨m.f0, List.mem_map_of_mem hm, by simp⟩
     rw [this]; simp
    rw [e1, e2, List.append_nil]
   have hso : sortM (stayM A (ad.map (·.f0)) ++ []) = l.map toM := by
    rw [List.append_nil]
    have hMs : ∀ m ∈ stayM A (ad.map (·.f0)), MB m := fun m hm => hM m (hsp.mem_iff.1 hm)
    exact (sorted_unique cmpM_ord (hsp.symm.trans (sortM_perm _).symm) (checkB_lt hM hc) (sortM_srt hMs) hM).symm
   have hb := checkB_len hc2
   have hgb := inB_iff.1 hb.2.1
   have hcx : checkB (g + 1 + 1) n s q (l.map toM) = inB (g + 1 + 1) := by
    unfold checkB at hc ⊢
    simp only [Bool.and_eq_true] at hc
    rw [hc.1.1.1.1.2, hc.1.1.1.2, hc.1.1.2, hc.1.2, hc.2]
    simp
   have hR2 : applyR (g + 1) n s q A (ad.map (·.f0)) [] = if inB (g + 1 + 1) = true then (g + 1 + 1, n, s, q, l.map toM, 0) else (0, 0, 0, 0, [], 1) := by
    unfold applyR
    rw [hc2, hd, hso, hcx]
    simp
   rw [hR2]
   by_cases hg2 : inB (g + 1 + 1) = true
   ·
    rw [if_pos hg2]
    refine Ev.pos rfl (Ev.pos rfl (Ev.pos ?_ ?_))
    ·
     have := inB_iff.1 hg2
     rw [wrap_in (by omega) (by omega)]
     omega
    ·
     refine Ev.bind (notes_f _ (by rw [List.length_map]; exact hl)) ?_
     rw [map_toR_toM]
     refine Ev.bind (same_f l hl) (Ev.pos rfl (Ev.const ?_))
     have hlA := hp.length_eq
     simp only [List.length_append, List.length_map] at hlA
     rw [wrap_in (by omega) (by omega), hlA]
     simp
   ·
    rw [if_neg hg2]
    refine Ev.neg (show ¬ (1 : Int) = 0 by decide) (Ev.pos rfl (Ev.const ?_))
    have h2 : ¬ (0 ≤ g + 1 + 1 ∧ g + 1 + 1 ≤ 1099511627776) := fun h => hg2 (inB_iff.2 h)
    have : g + 1 = 1099511627776 := by omega
    rw [this]
    rfl
end Go.Proofs.Ythpklhkibcenoaa.Sk
