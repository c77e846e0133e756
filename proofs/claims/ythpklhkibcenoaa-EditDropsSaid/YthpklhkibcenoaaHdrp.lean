/- The pure statement of EditDrops. Conditions: those of each theorem. -/
import Derived.Test.YthpklhkibcenoaaCore
import Derived.Test.YthpklhkibcenoaaHap
import Derived.Test.YthpklhkibcenoaaHcop
import Derived.Test.YthpklhkibcenoaaHpl
import Derived.Test.YthpklhkibcenoaaHrb
import Derived.Test.YthpklhkibcenoaaHso
import Derived.Test.YthpklhkibcenoaaHsp
import Derived.Test.YthpklhkibcenoaaHto
import Derived.Test.YthpklhkibcenoaaPx0
import Derived.Test.YthpklhkibcenoaaPx25
import Derived.Test.YthpklhkibcenoaaPx28
import Derived.Test.YthpklhkibcenoaaPx30
import Derived.Test.YthpklhkibcenoaaPx36
namespace Go.Proofs.Ythpklhkibcenoaa.Sk
open Go.RowKit Go.Proofs.YthpklhkibcenoaaW.PrintWords Go.Proofs.YthpklhkibcenoaaW.PrintLast Go.Proofs.YthpklhkibcenoaaW.PrintMore Go.Proofs.Ythpklhkibcenoaa.Px Go.Proofs.Ythpklhkibcenoaa.Sw
set_option linter.unusedVariables false
set_option linter.unusedSimpArgs false

theorem drops_loop (g n s q : Int) (l : List S37) (hl : l.length ≤ 1954687338211) {r : Bool} : ∀ (post pre : List S37), l = pre ++ post →
  Ev (fun k => (sawyerlaw10_mine.f k g n s q l).bind fun bt267 => ((edit_Apply.f bt267.1 bt267.2.1 bt267.2.2.1 bt267.2.2.2.1 bt267.2.2.2.2 (l.map (·.f0)) ([] : List S57)).bind fun bt274 => ((edit_Apply.f bt274.1 bt274.2.1 bt274.2.2.1 bt274.2.2.2.1 bt274.2.2.2.2.1 (([0] : List Int)) ([] : List S57)).bind fun bt286 => (if true = true then (if bt274.2.2.2.2.2 = 0 then (if (bt274.2.2.2.2.1.length : Int) = 0 then (if bt274.1 = (wrap64 (g + 1)) then (if bt274.2.1 = n then (if bt274.2.2.1 = s then (if bt274.2.2.2.1 = q then (some (bt286.2.2.2.2.2 == 1)) else (some false)) else (some false)) else (some false)) else (some false)) else (some false)) else (some false)) else (some false))))) r →
  Ev (fun k => sawyerlaw10_EditDrops.l0 k true (pre.map (·.f0)) (pre.length : Int) g n s q l) r
 | [], pre, h, hr => by
  have e : pre = l := by rw [h]; simp
  subst e
  exact Ev.step (fun k => sawyerlaw10_EditDrops.l0.eq_2 _ _ _ _ _ _ _ _ _) (Ev.neg (by omega) hr)
 | m :: post, pre, h, hr => by
  have hlen : pre.length < l.length := by rw [h]; simp
  have hm : l[pre.length]? = some m := by rw [h]; exact get_app _ _ _
  have := drops_loop g n s q l hl post (pre ++ [m]) (by rw [h]; simp) hr
  rw [List.map_append, List.length_append] at this
  refine Ev.step (fun k => sawyerlaw10_EditDrops.l0.eq_2 _ _ _ _ _ _ _ _ _) (Ev.pos (by omega) (Ev.pos (by omega) (Ev.pos (by rw [List.length_map]; omega) ?_)))
  rw [rd37 _ _ _ hm, wrapn (by omega)]
  exact this
theorem EditDrops (g n s q : Int) (l : List S37) (hw : ∀ m ∈ l, RB m) (hz : ∀ m ∈ l, RZ m) (hl : l.length ≤ 1954687338211) : ∃ k, sawyerlaw10_EditDrops.f k g n s q l = some true := by
 apply Ev.rounds
 have hM := mb_map hw
 unfold sawyerlaw10_EditDrops.f
 refine Ev.bindc (show sawyerlaw10_awake.f = some true from rfl) (Ev.bind (mine_f g n s q l hl) (Ev.bindc (check_f g n s q hM) ?_))
 cases hc : checkB g n s q (l.map toM) with
 | false => exact Ev.neg (by decide) (Ev.step (fun k => sawyerlaw10_EditDrops.j0.eq_2 _ _ _ _ _ _ _ _) (Ev.pos rfl (Ev.now _)))
 | true =>
  refine Ev.pos rfl (Ev.step (fun k => sawyerlaw10_EditDrops.j0.eq_2 _ _ _ _ _ _ _ _) ?_)
  by_cases hg : g = 1099511627776
  ·
   exact Ev.pos (by rw [hg]; rfl) (Ev.now _)
  ·
   refine Ev.neg (by simpa using hg) (drops_loop g n s q l hl l [] rfl (Ev.bind (mine_f g n s q l hl) ?_))
   have h4 := checkB_len hc
   have hgb := inB_iff.1 h4.2.1
   have hlen : l.length ≤ 4096 := by have := h4.1; rw [List.length_map] at this; exact this
   have hI : ∀ x ∈ l.map (·.f0), I64 x := by rw [← map_f0]; exact i64_mb hM
   have hR : applyR g n s q (l.map toM) (l.map (·.f0)) [] = (g + 1, n, s, q, [], 0) := by
    unfold applyR
    have hd : dropB (l.map toM) [] (l.map (·.f0)) = true := by
     refine dropB_of _ _ _ ?_ (fun x hx => ?_)
     ·
      rw [List.nil_append, ← map_f0]; exact checkB_nodup hc
     ·
      rw [← map_f0] at hx
      obtain ⟨m, hm, rfl⟩ := List.mem_map.1 hx
      exact any_mem hm
    have hst : stayM (l.map toM) (l.map (·.f0)) = [] := by
     unfold stayM
     rw [List.filter_eq_nil_iff]
     intro m hm
     have : (l.map (·.f0)).any (fun p => decide (p = m.f0)) = true := by
      rw [← map_f0]
      exact List.any_eq_true.2 ⟨m.f0, List.mem_map_of_mem hm, by simp⟩
     rw [this]; simp
    have hck : checkB (g + 1) n s q (sortM ([] ++ [])) = true := by
     show checkB (g + 1) n s q [] = true
     unfold checkB
     rw [h4.2.2.1, h4.2.2.2.1, h4.2.2.2.2, inB_iff.2 (by omega)]
     rfl
    rw [hst, hc, hd, hck]
    rfl
   have hR2 : applyR (g + 1) n s q [] [0] [] = (0, 0, 0, 0, [], 1) := by
    unfold applyR
    have hd : dropB ([] : List S57) [] [0] = false := rfl
    rw [hd]
    simp
   refine Ev.bindc (apply_f g n s q hM hI (by rw [List.length_map]; omega) (fun m hm => by cases hm) (fun m hm => by cases hm)) ?_
   rw [hR]
   refine Ev.bindc (apply_f (g + 1) n s q (l := []) (fun m hm => by cases hm) (fun x hx => by rw [List.mem_singleton.1 hx]; unfold I64; omega) (by decide) (fun m hm => by cases hm) (fun m hm => by cases hm)) ?_
   rw [hR2]
   refine Ev.pos rfl (Ev.pos rfl (Ev.pos rfl (Ev.pos ?_ (Ev.pos rfl (Ev.pos rfl (Ev.pos rfl (Ev.now _)))))))
   rw [wrap_in (by omega) (by omega)]
end Go.Proofs.Ythpklhkibcenoaa.Sk
