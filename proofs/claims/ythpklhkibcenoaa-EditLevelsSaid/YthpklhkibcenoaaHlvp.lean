/- The pure statement of EditLevels. Conditions: those of each theorem. -/
import Derived.Test.YthpklhkibcenoaaCore
import Derived.Test.YthpklhkibcenoaaHap
import Derived.Test.YthpklhkibcenoaaHpl
import Derived.Test.YthpklhkibcenoaaHrb
import Derived.Test.YthpklhkibcenoaaHsp
import Derived.Test.YthpklhkibcenoaaHto
import Derived.Test.YthpklhkibcenoaaPx0
import Derived.Test.YthpklhkibcenoaaPx28
import Derived.Test.YthpklhkibcenoaaPx37
namespace Go.Proofs.Ythpklhkibcenoaa.Sk
open Go.RowKit Go.Proofs.YthpklhkibcenoaaW.PrintWords Go.Proofs.YthpklhkibcenoaaW.PrintLast Go.Proofs.YthpklhkibcenoaaW.PrintMore Go.Proofs.Ythpklhkibcenoaa.Px Go.Proofs.Ythpklhkibcenoaa.Sw
set_option linter.unusedVariables false
set_option linter.unusedSimpArgs false

/-- Notes in order go by their levels. -/
theorem levels_of {l : List S57} (hp : l.Pairwise (fun a b => a.f1 ≤ b.f1)) (a : Int) : (l.filter (fun m => decide (m.f1 < a)) ++ l.filter (fun m => decide (m.f1 = a))) = l.filter (fun m => decide (m.f1 < a + 1)) := by
 induction l with
 | nil => rfl
 | cons m l ih =>
  obtain ⟨h1, h2⟩ := List.pairwise_cons.1 hp
  have ih := ih h2
  by_cases c1 : m.f1 < a
  ·
   have c2 : ¬ m.f1 = a := by omega
   have c3 : m.f1 < a + 1 := by omega
   simp only [List.filter_cons, decide_eq_true c1, decide_eq_false c2, decide_eq_true c3, if_true, List.cons_append]
   simpa using ih
  ·
   by_cases c2 : m.f1 = a
   ·
    have c3 : m.f1 < a + 1 := by omega
    have e0 : l.filter (fun m => decide (m.f1 < a)) = [] := List.filter_eq_nil_iff.2 (fun x hx => by have := h1 x hx; simp; omega)
    rw [e0] at ih
    simp only [List.filter_cons, decide_eq_false c1, decide_eq_true c2, decide_eq_true c3, if_true]
    simp only [e0]
    simpa using ih
   ·
    have c3 : ¬ m.f1 < a + 1 := by omega
    simp only [List.filter_cons, decide_eq_false c1, decide_eq_false c2, decide_eq_false c3]
    simpa using ih
theorem sorted_levels {l : List S57} (hM : ∀ m ∈ l, MB m) (h : l.Pairwise (fun a b => cmpM a b < 0)) : l.Pairwise (fun a b => a.f1 ≤ b.f1) := by
 refine List.Pairwise.imp_of_mem (fun {a b} ha hb hab => ?_) h
 rcases (cmpM_neg (hM a ha) (hM b hb)).1 hab with h1 | h1
 ·
  omega
 ·
  omega
theorem all_levels {l : List S57} (hM : ∀ m ∈ l, MB m) (h : l.Pairwise (fun a b => cmpM a b < 0)) (hr : ∀ m ∈ l, rightM m = true) :
  l.filter (fun m => decide (m.f1 = 0)) ++ l.filter (fun m => decide (m.f1 = 1)) ++ l.filter (fun m => decide (m.f1 = 2)) ++ l.filter (fun m => decide (m.f1 = 3)) = l := by
 have hs := sorted_levels hM h
 have e0 : l.filter (fun m => decide (m.f1 < 0)) = [] := List.filter_eq_nil_iff.2 (fun x hx => by have := (rightM_level (hr x hx)).1; simp; omega)
 have e1 := levels_of hs 0
 rw [e0, List.nil_append] at e1
 have e2 := levels_of hs 1
 have e3 := levels_of hs 2
 have e4 := levels_of hs 3
 have e5 : l.filter (fun m => decide (m.f1 < 3 + 1)) = l := List.filter_eq_self.2 (fun x hx => by have := (rightM_level (hr x hx)).2; simp; omega)
 have f1 : (0 : Int) + 1 = 1 := rfl
 have f2 : (1 : Int) + 1 = 2 := rfl
 have f3 : (2 : Int) + 1 = 3 := rfl
 rw [f1] at e1; rw [f2] at e2; rw [f3] at e3
 rw [e1, e2, e3, e4, e5]
theorem filter_none {l : List S57} (hr : ∀ m ∈ l, rightM m = true) {a : Int} (ha : a < 0 ∨ 3 < a) : l.filter (fun m => decide (m.f1 = a)) = [] :=
 List.filter_eq_nil_iff.2 (fun x hx => by have := rightM_level (hr x hx); simp; omega)
theorem EditLevels (g n s q : Int) (l : List S37) (hw : ∀ m ∈ l, RB m) (hz : ∀ m ∈ l, RZ m) (hl : l.length ≤ 1954687338211) : ∃ k, sawyerlaw10_EditLevels.f k g n s q l = some true := by
 apply Ev.rounds
 have hM := mb_map hw
 have hZ := lens_map hz
 have hml : (l.map toM).length ≤ 1954687338211 := by rw [List.length_map]; exact hl
 unfold sawyerlaw10_EditLevels.f
 refine Ev.bindc (show sawyerlaw10_awake.f = some true from rfl) (Ev.bind (mine_f g n s q l hl) (Ev.bindc (check_f g n s q hM) ?_))
 cases hc : checkB g n s q (l.map toM) with
 | false => exact Ev.neg (by decide) (Ev.now _)
 | true =>
  refine Ev.pos rfl ?_
  have hr := checkB_right hc
  have hsl := all_levels hM (checkB_lt hM hc) hr
  have h4 := (checkB_len hc).1
  have hlen : l.length ≤ 4096 := by rw [List.length_map] at h4; exact h4
  have step : ∀ (a : Nat) (acc : List S57) (r : Bool), a ≤ 3 → acc.length + 4096 < 1954687338268 → Ev (fun k => sawyerlaw10_EditLevels.l0 k true (acc ++ (l.map toM).filter (fun m => decide (m.f1 = (a : Int)))) ((a + 1 : Nat) : Int) g n s q l) r → Ev (fun k => sawyerlaw10_EditLevels.l0 k true acc (a : Int) g n s q l) r := by
   intro a acc r ha hacc hn
   refine Ev.step (fun k => sawyerlaw10_EditLevels.l0.eq_2 _ _ _ _ _ _ _ _ _) (Ev.pos (by omega) (Ev.bind (mine_f g n s q l hl) (Ev.bind (level_f g n s q _ (a : Int) hml hZ) (Ev.pos ?_ ?_))))
   ·
    have := List.length_filter_le (fun m : S57 => decide (m.f1 = (a : Int))) (l.map toM)
    show acc.length + ((l.map toM).filter (fun m => decide (m.f1 = (a : Int)))).length < _
    omega
   ·
    rw [wrapn (by omega)]
    exact hn
  have lf := fun (a : Int) => List.length_filter_le (fun m : S57 => decide (m.f1 = a)) (l.map toM)
  refine step 0 [] true (by omega) (by simp) (step 1 _ true (by omega) ?_ (step 2 _ true (by omega) ?_ (step 3 _ true (by omega) ?_ ?_)))
  ·
   have a0 := lf ((0 : Nat) : Int); rw [List.length_append, List.length_nil]; omega
  ·
   have a0 := lf ((0 : Nat) : Int); have a1 := lf ((1 : Nat) : Int); simp only [List.length_append, List.length_nil]; omega
  ·
   have a0 := lf ((0 : Nat) : Int); have a1 := lf ((1 : Nat) : Int); have a2 := lf ((2 : Nat) : Int); simp only [List.length_append, List.length_nil]; omega
  ·
   have e : ([] ++ (l.map toM).filter (fun m => decide (m.f1 = ((0 : Nat) : Int))) ++ (l.map toM).filter (fun m => decide (m.f1 = ((1 : Nat) : Int))) ++ (l.map toM).filter (fun m => decide (m.f1 = ((2 : Nat) : Int))) ++ (l.map toM).filter (fun m => decide (m.f1 = ((3 : Nat) : Int)))) = l.map toM := by
    rw [List.nil_append]; exact hsl
   rw [e]
   refine Ev.step (fun k => sawyerlaw10_EditLevels.l0.eq_2 _ _ _ _ _ _ _ _ _) (Ev.neg (by decide) (Ev.pos rfl ?_))
   refine Ev.bind (notes_f _ hml) ?_
   rw [map_toR_toM]
   refine Ev.bind (same_f l hl) (Ev.pos rfl (Ev.bind (mine_f g n s q l hl) (Ev.bind (level_f g n s q _ (-1) hml hZ) (Ev.bind (mine_f g n s q l hl) (Ev.bind (level_f g n s q _ 4 hml hZ) (Ev.const ?_))))))
   rw [filter_none hr (.inl (by decide)), filter_none hr (.inr (by decide))]
   show some (wrap64 (((0 : Nat) : Int) + ((0 : Nat) : Int)) == 0) = _
   rw [wrap_in (by omega) (by omega)]
   rfl
end Go.Proofs.Ythpklhkibcenoaa.Sk
