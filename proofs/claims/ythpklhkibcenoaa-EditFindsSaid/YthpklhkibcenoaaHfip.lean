/- The pure statement of EditFinds. Conditions: those of each theorem. -/
import Derived.Test.YthpklhkibcenoaaCore
import Derived.Test.YthpklhkibcenoaaHpl
import Derived.Test.YthpklhkibcenoaaHrb
import Derived.Test.YthpklhkibcenoaaHso
import Derived.Test.YthpklhkibcenoaaHsp
import Derived.Test.YthpklhkibcenoaaHto
import Derived.Test.YthpklhkibcenoaaPx0
import Derived.Test.YthpklhkibcenoaaPx28
import Derived.Test.YthpklhkibcenoaaPx35
import Derived.Test.YthpklhkibcenoaaHap
namespace Go.Proofs.Ythpklhkibcenoaa.Sk
open Go.RowKit Go.Proofs.YthpklhkibcenoaaW.PrintWords Go.Proofs.YthpklhkibcenoaaW.PrintLast Go.Proofs.YthpklhkibcenoaaW.PrintMore Go.Proofs.Ythpklhkibcenoaa.Px Go.Proofs.Ythpklhkibcenoaa.Sw
set_option linter.unusedVariables false
set_option linter.unusedSimpArgs false

/-- Of two notes of one level above 0 the first ends ahead of the second. -/
def Ahd (a b : S57) : Prop := a.f1 ≤ b.f1 ∧ (a.f1 = b.f1 → 0 < a.f1 → less a.f4 b.f3 = true)
theorem tabsB_ahd {nx : Int} : ∀ {ts pre : List S57}, (∀ z ∈ pre ++ ts, MB z) → (∀ z ∈ pre, rightM z = true) → pre.Pairwise Ahd → tabsB nx pre ts = true → (pre ++ ts).Pairwise Ahd
 | [], pre, _, _, hp, _ => by simpa using hp
 | m :: ts, pre, hG, hR, hp, h => by
  unfold tabsB at h
  simp only [Bool.and_eq_true] at h
  have e : pre ++ m :: ts = (pre ++ [m]) ++ ts := by simp
  rw [e] at hG ⊢
  refine tabsB_ahd hG (fun z hz => (List.mem_append.1 hz).elim (hR z) (fun hz => by rw [List.mem_singleton.1 hz]; exact h.1.1.1.2)) ?_ h.2
  refine List.pairwise_append.2 ⟨hp, List.pairwise_singleton _ _, fun a ha b hb => ?_⟩
  rw [List.mem_singleton.1 hb]
  have hs := h.1.2
  unfold preB at hs
  rcases ends pre with e | ⟨pre', p, e⟩
  ·
   rw [e] at ha; cases ha
  ·
   subst e
   simp only [List.getLast?_append, List.getLast?_singleton, Option.some_or] at hs
   unfold stepB at hs
   simp only [Bool.and_eq_true, Bool.not_eq_true', Bool.and_eq_false_iff, Bool.not_eq_false', decide_eq_false_iff_not] at hs
   have hpm := of_decide_eq_true hs.1
   have hMp : MB p := hG p (by simp)
   have hMm : MB m := hG m (by simp)
   have hlev : p.f1 ≤ m.f1 := by
    rcases (cmpM_neg hMp hMm).1 hpm with h1 | h1 <;> omega
   have hlast : p.f1 = m.f1 → 0 < p.f1 → less p.f4 m.f3 = true := by
    intro h1 h2
    rcases hs.2 with (h3 | h3) | h3
    ·
     exact absurd h1 h3
    ·
     omega
    ·
     exact h3
   rcases List.mem_append.1 ha with ha' | ha'
   ·
    have hap := (List.pairwise_append.1 hp).2.2 a ha' p (by simp)
    refine ⟨by have := hap.1; omega, fun h1 h2 => ?_⟩
    have e1 : a.f1 = p.f1 := by have := hap.1; omega
    have l1 := hap.2 e1 h2
    have l2 := hlast (by omega) (by omega)
    have hpr := hR p (by simp)
    unfold rightM at hpr
    simp only [Bool.and_eq_true, Bool.not_eq_true'] at hpr
    have l3 : less p.f4 p.f3 = false := hpr.2
    by_cases h4 : p.f3 = p.f4
    ·
     rw [h4] at l1; exact less_trans l1 l2
    ·
     rcases less_total h4 with h5 | h5
     ·
      exact less_trans (less_trans l1 h5) l2
     ·
      rw [l3] at h5; cases h5
   ·
    rw [List.mem_singleton.1 ha']; exact ⟨hlev, hlast⟩
theorem checkB_ahd {g n s q : Int} {ts : List S57} (hG : ∀ z ∈ ts, MB z) (h : checkB g n s q ts = true) : ts.Pairwise Ahd := by
 unfold checkB at h
 simp only [Bool.and_eq_true] at h
 simpa using tabsB_ahd (pre := []) (by simpa using hG) (fun z hz => by cases hz) List.Pairwise.nil h.2
/-- Two that may have a key are not of one level above 0. -/
theorem has_apart {a b : S57} {kk : List Int} (h : Ahd a b) (ha : hasK kk a = true) (hb : hasK kk b = true) (h1 : a.f1 = b.f1) (h2 : 0 < b.f1) : False := by
 unfold hasK at ha hb
 simp only [Bool.and_eq_true, Bool.not_eq_true'] at ha hb
 have l1 := h.2 h1 (by omega)
 by_cases e1 : a.f4 = kk
 ·
  rw [e1] at l1; rw [l1] at hb; cases hb.1
 ·
  rcases less_total e1 with l2 | l2
  ·
   rw [ha.2] at l2; cases l2
  ·
   rw [less_trans l2 l1] at hb; cases hb.1
theorem rd_app (a : List Int) (x : Int) (b : List Int) : rd (a ++ x :: b) (a.length : Int) = x := by
 rw [rd_nat _ _ (by simp)]
 simp
theorem finds_inner (kk : List Int) (hk : kk.length ≤ 140737488355328) (l : List S37) (hl : l.length ≤ 1954687338211) (hz : ∀ m ∈ l, RZ m) (m : S37) (pre0 : List S37) (hpl : ∃ post, l = pre0 ++ post) (up : Bool) (L : List Int) (c : Int) (g n s q : Int) {r : Bool}
  (hap : hasK kk (toM m) = true → 0 < m.f1 → ∀ o ∈ pre0, o.f1 = m.f1 → hasK kk (toM o) = false) (hr : Ev (fun k => sawyerlaw10_EditFinds.l0 k kk up L c (wrap64 ((pre0.length : Int) + 1)) g n s q l) r) :
  ∀ (post pre : List S37), pre0 = pre ++ post → Ev (fun k => sawyerlaw10_EditFinds.l1 k kk up L c (pre0.length : Int) (hasK kk (toM m)) (pre.length : Int) g n s q l m.f0 m.f1 m.f2 m.f3 m.f4) r
 | [], pre, h => by
  refine Ev.step (fun k => sawyerlaw10_EditFinds.l1.eq_2 _ _ _ _ _ _ _ _ _ _ _ _ _ _ _ _ _ _) (Ev.neg (by rw [h]; simp) hr)
 | o :: post, pre, h => by
  obtain ⟨pt, hpt⟩ := hpl
  have hlt : pre.length < pre0.length := by rw [h]; simp
  have hle : pre0.length ≤ l.length := by rw [hpt]; simp
  have ho : l[pre.length]? = some o := by rw [hpt, h]; simp
  have hom : o ∈ l := by rw [hpt, h]; simp
  have := finds_inner kk hk l hl hz m pre0 ⟨pt, hpt⟩ up L c g n s q hap hr post (pre ++ [o]) (by rw [h]; simp)
  rw [List.length_append] at this
  refine Ev.step (fun k => sawyerlaw10_EditFinds.l1.eq_2 _ _ _ _ _ _ _ _ _ _ _ _ _ _ _ _ _ _) (Ev.pos (by omega) (Ev.pos (by omega) (Ev.pos (by omega) ?_)))
  rw [rd37 _ _ _ ho, wrapn (by omega)]
  by_cases c1 : hasK kk (toM m) = true
  ·
   refine Ev.pos c1 ?_
   by_cases c2 : m.f1 > 0
   ·
    refine Ev.pos c2 ?_
    by_cases c3 : o.f1 = m.f1
    ·
     refine Ev.pos c3 (Ev.bind (refLess_f kk o.f3 hk) ?_)
     have hno := hap c1 (by omega) o (by rw [h]; simp) c3
     by_cases c4 : less kk o.f3 = true
     ·
      exact Ev.pos c4 this
     ·
      refine Ev.neg c4 (Ev.bind (refLess_f o.f4 kk (by have := (hz o hom).2; omega)) (Ev.pos ?_ this))
      unfold hasK at hno
      have e3 : less kk (toM o).f3 = false := (Bool.not_eq_true _).mp c4
      rw [e3] at hno
      have h5 : less (toM o).f4 kk = true := by simpa using hno
      exact h5
    ·
     exact Ev.neg c3 this
   ·
    exact Ev.neg c2 this
  ·
   exact Ev.neg c1 this
theorem finds_loop (kk : List Int) (hk : kk.length ≤ 140737488355328) (l : List S37) (hl : l.length ≤ 1954687338211) (hz : ∀ m ∈ l, RZ m) (g n s q : Int) (hA : (l.map toM).Pairwise Ahd) :
  ∀ (post pre : List S37), l = pre ++ post → Ev (fun k => sawyerlaw10_EditFinds.l0 k kk true (((l.map toM).filter (hasK kk)).map (·.f0)) ((((pre.map toM).filter (hasK kk)).length : Nat) : Int) (pre.length : Int) g n s q l) true
 | [], pre, h => by
  refine Ev.step (fun k => sawyerlaw10_EditFinds.l0.eq_2 _ _ _ _ _ _ _ _ _ _ _) (Ev.neg (by rw [h]; simp) (Ev.pos rfl (Ev.const ?_)))
  rw [List.length_map, show l = pre by rw [h]; simp]
  simp
 | m :: post, pre, h => by
  have hlen : pre.length < l.length := by rw [h]; simp
  have hm : l[pre.length]? = some m := by rw [h]; exact get_app _ _ _
  have hmm : m ∈ l := by rw [h]; simp
  have hnext := finds_loop kk hk l hl hz g n s q hA post (pre ++ [m]) (by rw [h]; simp)
  rw [List.map_append, List.filter_append, List.length_append, List.length_append] at hnext
  have hfl := List.length_filter_le (hasK kk) (pre.map toM)
  rw [List.length_map] at hfl
  have hap : hasK kk (toM m) = true → 0 < m.f1 → ∀ o ∈ pre, o.f1 = m.f1 → hasK kk (toM o) = false := by
   intro c1 c2 o ho c3
   rw [h, List.map_append] at hA
   have h1 := (List.pairwise_append.1 hA).2.2 (toM o) (List.mem_map_of_mem ho) (toM m) (by simp)
   cases c4 : hasK kk (toM o) with
   | false => rfl
   | true => exact (has_apart h1 c4 c1 c3 c2).elim
  have j1 : Ev (fun k => sawyerlaw10_EditFinds.j1 k kk true (((l.map toM).filter (hasK kk)).map (·.f0)) ((((pre.map toM).filter (hasK kk)).length : Nat) : Int) (pre.length : Int) (hasK kk (toM m)) g n s q l m.f0 m.f1 m.f2 m.f3 m.f4) true := by
   refine Ev.step (fun k => sawyerlaw10_EditFinds.j1.eq_2 _ _ _ _ _ _ _ _ _ _ _ _ _ _ _ _ _) ?_
   by_cases c1 : hasK kk (toM m) = true
   ·
    have e1 : ([m].map toM).filter (hasK kk) = [toM m] := by simp [c1]
    rw [e1] at hnext
    have eL : ((l.map toM).filter (hasK kk)).map (·.f0) = ((pre.map toM).filter (hasK kk)).map (·.f0) ++ m.f0 :: ((post.map toM).filter (hasK kk)).map (·.f0) := by
     rw [h, List.map_append, List.filter_append, List.map_append]
     congr 1
     rw [List.map_cons, List.filter_cons, if_pos c1]
     rfl
    have eLl : ((((pre.map toM).filter (hasK kk)).length : Nat) : Int) < (((((l.map toM).filter (hasK kk)).map (·.f0)).length : Nat) : Int) := by
     rw [eL]; simp only [List.length_append, List.length_map, List.length_cons]; omega
    have eR : rd (((l.map toM).filter (hasK kk)).map (·.f0)) ((((pre.map toM).filter (hasK kk)).length : Nat) : Int) = m.f0 := by
     rw [eL]
     have := rd_app (((pre.map toM).filter (hasK kk)).map (·.f0)) m.f0 (((post.map toM).filter (hasK kk)).map (·.f0))
     rw [List.length_map] at this
     exact this
    refine Ev.pos c1 (Ev.neg (by omega) (Ev.pos (by omega) (Ev.pos eLl (Ev.pos eR ?_))))
    rw [wrapn (by omega)]
    refine Ev.step (fun k => sawyerlaw10_EditFinds.j2.eq_2 _ _ _ _ _ _ _ _ _ _ _ _ _ _ _ _ _) ?_
    exact finds_inner kk hk l hl hz m pre ⟨m :: post, h⟩ true _ _ g n s q hap (by rw [wrapn (by omega)]; exact hnext) pre [] rfl
   ·
    have e1 : ([m].map toM).filter (hasK kk) = [] := by simp [c1]
    rw [e1] at hnext
    refine Ev.neg c1 (Ev.step (fun k => sawyerlaw10_EditFinds.j2.eq_2 _ _ _ _ _ _ _ _ _ _ _ _ _ _ _ _ _) ?_)
    exact finds_inner kk hk l hl hz m pre ⟨m :: post, h⟩ true _ _ g n s q hap (by rw [wrapn (by omega)]; exact hnext) pre [] rfl
  refine Ev.step (fun k => sawyerlaw10_EditFinds.l0.eq_2 _ _ _ _ _ _ _ _ _ _ _) (Ev.pos (by omega) (Ev.pos (by omega) ?_))
  rw [rd37 _ _ _ hm]
  refine Ev.bind (refLess_f kk m.f3 hk) ?_
  by_cases c4 : less kk m.f3 = true
  ·
   have e : hasK kk (toM m) = false := by
    unfold hasK
    have : less kk (toM m).f3 = true := c4
    rw [this]; rfl
   rw [e] at j1
   exact Ev.pos c4 j1
  ·
   have e : hasK kk (toM m) = !(less m.f4 kk) := by
    unfold hasK
    have : less kk (toM m).f3 = false := (Bool.not_eq_true _).mp c4
    rw [this]; rfl
   rw [e] at j1
   exact Ev.neg c4 (Ev.bind (refLess_f m.f4 kk (by have := (hz m hmm).2; omega)) j1)
theorem EditFinds (g n s q : Int) (l : List S37) (kk : List Int) (hw : ∀ m ∈ l, RB m) (hz : ∀ m ∈ l, RZ m) (hl : l.length ≤ 1954687338211) (hk : Byts kk) (hkl : kk.length ≤ 140737488351232) : ∃ k, sawyerlaw10_EditFinds.f k g n s q l kk = some true := by
 apply Ev.rounds
 have hM := mb_map hw
 have hml : (l.map toM).length ≤ 1954687338211 := by rw [List.length_map]; exact hl
 unfold sawyerlaw10_EditFinds.f
 refine Ev.bindc (show sawyerlaw10_awake.f = some true from rfl) (Ev.bind (mine_f g n s q l hl) (Ev.bindc (check_f g n s q hM) ?_))
 cases hc : checkB g n s q (l.map toM) with
 | false => exact Ev.neg (by decide) (Ev.now _)
 | true =>
  refine Ev.pos rfl (Ev.bind (mine_f g n s q l hl) (Ev.bind (find_f g n s q _ kk hk hml hM) ?_))
  exact finds_loop kk (by omega) l hl hz g n s q (checkB_ahd hM hc) l [] rfl
end Go.Proofs.Ythpklhkibcenoaa.Sk
