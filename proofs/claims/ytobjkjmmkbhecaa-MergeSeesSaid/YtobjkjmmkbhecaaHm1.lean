/- Whether two entries are the same, as a function value. Conditions: those of each theorem. -/
import Derived.Test.YtobjkjmmkbhecaaCore
import Derived.Test.YtobjkjmmkbhecaaHco
import Derived.Test.YtobjkjmmkbhecaaHpl
import Derived.Test.YtobjkjmmkbhecaaHso
import Derived.Test.YtobjkjmmkbhecaaME
import Derived.Test.YtobjkjmmkbhecaaPx0
import Derived.Test.YtobjkjmmkbhecaaMA
namespace Go.Proofs.Ytobjkjmmkbhecaa.Sk
open Go.RowKit Go.Proofs.YtobjkjmmkbhecaaW.PrintWords Go.Proofs.YtobjkjmmkbhecaaW.PrintLast Go.Proofs.YtobjkjmmkbhecaaW.PrintMore Go.Proofs.Ytobjkjmmkbhecaa.Px Go.Proofs.Ytobjkjmmkbhecaa.Sw
set_option linter.unusedVariables false
set_option linter.unusedSimpArgs false

/-- Are they of one key and number? -/
def sameE (x y : S36) : Bool := decide (cmpE x y = 0)
theorem sameE_eqv {x y : S36} (hx : EB x) (hy : EB y) : sameE x y = eqv cmpE x y := by
 have h : sameE x y = true ↔ eqv cmpE x y = true := by
  unfold sameE
  rw [decide_eq_true_iff, cmpE_zero hx hy, eqv_key hx hy]
 cases a : sameE x y <;> cases b : eqv cmpE x y <;> simp_all
theorem runs_uniqA : ∀ (l : List S36) (a p : S36), EB a → EB p → (∀ z ∈ l, EB z) → eqv cmpE a p = true → runs cmpE (a :: l) = a :: uniqA sameE p l
 | [], a, p, _, _, _, _ => by rw [runs]; rfl
 | x :: r, a, p, ha, hp, hl, h => by
  have hx : EB x := hl x (by simp)
  have hr : ∀ z ∈ r, EB z := fun z hz => hl z (List.mem_cons_of_mem _ hz)
  rw [runs]
  show _ = a :: (if sameE x p = true then uniqA sameE x r else x :: uniqA sameE x r)
  rw [sameE_eqv hx hp]
  by_cases c : eqv cmpE a x = true
  ·
   rw [if_pos c, if_pos (eqv_trans cmpE_ord hx ha hp (eqv_symm c) h)]
   exact runs_uniqA r a x ha hx hr c
  ·
   rw [if_neg c, if_neg (fun h2 => c (eqv_trans cmpE_ord ha hp hx h (eqv_symm h2)))]
   rw [runs_uniqA r x x hx hx hr (eqv_refl cmpE_ord hx)]
theorem runs_uniq {l : List S36} (hl : ∀ z ∈ l, EB z) : uniq sameE l = runs cmpE l := by
 cases l with
 | nil => rw [runs]; rfl
 | cons a r => exact (runs_uniqA r a a (hl a (by simp)) (hl a (by simp)) (fun z hz => hl z (List.mem_cons_of_mem _ hz)) (eqv_refl cmpE_ord (hl a (by simp)))).symm
set_option maxHeartbeats 4000000 in
set_option maxRecDepth 100000 in
/-- Merge's function value says whether two entries are of one key and number. -/
theorem same_says (w : World) (S : Nat → Prop) : SaysE w S EB 30 #[] sameE := by
 intro e A0 c0 A3 c3 u B0 d0 B3 d3 w1 he hu hk l0 g0 l3 g3 m0 k0 m3 k3
 have huE := Try.underlying36
 have CMP := Aside0.mk (fun (w3 : World) (hb : Below w1.heap.size w1 w3) => merge_compare.calls 3 A0 c0 e.f0 e.f1 e.f2 A3 c3 e.f3 B0 d0 u.f0 u.f1 u.f2 B3 d3 u.f3 _ w3 (Kd.C_below g0 hb) l0 (Kd.C_below g3 hb) l3 (Kd.C_below k0 hb) m0 (Kd.C_below k3 hb) m3 (compareE_f 0 e u))
 have HR := Aside0.mk (show sameE e u = decide (cmpE e u = 0) from rfl)
 clear he hu hk l0 g0 l3 g3 m0 k0 m3 k3
 obtain ⟨cc, hcc⟩ : ∃ cc, cmpE e u = cc := ⟨_, rfl⟩
 rw [hcc] at CMP HR
 clear hcc
 have hcz : (cc == 0) = decide (cc = 0) := by by_cases h : cc = 0 <;> simp [h]
 show Calls Try.prog 30 #[.agg #[.slice A0 e.f0.length c0, .int .i64 e.f1, .bool e.f2, .slice A3 e.f3.length c3], .agg #[.slice B0 u.f0.length d0, .int .i64 u.f1, .bool u.f2, .slice B3 u.f3.length d3]] w1 _
 go_enter Try.func30, Try.ntmps30
 go_wp2_with (first
  | ((with_reducible refine gate_dst (N := 2) rfl ?_); (try (refine gate_guard (by rfl) ?_; dsimp only)); refine box_event ?hg (N := 2) ?hd (cs := #[.slice A0 e.f0.length c0, .int .i64 e.f1, .bool e.f2, .slice A3 e.f3.length c3]) (t := 36) ?hr ?_; (case hd => rfl); (case hg => rfl); (case hr => first | (go_simp; done) | (go_simp; rfl)); intro g2 hqg2 w2 hxg2 hbg2; have n_ := Aside0.mk hqg2; clear hqg2; have hqg2 := n_; clear n_; have n_ := Aside0.mk hxg2; clear hxg2; have hxg2 := n_; clear n_; have n_ := Aside0.mk hbg2; clear hbg2; have hbg2 := n_; clear n_)
  | ((with_reducible refine gate_dst (N := 3) rfl ?_); (try (refine gate_guard (by rfl) ?_; dsimp only)); refine box_event ?hg (N := 3) ?hd (cs := #[.slice B0 u.f0.length d0, .int .i64 u.f1, .bool u.f2, .slice B3 u.f3.length d3]) (t := 36) ?hr ?_; (case hd => rfl); (case hg => rfl); (case hr => first | (go_simp; done) | (go_simp; rfl)); intro g3 hqg3 w3 hxg3 hbg3; have n_ := Aside0.mk hqg3; clear hqg3; have hqg3 := n_; clear n_; have n_ := Aside0.mk hxg3; clear hxg3; have hxg3 := n_; clear n_; have n_ := Aside0.mk hbg3; clear hbg3; have hbg3 := n_; clear n_; have X2 := Aside0.mk (blk_below hxg2.out hbg3.out); have B2 := Aside0.mk (below_step hbg2.out hbg3.out); have hca0 : w3.cell? ⟨g2, 0, none⟩ = some (.slice A0 e.f0.length c0) := (blk_cell X2.out 0).trans rfl; have hca1 : w3.cell? ⟨g2, 1, none⟩ = some (.int .i64 e.f1) := (blk_cell X2.out 1).trans rfl; have hca2 : w3.cell? ⟨g2, 2, none⟩ = some (.bool e.f2) := (blk_cell X2.out 2).trans rfl; have hca3 : w3.cell? ⟨g2, 3, none⟩ = some (.slice A3 e.f3.length c3) := (blk_cell X2.out 3).trans rfl; have hcb0 : w3.cell? ⟨g3, 0, none⟩ = some (.slice B0 u.f0.length d0) := (blk_cell hxg3.out 0).trans rfl; have hcb1 : w3.cell? ⟨g3, 1, none⟩ = some (.int .i64 u.f1) := (blk_cell hxg3.out 1).trans rfl; have hcb2 : w3.cell? ⟨g3, 2, none⟩ = some (.bool u.f2) := (blk_cell hxg3.out 2).trans rfl; have hcb3 : w3.cell? ⟨g3, 3, none⟩ = some (.slice B3 u.f3.length d3) := (blk_cell hxg3.out 3).trans rfl)
  | ((with_reducible refine gate_dst (N := 7) rfl ?_); (try (refine gate_guard (by rfl) ?_; dsimp only)); refine goesL_ (some 7) rfl rfl Try.func28 (by kernel_rfl) rfl #[.agg #[.slice A0 e.f0.length c0, .int .i64 e.f1, .bool e.f2, .slice A3 e.f3.length c3], .agg #[.slice B0 u.f0.length d0, .int .i64 u.f1, .bool u.f2, .slice B3 u.f3.length d3]] rfl (by (try simp only [List.map_toArray, List.map_cons, List.map_nil]); first | done | rfl) ?_; refine (CMP.out w3 B2.out).mono ?_; rintro ex w4 ⟨rfl, hd⟩; refine ⟨_, rfl, ?_⟩; have B3 := Aside0.mk (below_step B2.out hd)))
 go_ret
 rw [HR.out]
 exact ⟨by first | rfl | (rw [← hcz]) | simp [hcz], B3.out⟩
end Go.Proofs.Ytobjkjmmkbhecaa.Sk
