/- Whether an entry has a key, as a function value. Conditions: those of each theorem. -/
import Derived.Test.YtobjkjmmkbhecaaCore
import Derived.Test.YtobjkjmmkbhecaaME
import Derived.Test.YtobjkjmmkbhecaaHpl
import Derived.Test.YtobjkjmmkbhecaaPx0
import Derived.Test.YtobjkjmmkbhecaaHsl
namespace Go.Proofs.Ytobjkjmmkbhecaa.Sk
open Go.RowKit Go.Proofs.YtobjkjmmkbhecaaW.PrintWords Go.Proofs.YtobjkjmmkbhecaaW.PrintLast Go.Proofs.YtobjkjmmkbhecaaW.PrintMore Go.Proofs.Ytobjkjmmkbhecaa.Px Go.Proofs.Ytobjkjmmkbhecaa.Sw
set_option linter.unusedVariables false
set_option linter.unusedSimpArgs false

theorem bytesIn_C {w : World} {A : Option Addr} {l : List Int} (h : Kd.C (Kd.int .u8) w A l.length l) : Lib.BytesIn w A l.length l := by
 have h' := Kd.reads_of_C (enc := Value.int .u8) (d := (0 : Int)) (h1 := fun _ => rfl) h
 cases A with
 | none => intro hn; obtain ⟨a, ha, _⟩ := h'.2.2 hn; cases ha
 | some a =>
  refine Lib.BytesIn.of_cells (fun i hi => ?_)
  obtain ⟨a', ha, hc⟩ := h'.2.2 (by omega)
  cases ha
  exact hc i hi
theorem eqB_calls {w : World} {A : Option Addr} {c : Nat} {x : List Int} {B : Option Addr} {d : Nat} {y : List Int} (hx : Byts x) (hy : Byts y) (hA : Kd.C (Kd.int .u8) w A x.length x) (hB : Kd.C (Kd.int .u8) w B y.length y) :
  Calls Try.prog 50 #[.slice A x.length c, .slice B y.length d] w fun ex w' => ex = .returned (.bool (decide (x = y))) ∧ w' = w := by
 refine (Any.bytes_Equal_all Try.laysnb115 A B x.length c y.length d x y w rfl rfl (bytesIn_C hA) (bytesIn_C hB)).mono ?_
 rintro ex w1 ⟨rfl, rfl⟩
 refine ⟨?_, rfl⟩
 have h : (Lib.bytesOf x == Lib.bytesOf y) = decide (x = y) := by
  by_cases e : x = y
  ·
   subst e; simp
  ·
   rw [decide_eq_false e, beq_eq_false_iff_ne]
   exact fun h2 => e ((bytesOf_inj hx hy).1 h2)
 rw [h]
set_option maxHeartbeats 4000000 in
set_option maxRecDepth 100000 in
/-- groups' function value says whether an entry has the key of the one it holds. -/
theorem key_says {w : World} {S : Nat → Prop} {ge : Nat} {e : S36} {E0 : Option Addr} {d0 : Nat} {E3 : Option Addr} {d3 : Nat} {okF : Nat → Prop} (he : EB e) (hge : w.heap[ge]? = some (.cells #[.slice E0 e.f0.length d0, .int .i64 e.f1, .bool e.f2, .slice E3 e.f3.length d3] 36 (0, 0))) (hS : ¬ S ge) (hF : Kd.F (Kd.int .u8) w okF E0 e.f0.length e.f0) (hok : ∀ k, okF k → ¬ S k) :
  Says1 w S EB 49 #[.pointer (some ⟨ge, 0, none⟩)] (fun x => decide (x.f0 = e.f0)) := by
 intro x A0 c0 A3 c3 w1 hx hk l0 g0 l3 g3
 have huE := Try.underlying36
 have HX1 := Aside0.mk (show w1.heap[ge]? = some (.cells #[.slice E0 e.f0.length d0, .int .i64 e.f1, .bool e.f2, .slice E3 e.f3.length d3] 36 (0, 0)) from (hk.2 ge (blk_lt hge) hS).trans hge)
 have HGX := Aside0.mk hx
 have HGE := Aside0.mk he
 have HCX := Aside0.mk g0
 have HCE := Aside0.mk (Kd.F_now (Kd.F_kept hF hk hok))
 clear he hge hS hF hok hx hk l0 g0 l3 g3
 show Calls Try.prog 49 #[.agg #[.slice A0 x.f0.length c0, .int .i64 x.f1, .bool x.f2, .slice A3 x.f3.length c3], .pointer (some ⟨ge, 0, none⟩)] w1 _
 go_enter Try.func49, Try.ntmps49
 go_wp2_with (first
  | ((with_reducible refine gate_dst (N := 2) rfl ?_); (try (refine gate_guard (by rfl) ?_; dsimp only)); refine box_event ?hg (N := 2) ?hd (cs := #[.slice A0 x.f0.length c0, .int .i64 x.f1, .bool x.f2, .slice A3 x.f3.length c3]) (t := 36) ?hr ?_; (case hd => rfl); (case hg => rfl); (case hr => first | (go_simp; done) | (go_simp; rfl)); intro g2 hqg2 w2 hxg2 hbg2; have n_ := Aside0.mk hqg2; clear hqg2; have hqg2 := n_; clear n_; have n_ := Aside0.mk hxg2; clear hxg2; have hxg2 := n_; clear n_; have n_ := Aside0.mk hbg2; clear hbg2; have hbg2 := n_; clear n_; have hca0 : w2.cell? ⟨g2, 0, none⟩ = some (.slice A0 x.f0.length c0) := (blk_cell hxg2.out 0).trans rfl; have hca1 : w2.cell? ⟨g2, 1, none⟩ = some (.int .i64 x.f1) := (blk_cell hxg2.out 1).trans rfl; have hca2 : w2.cell? ⟨g2, 2, none⟩ = some (.bool x.f2) := (blk_cell hxg2.out 2).trans rfl; have hca3 : w2.cell? ⟨g2, 3, none⟩ = some (.slice A3 x.f3.length c3) := (blk_cell hxg2.out 3).trans rfl; have X2 := Aside0.mk (blk_below HX1.out hbg2.out); have hcb0 : w2.cell? ⟨ge, 0, none⟩ = some (.slice E0 e.f0.length d0) := (blk_cell X2.out 0).trans rfl; have hcb1 : w2.cell? ⟨ge, 1, none⟩ = some (.int .i64 e.f1) := (blk_cell X2.out 1).trans rfl; have hcb2 : w2.cell? ⟨ge, 2, none⟩ = some (.bool e.f2) := (blk_cell X2.out 2).trans rfl; have hcb3 : w2.cell? ⟨ge, 3, none⟩ = some (.slice E3 e.f3.length d3) := (blk_cell X2.out 3).trans rfl)
  | ((with_reducible refine gate_dst (N := 8) rfl ?_); (try (refine gate_guard (by rfl) ?_; dsimp only)); refine goesL_ (some 8) rfl rfl Try.func50 (by kernel_rfl) rfl #[.slice A0 x.f0.length c0, .slice E0 e.f0.length d0] rfl (by (try simp only [List.map_toArray, List.map_cons, List.map_nil]); first | done | rfl) ?_; refine (eqB_calls HGX.out.1 HGE.out.1 (Kd.C_below HCX.out hbg2.out) (Kd.C_below HCE.out hbg2.out)).mono ?_; rintro ex w3 ⟨rfl, rfl⟩; refine ⟨_, rfl, ?_⟩; ))
 go_ret
 exact ⟨rfl, hbg2.out⟩
end Go.Proofs.Ytobjkjmmkbhecaa.Sk
