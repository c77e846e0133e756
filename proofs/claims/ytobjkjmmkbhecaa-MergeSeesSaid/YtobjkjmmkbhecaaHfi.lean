/- first and its function value, walked. Conditions: those of each theorem. -/
import Derived.Test.YtobjkjmmkbhecaaCore
import Derived.Test.YtobjkjmmkbhecaaME
import Derived.Test.YtobjkjmmkbhecaaMF
import Derived.Test.YtobjkjmmkbhecaaHpl
import Derived.Test.YtobjkjmmkbhecaaPx0
namespace Go.Proofs.Ytobjkjmmkbhecaa.Sk
open Go.RowKit Go.Proofs.YtobjkjmmkbhecaaW.PrintWords Go.Proofs.YtobjkjmmkbhecaaW.PrintLast Go.Proofs.YtobjkjmmkbhecaaW.PrintMore Go.Proofs.Ytobjkjmmkbhecaa.Px Go.Proofs.Ytobjkjmmkbhecaa.Sw
set_option linter.unusedVariables false
set_option linter.unusedSimpArgs false
set_option maxHeartbeats 4000000 in
set_option maxRecDepth 100000 in
theorem seq_says {w : World} {S : Nat → Prop} {gs : Nat} {seq : Int} (hgs : w.heap[gs]? = some (.cells #[.int .i64 seq] 3 (0, 0))) (hS : ¬ S gs) :
  Says1 w S EB 52 #[.pointer (some ⟨gs, 0, none⟩)] (fun x => decide (x.f1 ≤ seq)) := by
 intro x A0 c0 A3 c3 w1 hx hk l0 g0 l3 g3
 have huE := Try.underlying36
 have HX1 := Aside0.mk (show w1.heap[gs]? = some (.cells #[.int .i64 seq] 3 (0, 0)) from (hk.2 gs (blk_lt hgs) hS).trans hgs)
 clear hgs hS hx hk l0 g0 l3 g3
 show Calls Try.prog 52 #[.agg #[.slice A0 x.f0.length c0, .int .i64 x.f1, .bool x.f2, .slice A3 x.f3.length c3], .pointer (some ⟨gs, 0, none⟩)] w1 _
 go_enter Try.func52, Try.ntmps52
 go_wp2_with (first
  | ((with_reducible refine gate_dst (N := 2) rfl ?_); (try (refine gate_guard (by rfl) ?_; dsimp only)); refine box_event ?hg (N := 2) ?hd (cs := #[.slice A0 x.f0.length c0, .int .i64 x.f1, .bool x.f2, .slice A3 x.f3.length c3]) (t := 36) ?hr ?_; (case hd => rfl); (case hg => rfl); (case hr => first | (go_simp; done) | (go_simp; rfl)); intro g2 hqg2 w2 hxg2 hbg2; have n_ := Aside0.mk hqg2; clear hqg2; have hqg2 := n_; clear n_; have n_ := Aside0.mk hxg2; clear hxg2; have hxg2 := n_; clear n_; have n_ := Aside0.mk hbg2; clear hbg2; have hbg2 := n_; clear n_; have hca0 : w2.cell? ⟨g2, 0, none⟩ = some (.slice A0 x.f0.length c0) := (blk_cell hxg2.out 0).trans rfl; have hca1 : w2.cell? ⟨g2, 1, none⟩ = some (.int .i64 x.f1) := (blk_cell hxg2.out 1).trans rfl; have hca2 : w2.cell? ⟨g2, 2, none⟩ = some (.bool x.f2) := (blk_cell hxg2.out 2).trans rfl; have hca3 : w2.cell? ⟨g2, 3, none⟩ = some (.slice A3 x.f3.length c3) := (blk_cell hxg2.out 3).trans rfl; have X2 := Aside0.mk (blk_below HX1.out hbg2.out); have hcs : w2.cell? ⟨gs, 0, none⟩ = some (.int .i64 seq) := (blk_cell X2.out 0).trans rfl))
 go_ret
 exact ⟨rfl, hbg2.out⟩
set_option maxHeartbeats 4000000 in
set_option maxRecDepth 100000 in
theorem first_calls {w : World} {A : Option Addr} {c : Nat} {xs : List S36} (hC : Kd.C k36 w A xs.length xs) (hln : xs.length ≤ 1000000000000) (hG : ∀ e ∈ xs, EB e) (seq : Int) :
  Calls Try.prog 33 #[.slice A xs.length c, .int .i64 seq] w fun ex w' => ex = .returned (.int .i64 (idxN (fun e : S36 => decide (e.f1 ≤ seq)) xs)) ∧ Below w.heap.size w w' := by
 have HC := Aside0.mk hC
 have HLN := Aside0.mk hln
 have HG := Aside0.mk hG
 clear hC hln hG
 go_enter Try.func33, Try.ntmps33
 go_wp2_with (first
  | ((with_reducible refine gate_dst (N := 3) rfl ?_); (try (refine gate_guard (by rfl) ?_; dsimp only)); refine box_event ?hg (N := 3) ?hd (cs := #[.int .i64 seq]) (t := 3) ?hr ?_; (case hd => rfl); (case hg => rfl); (case hr => first | (go_simp; done) | (go_simp; rfl)); intro gs hqgs w2 hxgs hbgs; have n_ := Aside0.mk hqgs; clear hqgs; have hqgs := n_; clear n_; have n_ := Aside0.mk hxgs; clear hxgs; have hxgs := n_; clear n_; have n_ := Aside0.mk hbgs; clear hbgs; have hbgs := n_; clear n_)
  | ((with_reducible refine gate_dst (N := 7) rfl ?_); (try (refine gate_guard (by rfl) ?_; dsimp only)); refine goesL_ (some 7) rfl rfl Try.func51 (by kernel_rfl) rfl #[.slice A xs.length c, .func (.func 52) #[] #[.pointer (some ⟨gs, 0, none⟩)]] rfl (by (try simp only [List.map_toArray, List.map_cons, List.map_nil]); first | done | rfl) ?_; refine (index_calls (Kd.C_below HC.out hbgs.out) HLN.out HG.out 52 Try.f52 _ Try.func52 (by kernel_rfl) rfl (seq_says (S := fun _ => False) hxgs.out (fun h => h))).mono ?_; rintro ex w3 ⟨rfl, hb3⟩; refine ⟨_, rfl, ?_⟩; have n_ := Aside0.mk hb3; clear hb3; have hb3 := n_; clear n_))
 go_ret
 exact ⟨rfl, below_step hbgs.out hb3.out⟩
end Go.Proofs.Ytobjkjmmkbhecaa.Sk
