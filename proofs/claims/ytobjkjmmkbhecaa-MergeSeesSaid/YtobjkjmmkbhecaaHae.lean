/- The example in plain lists; awake's function value. Conditions: those of each theorem. -/
import Derived.Test.YtobjkjmmkbhecaaCore
import Derived.Test.YtobjkjmmkbhecaaHgp
import Derived.Test.YtobjkjmmkbhecaaHkp
import Derived.Test.YtobjkjmmkbhecaaHpl
import Derived.Test.YtobjkjmmkbhecaaHrw
import Derived.Test.YtobjkjmmkbhecaaHso
import Derived.Test.YtobjkjmmkbhecaaHvi
import Derived.Test.YtobjkjmmkbhecaaME
import Derived.Test.YtobjkjmmkbhecaaPx0
import Derived.Test.YtobjkjmmkbhecaaHpr
import Derived.Test.YtobjkjmmkbhecaaHmr
namespace Go.Proofs.Ytobjkjmmkbhecaa.Sk
open Go.RowKit Go.Proofs.YtobjkjmmkbhecaaW.PrintWords Go.Proofs.YtobjkjmmkbhecaaW.PrintLast Go.Proofs.YtobjkjmmkbhecaaW.PrintMore Go.Proofs.Ytobjkjmmkbhecaa.Px Go.Proofs.Ytobjkjmmkbhecaa.Sw
set_option linter.unusedVariables false
set_option linter.unusedSimpArgs false

def exL : List S36 := [(⟨[97], 5, false, []⟩ : S36), ⟨[97], 3, false, []⟩, ⟨[97], 1, false, []⟩, ⟨[98], 4, true, []⟩]
theorem exG : groupsK (fun e : S36 => e.f0) exL = [[⟨[97], 5, false, []⟩, ⟨[97], 3, false, []⟩, ⟨[97], 1, false, []⟩], [⟨[98], 4, true, []⟩]] := by
 unfold exL
 simp [groupsK, ofKey]
theorem exP0 : pruM [3] false exL = [⟨[97], 5, false, []⟩, ⟨[97], 3, false, []⟩, ⟨[98], 4, true, []⟩] := by unfold pruM; rw [exG]; rfl
theorem exP1 : pruM [3] true exL = [⟨[97], 5, false, []⟩, ⟨[97], 3, false, []⟩] := by unfold pruM; rw [exG]; rfl
theorem exV : visM 4 exL = [⟨[97], 3, false, []⟩] := by unfold visM; rw [exG]; rfl
theorem exS : splitE (fun e : S36 => e.f0) 2 exL = [[⟨[97], 5, false, []⟩, ⟨[97], 3, false, []⟩, ⟨[97], 1, false, []⟩], [⟨[98], 4, true, []⟩]] := by unfold splitE; rw [exG]; rfl
theorem exM : putAll cmpE [exL.take 2, exL.drop 2, exL].flatten = exL := by kernel_rfl
theorem ex_good : goodL exL = true := by kernel_rfl
theorem exF_good : goodL [exL.take 2, exL.drop 2, exL].flatten = true := by kernel_rfl
set_option maxHeartbeats 4000000 in
set_option maxRecDepth 100000 in
theorem mk_calls (w : World) (s : ByteArray) (hs : s.size ≤ 140737488355328) (seq : Int) (gone : Bool) :
  Calls Try.prog 25 #[.string s, .int .i64 seq, .bool gone] w fun ex w' => ∃ A c, ex = .returned (.agg #[.slice A (bytesOf s).length c, .int .i64 seq, .bool gone, .slice none 0 0]) ∧ (bytesOf s).length ≤ c ∧ Kd.F (Kd.int .u8) w' (fun k => w.heap.size ≤ k) A (bytesOf s).length (bytesOf s) ∧ Below w.heap.size w w' := by
 have huE := Try.underlying36
 have HS := Aside0.mk hs
 have kb := fun W => print_bytes (P := Try.prog) 9 34 5 Try.underlying9 Try.underlying34 Try.underlying5 s W
 clear hs
 go_enter Try.func25, Try.ntmps25
 go_wp2_with (first
  | ((with_reducible refine gate_dst (N := 6) rfl ?_); (try (refine gate_guard (by rfl) ?_; dsimp only)); refine box_event ?hg (N := 6) ?hd (cs := #[.slice none 0 0, .int .i64 0, .bool false, .slice none 0 0]) (t := 36) ?hr ?_; (case hd => rfl); (case hg => rfl); (case hr => first | (go_simp; done) | (go_simp; rfl)); intro g6 hqg6 w2 hxg6 hbg6; have n_ := Aside0.mk hqg6; clear hqg6; have hqg6 := n_; clear n_; have n_ := Aside0.mk hxg6; clear hxg6; have hxg6 := n_; clear n_; have n_ := Aside0.mk hbg6; clear hbg6; have hbg6 := n_; clear n_; have hca0 : w2.cell? ⟨g6, 0, none⟩ = some (.slice none 0 0) := (blk_cell hxg6.out 0).trans rfl; have hca1 : w2.cell? ⟨g6, 1, none⟩ = some (.int .i64 0) := (blk_cell hxg6.out 1).trans rfl; have hca2 : w2.cell? ⟨g6, 2, none⟩ = some (.bool false) := (blk_cell hxg6.out 2).trans rfl; have hca3 : w2.cell? ⟨g6, 3, none⟩ = some (.slice none 0 0) := (blk_cell hxg6.out 3).trans rfl; have hfa0 : w2.frozen? ⟨g6, 0, none⟩ = false := blk_frozen hxg6.out 0; have hfa1 : w2.frozen? ⟨g6, 1, none⟩ = false := blk_frozen hxg6.out 1; have hfa2 : w2.frozen? ⟨g6, 2, none⟩ = false := blk_frozen hxg6.out 2; have hfa3 : w2.frozen? ⟨g6, 3, none⟩ = false := blk_frozen hxg6.out 3)
  | ((with_reducible refine gate_dst (N := 8) rfl ?_); refine Kd.V_bytes (w0 := w2) w2.heap.size 5 ?hg (N := 8) ?hd s (ok := fun k => w2.heap.size ≤ k) ?hm ?hr (fun _ h => h) (Below.refl _ _) (Nat.le_refl _) ?_; (case hd => rfl); (case hg => rfl); (case hm => exact HS.out); (case hr => first | (go_simp; done) | (go_simp; rfl)); intro v8 w3 hv8 hb3 hg3 hat3; clear hg3 hat3; obtain ⟨A8, c8, rfl, l8, f8⟩ := hv8; have X3 := Aside0.mk (blk_below hxg6.out hb3); have L8 := Aside0.mk (l8); have F8 := Aside0.mk (f8); have B3 := Aside0.mk (hb3); clear l8 f8 hb3 hca0 hfa0 hca1 hfa1 hca2 hfa2 hca3 hfa3; have hcb0 : w3.cell? ⟨g6, 0, none⟩ = some (.slice none 0 0) := (blk_cell X3.out 0).trans rfl; have hcb1 : w3.cell? ⟨g6, 1, none⟩ = some (.int .i64 0) := (blk_cell X3.out 1).trans rfl; have hcb2 : w3.cell? ⟨g6, 2, none⟩ = some (.bool false) := (blk_cell X3.out 2).trans rfl; have hcb3 : w3.cell? ⟨g6, 3, none⟩ = some (.slice none 0 0) := (blk_cell X3.out 3).trans rfl; have hfb0 : w3.frozen? ⟨g6, 0, none⟩ = false := blk_frozen X3.out 0; have hfb1 : w3.frozen? ⟨g6, 1, none⟩ = false := blk_frozen X3.out 1; have hfb2 : w3.frozen? ⟨g6, 2, none⟩ = false := blk_frozen X3.out 2; have hfb3 : w3.frozen? ⟨g6, 3, none⟩ = false := blk_frozen X3.out 3))
 refine bodyPost_ret (results_single rfl (.cell g6 36 #[.slice A8 (bytesOf s).length c8, .int .i64 seq, .bool gone, .slice none 0 0] (0, 0) _ rfl (blk_put (blk_put (blk_put (blk_put X3.out 0 _ rfl) 1 _ rfl) 2 _ rfl) 3 _ rfl) Try.underlying36 rfl (by kernel_rfl) .nil)) rfl ?_
 have q6 : w.heap.size ≤ g6 := Nat.le_of_eq hqg6.out.symm
 have q2 : g6 < w2.heap.size := blk_lt hxg6.out
 refine ⟨A8, c8, rfl, L8.out, ?_, below_set (below_set (below_set (below_set (below_step hbg6.out B3.out) q6) q6) q6) q6⟩
 refine Kd.F_mono (Kd.F_step F8.out (fun k hk hlt => ?_)) (fun k hk => Nat.le_trans hbg6.out.size hk)
 have hne : k ≠ g6 := by omega
 exact (Below.heap_setCell _ _ _ _ hne).trans ((Below.heap_setCell _ _ _ _ hne).trans ((Below.heap_setCell _ _ _ _ hne).trans (Below.heap_setCell _ _ _ _ hne)))
end Go.Proofs.Ytobjkjmmkbhecaa.Sk
