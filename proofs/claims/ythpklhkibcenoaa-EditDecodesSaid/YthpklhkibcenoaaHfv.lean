/- The function values of Apply: what they say. Conditions: those of each theorem. -/
import Derived.Test.YthpklhkibcenoaaCore
import Derived.Test.YthpklhkibcenoaaME
import Derived.Test.YthpklhkibcenoaaHma
import Derived.Test.YthpklhkibcenoaaHpl
import Derived.Test.YthpklhkibcenoaaPx0
import Derived.Test.YthpklhkibcenoaaMA
namespace Go.Proofs.Ythpklhkibcenoaa.Sk
open Go.RowKit Go.Proofs.YthpklhkibcenoaaW.PrintWords Go.Proofs.YthpklhkibcenoaaW.PrintLast Go.Proofs.YthpklhkibcenoaaW.PrintMore Go.Proofs.Ythpklhkibcenoaa.Px Go.Proofs.Ythpklhkibcenoaa.Sw
set_option linter.unusedVariables false
set_option linter.unusedSimpArgs false
set_option maxHeartbeats 4000000 in
set_option maxRecDepth 100000 in
theorem has_says {w : World} {g : Nat} {n : Int} (hg : w.heap[g]? = some (.cells #[.int .i64 n] 3 (0, 0))) (S : Nat → Prop) (hS : ¬ S g) (G : S57 → Prop) : Says1 w S G 29 #[.pointer (some ⟨g, 0, none⟩)] (fun m => m.f0 == n) := by
 intro e A3 c3 A4 c4 w1 hG hk hl3 hr3 hl4 hr4
 have huE := Try.underlying57
 have H1 := Aside0.mk (blk_kept hg hk hS)
 clear hg hk hG hl3 hr3 hl4 hr4
 go_enter Try.func29, Try.ntmps29
 go_wp2_with ((with_reducible refine gate_dst (N := 2) rfl ?_); (try (refine gate_guard (by rfl) ?_; dsimp only)); refine box_event ?hg (N := 2) ?hd (cs := #[.int .i64 e.f0, .int .i64 e.f1, .int .i64 e.f2, .slice A3 e.f3.length c3, .slice A4 e.f4.length c4]) (t := 57) ?hr ?_; (case hd => rfl); (case hg => rfl); (case hr => first | (go_simp; done) | (go_simp; rfl)); intro g2 hqg2 w2 hxg2 hbg2; have n_ := Aside0.mk hqg2; clear hqg2; have hqg2 := n_; clear n_; have n_ := Aside0.mk hxg2; clear hxg2; have hxg2 := n_; clear n_; have n_ := Aside0.mk hbg2; clear hbg2; have hbg2 := n_; clear n_; have hca0 : w2.cell? ⟨g2, 0, none⟩ = some (.int .i64 e.f0) := (blk_cell hxg2.out 0).trans rfl; have hca1 : w2.cell? ⟨g2, 1, none⟩ = some (.int .i64 e.f1) := (blk_cell hxg2.out 1).trans rfl; have hca2 : w2.cell? ⟨g2, 2, none⟩ = some (.int .i64 e.f2) := (blk_cell hxg2.out 2).trans rfl; have hca3 : w2.cell? ⟨g2, 3, none⟩ = some (.slice A3 e.f3.length c3) := (blk_cell hxg2.out 3).trans rfl; have hca4 : w2.cell? ⟨g2, 4, none⟩ = some (.slice A4 e.f4.length c4) := (blk_cell hxg2.out 4).trans rfl; have HC := Aside0.mk (blk_below H1.out hbg2.out); have hc : w2.cell? ⟨g, 0, none⟩ = some (.int .i64 n) := (blk_cell HC.out 0).trans rfl)
 go_ret
 exact ⟨rfl, hbg2.out⟩
set_option maxHeartbeats 4000000 in
set_option maxRecDepth 100000 in
theorem gone_says {w : World} {g gm k : Nat} {f : Int → Int} (hg : w.heap[g]? = some (.cells #[.map (some gm)] 59 (0, 0))) (hm : MapI w gm k f) (S : Nat → Prop) (hS : ¬ S g) (hS2 : ¬ S gm) : Says1 w S MB 32 #[.pointer (some ⟨g, 0, none⟩)] (fun m => decide (0 < f m.f0)) := by
 intro e A3 c3 A4 c4 w1 hG hk hl3 hr3 hl4 hr4
 have huE := Try.underlying57
 have H1 := Aside0.mk (blk_kept hg hk hS)
 have H2 := Aside0.mk (MapI.step hm (hk.2 gm hm.lt hS2))
 have HG := Aside0.mk hG
 clear hg hk hG hm hl3 hr3 hl4 hr4
 go_enter Try.func32, Try.ntmps32
 go_wp2_with (first
  | ((with_reducible refine gate_dst (N := 2) rfl ?_); (try (refine gate_guard (by rfl) ?_; dsimp only)); refine box_event ?hg (N := 2) ?hd (cs := #[.int .i64 e.f0, .int .i64 e.f1, .int .i64 e.f2, .slice A3 e.f3.length c3, .slice A4 e.f4.length c4]) (t := 57) ?hr ?_; (case hd => rfl); (case hg => rfl); (case hr => first | (go_simp; done) | (go_simp; rfl)); intro g2 hqg2 w2 hxg2 hbg2; have n_ := Aside0.mk hqg2; clear hqg2; have hqg2 := n_; clear n_; have n_ := Aside0.mk hxg2; clear hxg2; have hxg2 := n_; clear n_; have n_ := Aside0.mk hbg2; clear hbg2; have hbg2 := n_; clear n_; have hca0 : w2.cell? ⟨g2, 0, none⟩ = some (.int .i64 e.f0) := (blk_cell hxg2.out 0).trans rfl; have hca1 : w2.cell? ⟨g2, 1, none⟩ = some (.int .i64 e.f1) := (blk_cell hxg2.out 1).trans rfl; have hca2 : w2.cell? ⟨g2, 2, none⟩ = some (.int .i64 e.f2) := (blk_cell hxg2.out 2).trans rfl; have hca3 : w2.cell? ⟨g2, 3, none⟩ = some (.slice A3 e.f3.length c3) := (blk_cell hxg2.out 3).trans rfl; have hca4 : w2.cell? ⟨g2, 4, none⟩ = some (.slice A4 e.f4.length c4) := (blk_cell hxg2.out 4).trans rfl; have HC := Aside0.mk (blk_below H1.out hbg2.out); have HM := Aside0.mk (MapI.below H2.out hbg2.out); have hc : w2.cell? ⟨g, 0, none⟩ = some (.map (some gm)) := (blk_cell HC.out 0).trans rfl)
  | ((with_reducible refine gate_dst (N := 7) rfl ?_); refine lookup_event rfl (.tmp 4) (.tmp 6) rfl rfl HM.out e.f0 HG.out.2.2.1 HG.out.2.2.2 rfl rfl ?_))
 go_ret
 exact ⟨rfl, hbg2.out⟩
theorem cmp_says (w : World) (S : Nat → Prop) : Says2 w S MB 36 #[] cmpM := by
 intro e u A3 c3 A4 c4 B3 d3 B4 d4 w1 hG hGu hk hl3 hr3 hl4 hr4 kl3 kr3 kl4 kr4
 exact edit_Meta_compare.calls 4 e.f0 e.f1 e.f2 A3 c3 e.f3 A4 c4 e.f4 u.f0 u.f1 u.f2 B3 d3 u.f3 B4 d4 u.f4 (cmpM e u) w1 hr3 hl3 hr4 hl4 kr3 kl3 kr4 kl4 (compare_f 0 e u)
end Go.Proofs.Ythpklhkibcenoaa.Sk
