/- The cursor's next. Conditions: those of each theorem. -/
import Derived.Test.YtobjkjmmkbhecaaCore
import Derived.Test.YtobjkjmmkbhecaaME
import Derived.Test.YtobjkjmmkbhecaaPx0
namespace Go.Proofs.Ytobjkjmmkbhecaa.Sk
open Go.RowKit Go.Proofs.YtobjkjmmkbhecaaW.PrintWords Go.Proofs.YtobjkjmmkbhecaaW.PrintLast Go.Proofs.YtobjkjmmkbhecaaW.PrintMore Go.Proofs.Ytobjkjmmkbhecaa.Px Go.Proofs.Ytobjkjmmkbhecaa.Sw
set_option linter.unusedVariables false
set_option linter.unusedSimpArgs false

theorem cell_below_ {w w1 : World} {p : Addr} {v : Value} (h : w.cell? p = some v) (hb : Below w.heap.size w w1) : w1.cell? p = some v := by
 have hlt : p.block < w.heap.size := by
  by_cases hh : p.block < w.heap.size
  ·
   exact hh
  ·
   unfold World.cell? at h
   rw [Array.getElem?_eq_none (by omega)] at h
   cases h
 exact (hb.cell hlt).trans h
set_option maxHeartbeats 4000000 in
set_option maxRecDepth 100000 in
theorem next_end {w : World} {gc : Nat} {A : Option Addr} {c : Nat} {xs : List S36} (hcur : w.heap[gc]? = some (.cells #[.slice A xs.length c, .int .i64 (xs.length : Int)] 64 (0, 0))) :
  Calls Try.prog 47 #[.pointer (some ⟨gc, 0, none⟩)] w fun ex w' => ex = .returned (.tuple #[.agg #[.slice none 0 0, .int .i64 0, .bool false, .slice none 0 0], .bool false]) ∧ Below w.heap.size w w' := by
 have hu64 := Try.underlying64
 have hu36 := Try.underlying36
 have CUR := Aside0.mk hcur
 have hbe : ((xs.length : Int) == (xs.length : Int)) = true := beq_self_eq_true _
 clear hcur
 go_enter Try.func47, Try.ntmps47
 go_upto_region 2 with (first
  | ((with_reducible refine gate_dst (N := 2) rfl ?_); (try (refine gate_guard (by rfl) ?_; dsimp only)); refine box_event ?hg (N := 2) ?hd (cs := #[.slice none 0 0, .int .i64 0, .bool false, .slice none 0 0]) (t := 36) ?hr ?_; (case hd => rfl); (case hg => rfl); (case hr => first | (go_simp; done) | (go_simp; rfl)); intro g2 hqg2 w2 hxg2 hbg2; have n_ := Aside0.mk hqg2; clear hqg2; have hqg2 := n_; clear n_; have n_ := Aside0.mk hxg2; clear hxg2; have hxg2 := n_; clear n_; have n_ := Aside0.mk hbg2; clear hbg2; have hbg2 := n_; clear n_; have hca0 : w2.cell? ⟨g2, 0, none⟩ = some (.slice none 0 0) := (blk_cell hxg2.out 0).trans rfl; have hca1 : w2.cell? ⟨g2, 1, none⟩ = some (.int .i64 0) := (blk_cell hxg2.out 1).trans rfl; have hca2 : w2.cell? ⟨g2, 2, none⟩ = some (.bool false) := (blk_cell hxg2.out 2).trans rfl; have hca3 : w2.cell? ⟨g2, 3, none⟩ = some (.slice none 0 0) := (blk_cell hxg2.out 3).trans rfl; have hfa0 : w2.frozen? ⟨g2, 0, none⟩ = false := blk_frozen hxg2.out 0; have hfa1 : w2.frozen? ⟨g2, 1, none⟩ = false := blk_frozen hxg2.out 1; have hfa2 : w2.frozen? ⟨g2, 2, none⟩ = false := blk_frozen hxg2.out 2; have hfa3 : w2.frozen? ⟨g2, 3, none⟩ = false := blk_frozen hxg2.out 3)
  | ((with_reducible refine gate_dst (N := 4) rfl ?_); (try (refine gate_guard (by rfl) ?_; dsimp only)); refine box_event ?hg (N := 4) ?hd (cs := #[.slice none 0 0, .int .i64 0, .bool false, .slice none 0 0]) (t := 36) ?hr ?_; (case hd => rfl); (case hg => rfl); (case hr => first | (go_simp; done) | (go_simp; rfl)); intro g4 hqg4 w3 hxg4 hbg4; have n_ := Aside0.mk hqg4; clear hqg4; have hqg4 := n_; clear n_; have n_ := Aside0.mk hxg4; clear hxg4; have hxg4 := n_; clear n_; have n_ := Aside0.mk hbg4; clear hbg4; have hbg4 := n_; clear n_; have X2 := Aside0.mk (blk_below hxg2.out hbg4.out); have B3 := Aside0.mk (below_step hbg2.out hbg4.out); have C3 := Aside0.mk (blk_below CUR.out B3.out); clear hca0 hfa0 hca1 hfa1 hca2 hfa2 hca3 hfa3))
 have Q2 := Aside0.mk (show w.heap.size ≤ g2 from Nat.le_of_eq hqg2.out.symm)
 refine s_ 10 [] (fun w' => w'.cell? ⟨gc, 0, none⟩ = some (.slice A xs.length c) ∧ w'.cell? ⟨gc, 1, none⟩ = some (.int .i64 (xs.length : Int))) (hS := ⟨(blk_cell (blk_drew C3.out) 0).trans rfl, (blk_cell (blk_drew C3.out) 1).trans rfl⟩) (h := fun hHeld => ?_)
 have C4 := Aside0.mk (blk_drew C3.out)
 have X24 := Aside0.mk (blk_drew X2.out)
 have X44 := Aside0.mk (blk_drew hxg4.out)
 have B4 := Aside0.mk (below_drew B3.out)
 clear C3 X2 B3 hxg4 hbg4 hbg2 hxg2
 generalize w3.drew = w4 at C4 X24 X44 B4 hHeld ⊢
 refine p_ 0 5 (bb 10 1) (h := ?_)
 refine p_ 1 6 (bb 10 3) (h := ?_)
 refine p_ 2 7 (bb 10 7) (h := ?_)
 refine t_ 3 8 (bb 10 15) hHeld (h := ?_)
 refine p_ 4 9 (bb 10 31) (h := ?_)
 refine p_ 5 10 (bb 10 63) (h := ?_)
 refine p_ 6 11 (bb 10 127) (h := ?_)
 refine t_ 7 12 (bb 10 255) hHeld (h := ?_)
 refine p_ 8 13 (bb 10 511) (h := ?_)
 refine p_ 9 14 (bb 10 1023) (h := ?_)
 refine d_ (h := ?_)
 have hcb0 : w4.cell? ⟨g2, 0, none⟩ = some (.slice none 0 0) := (blk_cell X24.out 0).trans rfl; have hcb1 : w4.cell? ⟨g2, 1, none⟩ = some (.int .i64 0) := (blk_cell X24.out 1).trans rfl; have hcb2 : w4.cell? ⟨g2, 2, none⟩ = some (.bool false) := (blk_cell X24.out 2).trans rfl; have hcb3 : w4.cell? ⟨g2, 3, none⟩ = some (.slice none 0 0) := (blk_cell X24.out 3).trans rfl; have hfb0 : w4.frozen? ⟨g2, 0, none⟩ = false := blk_frozen X24.out 0; have hfb1 : w4.frozen? ⟨g2, 1, none⟩ = false := blk_frozen X24.out 1; have hfb2 : w4.frozen? ⟨g2, 2, none⟩ = false := blk_frozen X24.out 2; have hfb3 : w4.frozen? ⟨g2, 3, none⟩ = false := blk_frozen X24.out 3; have hcd0 : w4.cell? ⟨g4, 0, none⟩ = some (.slice none 0 0) := (blk_cell X44.out 0).trans rfl; have hcd1 : w4.cell? ⟨g4, 1, none⟩ = some (.int .i64 0) := (blk_cell X44.out 1).trans rfl; have hcd2 : w4.cell? ⟨g4, 2, none⟩ = some (.bool false) := (blk_cell X44.out 2).trans rfl; have hcd3 : w4.cell? ⟨g4, 3, none⟩ = some (.slice none 0 0) := (blk_cell X44.out 3).trans rfl
 go_wp2
 refine bodyPost_ret (results_ct rfl _ _ g2 36 #[.slice none 0 0, .int .i64 0, .bool false, .slice none 0 0] (0, 0) _ rfl (blk_put (blk_put (blk_put (blk_put X24.out 0 _ rfl) 1 _ rfl) 2 _ rfl) 3 _ rfl) Try.underlying36 rfl (by kernel_rfl)) rfl ?_
 exact ⟨rfl, below_set (below_set (below_set (below_set B4.out Q2.out) Q2.out) Q2.out) Q2.out⟩
set_option maxHeartbeats 4000000 in
set_option maxRecDepth 100000 in
theorem next_more {w : World} {gc : Nat} {ad : Addr} {c : Nat} {xs : List S36} {n : Nat} {z : S36} {M0 : Option Addr} {m0 : Nat} {M3 : Option Addr} {m3 : Nat} (hlc : xs.length ≤ c) (hn : n < xs.length) (hd0 : w.cell? (ad.add (n * 4)) = some (.slice M0 z.f0.length m0)) (hd1 : w.cell? ⟨(ad.add (n * 4)).block, (ad.add (n * 4)).off + 1, none⟩ = some (.int .i64 z.f1)) (hd2 : w.cell? ⟨(ad.add (n * 4)).block, (ad.add (n * 4)).off + 2, none⟩ = some (.bool z.f2)) (hd3 : w.cell? ⟨(ad.add (n * 4)).block, (ad.add (n * 4)).off + 3, none⟩ = some (.slice M3 z.f3.length m3)) (hcur : w.heap[gc]? = some (.cells #[.slice (some ad) xs.length c, .int .i64 (n : Int)] 64 (0, 0))) :
  Calls Try.prog 47 #[.pointer (some ⟨gc, 0, none⟩)] w fun ex w' => ex = .returned (.tuple #[.agg #[.slice M0 z.f0.length m0, .int .i64 z.f1, .bool z.f2, .slice M3 z.f3.length m3], .bool true]) ∧ Below w.heap.size w w' := by
 have hu64 := Try.underlying64
 have hu36 := Try.underlying36
 have CUR := Aside0.mk hcur
 have hbe : ((n : Int) == (xs.length : Int)) = false := beq_eq_false_iff_ne.mpr (by omega)
 have hlt : ((n : Int) < (xs.length : Int)) = True := eq_true (by omega)
 have HN := Aside0.mk hn
 have D0 := Aside0.mk hd0
 have D1 := Aside0.mk hd1
 have D2 := Aside0.mk hd2
 have D3 := Aside0.mk hd3
 clear hd0 hd1 hd2 hd3 hcur hn
 go_enter Try.func47, Try.ntmps47
 go_upto_region 2 with (first
  | ((with_reducible refine gate_dst (N := 2) rfl ?_); (try (refine gate_guard (by rfl) ?_; dsimp only)); refine box_event ?hg (N := 2) ?hd (cs := #[.slice none 0 0, .int .i64 0, .bool false, .slice none 0 0]) (t := 36) ?hr ?_; (case hd => rfl); (case hg => rfl); (case hr => first | (go_simp; done) | (go_simp; rfl)); intro g2 hqg2 w2 hxg2 hbg2; have n_ := Aside0.mk hqg2; clear hqg2; have hqg2 := n_; clear n_; have n_ := Aside0.mk hxg2; clear hxg2; have hxg2 := n_; clear n_; have n_ := Aside0.mk hbg2; clear hbg2; have hbg2 := n_; clear n_; have hca0 : w2.cell? ⟨g2, 0, none⟩ = some (.slice none 0 0) := (blk_cell hxg2.out 0).trans rfl; have hca1 : w2.cell? ⟨g2, 1, none⟩ = some (.int .i64 0) := (blk_cell hxg2.out 1).trans rfl; have hca2 : w2.cell? ⟨g2, 2, none⟩ = some (.bool false) := (blk_cell hxg2.out 2).trans rfl; have hca3 : w2.cell? ⟨g2, 3, none⟩ = some (.slice none 0 0) := (blk_cell hxg2.out 3).trans rfl; have hfa0 : w2.frozen? ⟨g2, 0, none⟩ = false := blk_frozen hxg2.out 0; have hfa1 : w2.frozen? ⟨g2, 1, none⟩ = false := blk_frozen hxg2.out 1; have hfa2 : w2.frozen? ⟨g2, 2, none⟩ = false := blk_frozen hxg2.out 2; have hfa3 : w2.frozen? ⟨g2, 3, none⟩ = false := blk_frozen hxg2.out 3)
  | ((with_reducible refine gate_dst (N := 4) rfl ?_); (try (refine gate_guard (by rfl) ?_; dsimp only)); refine box_event ?hg (N := 4) ?hd (cs := #[.slice none 0 0, .int .i64 0, .bool false, .slice none 0 0]) (t := 36) ?hr ?_; (case hd => rfl); (case hg => rfl); (case hr => first | (go_simp; done) | (go_simp; rfl)); intro g4 hqg4 w3 hxg4 hbg4; have n_ := Aside0.mk hqg4; clear hqg4; have hqg4 := n_; clear n_; have n_ := Aside0.mk hxg4; clear hxg4; have hxg4 := n_; clear n_; have n_ := Aside0.mk hbg4; clear hbg4; have hbg4 := n_; clear n_; have X2 := Aside0.mk (blk_below hxg2.out hbg4.out); have B3 := Aside0.mk (below_step hbg2.out hbg4.out); have C3 := Aside0.mk (blk_below CUR.out B3.out); clear hca0 hfa0 hca1 hfa1 hca2 hfa2 hca3 hfa3))
 have Q2 := Aside0.mk (show w.heap.size ≤ g2 from Nat.le_of_eq hqg2.out.symm)
 refine s_ 10 [] (fun w' => w'.cell? ⟨gc, 0, none⟩ = some (.slice (some ad) xs.length c) ∧ w'.cell? ⟨gc, 1, none⟩ = some (.int .i64 (n : Int))) (hS := ⟨(blk_cell (blk_drew C3.out) 0).trans rfl, (blk_cell (blk_drew C3.out) 1).trans rfl⟩) (h := fun hHeld => ?_)
 have C4 := Aside0.mk (blk_drew C3.out)
 have X24 := Aside0.mk (blk_drew X2.out)
 have X44 := Aside0.mk (blk_drew hxg4.out)
 have B4 := Aside0.mk (below_drew B3.out)
 clear C3 X2 B3 hxg4 hbg4 hbg2 hxg2
 generalize w3.drew = w4 at C4 X24 X44 B4 hHeld ⊢
 refine p_ 0 5 (bb 10 1) (h := ?_)
 refine p_ 1 6 (bb 10 3) (h := ?_)
 refine p_ 2 7 (bb 10 7) (h := ?_)
 refine t_ 3 8 (bb 10 15) hHeld (h := ?_)
 refine p_ 4 9 (bb 10 31) (h := ?_)
 refine p_ 5 10 (bb 10 63) (h := ?_)
 refine p_ 6 11 (bb 10 127) (h := ?_)
 refine t_ 7 12 (bb 10 255) hHeld (h := ?_)
 refine p_ 8 13 (bb 10 511) (h := ?_)
 refine p_ 9 14 (bb 10 1023) (h := ?_)
 refine d_ (h := ?_)
 go_upto_region 4 with (fail)
 refine s_ 12 [10] (fun w' => w'.cell? ⟨gc, 0, none⟩ = some (.slice (some ad) xs.length c) ∧ w'.cell? ⟨gc, 1, none⟩ = some (.int .i64 (n : Int)) ∧ w'.cell? (ad.add (n * 4)) = some (.slice M0 z.f0.length m0) ∧ w'.cell? ⟨(ad.add (n * 4)).block, (ad.add (n * 4)).off + 1, none⟩ = some (.int .i64 z.f1) ∧ w'.cell? ⟨(ad.add (n * 4)).block, (ad.add (n * 4)).off + 2, none⟩ = some (.bool z.f2) ∧ w'.cell? ⟨(ad.add (n * 4)).block, (ad.add (n * 4)).off + 3, none⟩ = some (.slice M3 z.f3.length m3)) (hS := ⟨(blk_cell (blk_drew C4.out) 0).trans rfl, (blk_cell (blk_drew C4.out) 1).trans rfl, cell_below_ D0.out (below_drew B4.out), cell_below_ D1.out (below_drew B4.out), cell_below_ D2.out (below_drew B4.out), cell_below_ D3.out (below_drew B4.out)⟩) (h := fun hHeld => ?_)
 have X25 := Aside0.mk (blk_drew X24.out)
 have B5 := Aside0.mk (below_drew B4.out)
 clear C4 X24 X44 B4
 generalize w4.drew = w5 at X25 B5 hHeld ⊢
 have hcb0 : w5.cell? ⟨g2, 0, none⟩ = some (.slice none 0 0) := (blk_cell X25.out 0).trans rfl; have hcb1 : w5.cell? ⟨g2, 1, none⟩ = some (.int .i64 0) := (blk_cell X25.out 1).trans rfl; have hcb2 : w5.cell? ⟨g2, 2, none⟩ = some (.bool false) := (blk_cell X25.out 2).trans rfl; have hcb3 : w5.cell? ⟨g2, 3, none⟩ = some (.slice none 0 0) := (blk_cell X25.out 3).trans rfl; have hfb0 : w5.frozen? ⟨g2, 0, none⟩ = false := blk_frozen X25.out 0; have hfb1 : w5.frozen? ⟨g2, 1, none⟩ = false := blk_frozen X25.out 1; have hfb2 : w5.frozen? ⟨g2, 2, none⟩ = false := blk_frozen X25.out 2; have hfb3 : w5.frozen? ⟨g2, 3, none⟩ = false := blk_frozen X25.out 3
 refine p_ 0 16 (bb 12 1) (h := ?_)
 refine p_ 1 17 (bb 12 3) (h := ?_)
 refine p_ 2 18 (bb 12 7) (h := ?_)
 refine t_ 3 19 (bb 12 15) hHeld (h := ?_)
 refine p_ 4 20 (bb 12 31) (h := ?_)
 refine p_ 5 21 (bb 12 63) (h := ?_)
 refine p_ 6 22 (bb 12 127) (h := ?_)
 refine t_ 7 23 (bb 12 255) hHeld (h := ?_)
 refine p_ 8 24 (bb 12 511) (h := ?_)
 refine t_ 9 25 (bb 12 1023) hHeld (h := ?_)
 refine l_ 10 (bb 12 2047) (h := ?_)
 refine p_ 11 3 (bb 12 4095) (h := ?_)
 refine d_ (h := ?_)
 go_wp2
 refine bodyPost_ret (results_ct rfl _ _ g2 36 #[.slice M0 z.f0.length m0, .int .i64 z.f1, .bool z.f2, .slice M3 z.f3.length m3] (0, 0) _ rfl (blk_put (blk_put (blk_put (blk_put X25.out 0 _ rfl) 1 _ rfl) 2 _ rfl) 3 _ rfl) Try.underlying36 rfl (by kernel_rfl)) rfl ?_
 exact ⟨rfl, below_set (below_set (below_set (below_set B5.out Q2.out) Q2.out) Q2.out) Q2.out⟩
end Go.Proofs.Ytobjkjmmkbhecaa.Sk
