/- EditDecodes, walked. Conditions: those of each theorem. -/
import Derived.Test.YthpklhkibcenoaaCore
import Derived.Test.YthpklhkibcenoaaHap
import Derived.Test.YthpklhkibcenoaaHaw
import Derived.Test.YthpklhkibcenoaaHcv
import Derived.Test.YthpklhkibcenoaaHdc
import Derived.Test.YthpklhkibcenoaaHde
import Derived.Test.YthpklhkibcenoaaHdp
import Derived.Test.YthpklhkibcenoaaHdr
import Derived.Test.YthpklhkibcenoaaHrb
import Derived.Test.YthpklhkibcenoaaHto
import Derived.Test.YthpklhkibcenoaaME
import Derived.Test.YthpklhkibcenoaaPx0
import Derived.Test.YthpklhkibcenoaaHpl
namespace Go.Proofs.Ythpklhkibcenoaa.Sk
open Go.RowKit Go.Proofs.YthpklhkibcenoaaW.PrintWords Go.Proofs.YthpklhkibcenoaaW.PrintLast Go.Proofs.YthpklhkibcenoaaW.PrintMore Go.Proofs.Ythpklhkibcenoaa.Px Go.Proofs.Ythpklhkibcenoaa.Sw
set_option linter.unusedVariables false
set_option linter.unusedSimpArgs false

theorem dcode {w : World} {A : Option Addr} {c : Nat} {l : List Int} {d0 d1 d2 d3 e : Int} {ts : List S57} (hd : decV 4096 l = (d0, d1, d2, d3, ts, e)) (hC : Kd.C (Kd.int .u8) w A l.length l) (hlc : l.length ≤ c) (hL : Byts l) (hN : l.length ≤ 140737488351232) :
  Calls Try.prog 23 #[.slice A l.length c] w fun ex w' => ∃ Av cv, ts.length ≤ cv ∧ ex = .returned (.tuple #[.agg #[.int .i64 d0, .int .i64 d1, .int .i64 d2, .int .i64 d3, .slice Av ts.length cv], .int .i64 e]) ∧ Kd.F k57 w' (fun k => w.heap.size ≤ k) Av ts.length ts ∧ Below w.heap.size w w' := by
 refine (decode_calls hC hlc hL hN).mono ?_
 rw [decV_same (a := 4097) (b := 4096) (by omega) (by omega), hd]
 rintro ex w' ⟨v', rfl, hn, hb⟩
 obtain ⟨A', c', rfl⟩ := Kd.N_slice hn
 exact ⟨A', c', (Kd.N_reads' hn).2.1, rfl, Kd.N_F hn, hb⟩
theorem rdcode {w : World} {A : Option Addr} {c : Nat} {l : List Int} {d0 d1 d2 d3 e : Int} {ts : List S57} {rs : List S37} (hr : rs = ts.map toR) (hd : decV 4096 l = (d0, d1, d2, d3, ts, e)) (hC : Kd.C (Kd.int .u8) w A l.length l) (hlc : l.length ≤ c) (hL : Byts l) (hN : l.length ≤ 140737488351232) :
  Calls Try.prog 24 #[.slice A l.length c] w fun ex w' => ∃ Aw cw, ex = .returned (.tuple #[.agg #[.int .i64 d0, .int .i64 d1, .int .i64 d2, .int .i64 d3, .slice Aw rs.length cw], .int .i64 e]) ∧ Kd.F k37 w' (fun k => w.heap.size ≤ k) Aw rs.length rs ∧ Below w.heap.size w w' := by
 refine (rdecode_calls hC hlc hL hN).mono ?_
 rw [hd, hr]
 rintro ex w' ⟨v', rfl, hn, hb⟩
 obtain ⟨A', c', rfl⟩ := Kd.N_slice hn
 exact ⟨A', c', rfl, Kd.N_F hn, hb⟩
theorem theirsR {w : World} (g n s q : Int) {A : Option Addr} {c : Nat} {ts : List S57} {rs : List S37} (hr : rs = ts.map toR) (hC : Kd.C k57 w A ts.length ts) (hlc : ts.length ≤ c) (hl : ts.length ≤ 1954687338211) :
  Calls Try.prog 26 #[.agg #[.int .i64 g, .int .i64 n, .int .i64 s, .int .i64 q, .slice A ts.length c]] w fun ex w' => ∃ A' c', ex = .returned (.agg #[.int .i64 g, .int .i64 n, .int .i64 s, .int .i64 q, .slice A' rs.length c']) ∧ rs.length ≤ c' ∧ Kd.C k37 w' A' rs.length rs ∧ Below w.heap.size w w' := by
 exact theirs_callsH g n s q hr hC hl
theorem decV_len {most : Nat} (l : List Int) : (decV most l).2.2.2.2.1.length ≤ 4096 := by
 unfold decV
 split
 ·
  rename_i h
  unfold decOK at h
  simp only [Bool.and_eq_true, decide_eq_true_eq] at h
  exact (checkB_len h.2.1).1
 ·
  exact Nat.zero_le _
set_option maxHeartbeats 40000000 in
set_option maxRecDepth 100000 in
theorem decodes_calls {w : World} {A : Option Addr} {c : Nat} {l : List Int} (hC : Kd.C (Kd.int .u8) w A l.length l) (hlc : l.length ≤ c) (hL : Byts l) (hN : l.length ≤ 140737488351232) :
  Calls Try.prog 8 #[.slice A l.length c] w fun ex w' => ex = .returned (.bool true) ∧ Below w.heap.size w w' := by
 have huV := Try.underlying28
 have huW := Try.underlying24
 have HC := Aside0.mk hC
 clear hC
 have HLC := Aside0.mk hlc
 clear hlc
 have HB := Aside0.mk hL
 clear hL
 have HN := Aside0.mk hN
 clear hN
 rcases hd : decV 4096 l with ⟨d0, d1, d2, d3, ts, e⟩
 have HD := Aside0.mk hd
 have HTL := Aside0.mk (show ts.length ≤ 4096 by have h := decV_len (most := 4096) l; rw [hd] at h; exact h)
 obtain ⟨rs, hrs⟩ : ∃ rs, rs = ts.map toR := ⟨_, rfl⟩
 have HRS := Aside0.mk hrs
 clear hd hrs
 by_cases hbig : (20000 : Int) < (l.length : Int)
 ·
  as_aux_lemma =>
  have hlt : ((20000 : Int) < (l.length : Int)) = True := eq_true hbig
  clear hbig
  go_enter Try.func8, Try.ntmps8
  go_wp2_with (first
   | ((with_reducible refine gate_dst (N := 8) rfl ?_); (try (refine gate_guard (by rfl) ?_; dsimp only)); refine goesL_ (some 8) rfl rfl Try.func10 (by kernel_rfl) rfl #[] rfl (by (try simp only [List.map_toArray, List.map_cons, List.map_nil]); first | done | rfl) ?_; refine (awake_calls _).mono ?_; rintro ex w1 ⟨rfl, hb⟩; refine ⟨_, rfl, ?_⟩; have B1 := Aside0.mk hb; clear hb))
  go_ret
  exact ⟨rfl, B1.out⟩
 ·
  as_aux_lemma =>
  have hlt : ((20000 : Int) < (l.length : Int)) = False := eq_false hbig
  clear hbig
  go_enter Try.func8, Try.ntmps8
  go_upto_region 5 with (first
   | ((with_reducible refine gate_dst (N := 8) rfl ?_); (try (refine gate_guard (by rfl) ?_; dsimp only)); refine goesL_ (some 8) rfl rfl Try.func10 (by kernel_rfl) rfl #[] rfl (by (try simp only [List.map_toArray, List.map_cons, List.map_nil]); first | done | rfl) ?_; refine (awake_calls _).mono ?_; rintro ex w1 ⟨rfl, hb⟩; refine ⟨_, rfl, ?_⟩; have B1 := Aside0.mk hb; clear hb)
   | ((with_reducible refine gate_dst (N := 15) rfl ?_); (try (refine gate_guard (by rfl) ?_; dsimp only)); refine goesL_ (some 15) rfl rfl Try.func23 (by kernel_rfl) rfl #[.slice A l.length c] rfl (by (try simp only [List.map_toArray, List.map_cons, List.map_nil]); first | done | rfl) ?_; refine (dcode HD.out (Kd.C_below HC.out B1.out) HLC.out HB.out HN.out).mono ?_; rintro ex w2 ⟨Av, cv, hcv_, rfl, hf, hb⟩; refine ⟨_, rfl, ?_⟩; have B2 := Aside0.mk (below_step B1.out hb); have F2 := Aside0.mk hf; have HCV := Aside0.mk hcv_; have Q2 := Aside0.mk B1.out.size; clear hf hb)
   | ((with_reducible refine gate_dst (N := 4) rfl ?_); (try (refine gate_guard (by rfl) ?_; dsimp only)); refine box_event ?hg (N := 4) ?hd (cs := #[.int .i64 0, .int .i64 0, .int .i64 0, .int .i64 0, .slice none 0 0]) (t := 28) ?hr ?_; (case hd => rfl); (case hg => rfl); (case hr => first | (go_simp; done) | (go_simp; rfl)); intro g4 hqg4 w3 hxg4 hbg4; have n_ := Aside0.mk hqg4; clear hqg4; have hqg4 := n_; clear n_; have n_ := Aside0.mk hxg4; clear hxg4; have hxg4 := n_; clear n_; have n_ := Aside0.mk hbg4; clear hbg4; have hbg4 := n_; clear n_; have B3 := Aside0.mk (below_step B2.out hbg4.out); have F3 := Aside0.mk (Kd.F_mono (Kd.F_below (Kd.F_bound F2.out) hbg4.out) (fun k hk => (show k ≠ g4 by have h := hqg4.out; have h2 := hk.2; omega))); have Q3 := Aside0.mk (show w.heap.size ≤ g4 by have h := hqg4.out; have h2 := B2.out.size; omega); have hcsg40 : w3.cell? ⟨g4, 0, none⟩ = some (.int .i64 0) := (blk_cell hxg4.out 0).trans rfl; have hcsg41 : w3.cell? ⟨g4, 1, none⟩ = some (.int .i64 0) := (blk_cell hxg4.out 1).trans rfl; have hcsg42 : w3.cell? ⟨g4, 2, none⟩ = some (.int .i64 0) := (blk_cell hxg4.out 2).trans rfl; have hcsg43 : w3.cell? ⟨g4, 3, none⟩ = some (.int .i64 0) := (blk_cell hxg4.out 3).trans rfl; have hcsg44 : w3.cell? ⟨g4, 4, none⟩ = some (.slice none 0 0) := (blk_cell hxg4.out 4).trans rfl; have hfsg40 : w3.frozen? ⟨g4, 0, none⟩ = false := blk_frozen hxg4.out 0; have hfsg41 : w3.frozen? ⟨g4, 1, none⟩ = false := blk_frozen hxg4.out 1; have hfsg42 : w3.frozen? ⟨g4, 2, none⟩ = false := blk_frozen hxg4.out 2; have hfsg43 : w3.frozen? ⟨g4, 3, none⟩ = false := blk_frozen hxg4.out 3; have hfsg44 : w3.frozen? ⟨g4, 4, none⟩ = false := blk_frozen hxg4.out 4))
  have Yg4 := Aside0.mk (setsE (v0 := .int .i64 d0) (v1 := .int .i64 d1) (v2 := .int .i64 d2) (v3 := .int .i64 d3) (v4 := .slice Av ts.length cv) hxg4.out)
  have B4 := Aside0.mk (show Below w.heap.size w (((((w3.setCell ⟨g4, 0, none⟩ (.int .i64 d0)).setCell ⟨g4, 1, none⟩ (.int .i64 d1)).setCell ⟨g4, 2, none⟩ (.int .i64 d2)).setCell ⟨g4, 3, none⟩ (.int .i64 d3)).setCell ⟨g4, 4, none⟩ (.slice Av ts.length cv)) from below5 _ _ _ _ _ B3.out Q3.out)
  have F4 := Aside0.mk (show Kd.F k57 (((((w3.setCell ⟨g4, 0, none⟩ (.int .i64 d0)).setCell ⟨g4, 1, none⟩ (.int .i64 d1)).setCell ⟨g4, 2, none⟩ (.int .i64 d2)).setCell ⟨g4, 3, none⟩ (.int .i64 d3)).setCell ⟨g4, 4, none⟩ (.slice Av ts.length cv)) (fun k => k ≠ g4) Av ts.length ts from Kd.F_keep F3.out (keep5 _ _ _ _ _ _ _) (fun k hk => hk))
  clear B3 F3 B2 F2 Q2 B1 hcsg40 hfsg40 hcsg41 hfsg41 hcsg42 hfsg42 hcsg43 hfsg43 hcsg44 hfsg44 hxg4 hqg4 hbg4
  generalize (((((w3.setCell ⟨g4, 0, none⟩ (.int .i64 d0)).setCell ⟨g4, 1, none⟩ (.int .i64 d1)).setCell ⟨g4, 2, none⟩ (.int .i64 d2)).setCell ⟨g4, 3, none⟩ (.int .i64 d3)).setCell ⟨g4, 4, none⟩ (.slice Av ts.length cv)) = w4 at Yg4 B4 F4 ⊢
  as_aux_lemma =>
  go_upto_region 6 with (first
   | ((with_reducible refine gate_dst (N := 20) rfl ?_); (try (refine gate_guard (by rfl) ?_; dsimp only)); refine goesL_ (some 20) rfl rfl Try.func24 (by kernel_rfl) rfl #[.slice A l.length c] rfl (by (try simp only [List.map_toArray, List.map_cons, List.map_nil]); first | done | rfl) ?_; refine (rdcode HRS.out HD.out (Kd.C_below HC.out B4.out) HLC.out HB.out HN.out).mono ?_; rintro ex w5 ⟨Aw, cw, rfl, hf, hb⟩; refine ⟨_, rfl, ?_⟩; have B5 := Aside0.mk (below_step B4.out hb); have Y5 := Aside0.mk (blk_below Yg4.out hb); have F5 := Aside0.mk (Kd.F_bound (Kd.F_below (Kd.F_bound F4.out) hb)); have G5 := Aside0.mk (Kd.F_bound hf); clear hf hb)
   | ((with_reducible refine gate_dst (N := 6) rfl ?_); (try (refine gate_guard (by rfl) ?_; dsimp only)); refine box_event ?hg (N := 6) ?hd (cs := #[.int .i64 0, .int .i64 0, .int .i64 0, .int .i64 0, .slice none 0 0]) (t := 24) ?hr ?_; (case hd => rfl); (case hg => rfl); (case hr => first | (go_simp; done) | (go_simp; rfl)); intro g6 hqg6 w6 hxg6 hbg6; have n_ := Aside0.mk hqg6; clear hqg6; have hqg6 := n_; clear n_; have n_ := Aside0.mk hxg6; clear hxg6; have hxg6 := n_; clear n_; have n_ := Aside0.mk hbg6; clear hbg6; have hbg6 := n_; clear n_; have B6 := Aside0.mk (below_step B5.out hbg6.out); have Y6 := Aside0.mk (blk_below Y5.out hbg6.out); have F6 := Aside0.mk (Kd.F_mono (Kd.F_below F5.out hbg6.out) (fun k hk => (show k ≠ g6 by have h := hqg6.out; have h2 := hk.2; omega))); have G6 := Aside0.mk (Kd.F_mono (Kd.F_below G5.out hbg6.out) (fun k hk => (show k ≠ g6 by have h := hqg6.out; have h2 := hk.2; omega))); have Q6 := Aside0.mk (show w.heap.size ≤ g6 ∧ g4 ≠ g6 by have h := hqg6.out; have h2 := B5.out.size; have h3 := blk_lt Y5.out; omega); have hcsg60 : w6.cell? ⟨g6, 0, none⟩ = some (.int .i64 0) := (blk_cell hxg6.out 0).trans rfl; have hcsg61 : w6.cell? ⟨g6, 1, none⟩ = some (.int .i64 0) := (blk_cell hxg6.out 1).trans rfl; have hcsg62 : w6.cell? ⟨g6, 2, none⟩ = some (.int .i64 0) := (blk_cell hxg6.out 2).trans rfl; have hcsg63 : w6.cell? ⟨g6, 3, none⟩ = some (.int .i64 0) := (blk_cell hxg6.out 3).trans rfl; have hcsg64 : w6.cell? ⟨g6, 4, none⟩ = some (.slice none 0 0) := (blk_cell hxg6.out 4).trans rfl; have hfsg60 : w6.frozen? ⟨g6, 0, none⟩ = false := blk_frozen hxg6.out 0; have hfsg61 : w6.frozen? ⟨g6, 1, none⟩ = false := blk_frozen hxg6.out 1; have hfsg62 : w6.frozen? ⟨g6, 2, none⟩ = false := blk_frozen hxg6.out 2; have hfsg63 : w6.frozen? ⟨g6, 3, none⟩ = false := blk_frozen hxg6.out 3; have hfsg64 : w6.frozen? ⟨g6, 4, none⟩ = false := blk_frozen hxg6.out 4))
  have Yg6 := Aside0.mk (setsE (v0 := .int .i64 d0) (v1 := .int .i64 d1) (v2 := .int .i64 d2) (v3 := .int .i64 d3) (v4 := .slice Aw rs.length cw) hxg6.out)
  have B7 := Aside0.mk (show Below w.heap.size w (((((w6.setCell ⟨g6, 0, none⟩ (.int .i64 d0)).setCell ⟨g6, 1, none⟩ (.int .i64 d1)).setCell ⟨g6, 2, none⟩ (.int .i64 d2)).setCell ⟨g6, 3, none⟩ (.int .i64 d3)).setCell ⟨g6, 4, none⟩ (.slice Aw rs.length cw)) from below5 _ _ _ _ _ B6.out Q6.out.1)
  have Y7 := Aside0.mk (show (((((w6.setCell ⟨g6, 0, none⟩ (.int .i64 d0)).setCell ⟨g6, 1, none⟩ (.int .i64 d1)).setCell ⟨g6, 2, none⟩ (.int .i64 d2)).setCell ⟨g6, 3, none⟩ (.int .i64 d3)).setCell ⟨g6, 4, none⟩ (.slice Aw rs.length cw)).heap[g4]? = some (.cells #[.int .i64 d0, .int .i64 d1, .int .i64 d2, .int .i64 d3, .slice Av ts.length cv] 28 (0, 0)) from blk_keep Y6.out (keep5 _ _ _ _ _ _ _) Q6.out.2)
  have F7 := Aside0.mk (show Kd.C k57 (((((w6.setCell ⟨g6, 0, none⟩ (.int .i64 d0)).setCell ⟨g6, 1, none⟩ (.int .i64 d1)).setCell ⟨g6, 2, none⟩ (.int .i64 d2)).setCell ⟨g6, 3, none⟩ (.int .i64 d3)).setCell ⟨g6, 4, none⟩ (.slice Aw rs.length cw)) Av ts.length ts from Kd.F_now (Kd.F_keep F6.out (keep5 _ _ _ _ _ _ _) (fun k hk => hk)))
  have G7 := Aside0.mk (show Kd.C k37 (((((w6.setCell ⟨g6, 0, none⟩ (.int .i64 d0)).setCell ⟨g6, 1, none⟩ (.int .i64 d1)).setCell ⟨g6, 2, none⟩ (.int .i64 d2)).setCell ⟨g6, 3, none⟩ (.int .i64 d3)).setCell ⟨g6, 4, none⟩ (.slice Aw rs.length cw)) Aw rs.length rs from Kd.F_now (Kd.F_keep G6.out (keep5 _ _ _ _ _ _ _) (fun k hk => hk)))
  clear B6 Y6 F6 G6 B5 Y5 F5 G5 B4 F4 Yg4 hcsg60 hfsg60 hcsg61 hfsg61 hcsg62 hfsg62 hcsg63 hfsg63 hcsg64 hfsg64 hxg6 hqg6 hbg6
  generalize (((((w6.setCell ⟨g6, 0, none⟩ (.int .i64 d0)).setCell ⟨g6, 1, none⟩ (.int .i64 d1)).setCell ⟨g6, 2, none⟩ (.int .i64 d2)).setCell ⟨g6, 3, none⟩ (.int .i64 d3)).setCell ⟨g6, 4, none⟩ (.slice Aw rs.length cw)) = w7 at Yg6 B7 Y7 F7 G7 ⊢
  as_aux_lemma =>
  refine s_ 13 [] (fun w' => w'.cell? ⟨g4, 0, none⟩ = some (.int .i64 d0) ∧ w'.cell? ⟨g4, 1, none⟩ = some (.int .i64 d1) ∧ w'.cell? ⟨g4, 2, none⟩ = some (.int .i64 d2) ∧ w'.cell? ⟨g4, 3, none⟩ = some (.int .i64 d3) ∧ w'.cell? ⟨g4, 4, none⟩ = some (.slice Av ts.length cv) ∧ w'.cell? ⟨g6, 0, none⟩ = some (.int .i64 d0) ∧ w'.cell? ⟨g6, 1, none⟩ = some (.int .i64 d1) ∧ w'.cell? ⟨g6, 2, none⟩ = some (.int .i64 d2) ∧ w'.cell? ⟨g6, 3, none⟩ = some (.int .i64 d3) ∧ w'.cell? ⟨g6, 4, none⟩ = some (.slice Aw rs.length cw)) (hS := ⟨(blk_cell (blk_drew Y7.out) 0).trans rfl, (blk_cell (blk_drew Y7.out) 1).trans rfl, (blk_cell (blk_drew Y7.out) 2).trans rfl, (blk_cell (blk_drew Y7.out) 3).trans rfl, (blk_cell (blk_drew Y7.out) 4).trans rfl, (blk_cell (blk_drew Yg6.out) 0).trans rfl, (blk_cell (blk_drew Yg6.out) 1).trans rfl, (blk_cell (blk_drew Yg6.out) 2).trans rfl, (blk_cell (blk_drew Yg6.out) 3).trans rfl, (blk_cell (blk_drew Yg6.out) 4).trans rfl⟩) (h := fun hHeld => ?_)
  have Y8 := Aside0.mk (blk_drew Y7.out)
  have Z8 := Aside0.mk (blk_drew Yg6.out)
  have B8 := Aside0.mk (below_drew B7.out)
  have F8 := Aside0.mk (Kd.C_drew F7.out)
  have G8 := Aside0.mk (Kd.C_drew G7.out)
  clear Y7 Yg6 B7 F7 G7
  generalize w7.drew = w8 at Y8 Z8 B8 F8 G8 hHeld ⊢
  refine p_ 0 23 (bb 13 1) (h := ?_)
  refine p_ 1 24 (bb 13 3) (h := ?_)
  refine p_ 2 25 (bb 13 7) (h := ?_)
  refine p_ 3 26 (bb 13 15) (h := ?_)
  refine p_ 4 27 (bb 13 31) (h := ?_)
  refine p_ 5 28 (bb 13 63) (h := ?_)
  refine p_ 6 29 (bb 13 127) (h := ?_)
  refine t_ 7 30 (bb 13 255) hHeld (h := ?_)
  refine t_ 9 32 (bb 13 767) hHeld (h := ?_)
  refine n_ 8 31 (bb 13 1023) (h := fun K hK => ?_)
  refine goes_ Try.func26 (by kernel_rfl) rfl #[.agg #[.int .i64 d0, .int .i64 d1, .int .i64 d2, .int .i64 d3, .slice Av ts.length cv]] (by rfl) rfl rfl (by (try simp only [List.map_toArray, List.map_cons, List.map_nil]); first | done | rfl) ?_
  refine (theirsR d0 d1 d2 d3 HRS.out F8.out HCV.out (by have h := HTL.out; omega)).mono ?_
  rintro ex w9 ⟨Ax, cx, rfl, hl_, hc_, hb⟩
  refine ⟨_, rfl, ?_⟩
  have Y9 := Aside0.mk (blk_below Y8.out hb)
  have Z9 := Aside0.mk (blk_below Z8.out hb)
  have B9 := Aside0.mk (below_step B8.out hb)
  have G9 := Aside0.mk (Kd.C_below G8.out hb)
  have M9 := Aside0.mk hc_
  clear hb hl_ hc_
  refine hK.out _ _ ⟨(blk_cell Y9.out 0).trans rfl, (blk_cell Y9.out 1).trans rfl, (blk_cell Y9.out 2).trans rfl, (blk_cell Y9.out 3).trans rfl, (blk_cell Y9.out 4).trans rfl, (blk_cell Z9.out 0).trans rfl, (blk_cell Z9.out 1).trans rfl, (blk_cell Z9.out 2).trans rfl, (blk_cell Z9.out 3).trans rfl, (blk_cell Z9.out 4).trans rfl⟩ (fun hHeld => ?_)
  clear hK K
  refine m_ 31 (h := ?_)
  refine n_ 10 33 (bb 13 2047) (h := fun K hK => ?_)
  refine goes_ Try.func25 (by kernel_rfl) rfl #[.agg #[.int .i64 d0, .int .i64 d1, .int .i64 d2, .int .i64 d3, .slice Ax rs.length cx], .agg #[.int .i64 d0, .int .i64 d1, .int .i64 d2, .int .i64 d3, .slice Aw rs.length cw]] (by rfl) rfl rfl (by (try simp only [List.map_toArray, List.map_cons, List.map_nil]); first | done | rfl) ?_
  refine (same_callsH d0 d1 d2 d3 M9.out G9.out (by have h := HTL.out; have h2 := HRS.out; rw [h2, List.length_map]; omega)).mono ?_
  rintro ex w10 ⟨rfl, hb⟩
  refine ⟨_, rfl, ?_⟩
  have Y10 := Aside0.mk (blk_below Y9.out hb)
  have Z10 := Aside0.mk (blk_below Z9.out hb)
  have B10 := Aside0.mk (below_step B9.out hb)
  clear hb
  refine hK.out _ _ ⟨(blk_cell Y10.out 0).trans rfl, (blk_cell Y10.out 1).trans rfl, (blk_cell Y10.out 2).trans rfl, (blk_cell Y10.out 3).trans rfl, (blk_cell Y10.out 4).trans rfl, (blk_cell Z10.out 0).trans rfl, (blk_cell Z10.out 1).trans rfl, (blk_cell Z10.out 2).trans rfl, (blk_cell Z10.out 3).trans rfl, (blk_cell Z10.out 4).trans rfl⟩ (fun hHeld => ?_)
  clear hK K
  refine m_ 33 (h := ?_)
  refine p_ 11 34 (bb 13 4095) (h := ?_)
  refine p_ 12 2 (bb 13 8191) (h := ?_)
  refine d_ (h := ?_)
  go_wp2
  go_ret
  exact ⟨rfl, B10.out⟩
end Go.Proofs.Ythpklhkibcenoaa.Sk
