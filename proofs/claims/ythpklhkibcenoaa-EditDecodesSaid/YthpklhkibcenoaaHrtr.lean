/- The document's right and ahead, walked. Conditions: those of each theorem. -/
import Derived.Test.YthpklhkibcenoaaCore
import Derived.Test.YthpklhkibcenoaaHpl
import Derived.Test.YthpklhkibcenoaaHspa
import Derived.Test.YthpklhkibcenoaaHto
import Derived.Test.YthpklhkibcenoaaME
import Derived.Test.YthpklhkibcenoaaPx0
import Derived.Test.YthpklhkibcenoaaMC
namespace Go.Proofs.Ythpklhkibcenoaa.Sk
open Go.RowKit Go.Proofs.YthpklhkibcenoaaW.PrintWords Go.Proofs.YthpklhkibcenoaaW.PrintLast Go.Proofs.YthpklhkibcenoaaW.PrintMore Go.Proofs.Ythpklhkibcenoaa.Px Go.Proofs.Ythpklhkibcenoaa.Sw
set_option linter.unusedVariables false
set_option linter.unusedSimpArgs false
theorem short9 (b0 b1 b2 b3 b4 b5 b6 b7 b8 : Bool) : b0 = false ∨ (b0 = true ∧ b1 = false) ∨ (b0 = true ∧ b1 = true ∧ b2 = false) ∨ (b0 = true ∧ b1 = true ∧ b2 = true ∧ b3 = false) ∨ (b0 = true ∧ b1 = true ∧ b2 = true ∧ b3 = true ∧ b4 = false) ∨ (b0 = true ∧ b1 = true ∧ b2 = true ∧ b3 = true ∧ b4 = true ∧ b5 = false) ∨ (b0 = true ∧ b1 = true ∧ b2 = true ∧ b3 = true ∧ b4 = true ∧ b5 = true ∧ b6 = false) ∨ (b0 = true ∧ b1 = true ∧ b2 = true ∧ b3 = true ∧ b4 = true ∧ b5 = true ∧ b6 = true ∧ b7 = false) ∨ (b0 = true ∧ b1 = true ∧ b2 = true ∧ b3 = true ∧ b4 = true ∧ b5 = true ∧ b6 = true ∧ b7 = true ∧ b8 = false) ∨ (b0 = true ∧ b1 = true ∧ b2 = true ∧ b3 = true ∧ b4 = true ∧ b5 = true ∧ b6 = true ∧ b7 = true ∧ b8 = true) := by
 cases b0 with
 | false => exact .inl rfl
 | true =>
  cases b1 with
  | false => exact .inr (.inl ⟨rfl, rfl⟩)
  | true =>
  cases b2 with
  | false => exact .inr (.inr (.inl ⟨rfl, rfl, rfl⟩))
  | true =>
   cases b3 with
   | false => exact .inr (.inr (.inr (.inl ⟨rfl, rfl, rfl, rfl⟩)))
   | true =>
   cases b4 with
   | false => exact .inr (.inr (.inr (.inr (.inl ⟨rfl, rfl, rfl, rfl, rfl⟩))))
   | true =>
    cases b5 with
    | false => exact .inr (.inr (.inr (.inr (.inr (.inl ⟨rfl, rfl, rfl, rfl, rfl, rfl⟩)))))
    | true =>
    cases b6 with
    | false => exact .inr (.inr (.inr (.inr (.inr (.inr (.inl ⟨rfl, rfl, rfl, rfl, rfl, rfl, rfl⟩))))))
    | true =>
     cases b7 with
     | false => exact .inr (.inr (.inr (.inr (.inr (.inr (.inr (.inl ⟨rfl, rfl, rfl, rfl, rfl, rfl, rfl, rfl⟩)))))))
     | true =>
     cases b8 with
     | false => exact .inr (.inr (.inr (.inr (.inr (.inr (.inr (.inr (.inl ⟨rfl, rfl, rfl, rfl, rfl, rfl, rfl, rfl, rfl⟩))))))))
     | true =>
      exact .inr (.inr (.inr (.inr (.inr (.inr (.inr (.inr (.inr (⟨rfl, rfl, rfl, rfl, rfl, rfl, rfl, rfl, rfl⟩)))))))))
theorem range_decR {a b c : Int} : decide (a ≤ b ∧ b ≤ c) = (decide (a ≤ b) && decide (b ≤ c)) := Bool.decide_and _ _
theorem in_r (n : Int) : sawyerref10_in.f n = some (inB n) := by
 unfold sawyerref10_in.f inB
 by_cases h : n ≥ 0
 ·
  rw [if_pos h]
  congr 1
  rw [decide_eq_decide]
  omega
 ·
  rw [if_neg h]
  congr 1
  exact (decide_eq_false (by omega)).symm
theorem rless_callsH {w : World} {a b : List Int} {A B : Option Addr} {c d : Nat} {r : Bool} (hr : less a b = r) (hl : a.length ≤ 140737488355328) (hA : Kd.C (Kd.int .u8) w A a.length a) (hc : a.length ≤ c) (hB : Kd.C (Kd.int .u8) w B b.length b) (hd : b.length ≤ d) :
  Calls Try.prog 18 #[.slice A a.length c, .slice B b.length d] w fun ex w' => ex = .returned (.bool r) ∧ Drawn0 w w' := by
 obtain ⟨k, hk⟩ := (refLess_f a b hl).rounds
 rw [hr] at hk
 exact sawyerref03_Less.calls k _ _ _ _ _ _ _ w hA hc hB hd hk
set_option maxHeartbeats 40000000 in
set_option maxRecDepth 100000 in
theorem rright_callsH {w : World} {m : S37} {M3 M4 : Option Addr} {e3 e4 : Nat} (hE : m.f3.length ≤ e3 ∧ Kd.C (Kd.int .u8) w M3 m.f3.length m.f3 ∧ m.f4.length ≤ e4 ∧ Kd.C (Kd.int .u8) w M4 m.f4.length m.f4) :
  Calls Try.prog 61 #[.agg #[.int .i64 m.f0, .int .i64 m.f1, .int .i64 m.f2, .slice M3 m.f3.length e3, .slice M4 m.f4.length e4]] w fun ex w' => ex = .returned (.bool (rightM (toM m))) ∧ Below w.heap.size w w' := by
 have huE := Try.underlying37
 have HE := Aside0.mk hE
 skip
 clear hE
 obtain ⟨b0, e0⟩ : ∃ b, inB m.f0 = b := ⟨_, rfl⟩
 obtain ⟨b1, h1⟩ : ∃ b, decide (0 ≤ m.f1) = b := ⟨_, rfl⟩
 obtain ⟨b2, h2⟩ : ∃ b, decide (m.f1 ≤ 3) = b := ⟨_, rfl⟩
 obtain ⟨b3, h3⟩ : ∃ b, decide (1 ≤ m.f2) = b := ⟨_, rfl⟩
 obtain ⟨b4, h4⟩ : ∃ b, decide (m.f2 ≤ 64) = b := ⟨_, rfl⟩
 obtain ⟨b5, h5⟩ : ∃ b, decide ((1 : Int) ≤ (m.f3.length : Int)) = b := ⟨_, rfl⟩
 have i5 : decide (1 ≤ m.f3.length) = b5 := by rw [← h5]; exact decide_eq_decide.2 (by omega)
 obtain ⟨b6, h6⟩ : ∃ b, decide ((m.f3.length : Int) ≤ 64) = b := ⟨_, rfl⟩
 have i6 : decide (m.f3.length ≤ 64) = b6 := by rw [← h6]; exact decide_eq_decide.2 (by omega)
 obtain ⟨b7, h7⟩ : ∃ b, decide ((1 : Int) ≤ (m.f4.length : Int)) = b := ⟨_, rfl⟩
 have i7 : decide (1 ≤ m.f4.length) = b7 := by rw [← h7]; exact decide_eq_decide.2 (by omega)
 obtain ⟨b8, h8⟩ : ∃ b, decide ((m.f4.length : Int) ≤ 64) = b := ⟨_, rfl⟩
 have i8 : decide (m.f4.length ≤ 64) = b8 := by rw [← h8]; exact decide_eq_decide.2 (by omega)
 obtain ⟨b9, e7⟩ : ∃ b, less m.f4 m.f3 = b := ⟨_, rfl⟩
 have HR := Aside0.mk (show rightM (toM m) = (b0 && (b1 && b2) && (b3 && b4) && (b5 && b6) && (b7 && b8) && !b9) by show (inB m.f0 && decide (0 ≤ m.f1 ∧ m.f1 ≤ 3) && decide (1 ≤ m.f2 ∧ m.f2 ≤ 64) && decide (1 ≤ m.f3.length ∧ m.f3.length ≤ 64) && decide (1 ≤ m.f4.length ∧ m.f4.length ≤ 64) && !less m.f4 m.f3) = _; rw [range_decR, range_decR, Bool.decide_and, Bool.decide_and, e0, h1, h2, h3, h4, i5, i6, i7, i8, e7])
 replace e0 := Aside0.mk e0
 replace e7 := Aside0.mk e7
 have e6 := Aside0.mk i8
 rcases short9 b0 b1 b2 b3 b4 b5 b6 b7 b8 with rfl | ⟨rfl, rfl⟩ | ⟨rfl, rfl, rfl⟩ | ⟨rfl, rfl, rfl, rfl⟩ | ⟨rfl, rfl, rfl, rfl, rfl⟩ | ⟨rfl, rfl, rfl, rfl, rfl, rfl⟩ | ⟨rfl, rfl, rfl, rfl, rfl, rfl, rfl⟩ | ⟨rfl, rfl, rfl, rfl, rfl, rfl, rfl, rfl⟩ | ⟨rfl, rfl, rfl, rfl, rfl, rfl, rfl, rfl, rfl⟩ | ⟨rfl, rfl, rfl, rfl, rfl, rfl, rfl, rfl, rfl⟩
 all_goals as_aux_lemma =>
  go_enter Try.func61, Try.ntmps61
  go_wp2_with (first
   | ((with_reducible refine gate_dst (N := 1) rfl ?_); (try (refine gate_guard (by rfl) ?_; dsimp only)); refine box_event ?hg (N := 1) ?hd (cs := #[.int .i64 m.f0, .int .i64 m.f1, .int .i64 m.f2, .slice M3 m.f3.length e3, .slice M4 m.f4.length e4]) (t := 37) ?hr ?_; (case hd => rfl); (case hg => rfl); (case hr => first | (go_simp; done) | (go_simp; rfl)); intro g1 hqg1 w1 hxg1 hbg1; have n_ := Aside0.mk hqg1; clear hqg1; have hqg1 := n_; clear n_; have n_ := Aside0.mk hxg1; clear hxg1; have hxg1 := n_; clear n_; have n_ := Aside0.mk hbg1; clear hbg1; have hbg1 := n_; clear n_; have hca0 : w1.cell? ⟨g1, 0, none⟩ = some (.int .i64 m.f0) := (blk_cell hxg1.out 0).trans rfl; have hca1 : w1.cell? ⟨g1, 1, none⟩ = some (.int .i64 m.f1) := (blk_cell hxg1.out 1).trans rfl; have hca2 : w1.cell? ⟨g1, 2, none⟩ = some (.int .i64 m.f2) := (blk_cell hxg1.out 2).trans rfl; have hca3 : w1.cell? ⟨g1, 3, none⟩ = some (.slice M3 m.f3.length e3) := (blk_cell hxg1.out 3).trans rfl; have hca4 : w1.cell? ⟨g1, 4, none⟩ = some (.slice M4 m.f4.length e4) := (blk_cell hxg1.out 4).trans rfl; have B1 := hbg1)
   | ((with_reducible refine gate_dst (N := 5) rfl ?_); (try (refine gate_guard (by rfl) ?_; dsimp only)); refine goesL_ (some 5) rfl rfl Try.func60 (by kernel_rfl) rfl #[.int .i64 m.f0] rfl (by (try simp only [List.map_toArray, List.map_cons, List.map_nil]); first | done | rfl) ?_; refine (sawyerref10_in.calls m.f0 _ _ ((in_r m.f0).trans (congrArg some e0.out))).mono ?_; rintro ex w2 ⟨rfl, hd⟩; refine ⟨_, rfl, ?_⟩; have B2 := Aside0.mk (below_step B1.out hd.below); have X2 := Aside0.mk (blk_below hxg1.out hd.below); clear hd; have hca20 : w2.cell? ⟨g1, 0, none⟩ = some (.int .i64 m.f0) := (blk_cell X2.out 0).trans rfl; have hca21 : w2.cell? ⟨g1, 1, none⟩ = some (.int .i64 m.f1) := (blk_cell X2.out 1).trans rfl; have hca22 : w2.cell? ⟨g1, 2, none⟩ = some (.int .i64 m.f2) := (blk_cell X2.out 2).trans rfl; have hca23 : w2.cell? ⟨g1, 3, none⟩ = some (.slice M3 m.f3.length e3) := (blk_cell X2.out 3).trans rfl; have hca24 : w2.cell? ⟨g1, 4, none⟩ = some (.slice M4 m.f4.length e4) := (blk_cell X2.out 4).trans rfl)
   | ((with_reducible refine gate_dst (N := 55) rfl ?_); (try (refine gate_guard (by rfl) ?_; dsimp only)); refine goesL_ (some 55) rfl rfl Try.func18 (by kernel_rfl) rfl #[.slice M4 m.f4.length e4, .slice M3 m.f3.length e3] rfl (by (try simp only [List.map_toArray, List.map_cons, List.map_nil]); first | done | rfl) ?_; refine (rless_callsH e7.out (by have h2 := of_decide_eq_true e6.out; omega) (Kd.C_below HE.out.2.2.2 B2.out) HE.out.2.2.1 (Kd.C_below HE.out.2.1 B2.out) HE.out.1).mono ?_; rintro ex w5 ⟨rfl, hd⟩; refine ⟨_, rfl, ?_⟩; have B5 := Aside0.mk (below_step B2.out hd.below); have X5 := Aside0.mk (blk_below X2.out hd.below); clear hd; have hca50 : w5.cell? ⟨g1, 0, none⟩ = some (.int .i64 m.f0) := (blk_cell X5.out 0).trans rfl; have hca51 : w5.cell? ⟨g1, 1, none⟩ = some (.int .i64 m.f1) := (blk_cell X5.out 1).trans rfl; have hca52 : w5.cell? ⟨g1, 2, none⟩ = some (.int .i64 m.f2) := (blk_cell X5.out 2).trans rfl; have hca53 : w5.cell? ⟨g1, 3, none⟩ = some (.slice M3 m.f3.length e3) := (blk_cell X5.out 3).trans rfl; have hca54 : w5.cell? ⟨g1, 4, none⟩ = some (.slice M4 m.f4.length e4) := (blk_cell X5.out 4).trans rfl))
  go_ret
  rw [HR.out]
  simp only [Bool.false_and, Bool.and_false, Bool.true_and, Bool.and_true]
  exact ⟨rfl, by first | exact B5.out | exact B4.out | exact B3.out | exact B2.out⟩
set_option maxHeartbeats 40000000 in
set_option maxRecDepth 100000 in
theorem ahead_callsH {w : World} {m p : S37} {M3 M4 L3 L4 : Option Addr} {e3 e4 d3 d4 : Nat} (hln : p.f3.length ≤ 140737488355328) (h0 : p.f3.length ≤ d3 ∧ Kd.C (Kd.int .u8) w L3 p.f3.length p.f3 ∧ p.f4.length ≤ d4 ∧ Kd.C (Kd.int .u8) w L4 p.f4.length p.f4) (h1 : m.f3.length ≤ e3 ∧ Kd.C (Kd.int .u8) w M3 m.f3.length m.f3 ∧ m.f4.length ≤ e4 ∧ Kd.C (Kd.int .u8) w M4 m.f4.length m.f4) :
  Calls Try.prog 62 #[.agg #[.int .i64 p.f0, .int .i64 p.f1, .int .i64 p.f2, .slice L3 p.f3.length d3, .slice L4 p.f4.length d4], .agg #[.int .i64 m.f0, .int .i64 m.f1, .int .i64 m.f2, .slice M3 m.f3.length e3, .slice M4 m.f4.length e4]] w fun ex w' => ex = .returned (.bool (if p.f1 = m.f1 then (if p.f1 = 0 then decide (m.f0 < p.f0) else less p.f3 m.f3) else decide (p.f1 < m.f1))) ∧ Below w.heap.size w w' := by
 have huE := Try.underlying37
 have HLN := Aside0.mk hln
 have H0 := Aside0.mk h0
 have H1 := Aside0.mk h1
 clear hln h0 h1
 by_cases c1 : p.f1 = m.f1
 ·
  have c1a : (p.f1 == m.f1) = true := beq_iff_eq.mpr c1
  have c1b : (p.f1 != m.f1) = false := bne_eq_false_iff_eq.mpr c1
  rw [if_pos c1]
  by_cases c2 : p.f1 = 0
  ·
   have c2a : (p.f1 == 0) = true := beq_iff_eq.mpr c2
   have c2b : (p.f1 != 0) = false := bne_eq_false_iff_eq.mpr c2
   rw [if_pos c2]
   clear c1 c2
   go_enter Try.func62, Try.ntmps62
   go_wp2_with (first
    | ((with_reducible refine gate_dst (N := 2) rfl ?_); (try (refine gate_guard (by rfl) ?_; dsimp only)); refine box_event ?hg (N := 2) ?hd (cs := #[.int .i64 p.f0, .int .i64 p.f1, .int .i64 p.f2, .slice L3 p.f3.length d3, .slice L4 p.f4.length d4]) (t := 37) ?hr ?_; (case hd => rfl); (case hg => rfl); (case hr => first | (go_simp; done) | (go_simp; rfl)); intro g2 hqg2 w1 hxg2 hbg2; have n_ := Aside0.mk hqg2; clear hqg2; have hqg2 := n_; clear n_; have n_ := Aside0.mk hxg2; clear hxg2; have hxg2 := n_; clear n_; have n_ := Aside0.mk hbg2; clear hbg2; have hbg2 := n_; clear n_)
    | ((with_reducible refine gate_dst (N := 3) rfl ?_); (try (refine gate_guard (by rfl) ?_; dsimp only)); refine box_event ?hg (N := 3) ?hd (cs := #[.int .i64 m.f0, .int .i64 m.f1, .int .i64 m.f2, .slice M3 m.f3.length e3, .slice M4 m.f4.length e4]) (t := 37) ?hr ?_; (case hd => rfl); (case hg => rfl); (case hr => first | (go_simp; done) | (go_simp; rfl)); intro g3 hqg3 w2 hxg3 hbg3; have n_ := Aside0.mk hqg3; clear hqg3; have hqg3 := n_; clear n_; have n_ := Aside0.mk hxg3; clear hxg3; have hxg3 := n_; clear n_; have n_ := Aside0.mk hbg3; clear hbg3; have hbg3 := n_; clear n_; have X2 := Aside0.mk (blk_below hxg2.out hbg3.out); have B2 := Aside0.mk (below_step hbg2.out hbg3.out); have hca0 : w2.cell? ⟨g2, 0, none⟩ = some (.int .i64 p.f0) := (blk_cell X2.out 0).trans rfl; have hca1 : w2.cell? ⟨g2, 1, none⟩ = some (.int .i64 p.f1) := (blk_cell X2.out 1).trans rfl; have hca2 : w2.cell? ⟨g2, 2, none⟩ = some (.int .i64 p.f2) := (blk_cell X2.out 2).trans rfl; have hca3 : w2.cell? ⟨g2, 3, none⟩ = some (.slice L3 p.f3.length d3) := (blk_cell X2.out 3).trans rfl; have hca4 : w2.cell? ⟨g2, 4, none⟩ = some (.slice L4 p.f4.length d4) := (blk_cell X2.out 4).trans rfl; have hcb0 : w2.cell? ⟨g3, 0, none⟩ = some (.int .i64 m.f0) := (blk_cell hxg3.out 0).trans rfl; have hcb1 : w2.cell? ⟨g3, 1, none⟩ = some (.int .i64 m.f1) := (blk_cell hxg3.out 1).trans rfl; have hcb2 : w2.cell? ⟨g3, 2, none⟩ = some (.int .i64 m.f2) := (blk_cell hxg3.out 2).trans rfl; have hcb3 : w2.cell? ⟨g3, 3, none⟩ = some (.slice M3 m.f3.length e3) := (blk_cell hxg3.out 3).trans rfl; have hcb4 : w2.cell? ⟨g3, 4, none⟩ = some (.slice M4 m.f4.length e4) := (blk_cell hxg3.out 4).trans rfl)
    | ((with_reducible refine gate_dst (N := 27) rfl ?_); (try (refine gate_guard (by rfl) ?_; dsimp only)); refine goesL_ (some 27) rfl rfl Try.func18 (by kernel_rfl) rfl #[.slice L3 p.f3.length d3, .slice M3 m.f3.length e3] rfl (by (try simp only [List.map_toArray, List.map_cons, List.map_nil]); first | done | rfl) ?_; refine (rless_callsH (r := less p.f3 m.f3) rfl HLN.out (Kd.C_below H0.out.2.1 B2.out) H0.out.1 (Kd.C_below H1.out.2.1 B2.out) H1.out.1).mono ?_; rintro ex w3 ⟨rfl, hd⟩; refine ⟨_, rfl, ?_⟩; have B3 := Aside0.mk (below_step B2.out hd.below)))
   go_ret
   exact ⟨rfl, by first | exact B3.out | exact B2.out⟩
  ·
   have c2a : (p.f1 == 0) = false := beq_eq_false_iff_ne.mpr c2
   have c2b : (p.f1 != 0) = true := bne_iff_ne.mpr c2
   rw [if_neg c2]
   clear c1 c2
   go_enter Try.func62, Try.ntmps62
   go_wp2_with (first
    | ((with_reducible refine gate_dst (N := 2) rfl ?_); (try (refine gate_guard (by rfl) ?_; dsimp only)); refine box_event ?hg (N := 2) ?hd (cs := #[.int .i64 p.f0, .int .i64 p.f1, .int .i64 p.f2, .slice L3 p.f3.length d3, .slice L4 p.f4.length d4]) (t := 37) ?hr ?_; (case hd => rfl); (case hg => rfl); (case hr => first | (go_simp; done) | (go_simp; rfl)); intro g2 hqg2 w1 hxg2 hbg2; have n_ := Aside0.mk hqg2; clear hqg2; have hqg2 := n_; clear n_; have n_ := Aside0.mk hxg2; clear hxg2; have hxg2 := n_; clear n_; have n_ := Aside0.mk hbg2; clear hbg2; have hbg2 := n_; clear n_)
    | ((with_reducible refine gate_dst (N := 3) rfl ?_); (try (refine gate_guard (by rfl) ?_; dsimp only)); refine box_event ?hg (N := 3) ?hd (cs := #[.int .i64 m.f0, .int .i64 m.f1, .int .i64 m.f2, .slice M3 m.f3.length e3, .slice M4 m.f4.length e4]) (t := 37) ?hr ?_; (case hd => rfl); (case hg => rfl); (case hr => first | (go_simp; done) | (go_simp; rfl)); intro g3 hqg3 w2 hxg3 hbg3; have n_ := Aside0.mk hqg3; clear hqg3; have hqg3 := n_; clear n_; have n_ := Aside0.mk hxg3; clear hxg3; have hxg3 := n_; clear n_; have n_ := Aside0.mk hbg3; clear hbg3; have hbg3 := n_; clear n_; have X2 := Aside0.mk (blk_below hxg2.out hbg3.out); have B2 := Aside0.mk (below_step hbg2.out hbg3.out); have hca0 : w2.cell? ⟨g2, 0, none⟩ = some (.int .i64 p.f0) := (blk_cell X2.out 0).trans rfl; have hca1 : w2.cell? ⟨g2, 1, none⟩ = some (.int .i64 p.f1) := (blk_cell X2.out 1).trans rfl; have hca2 : w2.cell? ⟨g2, 2, none⟩ = some (.int .i64 p.f2) := (blk_cell X2.out 2).trans rfl; have hca3 : w2.cell? ⟨g2, 3, none⟩ = some (.slice L3 p.f3.length d3) := (blk_cell X2.out 3).trans rfl; have hca4 : w2.cell? ⟨g2, 4, none⟩ = some (.slice L4 p.f4.length d4) := (blk_cell X2.out 4).trans rfl; have hcb0 : w2.cell? ⟨g3, 0, none⟩ = some (.int .i64 m.f0) := (blk_cell hxg3.out 0).trans rfl; have hcb1 : w2.cell? ⟨g3, 1, none⟩ = some (.int .i64 m.f1) := (blk_cell hxg3.out 1).trans rfl; have hcb2 : w2.cell? ⟨g3, 2, none⟩ = some (.int .i64 m.f2) := (blk_cell hxg3.out 2).trans rfl; have hcb3 : w2.cell? ⟨g3, 3, none⟩ = some (.slice M3 m.f3.length e3) := (blk_cell hxg3.out 3).trans rfl; have hcb4 : w2.cell? ⟨g3, 4, none⟩ = some (.slice M4 m.f4.length e4) := (blk_cell hxg3.out 4).trans rfl)
    | ((with_reducible refine gate_dst (N := 27) rfl ?_); (try (refine gate_guard (by rfl) ?_; dsimp only)); refine goesL_ (some 27) rfl rfl Try.func18 (by kernel_rfl) rfl #[.slice L3 p.f3.length d3, .slice M3 m.f3.length e3] rfl (by (try simp only [List.map_toArray, List.map_cons, List.map_nil]); first | done | rfl) ?_; refine (rless_callsH (r := less p.f3 m.f3) rfl HLN.out (Kd.C_below H0.out.2.1 B2.out) H0.out.1 (Kd.C_below H1.out.2.1 B2.out) H1.out.1).mono ?_; rintro ex w3 ⟨rfl, hd⟩; refine ⟨_, rfl, ?_⟩; have B3 := Aside0.mk (below_step B2.out hd.below)))
   go_ret
   exact ⟨rfl, by first | exact B3.out | exact B2.out⟩
 ·
  have c1a : (p.f1 == m.f1) = false := beq_eq_false_iff_ne.mpr c1
  have c1b : (p.f1 != m.f1) = true := bne_iff_ne.mpr c1
  rw [if_neg c1]
  clear c1
  go_enter Try.func62, Try.ntmps62
  go_wp2_with (first
   | ((with_reducible refine gate_dst (N := 2) rfl ?_); (try (refine gate_guard (by rfl) ?_; dsimp only)); refine box_event ?hg (N := 2) ?hd (cs := #[.int .i64 p.f0, .int .i64 p.f1, .int .i64 p.f2, .slice L3 p.f3.length d3, .slice L4 p.f4.length d4]) (t := 37) ?hr ?_; (case hd => rfl); (case hg => rfl); (case hr => first | (go_simp; done) | (go_simp; rfl)); intro g2 hqg2 w1 hxg2 hbg2; have n_ := Aside0.mk hqg2; clear hqg2; have hqg2 := n_; clear n_; have n_ := Aside0.mk hxg2; clear hxg2; have hxg2 := n_; clear n_; have n_ := Aside0.mk hbg2; clear hbg2; have hbg2 := n_; clear n_)
   | ((with_reducible refine gate_dst (N := 3) rfl ?_); (try (refine gate_guard (by rfl) ?_; dsimp only)); refine box_event ?hg (N := 3) ?hd (cs := #[.int .i64 m.f0, .int .i64 m.f1, .int .i64 m.f2, .slice M3 m.f3.length e3, .slice M4 m.f4.length e4]) (t := 37) ?hr ?_; (case hd => rfl); (case hg => rfl); (case hr => first | (go_simp; done) | (go_simp; rfl)); intro g3 hqg3 w2 hxg3 hbg3; have n_ := Aside0.mk hqg3; clear hqg3; have hqg3 := n_; clear n_; have n_ := Aside0.mk hxg3; clear hxg3; have hxg3 := n_; clear n_; have n_ := Aside0.mk hbg3; clear hbg3; have hbg3 := n_; clear n_; have X2 := Aside0.mk (blk_below hxg2.out hbg3.out); have B2 := Aside0.mk (below_step hbg2.out hbg3.out); have hca0 : w2.cell? ⟨g2, 0, none⟩ = some (.int .i64 p.f0) := (blk_cell X2.out 0).trans rfl; have hca1 : w2.cell? ⟨g2, 1, none⟩ = some (.int .i64 p.f1) := (blk_cell X2.out 1).trans rfl; have hca2 : w2.cell? ⟨g2, 2, none⟩ = some (.int .i64 p.f2) := (blk_cell X2.out 2).trans rfl; have hca3 : w2.cell? ⟨g2, 3, none⟩ = some (.slice L3 p.f3.length d3) := (blk_cell X2.out 3).trans rfl; have hca4 : w2.cell? ⟨g2, 4, none⟩ = some (.slice L4 p.f4.length d4) := (blk_cell X2.out 4).trans rfl; have hcb0 : w2.cell? ⟨g3, 0, none⟩ = some (.int .i64 m.f0) := (blk_cell hxg3.out 0).trans rfl; have hcb1 : w2.cell? ⟨g3, 1, none⟩ = some (.int .i64 m.f1) := (blk_cell hxg3.out 1).trans rfl; have hcb2 : w2.cell? ⟨g3, 2, none⟩ = some (.int .i64 m.f2) := (blk_cell hxg3.out 2).trans rfl; have hcb3 : w2.cell? ⟨g3, 3, none⟩ = some (.slice M3 m.f3.length e3) := (blk_cell hxg3.out 3).trans rfl; have hcb4 : w2.cell? ⟨g3, 4, none⟩ = some (.slice M4 m.f4.length e4) := (blk_cell hxg3.out 4).trans rfl)
   | ((with_reducible refine gate_dst (N := 27) rfl ?_); (try (refine gate_guard (by rfl) ?_; dsimp only)); refine goesL_ (some 27) rfl rfl Try.func18 (by kernel_rfl) rfl #[.slice L3 p.f3.length d3, .slice M3 m.f3.length e3] rfl (by (try simp only [List.map_toArray, List.map_cons, List.map_nil]); first | done | rfl) ?_; refine (rless_callsH (r := less p.f3 m.f3) rfl HLN.out (Kd.C_below H0.out.2.1 B2.out) H0.out.1 (Kd.C_below H1.out.2.1 B2.out) H1.out.1).mono ?_; rintro ex w3 ⟨rfl, hd⟩; refine ⟨_, rfl, ?_⟩; have B3 := Aside0.mk (below_step B2.out hd.below)))
  go_ret
  exact ⟨rfl, by first | exact B3.out | exact B2.out⟩
end Go.Proofs.Ythpklhkibcenoaa.Sk
