/- right, walked. Conditions: those of each theorem. -/
import Derived.Test.YthpklhkibcenoaaCore
import Derived.Test.YthpklhkibcenoaaHpl
import Derived.Test.YthpklhkibcenoaaME
import Derived.Test.YthpklhkibcenoaaPx0
import Derived.Test.YthpklhkibcenoaaMA
namespace Go.Proofs.Ythpklhkibcenoaa.Sk
open Go.RowKit Go.Proofs.YthpklhkibcenoaaW.PrintWords Go.Proofs.YthpklhkibcenoaaW.PrintLast Go.Proofs.YthpklhkibcenoaaW.PrintMore Go.Proofs.Ythpklhkibcenoaa.Px Go.Proofs.Ythpklhkibcenoaa.Sw
set_option linter.unusedVariables false
set_option linter.unusedSimpArgs false
theorem short7 (b0 b1 b2 b3 b4 b5 b6 : Bool) : b0 = false ∨ (b0 = true ∧ b1 = false) ∨ (b0 = true ∧ b1 = true ∧ b2 = false) ∨ (b0 = true ∧ b1 = true ∧ b2 = true ∧ b3 = false) ∨ (b0 = true ∧ b1 = true ∧ b2 = true ∧ b3 = true ∧ b4 = false) ∨ (b0 = true ∧ b1 = true ∧ b2 = true ∧ b3 = true ∧ b4 = true ∧ b5 = false) ∨ (b0 = true ∧ b1 = true ∧ b2 = true ∧ b3 = true ∧ b4 = true ∧ b5 = true ∧ b6 = false) ∨ (b0 = true ∧ b1 = true ∧ b2 = true ∧ b3 = true ∧ b4 = true ∧ b5 = true ∧ b6 = true) := by
 cases b0 with
 | false => exact .inl rfl
 | true =>
  cases b1 with
  | false => exact .inr (.inl ⟨rfl, rfl⟩)
  | true =>
  cases b2 with
  | false => exact .inr (.inr (.inl ⟨rfl, rfl, rfl⟩))
  | true =>
   cases b3 with
   | false => exact .inr (.inr (.inr (.inl ⟨rfl, rfl, rfl, rfl⟩)))
   | true =>
   cases b4 with
   | false => exact .inr (.inr (.inr (.inr (.inl ⟨rfl, rfl, rfl, rfl, rfl⟩))))
   | true =>
    cases b5 with
    | false => exact .inr (.inr (.inr (.inr (.inr (.inl ⟨rfl, rfl, rfl, rfl, rfl, rfl⟩)))))
    | true =>
    cases b6 with
    | false => exact .inr (.inr (.inr (.inr (.inr (.inr (.inl ⟨rfl, rfl, rfl, rfl, rfl, rfl, rfl⟩))))))
    | true =>
     exact .inr (.inr (.inr (.inr (.inr (.inr (.inr (⟨rfl, rfl, rfl, rfl, rfl, rfl, rfl⟩)))))))
theorem range_dec {a b c : Int} : decide (a ≤ b ∧ b ≤ c) = (decide (a ≤ b) && decide (b ≤ c)) := Bool.decide_and _ _
set_option maxHeartbeats 40000000 in
set_option maxRecDepth 100000 in
theorem right_callsH {w : World} {m : S57} {M3 M4 : Option Addr} {e3 e4 : Nat} (hm : MB m) (hE : m.f3.length ≤ e3 ∧ Kd.C (Kd.int .u8) w M3 m.f3.length m.f3 ∧ m.f4.length ≤ e4 ∧ Kd.C (Kd.int .u8) w M4 m.f4.length m.f4) :
  Calls Try.prog 38 #[.agg #[.int .i64 m.f0, .int .i64 m.f1, .int .i64 m.f2, .slice M3 m.f3.length e3, .slice M4 m.f4.length e4]] w fun ex w' => ex = .returned (.bool (rightM m)) ∧ Below w.heap.size w w' := by
 have huE := Try.underlying57
 have HE := Aside0.mk hE
 have HMB := Aside0.mk hm
 clear hm
 clear hE
 obtain ⟨b0, e0⟩ : ∃ b, inB m.f0 = b := ⟨_, rfl⟩
 obtain ⟨b1, h1⟩ : ∃ b, decide (0 ≤ m.f1) = b := ⟨_, rfl⟩
 obtain ⟨b2, h2⟩ : ∃ b, decide (m.f1 ≤ 3) = b := ⟨_, rfl⟩
 obtain ⟨b3, h3⟩ : ∃ b, decide (1 ≤ m.f2) = b := ⟨_, rfl⟩
 obtain ⟨b4, h4⟩ : ∃ b, decide (m.f2 ≤ 64) = b := ⟨_, rfl⟩
 obtain ⟨b5, e5⟩ : ∃ b, keyB m.f3 = b := ⟨_, rfl⟩
 obtain ⟨b6, e6⟩ : ∃ b, keyB m.f4 = b := ⟨_, rfl⟩
 obtain ⟨b7, e7⟩ : ∃ b, less m.f4 m.f3 = b := ⟨_, rfl⟩
 have HR := Aside0.mk (show rightM m = (b0 && (b1 && b2) && (b3 && b4) && b5 && b6 && !b7) by show (inB m.f0 && decide (0 ≤ m.f1 ∧ m.f1 ≤ 3) && decide (1 ≤ m.f2 ∧ m.f2 ≤ 64) && keyB m.f3 && keyB m.f4 && !less m.f4 m.f3) = _; rw [range_dec, range_dec, e0, h1, h2, h3, h4, e5, e6, e7])
 replace e0 := Aside0.mk e0
 replace e5 := Aside0.mk e5
 replace e6 := Aside0.mk e6
 replace e7 := Aside0.mk e7
 rcases short7 b0 b1 b2 b3 b4 b5 b6 with rfl | ⟨rfl, rfl⟩ | ⟨rfl, rfl, rfl⟩ | ⟨rfl, rfl, rfl, rfl⟩ | ⟨rfl, rfl, rfl, rfl, rfl⟩ | ⟨rfl, rfl, rfl, rfl, rfl, rfl⟩ | ⟨rfl, rfl, rfl, rfl, rfl, rfl, rfl⟩ | ⟨rfl, rfl, rfl, rfl, rfl, rfl, rfl⟩
 all_goals as_aux_lemma =>
  go_enter Try.func38, Try.ntmps38
  go_wp2_with (first
   | ((with_reducible refine gate_dst (N := 1) rfl ?_); (try (refine gate_guard (by rfl) ?_; dsimp only)); refine box_event ?hg (N := 1) ?hd (cs := #[.int .i64 m.f0, .int .i64 m.f1, .int .i64 m.f2, .slice M3 m.f3.length e3, .slice M4 m.f4.length e4]) (t := 57) ?hr ?_; (case hd => rfl); (case hg => rfl); (case hr => first | (go_simp; done) | (go_simp; rfl)); intro g1 hqg1 w1 hxg1 hbg1; have n_ := Aside0.mk hqg1; clear hqg1; have hqg1 := n_; clear n_; have n_ := Aside0.mk hxg1; clear hxg1; have hxg1 := n_; clear n_; have n_ := Aside0.mk hbg1; clear hbg1; have hbg1 := n_; clear n_; have hca0 : w1.cell? ⟨g1, 0, none⟩ = some (.int .i64 m.f0) := (blk_cell hxg1.out 0).trans rfl; have hca1 : w1.cell? ⟨g1, 1, none⟩ = some (.int .i64 m.f1) := (blk_cell hxg1.out 1).trans rfl; have hca2 : w1.cell? ⟨g1, 2, none⟩ = some (.int .i64 m.f2) := (blk_cell hxg1.out 2).trans rfl; have hca3 : w1.cell? ⟨g1, 3, none⟩ = some (.slice M3 m.f3.length e3) := (blk_cell hxg1.out 3).trans rfl; have hca4 : w1.cell? ⟨g1, 4, none⟩ = some (.slice M4 m.f4.length e4) := (blk_cell hxg1.out 4).trans rfl; have B1 := hbg1)
   | ((with_reducible refine gate_dst (N := 5) rfl ?_); (try (refine gate_guard (by rfl) ?_; dsimp only)); refine goesL_ (some 5) rfl rfl Try.func37 (by kernel_rfl) rfl #[.int .i64 m.f0] rfl (by (try simp only [List.map_toArray, List.map_cons, List.map_nil]); first | done | rfl) ?_; refine (edit_in.calls m.f0 _ _ ((in_f m.f0).trans (congrArg some e0.out))).mono ?_; rintro ex w2 ⟨rfl, hd⟩; refine ⟨_, rfl, ?_⟩; have B2 := Aside0.mk (below_step B1.out hd.below); have X2 := Aside0.mk (blk_below hxg1.out hd.below); clear hd; have hca20 : w2.cell? ⟨g1, 0, none⟩ = some (.int .i64 m.f0) := (blk_cell X2.out 0).trans rfl; have hca21 : w2.cell? ⟨g1, 1, none⟩ = some (.int .i64 m.f1) := (blk_cell X2.out 1).trans rfl; have hca22 : w2.cell? ⟨g1, 2, none⟩ = some (.int .i64 m.f2) := (blk_cell X2.out 2).trans rfl; have hca23 : w2.cell? ⟨g1, 3, none⟩ = some (.slice M3 m.f3.length e3) := (blk_cell X2.out 3).trans rfl; have hca24 : w2.cell? ⟨g1, 4, none⟩ = some (.slice M4 m.f4.length e4) := (blk_cell X2.out 4).trans rfl)
   | ((with_reducible refine gate_dst (N := 29) rfl ?_); (try (refine gate_guard (by rfl) ?_; dsimp only)); refine goesL_ (some 29) rfl rfl Try.func57 (by kernel_rfl) rfl #[.slice M3 m.f3.length e3] rfl (by (try simp only [List.map_toArray, List.map_cons, List.map_nil]); first | done | rfl) ?_; refine (edit_isKey.calls M3 e3 m.f3 _ _ (Kd.C_below HE.out.2.1 B2.out) HE.out.1 ((isKey_f m.f3).trans (congrArg some e5.out))).mono ?_; rintro ex w3 ⟨rfl, hd⟩; refine ⟨_, rfl, ?_⟩; have B3 := Aside0.mk (below_step B2.out hd.below); have X3 := Aside0.mk (blk_below X2.out hd.below); clear hd; have hca30 : w3.cell? ⟨g1, 0, none⟩ = some (.int .i64 m.f0) := (blk_cell X3.out 0).trans rfl; have hca31 : w3.cell? ⟨g1, 1, none⟩ = some (.int .i64 m.f1) := (blk_cell X3.out 1).trans rfl; have hca32 : w3.cell? ⟨g1, 2, none⟩ = some (.int .i64 m.f2) := (blk_cell X3.out 2).trans rfl; have hca33 : w3.cell? ⟨g1, 3, none⟩ = some (.slice M3 m.f3.length e3) := (blk_cell X3.out 3).trans rfl; have hca34 : w3.cell? ⟨g1, 4, none⟩ = some (.slice M4 m.f4.length e4) := (blk_cell X3.out 4).trans rfl)
   | ((with_reducible refine gate_dst (N := 34) rfl ?_); (try (refine gate_guard (by rfl) ?_; dsimp only)); refine goesL_ (some 34) rfl rfl Try.func57 (by kernel_rfl) rfl #[.slice M4 m.f4.length e4] rfl (by (try simp only [List.map_toArray, List.map_cons, List.map_nil]); first | done | rfl) ?_; refine (edit_isKey.calls M4 e4 m.f4 _ _ (Kd.C_below HE.out.2.2.2 B3.out) HE.out.2.2.1 ((isKey_f m.f4).trans (congrArg some e6.out))).mono ?_; rintro ex w4 ⟨rfl, hd⟩; refine ⟨_, rfl, ?_⟩; have B4 := Aside0.mk (below_step B3.out hd.below); have X4 := Aside0.mk (blk_below X3.out hd.below); clear hd; have hca40 : w4.cell? ⟨g1, 0, none⟩ = some (.int .i64 m.f0) := (blk_cell X4.out 0).trans rfl; have hca41 : w4.cell? ⟨g1, 1, none⟩ = some (.int .i64 m.f1) := (blk_cell X4.out 1).trans rfl; have hca42 : w4.cell? ⟨g1, 2, none⟩ = some (.int .i64 m.f2) := (blk_cell X4.out 2).trans rfl; have hca43 : w4.cell? ⟨g1, 3, none⟩ = some (.slice M3 m.f3.length e3) := (blk_cell X4.out 3).trans rfl; have hca44 : w4.cell? ⟨g1, 4, none⟩ = some (.slice M4 m.f4.length e4) := (blk_cell X4.out 4).trans rfl)
   | ((with_reducible refine gate_dst (N := 41) rfl ?_); (try (refine gate_guard (by rfl) ?_; dsimp only)); refine goesL_ (some 41) rfl rfl Try.func39 (by kernel_rfl) rfl #[.slice M4 m.f4.length e4, .slice M3 m.f3.length e3] rfl (by (try simp only [List.map_toArray, List.map_cons, List.map_nil]); first | done | rfl) ?_; refine (key_Less.calls M4 e4 m.f4 M3 e3 m.f3 _ _ (Kd.C_below HE.out.2.2.2 B4.out) HE.out.2.2.1 (Kd.C_below HE.out.2.1 B4.out) HE.out.1 ((kless_f HMB.out.2.1 HMB.out.1).trans (congrArg some e7.out))).mono ?_; rintro ex w5 ⟨rfl, hd⟩; refine ⟨_, rfl, ?_⟩; have B5 := Aside0.mk (below_step B4.out hd.below); have X5 := Aside0.mk (blk_below X4.out hd.below); clear hd; have hca50 : w5.cell? ⟨g1, 0, none⟩ = some (.int .i64 m.f0) := (blk_cell X5.out 0).trans rfl; have hca51 : w5.cell? ⟨g1, 1, none⟩ = some (.int .i64 m.f1) := (blk_cell X5.out 1).trans rfl; have hca52 : w5.cell? ⟨g1, 2, none⟩ = some (.int .i64 m.f2) := (blk_cell X5.out 2).trans rfl; have hca53 : w5.cell? ⟨g1, 3, none⟩ = some (.slice M3 m.f3.length e3) := (blk_cell X5.out 3).trans rfl; have hca54 : w5.cell? ⟨g1, 4, none⟩ = some (.slice M4 m.f4.length e4) := (blk_cell X5.out 4).trans rfl))
  go_ret
  rw [HR.out]
  simp only [Bool.false_and, Bool.and_false, Bool.true_and, Bool.and_true]
  exact ⟨rfl, by first | exact B5.out | exact B4.out | exact B3.out | exact B2.out⟩
theorem right_callsV {w : World} {m : S57} {M3 M4 : Option Addr} {e3 e4 : Nat} {r : Bool} (hr : rightM m = r) (hm : MB m) (h3 : Kd.C (Kd.int .u8) w M3 m.f3.length m.f3) (l3 : m.f3.length ≤ e3) (h4 : Kd.C (Kd.int .u8) w M4 m.f4.length m.f4) (l4 : m.f4.length ≤ e4) :
  Calls Try.prog 38 #[.agg #[.int .i64 m.f0, .int .i64 m.f1, .int .i64 m.f2, .slice M3 m.f3.length e3, .slice M4 m.f4.length e4]] w fun ex w' => ex = .returned (.bool r) ∧ Below w.heap.size w w' := by
 rw [← hr]
 exact right_callsH hm ⟨l3, h3, l4, h4⟩
end Go.Proofs.Ythpklhkibcenoaa.Sk
