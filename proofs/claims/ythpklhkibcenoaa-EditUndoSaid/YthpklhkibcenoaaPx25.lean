-- Printed by a program of ours (px) out of the translation; Lean checks it.
import Derived.Test.YthpklhkibcenoaaPx0
import Derived.Test.YthpklhkibcenoaaHap
namespace Go.Proofs.Ythpklhkibcenoaa.Px
open Go.RowKit Go.Proofs.YthpklhkibcenoaaW.PrintWords Go.Proofs.YthpklhkibcenoaaW.PrintLast Go.Proofs.YthpklhkibcenoaaW.PrintMore
attribute [local go_sem] max2_int min2_int max_two min_two max_three min_three max_four min_four   -- for this text's walks alone
set_option linter.unusedVariables false
set_option linter.unusedSimpArgs false
set_option linter.unnecessarySimpa false

/-! ### edit_Apply: function 11 -/
def edit_Apply.f (a0_0 : Int) (a0_1 : Int) (a0_2 : Int) (a0_3 : Int) (l0_4 : List (S57)) (l1 : List Int) (l2 : List (S57)) : Option (Int × Int × Int × Int × List (S57) × Int) := if (l0_4.all Sk.mbB && l1.all Sk.i64B && decide (l1.length ≤ 900000000) && l2.all Sk.mbB && l2.all Sk.lensB) = true then some (Sk.applyR a0_0 a0_1 a0_2 a0_3 l0_4 l1 l2) else none
theorem edit_Apply.calls (a0_0 : Int) (a0_1 : Int) (a0_2 : Int) (a0_3 : Int) (A0_4 : Option Addr) (c0_4 : Nat) (l0_4 : List (S57)) (A1 : Option Addr) (c1 : Nat) (l1 : List Int) (A2 : Option Addr) (c2 : Nat) (l2 : List (S57)) (r1 : Int) (r2 : Int) (r3 : Int) (r4 : Int) (r5 : List (S57)) (r6 : Int) (w : World) (hr0_4 : Kd.C k57 w A0_4 l0_4.length l0_4) (hc0_4 : l0_4.length ≤ c0_4) (hr1 : Kd.C (Kd.int .i64) w A1 l1.length l1) (hc1 : l1.length ≤ c1) (hr2 : Kd.C k57 w A2 l2.length l2) (hc2 : l2.length ≤ c2) (h : edit_Apply.f a0_0 a0_1 a0_2 a0_3 l0_4 l1 l2 = some (r1, r2, r3, r4, r5, r6)) :
  Calls Try.prog 11 #[.agg #[.int .i64 a0_0, .int .i64 a0_1, .int .i64 a0_2, .int .i64 a0_3, .slice A0_4 l0_4.length c0_4], .slice A1 l1.length c1, .slice A2 l2.length c2] w fun e w' => ∃ v4_ : Value, e = .returned (.tuple #[.agg #[.int .i64 r1, .int .i64 r2, .int .i64 r3, .int .i64 r4, v4_], .int .i64 r6]) ∧ Kd.V k57 57 w' w.heap.size (fun k_ => (w.heap.size ≤ k_)) v4_ r5 ∧ Below w.heap.size w w' := by
 unfold edit_Apply.f at h
 split at h
 ·
  rename_i hm
  have hR := Option.some.inj h
  simp only [Bool.and_eq_true, decide_eq_true_eq] at hm
  refine (Sk.apply_calls a0_0 a0_1 a0_2 a0_3 hr0_4 hc0_4 (Sk.mbs_iff.1 hm.1.1.1.1) hr1 hc1 (Sk.i64s_iff.1 hm.1.1.1.2) hm.1.1.2 hr2 hc2 (Sk.mbs_iff.1 hm.1.2) (Sk.lens_iff.1 hm.2)).mono ?_
  rintro e w' ⟨v', rfl, hn, hb⟩
  rw [hR] at hn ⊢
  obtain ⟨A, c, rfl⟩ := Kd.N_slice hn
  exact ⟨_, rfl, Kd.V_mk (Kd.N_reads' hn).2.1 (Kd.N_F hn), hb⟩
 ·
  cases h


end Go.Proofs.Ythpklhkibcenoaa.Px
