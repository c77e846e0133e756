-- Printed by a program of ours (px) out of the translation; Lean checks it.
import Derived.Test.YthpklhkibcenoaaPx0
import Derived.Test.YthpklhkibcenoaaPx59
namespace Go.Proofs.Ythpklhkibcenoaa.Px
open Go.RowKit Go.Proofs.YthpklhkibcenoaaW.PrintWords Go.Proofs.YthpklhkibcenoaaW.PrintLast Go.Proofs.YthpklhkibcenoaaW.PrintMore
attribute [local go_sem] max2_int min2_int max_two min_two max_three min_three max_four min_four   -- for this text's walks alone
set_option linter.unusedVariables false
set_option linter.unusedSimpArgs false
set_option linter.unnecessarySimpa false

/-! ### sawyerref02_TakeText: function 66 -/
def sawyerref02_TakeText.f (k : Nat) (l0 : List Int) (a1 : Int) : Option (ByteArray × List Int × Int) := (sawyerref02_TakeNum.f k l0).bind fun bt491 => (if bt491.2.2 = 0 then (if bt491.1 > a1 then (some ((⟨#[]⟩ : ByteArray), ([] : List Int), 2)) else (if bt491.1 > (bt491.2.1.length : Int) then (some ((⟨#[]⟩ : ByteArray), ([] : List Int), 2)) else (if 0 ≤ bt491.1 then (if bt491.1 ≤ (bt491.2.1.length : Int) then (some (strOfNums (bt491.2.1.take (bt491.1 : Int).toNat), (bt491.2.1.drop (bt491.1 : Int).toNat), 0)) else (none)) else (none)))) else (some ((⟨#[]⟩ : ByteArray), ([] : List Int), 2)))
theorem sawyerref02_TakeText.mono : ∀ a0 a1 k, LeO (sawyerref02_TakeText.f k a0 a1) (sawyerref02_TakeText.f (k + 1) a0 a1) := by
 intro a0 a1 k
 unfold sawyerref02_TakeText.f
 repeat' first
   | (with_reducible exact sawyerref02_TakeNum.mono _ _)
   | (with_reducible exact LeO.refl _)
   | (with_reducible exact LeO.none _)
   | (with_reducible refine LeO.ite ?_ ?_)
   | (with_reducible refine LeO.bind ?_ (fun _ => ?_))
   | exact sawyerref02_TakeNum.mono _ _
   | exact LeO.none _
   | refine LeO.ite ?_ ?_
   | refine LeO.bind ?_ (fun _ => ?_)
set_option maxHeartbeats 8000000 in
set_option maxRecDepth 100000 in
theorem sawyerref02_TakeText.calls (k : Nat) (A0 : Option Addr) (c0 : Nat) (l0 : List Int) (a1 : Int) (r1 : ByteArray) (r2 : List Int) (r3 : Int) (w : World) (hr0 : Kd.C (Kd.int .u8) w A0 l0.length l0) (hc0 : l0.length ≤ c0) (h : sawyerref02_TakeText.f k l0 a1 = some (r1, r2, r3)) :
  Calls Try.prog 66 #[.slice A0 l0.length c0, .int .i64 a1] w fun e w' => ∃ v1_ : Value, e = .returned (.tuple #[.string r1, v1_, .int .i64 r3]) ∧ Kd.Q (Kd.int .u8) 5 w' w.heap.size (fun _ => True) v1_ r2 ∧ Below w.heap.size w w' := by
 have HR0 := Aside0.mk hr0
 have HC0 := Aside0.mk hc0
 clear hr0 hc0
 have HB := Aside0.mk (Below.refl w.heap.size w)
 have H : ((sawyerref02_TakeNum.f k l0).bind fun bt491 => (if bt491.2.2 = 0 then (if bt491.1 > a1 then (some ((⟨#[]⟩ : ByteArray), ([] : List Int), 2)) else (if bt491.1 > (bt491.2.1.length : Int) then (some ((⟨#[]⟩ : ByteArray), ([] : List Int), 2)) else (if 0 ≤ bt491.1 then (if bt491.1 ≤ (bt491.2.1.length : Int) then (some (strOfNums (bt491.2.1.take (bt491.1 : Int).toNat), (bt491.2.1.drop (bt491.1 : Int).toNat), 0)) else (none)) else (none)))) else (some ((⟨#[]⟩ : ByteArray), ([] : List Int), 2)))) = some (r1, r2, r3) := h
 clear h
 replace H := Option.bind_eq_some_iff.mp H
 obtain ⟨⟨t491, t492, t493⟩, A30, H⟩ := H
 replace H : (if t493 = 0 then (if t491 > a1 then (some ((⟨#[]⟩ : ByteArray), ([] : List Int), 2)) else (if t491 > (t492.length : Int) then (some ((⟨#[]⟩ : ByteArray), ([] : List Int), 2)) else (if 0 ≤ t491 then (if t491 ≤ (t492.length : Int) then (some (strOfNums (t492.take (t491 : Int).toNat), (t492.drop (t491 : Int).toNat), 0)) else (none)) else (none)))) else (some ((⟨#[]⟩ : ByteArray), ([] : List Int), 2))) = some (r1, r2, r3) := H
 have A3 := Aside0.mk A30
 clear A30
 by_cases c4 : t493 = 0
 ·
  rw [if_pos c4] at H
  have c4b0 : (t493 == 0) = true := beq_iff_eq.mpr c4
  have c4b1 : (t493 != 0) = false := bne_eq_false_iff_eq.mpr c4
  clear c4
  by_cases c5 : t491 > a1
  ·
   rw [if_pos c5] at H
   have c5b0 : decide (a1 < t491) = true := decide_eq_true c5
   clear c5
   simp only [Option.some.injEq, Prod.mk.injEq] at H
   obtain ⟨rfl, rfl, rfl⟩ := H
   go_enter Try.func66, Try.ntmps66
   go_wp2_with (first | (go_at_call 65; (with_reducible refine (sawyerref02_TakeNum.calls k _ _ l0 t491 t492 t493 _ ?side1 ?side2 A3.out).mono ?_); (case side1 => repeat (first | exact HR0.out | (with_reducible refine Kd.C_alloc ?_ _) | (with_reducible refine Kd.C_drewN ?_ _) | (with_reducible refine Kd.C_drew ?_))); (case side2 => exact HC0.out); rintro e w6 ⟨v494, rfl, ho0, hb⟩; have n0_ := Aside0.mk (Kd.R_lower ho0 (below_size (by repeat (first | (with_reducible first | exact HB.out | apply below_alloc | apply pw_below_drewN | apply below_drew1) | exact HB.out)))); have n1_ := Aside0.mk (below_step (by repeat (first | (with_reducible first | exact HB.out | apply below_alloc | apply pw_below_drewN | apply below_drew1) | exact HB.out)) hb); clear HB; have HO495 := n0_; have HB := n1_; clear n0_ n1_; (try clear hb); (try clear hb2); (try clear hk); (try clear hi); (try clear ho0)))
   repeat (go_quiet (fail); try go_wp2)
   go_ret3
   exact ⟨_, by first | rfl | (simp [errW_none, errW_some] <;> rfl) | (simp [*, errW_none, errW_some] <;> rfl), Kd.Q_of_R (by first | exact Kd.R_nil _ _ _ _ _ | exact Kd.N_nil _ _ _ _ _ | exact Kd.V_nil _ _ _ _ _ | exact Kd.Q_nil _ _ _ _ _ | exact Kd.S_nil _ _ _ _ _), by repeat (first | (with_reducible first | exact HB.out | apply below_alloc | apply pw_below_drewN | apply below_drew1) | exact HB.out)⟩
  ·
   rw [if_neg c5] at H
   have c5b0 : decide (a1 < t491) = false := decide_eq_false c5
   clear c5
   by_cases c7 : t491 > (t492.length : Int)
   ·
    rw [if_pos c7] at H
    have c7b0 : decide ((t492.length : Int) < t491) = true := decide_eq_true c7
    clear c7
    simp only [Option.some.injEq, Prod.mk.injEq] at H
    obtain ⟨rfl, rfl, rfl⟩ := H
    go_enter Try.func66, Try.ntmps66
    go_wp2_with (first | (go_at_call 65; (with_reducible refine (sawyerref02_TakeNum.calls k _ _ l0 t491 t492 t493 _ ?side1 ?side2 A3.out).mono ?_); (case side1 => repeat (first | exact HR0.out | (with_reducible refine Kd.C_alloc ?_ _) | (with_reducible refine Kd.C_drewN ?_ _) | (with_reducible refine Kd.C_drew ?_))); (case side2 => exact HC0.out); rintro e w8 ⟨v494, rfl, ho0, hb⟩; have n0_ := Aside0.mk (Kd.R_lower ho0 (below_size (by repeat (first | (with_reducible first | exact HB.out | apply below_alloc | apply pw_below_drewN | apply below_drew1) | exact HB.out)))); have n1_ := Aside0.mk (below_step (by repeat (first | (with_reducible first | exact HB.out | apply below_alloc | apply pw_below_drewN | apply below_drew1) | exact HB.out)) hb); clear HB; have HO495 := n0_; have HB := n1_; clear n0_ n1_; (try clear hb); (try clear hb2); (try clear hk); (try clear hi); (try clear ho0); obtain ⟨Ao9, co9, eo9⟩ := Kd.R_slice HO495.out; subst eo9))
    repeat (go_quiet (fail); try go_wp2)
    go_ret3
    exact ⟨_, by first | rfl | (simp [errW_none, errW_some] <;> rfl) | (simp [*, errW_none, errW_some] <;> rfl), Kd.Q_of_R (by first | exact Kd.R_nil _ _ _ _ _ | exact Kd.N_nil _ _ _ _ _ | exact Kd.V_nil _ _ _ _ _ | exact Kd.Q_nil _ _ _ _ _ | exact Kd.S_nil _ _ _ _ _), by repeat (first | (with_reducible first | exact HB.out | apply below_alloc | apply pw_below_drewN | apply below_drew1) | exact HB.out)⟩
   ·
    rw [if_neg c7] at H
    have c7b0 : decide ((t492.length : Int) < t491) = false := decide_eq_false c7
    clear c7
    by_cases c10 : 0 ≤ t491
    ·
     rw [if_pos c10] at H
     have c10b0 := eq_true c10
     have c10b1 : decide (0 ≤ t491) = true := decide_eq_true c10
     clear c10
     by_cases c11 : t491 ≤ (t492.length : Int)
     ·
      rw [if_pos c11] at H
      have c11b0 := eq_true c11
      have c11b1 : decide (t491 ≤ (t492.length : Int)) = true := decide_eq_true c11
      clear c11
      obtain ⟨y496, hy496⟩ : ∃ y_ : List Int, y_ = (t492.take (t491 : Int).toNat) := ⟨_, rfl⟩
      replace H : (some (strOfNums y496, (t492.drop (t491 : Int).toNat), 0)) = some (r1, r2, r3) := by first | (rw [hy496]; with_reducible exact H) | (have H2_ := (Option.bind_some _ _).symm.trans H; rw [hy496]; with_reducible exact H2_) | (have H2_ := (Option.bind_some _ _).symm.trans H; with_reducible exact H2_) | with_reducible exact H | (rw [hy496]; exact H) | exact H
      have Ny496 := Aside0.mk hy496
      clear hy496
      have c12b0 := eq_true (of_decide_eq_true (by first | (with_reducible assumption) | assumption) : t491 ≤ (t492.length : Int))
      obtain ⟨y500, hy500⟩ : ∃ y_ : List Int, y_ = (t492.drop (t491 : Int).toNat) := ⟨_, rfl⟩
      replace H : (some (strOfNums y496, y500, 0)) = some (r1, r2, r3) := by first | (rw [hy500]; with_reducible exact H) | (have H2_ := (Option.bind_some _ _).symm.trans H; rw [hy500]; with_reducible exact H2_) | (have H2_ := (Option.bind_some _ _).symm.trans H; with_reducible exact H2_) | with_reducible exact H | (rw [hy500]; exact H) | exact H
      have Ny500 := Aside0.mk hy500
      clear hy500
      simp only [Option.some.injEq, Prod.mk.injEq] at H
      obtain ⟨rfl, rfl, rfl⟩ := H
      go_enter Try.func66, Try.ntmps66
      go_wp2_with (first | (go_at_call 65; (with_reducible refine (sawyerref02_TakeNum.calls k _ _ l0 t491 t492 t493 _ ?side1 ?side2 A3.out).mono ?_); (case side1 => repeat (first | exact HR0.out | (with_reducible refine Kd.C_alloc ?_ _) | (with_reducible refine Kd.C_drewN ?_ _) | (with_reducible refine Kd.C_drew ?_))); (case side2 => exact HC0.out); rintro e w13 ⟨v494, rfl, ho0, hb⟩; have n0_ := Aside0.mk (Kd.R_lower ho0 (below_size (by repeat (first | (with_reducible first | exact HB.out | apply below_alloc | apply pw_below_drewN | apply below_drew1) | exact HB.out)))); have n1_ := Aside0.mk (below_step (by repeat (first | (with_reducible first | exact HB.out | apply below_alloc | apply pw_below_drewN | apply below_drew1) | exact HB.out)) hb); clear HB; have HO495 := n0_; have HB := n1_; clear n0_ n1_; (try clear hb); (try clear hb2); (try clear hk); (try clear hi); (try clear ho0); obtain ⟨Ao14, co14, eo14⟩ := Kd.R_slice HO495.out; subst eo14; have q15 : (t491 : Int) ≤ ((t492.length : Int) : Int) := of_decide_eq_true (by first | (with_reducible assumption) | assumption); obtain ⟨i015, hi015, _, hsz15, _⟩ := info_parts info5; have hroom15 : t492.length ≤ co14 := (Kd.R_reads' HO495.out).2.1; have hC15 : Kd.C (Kd.int .u8) _ Ao14 t492.length t492 := (Kd.R_reads' HO495.out).2.2; have hcut15 := cut_to (P := Try.prog) 35 5 .i64 Try.underlying35 hi015 Ao14 t492.length co14 t491 (of_decide_eq_true (by first | (with_reducible assumption) | assumption)) q15 hroom15; have hr15 := Kd.C_take (m := (t491 : Int).toNat) hC15 (by omega); have hy15 : y496.length = (t491 : Int).toNat := (by rw [Ny496.out, List.length_take]; omega); rw [← Ny496.out] at hr15; rw [← hy15] at hcut15; have HR499 := Aside0.mk hr15; have HC499 := Aside0.mk (show y496.length ≤ co14 from by omega); clear hr15 hC15 hroom15 hi015 hsz15; have KY15 := Aside0.mk hy15; clear hy15; have KL15 := Aside0.mk (show (t491 : Int).toNat ≤ t492.length from by omega); replace q15 := eq_true q15; have hcv16 := Kd.C_string (P := Try.prog) (A := Ao14) (c := co14) Try.underlying35 Try.underlying5 Try.underlying9 (by repeat (first | (with_reducible exact HR499.out) | (with_reducible refine Kd.C_alloc ?_ _) | (with_reducible refine Kd.C_drewN ?_ _) | (with_reducible refine Kd.C_drew ?_) | exact HR499.out)); have hcw16 := fun n_ : Nat => Kd.C_string (P := Try.prog) (A := Ao14) (c := co14) Try.underlying35 Try.underlying5 Try.underlying9 (Kd.C_drewN ((by repeat (first | (with_reducible exact HR499.out) | (with_reducible refine Kd.C_alloc ?_ _) | (with_reducible refine Kd.C_drewN ?_ _) | (with_reducible refine Kd.C_drew ?_) | exact HR499.out))) n_); have q17 : (t491 : Int) ≤ ((t492.length : Int) : Int) := of_decide_eq_true (by first | (with_reducible assumption) | assumption); obtain ⟨i017, hi017, _, hsz17, _⟩ := info_parts info5; have hcut17 := cut_from (P := Try.prog) 35 5 .i64 Try.underlying35 hi017 1 hsz17 Ao14 t492.length co14 t491 (of_decide_eq_true (by first | (with_reducible assumption) | assumption)) q17; have hr17 := Kd.Q_drop (k := (t491 : Int).toNat) (Kd.Q_of_R HO495.out) (by omega); obtain ⟨A17, hA17⟩ : ∃ A1, A1 = (if co14 = (t491 : Int).toNat then Ao14 else (Ao14 : Option Addr).map (·.add ((t491 : Int).toNat * 1))) := ⟨_, rfl⟩; obtain ⟨c17, hc17⟩ : ∃ c1, c1 = co14 - (t491 : Int).toNat := ⟨_, rfl⟩; have hy17 : y500.length = t492.length - (t491 : Int).toNat := (by rw [Ny500.out, List.length_drop]); rw [← Ny500.out] at hr17; rw [← hy17, ← hA17, ← hc17] at hcut17; replace hr17 : Kd.Q (Kd.int .u8) 5 _ w.heap.size (fun _ => True) (.slice A17 y500.length c17) y500 := (by rw [hA17, hc17, hy17]; exact hr17); have HE17 : Aside0 ((Value.slice A17 y500.length c17).ownBlock = (.slice Ao14 t492.length co14 : Value).ownBlock) := ⟨by rw [hA17]; split <;> (cases (Ao14 : Option Addr) <;> first | rfl | (simp only [Option.map, Addr.add, Value.ownBlock]; split <;> rfl))⟩; clear hy17 hi017 hsz17 HO495 hA17 hc17; have HO502 := Aside0.mk hr17; clear hr17; replace q17 := eq_true q17))
      repeat (go_quiet (fail); try go_wp2)
      go_ret3
      exact ⟨_, by first | rfl | (simp [errW_none, errW_some] <;> rfl) | (simp [*, errW_none, errW_some] <;> rfl), by (with_reducible repeat (first | apply Kd.Q_alloc | apply Kd.Q_drewN | apply Kd.Q_drew)); exact HO502.out, by repeat (first | (with_reducible first | exact HB.out | apply below_alloc | apply pw_below_drewN | apply below_drew1) | exact HB.out)⟩
     ·
      rw [if_neg c11] at H
      exact absurd H (by simp)
    ·
     rw [if_neg c10] at H
     exact absurd H (by simp)
 ·
  rw [if_neg c4] at H
  have c4b0 : (t493 == 0) = false := beq_eq_false_iff_ne.mpr c4
  have c4b1 : (t493 != 0) = true := bne_iff_ne.mpr c4
  simp only [Option.some.injEq, Prod.mk.injEq] at H
  obtain ⟨rfl, rfl, rfl⟩ := H
  go_enter Try.func66, Try.ntmps66
  go_wp2_with (first | (go_at_call 65; (with_reducible refine (sawyerref02_TakeNum.calls k _ _ l0 t491 t492 t493 _ ?side1 ?side2 A3.out).mono ?_); (case side1 => repeat (first | exact HR0.out | (with_reducible refine Kd.C_alloc ?_ _) | (with_reducible refine Kd.C_drewN ?_ _) | (with_reducible refine Kd.C_drew ?_))); (case side2 => exact HC0.out); rintro e w18 ⟨v494, rfl, ho0, hb⟩; have n0_ := Aside0.mk (Kd.R_lower ho0 (below_size (by repeat (first | (with_reducible first | exact HB.out | apply below_alloc | apply pw_below_drewN | apply below_drew1) | exact HB.out)))); have n1_ := Aside0.mk (below_step (by repeat (first | (with_reducible first | exact HB.out | apply below_alloc | apply pw_below_drewN | apply below_drew1) | exact HB.out)) hb); clear HB; have HO495 := n0_; have HB := n1_; clear n0_ n1_; (try clear hb); (try clear hb2); (try clear hk); (try clear hi); (try clear ho0)))
  repeat (go_quiet (fail); try go_wp2)
  go_ret3
  exact ⟨_, by first | rfl | (simp [errW_none, errW_some] <;> rfl) | (simp [*, errW_none, errW_some] <;> rfl), Kd.Q_of_R (by first | exact Kd.R_nil _ _ _ _ _ | exact Kd.N_nil _ _ _ _ _ | exact Kd.V_nil _ _ _ _ _ | exact Kd.Q_nil _ _ _ _ _ | exact Kd.S_nil _ _ _ _ _), by repeat (first | (with_reducible first | exact HB.out | apply below_alloc | apply pw_below_drewN | apply below_drew1) | exact HB.out)⟩

end Go.Proofs.Ythpklhkibcenoaa.Px
