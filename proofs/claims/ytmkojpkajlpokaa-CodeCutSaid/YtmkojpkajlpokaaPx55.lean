-- Printed by a program of ours (px) out of the translation; Lean checks it.
import Derived.Test.YtmkojpkajlpokaaPx0
import Derived.Test.YtmkojpkajlpokaaPx29
import Derived.Test.YtmkojpkajlpokaaPx54
namespace Go.Proofs.Ytmkojpkajlpokaa.Px
open Go.RowKit Go.Proofs.YtmkojpkajlpokaaW.PrintWords Go.Proofs.YtmkojpkajlpokaaW.PrintLast Go.Proofs.YtmkojpkajlpokaaW.PrintMore
attribute [local go_sem] max2_int min2_int max_two min_two max_three min_three max_four min_four   -- for this text's walks alone
set_option linter.unusedVariables false
set_option linter.unusedSimpArgs false
set_option linter.unnecessarySimpa false

/-! ### sawyerref02_TakeFrame: function 51 -/
def sawyerref02_TakeFrame.j0 : Nat → List Int → Int → List Int → Bool → Option (List Int × List Int × Int)
  | 0, _, _, _, _ => none
  | k + 1, x0, x7, x8, x31 => if x31 = true then (some (([] : List Int), ([] : List Int), 2)) else (if 4 ≤ (wrap64 (4 + x7)) then (if (wrap64 (4 + x7)) ≤ (x8.length : Int) then ((some ((x8.take ((wrap64 (4 + x7)) : Int).toNat).drop 4 : List Int)).bind fun y707 => ((sawyerref02_PutFrame.f k ([] : List Int) y707).bind fun t712 => (if 0 ≤ (t712.length : Int) then (if (t712.length : Int) ≤ (x0.length : Int) then (if (strOfNums t712).toList = (strOfNums (x0.take ((t712.length : Int) : Int).toNat)).toList then (if 0 ≤ (wrap64 (4 + x7)) then (some (y707, (x8.drop ((wrap64 (4 + x7)) : Int).toNat), 0)) else (none)) else (some (([] : List Int), ([] : List Int), 2))) else (none)) else (none)))) else (none)) else (none))
def sawyerref02_TakeFrame.f (k : Nat) (l0 : List Int) (a1 : Int) : Option (List Int × List Int × Int) := (sawyerref02_TakeNum.f k l0).bind fun bt702 => (if bt702.2.2 = 0 then (if bt702.1 > a1 then (sawyerref02_TakeFrame.j0 k l0 bt702.1 bt702.2.1 true) else (sawyerref02_TakeFrame.j0 k l0 bt702.1 bt702.2.1 (decide (bt702.1 > (wrap64 ((bt702.2.1.length : Int) - 4)))))) else (sawyerref02_TakeFrame.j0 k l0 bt702.1 bt702.2.1 true))
theorem sawyerref02_TakeFrame.mono_l : ∀ k, (∀ y0 y1 y2 y3, LeO (sawyerref02_TakeFrame.j0 k y0 y1 y2 y3) (sawyerref02_TakeFrame.j0 (k + 1) y0 y1 y2 y3))
  | 0 => fun _ _ _ _ r h => by simp [sawyerref02_TakeFrame.j0] at h
  | k + 1 => by
    have ih0 := sawyerref02_TakeFrame.mono_l k
    · intro y0 y1 y2 y3
      unfold sawyerref02_TakeFrame.j0
      repeat' first
      | (with_reducible exact ih0 _ _ _ _)
      | (with_reducible exact sawyerref02_PutFrame.mono _ _ _)
      | (with_reducible exact sawyerref02_TakeNum.mono _ _)
      | (with_reducible exact LeO.refl _)
      | (with_reducible exact LeO.none _)
      | (with_reducible refine LeO.ite ?_ ?_)
      | (with_reducible refine LeO.bind ?_ (fun _ => ?_))
      | exact ih0 _ _ _ _
      | exact sawyerref02_PutFrame.mono _ _ _
      | exact sawyerref02_TakeNum.mono _ _
      | exact LeO.none _
      | refine LeO.ite ?_ ?_
      | refine LeO.bind ?_ (fun _ => ?_)
theorem sawyerref02_TakeFrame.mono : ∀ a0 a1 k, LeO (sawyerref02_TakeFrame.f k a0 a1) (sawyerref02_TakeFrame.f (k + 1) a0 a1) := by
  intro a0 a1 k
  have ih0 := sawyerref02_TakeFrame.mono_l k
  unfold sawyerref02_TakeFrame.f
  repeat' first
      | (with_reducible exact ih0 _ _ _ _)
      | (with_reducible exact sawyerref02_PutFrame.mono _ _ _)
      | (with_reducible exact sawyerref02_TakeNum.mono _ _)
      | (with_reducible exact LeO.refl _)
      | (with_reducible exact LeO.none _)
      | (with_reducible refine LeO.ite ?_ ?_)
      | (with_reducible refine LeO.bind ?_ (fun _ => ?_))
      | exact ih0 _ _ _ _
      | exact sawyerref02_PutFrame.mono _ _ _
      | exact sawyerref02_TakeNum.mono _ _
      | exact LeO.none _
      | refine LeO.ite ?_ ?_
      | refine LeO.bind ?_ (fun _ => ?_)
set_option maxHeartbeats 8000000 in
set_option maxRecDepth 100000 in
theorem sawyerref02_TakeFrame.calls (k : Nat) (A0 : Option Addr) (c0 : Nat) (l0 : List Int) (a1 : Int) (r1 : List Int) (r2 : List Int) (r3 : Int) (w : World) (hr0 : Kd.C (Kd.int .u8) w A0 l0.length l0) (hc0 : l0.length ≤ c0) (h : sawyerref02_TakeFrame.f k l0 a1 = some (r1, r2, r3)) :
    Calls Try.prog 51 #[.slice A0 l0.length c0, .int .i64 a1] w fun e w' => ∃ v0_ v1_ : Value, e = .returned (.tuple #[v0_, v1_, .int .i64 r3]) ∧ Kd.V (Kd.int .u8) 5 w' w.heap.size (fun k_ => (w.heap.size ≤ k_)) v0_ r1 ∧ Kd.V (Kd.int .u8) 5 w' w.heap.size (fun k_ => (w.heap.size ≤ k_)) v1_ r2 ∧ Below w.heap.size w w' := by
  have HR0 := Aside0.mk hr0
  have HC0 := Aside0.mk hc0
  clear hr0 hc0
  have HB := Aside0.mk (Below.refl w.heap.size w)
  have H : ((sawyerref02_TakeNum.f k l0).bind fun bt702 => (if bt702.2.2 = 0 then (if bt702.1 > a1 then (sawyerref02_TakeFrame.j0 k l0 bt702.1 bt702.2.1 true) else (sawyerref02_TakeFrame.j0 k l0 bt702.1 bt702.2.1 (decide (bt702.1 > (wrap64 ((bt702.2.1.length : Int) - 4)))))) else (sawyerref02_TakeFrame.j0 k l0 bt702.1 bt702.2.1 true))) = some (r1, r2, r3) := h
  clear h
  replace H := Option.bind_eq_some_iff.mp H
  obtain ⟨⟨t702, t703, t706⟩, A30, H⟩ := H
  replace H : (if t706 = 0 then (if t702 > a1 then (sawyerref02_TakeFrame.j0 k l0 t702 t703 true) else (sawyerref02_TakeFrame.j0 k l0 t702 t703 (decide (t702 > (wrap64 ((t703.length : Int) - 4)))))) else (sawyerref02_TakeFrame.j0 k l0 t702 t703 true)) = some (r1, r2, r3) := H
  have A3 := Aside0.mk A30
  clear A30
  have HC4 := Aside0.mk H
  clear H
  go_enter Try.func51, Try.ntmps51
  go_upto_region 2 with (first | (go_at_call 37; (with_reducible refine (sawyerref02_TakeNum.calls k _ _ l0 t702 t703 t706 _ ?side1 ?side2 A3.out).mono ?_); (case side1 => repeat (first | exact HR0.out | (with_reducible refine Kd.C_alloc ?_ _) | (with_reducible refine Kd.C_drewN ?_ _) | (with_reducible refine Kd.C_drew ?_))); (case side2 => exact HC0.out); rintro e w5 ⟨v704, rfl, ho0, hb⟩; replace ho0 := Kd.V_of_R ho0; have n0_ := Aside0.mk (Kd.V_lower (Kd.V_mono (ok' := fun k_ => (w.heap.size ≤ k_)) ho0 (fun k_ hk_ => (Nat.le_trans (below_size (by repeat (first | (with_reducible first | exact HB.out | apply below_alloc | apply pw_below_drewN | apply below_drew1) | exact HB.out))) hk_))) (below_size (by repeat (first | (with_reducible first | exact HB.out | apply below_alloc | apply pw_below_drewN | apply below_drew1) | exact HB.out)))); have n1_ := Aside0.mk (below_step (by repeat (first | (with_reducible first | exact HB.out | apply below_alloc | apply pw_below_drewN | apply below_drew1) | exact HB.out)) hb); clear HB; have HO705 := n0_; have HB := n1_; clear n0_ n1_; (try clear hb); (try clear hb2); (try clear hk); (try clear hi); (try clear ho0)))
  repeat (go_quiet (first | (go_at_call 37; (with_reducible refine (sawyerref02_TakeNum.calls k _ _ l0 t702 t703 t706 _ ?side1 ?side2 A3.out).mono ?_); (case side1 => repeat (first | exact HR0.out | (with_reducible refine Kd.C_alloc ?_ _) | (with_reducible refine Kd.C_drewN ?_ _) | (with_reducible refine Kd.C_drew ?_))); (case side2 => exact HC0.out); rintro e w5 ⟨v704, rfl, ho0, hb⟩; replace ho0 := Kd.V_of_R ho0; have n0_ := Aside0.mk (Kd.V_lower (Kd.V_mono (ok' := fun k_ => (w.heap.size ≤ k_)) ho0 (fun k_ hk_ => (Nat.le_trans (below_size (by repeat (first | (with_reducible first | exact HB.out | apply below_alloc | apply pw_below_drewN | apply below_drew1) | exact HB.out))) hk_))) (below_size (by repeat (first | (with_reducible first | exact HB.out | apply below_alloc | apply pw_below_drewN | apply below_drew1) | exact HB.out)))); have n1_ := Aside0.mk (below_step (by repeat (first | (with_reducible first | exact HB.out | apply below_alloc | apply pw_below_drewN | apply below_drew1) | exact HB.out)) hb); clear HB; have HO705 := n0_; have HB := n1_; clear n0_ n1_; (try clear hb); (try clear hb2); (try clear hk); (try clear hi); (try clear ho0))); go_upto_region 2 with (first | (go_at_call 37; (with_reducible refine (sawyerref02_TakeNum.calls k _ _ l0 t702 t703 t706 _ ?side1 ?side2 A3.out).mono ?_); (case side1 => repeat (first | exact HR0.out | (with_reducible refine Kd.C_alloc ?_ _) | (with_reducible refine Kd.C_drewN ?_ _) | (with_reducible refine Kd.C_drew ?_))); (case side2 => exact HC0.out); rintro e w5 ⟨v704, rfl, ho0, hb⟩; replace ho0 := Kd.V_of_R ho0; have n0_ := Aside0.mk (Kd.V_lower (Kd.V_mono (ok' := fun k_ => (w.heap.size ≤ k_)) ho0 (fun k_ hk_ => (Nat.le_trans (below_size (by repeat (first | (with_reducible first | exact HB.out | apply below_alloc | apply pw_below_drewN | apply below_drew1) | exact HB.out))) hk_))) (below_size (by repeat (first | (with_reducible first | exact HB.out | apply below_alloc | apply pw_below_drewN | apply below_drew1) | exact HB.out)))); have n1_ := Aside0.mk (below_step (by repeat (first | (with_reducible first | exact HB.out | apply below_alloc | apply pw_below_drewN | apply below_drew1) | exact HB.out)) hb); clear HB; have HO705 := n0_; have HB := n1_; clear n0_ n1_; (try clear hb); (try clear hb2); (try clear hk); (try clear hi); (try clear ho0))))
  (try simp only [Act.put, List.setIfInBounds_toArray, List.set_cons_zero, List.set_cons_succ])
  go_cut [31] (fun v31 wc => ∃ (kq : Nat) (x31_3 : Bool), v31 = .bool x31_3 ∧ Aside0 (sawyerref02_TakeFrame.j0 kq l0 t702 t703 x31_3 = some (r1, r2, r3)) ∧ Aside0 (kq ≤ k) ∧ Aside0 (Kd.V (Kd.int .u8) 5 wc w.heap.size (fun k_ => (w.heap.size ≤ k_)) v704 t703) ∧ Aside0 (Below w.heap.size w wc))
  case first =>
    have H := HC4.out
    clear HC4
    by_cases c6 : t706 = 0
    · rw [if_pos c6] at H
      have c6b0 : (t706 == 0) = true := beq_iff_eq.mpr c6
      have c6b1 : (t706 != 0) = false := bne_eq_false_iff_eq.mpr c6
      clear c6
      (first | rw [c6b0] | (simp only [i64_w, i32_w]; rw [c6b0]) | skip)
      by_cases c7 : t702 > a1
      · rw [if_pos c7] at H
        have c7b0 : decide (a1 < t702) = true := decide_eq_true c7
        clear c7
        have H' := Aside0.mk H
        clear H
        go_wp2
        repeat (go_quiet (fail); try go_wp2)
        go_meet
        case rel => exact ⟨_, (true), (by first | rfl | (simp; done) | (simp [*]; done)), H', ⟨by first | omega | exact Nat.le_refl _⟩, ⟨by (with_reducible repeat (first | apply Kd.V_alloc | apply Kd.V_drewN | apply Kd.V_drew)); exact HO705.out⟩, ⟨by repeat (first | (with_reducible first | exact HB.out | apply below_alloc | apply pw_below_drewN | apply below_drew1) | exact HB.out)⟩⟩
      · rw [if_neg c7] at H
        have c7b0 : decide (a1 < t702) = false := decide_eq_false c7
        clear c7
        have H' := Aside0.mk H
        clear H
        obtain ⟨Ao8, co8, eo8⟩ := Kd.V_slice HO705.out
        subst eo8
        go_wp2
        repeat (go_quiet (fail); try go_wp2)
        go_meet
        case rel => exact ⟨_, (decide (t702 > (wrap64 ((t703.length : Int) - 4)))), (by first | rfl | (simp; done) | (simp [*]; done)), H', ⟨by first | omega | exact Nat.le_refl _⟩, ⟨by (with_reducible repeat (first | apply Kd.V_alloc | apply Kd.V_drewN | apply Kd.V_drew)); exact HO705.out⟩, ⟨by repeat (first | (with_reducible first | exact HB.out | apply below_alloc | apply pw_below_drewN | apply below_drew1) | exact HB.out)⟩⟩
    · rw [if_neg c6] at H
      have c6b0 : (t706 == 0) = false := beq_eq_false_iff_ne.mpr c6
      have c6b1 : (t706 != 0) = true := bne_iff_ne.mpr c6
      (first | rw [c6b0] | (simp only [i64_w, i32_w]; rw [c6b0]) | skip)
      have H' := Aside0.mk H
      clear H
      go_wp2
      repeat (go_quiet (fail); try go_wp2)
      go_meet
      case rel => exact ⟨_, (true), (by first | rfl | (simp; done) | (simp [*]; done)), H', ⟨by first | omega | exact Nat.le_refl _⟩, ⟨by (with_reducible repeat (first | apply Kd.V_alloc | apply Kd.V_drewN | apply Kd.V_drew)); exact HO705.out⟩, ⟨by repeat (first | (with_reducible first | exact HB.out | apply below_alloc | apply pw_below_drewN | apply below_drew1) | exact HB.out)⟩⟩
  case rest =>
    clear HC4
    try clear p2
    try clear c5
    try clear c6
    try clear c6b0
    try clear c6b1
    try clear p6
    try clear c7
    try clear c7b0
    obtain ⟨kq, x31_3, rfl, HA, HJ3, HO_8, HB⟩ := hcut
    cases kq with
    | zero => exact absurd HA.out (by simp [sawyerref02_TakeFrame.j0])
    | succ kj3 =>
      have H := HA.out
      clear HA
      simp only [sawyerref02_TakeFrame.j0] at H
      by_cases c9 : x31_3 = true
      · subst c9
        have H1 : (some (([] : List Int), ([] : List Int), 2)) = some (r1, r2, r3) := by rw [if_pos rfl] at H; exact H
        clear H
        have H := H1
        clear H1
        simp only [Option.some.injEq, Prod.mk.injEq] at H
        obtain ⟨rfl, rfl, rfl⟩ := H
        go_wp2
        repeat (go_quiet (fail); try go_wp2)
        go_ret3
        exact ⟨_, _, by first | rfl | (simp [errW_none, errW_some] <;> rfl) | (simp [*, errW_none, errW_some] <;> rfl), (by exact Kd.V_nil _ _ _ _ _), (by exact Kd.V_nil _ _ _ _ _), by repeat (first | (with_reducible first | exact HB.out | apply below_alloc | apply pw_below_drewN | apply below_drew1) | exact HB.out)⟩
      · replace c9 := Bool.eq_false_iff.mpr c9
        subst c9
        have H1 : (if 4 ≤ (wrap64 (4 + t702)) then (if (wrap64 (4 + t702)) ≤ (t703.length : Int) then ((some ((t703.take ((wrap64 (4 + t702)) : Int).toNat).drop 4 : List Int)).bind fun y707 => ((sawyerref02_PutFrame.f kj3 ([] : List Int) y707).bind fun t712 => (if 0 ≤ (t712.length : Int) then (if (t712.length : Int) ≤ (l0.length : Int) then (if (strOfNums t712).toList = (strOfNums (l0.take ((t712.length : Int) : Int).toNat)).toList then (if 0 ≤ (wrap64 (4 + t702)) then (some (y707, (t703.drop ((wrap64 (4 + t702)) : Int).toNat), 0)) else (none)) else (some (([] : List Int), ([] : List Int), 2))) else (none)) else (none)))) else (none)) else (none)) = some (r1, r2, r3) := by rw [if_neg (show ¬ (false = true) by decide)] at H; exact H
        clear H
        have H := H1
        clear H1
        by_cases c10 : 4 ≤ (wrap64 (4 + t702))
        · rw [if_pos c10] at H
          have c10b0 := eq_true c10
          have c10b1 : decide (4 ≤ (wrap64 (4 + t702))) = true := decide_eq_true c10
          by_cases c11 : (wrap64 (4 + t702)) ≤ (t703.length : Int)
          · rw [if_pos c11] at H
            have c11b0 := eq_true c11
            have c11b1 : decide ((wrap64 (4 + t702)) ≤ (t703.length : Int)) = true := decide_eq_true c11
            obtain ⟨y707, hy707⟩ : ∃ y_ : List Int, y_ = ((t703.take ((wrap64 (4 + t702)) : Int).toNat).drop 4) := ⟨_, rfl⟩
            replace H : ((sawyerref02_PutFrame.f kj3 ([] : List Int) y707).bind fun t712 => (if 0 ≤ (t712.length : Int) then (if (t712.length : Int) ≤ (l0.length : Int) then (if (strOfNums t712).toList = (strOfNums (l0.take ((t712.length : Int) : Int).toNat)).toList then (if 0 ≤ (wrap64 (4 + t702)) then (some (y707, (t703.drop ((wrap64 (4 + t702)) : Int).toNat), 0)) else (none)) else (some (([] : List Int), ([] : List Int), 2))) else (none)) else (none))) = some (r1, r2, r3) := by first | (rw [hy707]; with_reducible exact H) | (have H2_ := (Option.bind_some _ _).symm.trans H; rw [hy707]; with_reducible exact H2_) | (have H2_ := (Option.bind_some _ _).symm.trans H; with_reducible exact H2_) | with_reducible exact H | (rw [hy707]; exact H) | exact H
            have Ny707 := Aside0.mk hy707
            clear hy707
            replace H := Option.bind_eq_some_iff.mp H
            obtain ⟨t712, A120, H⟩ := H
            replace H : (if 0 ≤ (t712.length : Int) then (if (t712.length : Int) ≤ (l0.length : Int) then (if (strOfNums t712).toList = (strOfNums (l0.take ((t712.length : Int) : Int).toNat)).toList then (if 0 ≤ (wrap64 (4 + t702)) then (some (y707, (t703.drop ((wrap64 (4 + t702)) : Int).toNat), 0)) else (none)) else (some (([] : List Int), ([] : List Int), 2))) else (none)) else (none)) = some (r1, r2, r3) := H
            have A12 := Aside0.mk A120
            clear A120
            by_cases c13 : 0 ≤ (t712.length : Int)
            · rw [if_pos c13] at H
              have c13b0 := eq_true c13
              have c13b1 : decide (0 ≤ (t712.length : Int)) = true := decide_eq_true c13
              clear c13
              by_cases c14 : (t712.length : Int) ≤ (l0.length : Int)
              · rw [if_pos c14] at H
                have c14b0 := eq_true c14
                have c14b1 : decide ((t712.length : Int) ≤ (l0.length : Int)) = true := decide_eq_true c14
                clear c14
                obtain ⟨y715, hy715⟩ : ∃ y_ : List Int, y_ = (l0.take ((t712.length : Int) : Int).toNat) := ⟨_, rfl⟩
                replace H : (if (strOfNums t712).toList = (strOfNums y715).toList then (if 0 ≤ (wrap64 (4 + t702)) then (some (y707, (t703.drop ((wrap64 (4 + t702)) : Int).toNat), 0)) else (none)) else (some (([] : List Int), ([] : List Int), 2))) = some (r1, r2, r3) := by first | (rw [hy715]; with_reducible exact H) | (have H2_ := (Option.bind_some _ _).symm.trans H; rw [hy715]; with_reducible exact H2_) | (have H2_ := (Option.bind_some _ _).symm.trans H; with_reducible exact H2_) | with_reducible exact H | (rw [hy715]; exact H) | exact H
                have Ny715 := Aside0.mk hy715
                clear hy715
                by_cases c15 : (strOfNums t712).toList = (strOfNums y715).toList
                · rw [if_pos c15] at H
                  have c15b0 : ((strOfNums t712).toList == (strOfNums y715).toList) = true := beq_iff_eq.mpr c15
                  have c15b1 : ((strOfNums t712).toList != (strOfNums y715).toList) = false := bne_eq_false_iff_eq.mpr c15
                  clear c15
                  obtain ⟨ji16, hji16⟩ : ∃ j_ : Int, (wrap64 (4 + t702)) = j_ := ⟨_, rfl⟩
                  replace H : (if 0 ≤ (ji16) then (some (y707, (t703.drop ((ji16) : Int).toNat), 0)) else (none)) = some (r1, r2, r3) := by first | (rw [hji16] at H; exact H) | (simp only [hji16] at H ⊢; exact H)
                  (try rw [hji16] at c10b0)
                  (try rw [hji16] at c10b1)
                  (try rw [hji16] at c10)
                  (try rw [hji16] at c11b0)
                  (try rw [hji16] at c11b1)
                  (try rw [hji16] at c11)
                  (try rw [hji16] at Ny707)
                  (try rw [hji16] at A12)
                  have hji16w : (IntKind.i64.wrap (4 + t702)) = ji16 := (i64_w _).trans hji16
                  by_cases c17 : 0 ≤ (ji16)
                  · rw [if_pos c17] at H
                    have c17b0 := eq_true c17
                    have c17b1 : decide (0 ≤ (ji16)) = true := decide_eq_true c17
                    clear c17
                    have c18b0 := eq_true (of_decide_eq_true (by first | (with_reducible assumption) | assumption) : (ji16) ≤ (t703.length : Int))
                    obtain ⟨y719, hy719⟩ : ∃ y_ : List Int, y_ = (t703.drop ((ji16) : Int).toNat) := ⟨_, rfl⟩
                    replace H : (some (y707, y719, 0)) = some (r1, r2, r3) := by first | (rw [hy719]; with_reducible exact H) | (have H2_ := (Option.bind_some _ _).symm.trans H; rw [hy719]; with_reducible exact H2_) | (have H2_ := (Option.bind_some _ _).symm.trans H; with_reducible exact H2_) | with_reducible exact H | (rw [hy719]; exact H) | exact H
                    have Ny719 := Aside0.mk hy719
                    clear hy719
                    simp only [Option.some.injEq, Prod.mk.injEq] at H
                    obtain ⟨rfl, rfl, rfl⟩ := H
                    obtain ⟨Ao20, co20, eo20⟩ := Kd.V_slice HO_8.out
                    subst eo20
                    have q19 : ((ji16) : Int) ≤ ((t703.length : Int) : Int) := of_decide_eq_true (by first | (with_reducible assumption) | assumption)
                    obtain ⟨i019, hi019, _, hsz19, _⟩ := info_parts info5
                    have hroom19 : t703.length ≤ co20 := (Kd.V_reads' HO_8.out).2.1
                    have hC19 : Kd.F (Kd.int .u8) _ _ Ao20 t703.length t703 := (Kd.V_at (base := w.heap.size) HO_8.out).2.2
                    have ql19 : (4 : Int) ≤ ((ji16) : Int) := of_decide_eq_true (by first | (with_reducible assumption) | assumption)
                    have hcut19 := cut_mid (P := Try.prog) 22 5 .i64 .i64 Try.underlying22 hi019 1 hsz19 Ao20 t703.length co20 4 (ji16) (by omega) ql19 q19 hroom19
                    have hr19 := Kd.F_mid (lo := (4 : Int).toNat) (hi := ((ji16) : Int).toNat) (c := co20) hC19 (by omega) (by omega) hroom19
                    obtain ⟨A19, hA19⟩ : ∃ A1, A1 = (if co20 = (4 : Int).toNat then Ao20 else (Ao20 : Option Addr).map (·.add ((4 : Int).toNat * 1))) := ⟨_, rfl⟩
                    obtain ⟨c19, hc19⟩ : ∃ c1, c1 = co20 - (4 : Int).toNat := ⟨_, rfl⟩
                    have hy19 : y707.length = ((ji16) : Int).toNat - (4 : Int).toNat := (by rw [Ny707.out, List.length_drop, List.length_take] <;> omega)
                    rw [show ((t703).take ((ji16) : Int).toNat).drop (4 : Int).toNat = y707 from Ny707.out.symm] at hr19
                    replace hr19 : Kd.F (Kd.int .u8) _ _ A19 y707.length y707 := (by rw [hA19]; exact hr19)
                    rw [← hy19, ← hA19, ← hc19] at hcut19
                    have HO711 := Aside0.mk (show Kd.V (Kd.int .u8) 5 _ w.heap.size _ (.slice A19 y707.length c19) y707 from Kd.V_mk (by rw [hy19, hc19]; exact Nat.sub_le_sub_right (Nat.le_trans (by omega) hroom19) _) hr19)
                    have HC711 := Aside0.mk (show y707.length ≤ c19 from by rw [hy19, hc19]; exact Nat.sub_le_sub_right (Nat.le_trans (by omega) hroom19) _)
                    clear hr19 hC19 hroom19 hi019 hsz19 hc19
                    have KY19 := Aside0.mk hy19
                    have KA19 := Aside0.mk hA19
                    clear hy19 hA19
                    replace q19 := eq_true q19
                    go_wp2_with (first | (go_at_call 53; (refine (sawyerref02_PutFrame.calls kj3 _ _ ([] : List Int) _ _ y707 t712 _ ?side1 ?side2 ?side3 ?side4 A12.out).mono ?_); (case side1 => exact Kd.C_nil _ _); (case side2 => exact Nat.le_refl _); (case side3 => repeat (first | exact (Kd.V_reads' HO711.out).2.2 | (with_reducible refine Kd.C_alloc ?_ _) | (with_reducible refine Kd.C_drewN ?_ _) | (with_reducible refine Kd.C_drew ?_))); (case side4 => exact (Kd.V_reads' HO711.out).2.1); rintro e w21 ⟨v713, rfl, ho0, hb⟩; have n0_ := Aside0.mk (Kd.V_elder' (by (with_reducible repeat (first | apply Kd.V_alloc | apply Kd.V_drewN | apply Kd.V_drew)); exact HO_8.out) (Kd.R_base ho0) hb); have n1_ := Aside0.mk (Kd.V_elder' (by (with_reducible repeat (first | apply Kd.V_alloc | apply Kd.V_drewN | apply Kd.V_drew)); exact HO711.out) (Kd.R_base ho0) hb); have n2_ := Aside0.mk (Kd.R_lower (Kd.R_newM (M := fun k_ => (w.heap.size ≤ k_)) ho0 (below_size (by repeat (first | (with_reducible first | exact HB.out | apply below_alloc | apply pw_below_drewN | apply below_drew1) | exact HB.out))) (fun k_ h_ => h_)) (below_size (by repeat (first | (with_reducible first | exact HB.out | apply below_alloc | apply pw_below_drewN | apply below_drew1) | exact HB.out)))); have n3_ := Aside0.mk (below_step (by repeat (first | (with_reducible first | exact HB.out | apply below_alloc | apply pw_below_drewN | apply below_drew1) | exact HB.out)) hb); clear HO_8; clear HO711; clear HB; have HO_8 := n0_; have HO711 := n1_; have HO714 := n2_; have HB := n3_; clear n0_ n1_ n2_ n3_; (try clear hb); (try clear hb2); (try clear hk); (try clear hi); (try clear ho0); have hcv22 := own_string (P := Try.prog) Try.underlying22 Try.underlying5 Try.underlying9 (Kd.own_of_R HO714.out); have hcw22 := fun n_ : Nat => own_string (P := Try.prog) Try.underlying22 Try.underlying5 Try.underlying9 (Kd.own_of_R (Kd.R_drewN HO714.out n_)); obtain ⟨Ao23, co23, eo23⟩ := Kd.R_slice HO714.out; subst eo23; have q24 : ((t712.length : Int) : Int) ≤ ((l0.length : Int) : Int) := of_decide_eq_true (by first | (with_reducible assumption) | assumption); obtain ⟨i024, hi024, _, hsz24, _⟩ := info_parts info5; have hroom24 : l0.length ≤ c0 := HC0.out; have hC24 : Kd.C (Kd.int .u8) _ A0 l0.length l0 := HR0.out; have hcut24 := cut_to (P := Try.prog) 22 5 .i64 Try.underlying22 hi024 A0 l0.length c0 (t712.length : Int) (of_decide_eq_true (by first | (with_reducible assumption) | assumption)) q24 hroom24; have hr24 := Kd.C_take (m := ((t712.length : Int) : Int).toNat) hC24 (by omega); have hy24 : y715.length = ((t712.length : Int) : Int).toNat := (by rw [Ny715.out, List.length_take]; omega); rw [← Ny715.out] at hr24; rw [← hy24] at hcut24; have HR718 := Aside0.mk hr24; have HC718 := Aside0.mk (show y715.length ≤ c0 from by omega); clear hr24 hC24 hroom24 hi024 hsz24; have KY24 := Aside0.mk hy24; clear hy24; replace q24 := eq_true q24; have hcv25 := Kd.C_string (P := Try.prog) (A := A0) (c := c0) Try.underlying22 Try.underlying5 Try.underlying9 (Kd.C_below HR718.out HB.out); have hcw25 := fun n_ : Nat => Kd.C_string (P := Try.prog) (A := A0) (c := c0) Try.underlying22 Try.underlying5 Try.underlying9 (Kd.C_drewN ((Kd.C_below HR718.out HB.out)) n_); have q26 : ((ji16) : Int) ≤ ((t703.length : Int) : Int) := of_decide_eq_true (by first | (with_reducible assumption) | assumption); obtain ⟨i026, hi026, _, hsz26, _⟩ := info_parts info5; have hroom26 : t703.length ≤ co20 := (Kd.V_reads' HO_8.out).2.1; have hC26 : Kd.F (Kd.int .u8) _ _ Ao20 t703.length t703 := (Kd.V_at (base := w.heap.size) HO_8.out).2.2; have q026 : (0 : Int) ≤ ((ji16) : Int) := of_decide_eq_true (by first | (with_reducible assumption) | assumption); have hcut26 := cut_from (P := Try.prog) 22 5 .i64 Try.underlying22 hi026 1 hsz26 Ao20 t703.length co20 (ji16) q026 q26; have hr26 := Kd.F_cut (m := ((ji16) : Int).toNat) (c := co20) hC26 (by omega) hroom26; obtain ⟨A26, hA26⟩ : ∃ A1, A1 = (if co20 = ((ji16) : Int).toNat then Ao20 else (Ao20 : Option Addr).map (·.add (((ji16) : Int).toNat * 1))) := ⟨_, rfl⟩; obtain ⟨c26, hc26⟩ : ∃ c1, c1 = co20 - ((ji16) : Int).toNat := ⟨_, rfl⟩; have hy26 : y719.length = t703.length - ((ji16) : Int).toNat := (by rw [Ny719.out, List.length_drop] <;> omega); rw [show (t703).drop ((ji16) : Int).toNat = y719 from Ny719.out.symm] at hr26; replace hr26 : Kd.F (Kd.int .u8) _ _ A26 y719.length y719 := (by rw [hA26]; exact hr26); rw [← hy26, ← hA26, ← hc26] at hcut26; have HO723 := Aside0.mk (show Kd.V (Kd.int .u8) 5 _ w.heap.size _ (.slice A26 y719.length c26) y719 from Kd.V_mk (by rw [hy26, hc26]; exact Nat.sub_le_sub_right hroom26 _) hr26); have HC723 := Aside0.mk (show y719.length ≤ c26 from by rw [hy26, hc26]; exact Nat.sub_le_sub_right hroom26 _); clear hr26 hC26 hroom26 hi026 hsz26 hc26; have KY26 := Aside0.mk hy26; have KA26 := Aside0.mk hA26; clear hy26 hA26; replace q26 := eq_true q26))
                    repeat (go_quiet (first | (go_at_call 53; (refine (sawyerref02_PutFrame.calls kj3 _ _ ([] : List Int) _ _ y707 t712 _ ?side1 ?side2 ?side3 ?side4 A12.out).mono ?_); (case side1 => exact Kd.C_nil _ _); (case side2 => exact Nat.le_refl _); (case side3 => repeat (first | exact (Kd.V_reads' HO711.out).2.2 | (with_reducible refine Kd.C_alloc ?_ _) | (with_reducible refine Kd.C_drewN ?_ _) | (with_reducible refine Kd.C_drew ?_))); (case side4 => exact (Kd.V_reads' HO711.out).2.1); rintro e w21 ⟨v713, rfl, ho0, hb⟩; have n0_ := Aside0.mk (Kd.V_elder' (by (with_reducible repeat (first | apply Kd.V_alloc | apply Kd.V_drewN | apply Kd.V_drew)); exact HO_8.out) (Kd.R_base ho0) hb); have n1_ := Aside0.mk (Kd.V_elder' (by (with_reducible repeat (first | apply Kd.V_alloc | apply Kd.V_drewN | apply Kd.V_drew)); exact HO711.out) (Kd.R_base ho0) hb); have n2_ := Aside0.mk (Kd.R_lower (Kd.R_newM (M := fun k_ => (w.heap.size ≤ k_)) ho0 (below_size (by repeat (first | (with_reducible first | exact HB.out | apply below_alloc | apply pw_below_drewN | apply below_drew1) | exact HB.out))) (fun k_ h_ => h_)) (below_size (by repeat (first | (with_reducible first | exact HB.out | apply below_alloc | apply pw_below_drewN | apply below_drew1) | exact HB.out)))); have n3_ := Aside0.mk (below_step (by repeat (first | (with_reducible first | exact HB.out | apply below_alloc | apply pw_below_drewN | apply below_drew1) | exact HB.out)) hb); clear HO_8; clear HO711; clear HB; have HO_8 := n0_; have HO711 := n1_; have HO714 := n2_; have HB := n3_; clear n0_ n1_ n2_ n3_; (try clear hb); (try clear hb2); (try clear hk); (try clear hi); (try clear ho0); have hcv22 := own_string (P := Try.prog) Try.underlying22 Try.underlying5 Try.underlying9 (Kd.own_of_R HO714.out); have hcw22 := fun n_ : Nat => own_string (P := Try.prog) Try.underlying22 Try.underlying5 Try.underlying9 (Kd.own_of_R (Kd.R_drewN HO714.out n_)); obtain ⟨Ao23, co23, eo23⟩ := Kd.R_slice HO714.out; subst eo23; have q24 : ((t712.length : Int) : Int) ≤ ((l0.length : Int) : Int) := of_decide_eq_true (by first | (with_reducible assumption) | assumption); obtain ⟨i024, hi024, _, hsz24, _⟩ := info_parts info5; have hroom24 : l0.length ≤ c0 := HC0.out; have hC24 : Kd.C (Kd.int .u8) _ A0 l0.length l0 := HR0.out; have hcut24 := cut_to (P := Try.prog) 22 5 .i64 Try.underlying22 hi024 A0 l0.length c0 (t712.length : Int) (of_decide_eq_true (by first | (with_reducible assumption) | assumption)) q24 hroom24; have hr24 := Kd.C_take (m := ((t712.length : Int) : Int).toNat) hC24 (by omega); have hy24 : y715.length = ((t712.length : Int) : Int).toNat := (by rw [Ny715.out, List.length_take]; omega); rw [← Ny715.out] at hr24; rw [← hy24] at hcut24; have HR718 := Aside0.mk hr24; have HC718 := Aside0.mk (show y715.length ≤ c0 from by omega); clear hr24 hC24 hroom24 hi024 hsz24; have KY24 := Aside0.mk hy24; clear hy24; replace q24 := eq_true q24; have hcv25 := Kd.C_string (P := Try.prog) (A := A0) (c := c0) Try.underlying22 Try.underlying5 Try.underlying9 (Kd.C_below HR718.out HB.out); have hcw25 := fun n_ : Nat => Kd.C_string (P := Try.prog) (A := A0) (c := c0) Try.underlying22 Try.underlying5 Try.underlying9 (Kd.C_drewN ((Kd.C_below HR718.out HB.out)) n_); have q26 : ((ji16) : Int) ≤ ((t703.length : Int) : Int) := of_decide_eq_true (by first | (with_reducible assumption) | assumption); obtain ⟨i026, hi026, _, hsz26, _⟩ := info_parts info5; have hroom26 : t703.length ≤ co20 := (Kd.V_reads' HO_8.out).2.1; have hC26 : Kd.F (Kd.int .u8) _ _ Ao20 t703.length t703 := (Kd.V_at (base := w.heap.size) HO_8.out).2.2; have q026 : (0 : Int) ≤ ((ji16) : Int) := of_decide_eq_true (by first | (with_reducible assumption) | assumption); have hcut26 := cut_from (P := Try.prog) 22 5 .i64 Try.underlying22 hi026 1 hsz26 Ao20 t703.length co20 (ji16) q026 q26; have hr26 := Kd.F_cut (m := ((ji16) : Int).toNat) (c := co20) hC26 (by omega) hroom26; obtain ⟨A26, hA26⟩ : ∃ A1, A1 = (if co20 = ((ji16) : Int).toNat then Ao20 else (Ao20 : Option Addr).map (·.add (((ji16) : Int).toNat * 1))) := ⟨_, rfl⟩; obtain ⟨c26, hc26⟩ : ∃ c1, c1 = co20 - ((ji16) : Int).toNat := ⟨_, rfl⟩; have hy26 : y719.length = t703.length - ((ji16) : Int).toNat := (by rw [Ny719.out, List.length_drop] <;> omega); rw [show (t703).drop ((ji16) : Int).toNat = y719 from Ny719.out.symm] at hr26; replace hr26 : Kd.F (Kd.int .u8) _ _ A26 y719.length y719 := (by rw [hA26]; exact hr26); rw [← hy26, ← hA26, ← hc26] at hcut26; have HO723 := Aside0.mk (show Kd.V (Kd.int .u8) 5 _ w.heap.size _ (.slice A26 y719.length c26) y719 from Kd.V_mk (by rw [hy26, hc26]; exact Nat.sub_le_sub_right hroom26 _) hr26); have HC723 := Aside0.mk (show y719.length ≤ c26 from by rw [hy26, hc26]; exact Nat.sub_le_sub_right hroom26 _); clear hr26 hC26 hroom26 hi026 hsz26 hc26; have KY26 := Aside0.mk hy26; have KA26 := Aside0.mk hA26; clear hy26 hA26; replace q26 := eq_true q26)); try go_wp2_with (first | (go_at_call 53; (refine (sawyerref02_PutFrame.calls kj3 _ _ ([] : List Int) _ _ y707 t712 _ ?side1 ?side2 ?side3 ?side4 A12.out).mono ?_); (case side1 => exact Kd.C_nil _ _); (case side2 => exact Nat.le_refl _); (case side3 => repeat (first | exact (Kd.V_reads' HO711.out).2.2 | (with_reducible refine Kd.C_alloc ?_ _) | (with_reducible refine Kd.C_drewN ?_ _) | (with_reducible refine Kd.C_drew ?_))); (case side4 => exact (Kd.V_reads' HO711.out).2.1); rintro e w21 ⟨v713, rfl, ho0, hb⟩; have n0_ := Aside0.mk (Kd.V_elder' (by (with_reducible repeat (first | apply Kd.V_alloc | apply Kd.V_drewN | apply Kd.V_drew)); exact HO_8.out) (Kd.R_base ho0) hb); have n1_ := Aside0.mk (Kd.V_elder' (by (with_reducible repeat (first | apply Kd.V_alloc | apply Kd.V_drewN | apply Kd.V_drew)); exact HO711.out) (Kd.R_base ho0) hb); have n2_ := Aside0.mk (Kd.R_lower (Kd.R_newM (M := fun k_ => (w.heap.size ≤ k_)) ho0 (below_size (by repeat (first | (with_reducible first | exact HB.out | apply below_alloc | apply pw_below_drewN | apply below_drew1) | exact HB.out))) (fun k_ h_ => h_)) (below_size (by repeat (first | (with_reducible first | exact HB.out | apply below_alloc | apply pw_below_drewN | apply below_drew1) | exact HB.out)))); have n3_ := Aside0.mk (below_step (by repeat (first | (with_reducible first | exact HB.out | apply below_alloc | apply pw_below_drewN | apply below_drew1) | exact HB.out)) hb); clear HO_8; clear HO711; clear HB; have HO_8 := n0_; have HO711 := n1_; have HO714 := n2_; have HB := n3_; clear n0_ n1_ n2_ n3_; (try clear hb); (try clear hb2); (try clear hk); (try clear hi); (try clear ho0); have hcv22 := own_string (P := Try.prog) Try.underlying22 Try.underlying5 Try.underlying9 (Kd.own_of_R HO714.out); have hcw22 := fun n_ : Nat => own_string (P := Try.prog) Try.underlying22 Try.underlying5 Try.underlying9 (Kd.own_of_R (Kd.R_drewN HO714.out n_)); obtain ⟨Ao23, co23, eo23⟩ := Kd.R_slice HO714.out; subst eo23; have q24 : ((t712.length : Int) : Int) ≤ ((l0.length : Int) : Int) := of_decide_eq_true (by first | (with_reducible assumption) | assumption); obtain ⟨i024, hi024, _, hsz24, _⟩ := info_parts info5; have hroom24 : l0.length ≤ c0 := HC0.out; have hC24 : Kd.C (Kd.int .u8) _ A0 l0.length l0 := HR0.out; have hcut24 := cut_to (P := Try.prog) 22 5 .i64 Try.underlying22 hi024 A0 l0.length c0 (t712.length : Int) (of_decide_eq_true (by first | (with_reducible assumption) | assumption)) q24 hroom24; have hr24 := Kd.C_take (m := ((t712.length : Int) : Int).toNat) hC24 (by omega); have hy24 : y715.length = ((t712.length : Int) : Int).toNat := (by rw [Ny715.out, List.length_take]; omega); rw [← Ny715.out] at hr24; rw [← hy24] at hcut24; have HR718 := Aside0.mk hr24; have HC718 := Aside0.mk (show y715.length ≤ c0 from by omega); clear hr24 hC24 hroom24 hi024 hsz24; have KY24 := Aside0.mk hy24; clear hy24; replace q24 := eq_true q24; have hcv25 := Kd.C_string (P := Try.prog) (A := A0) (c := c0) Try.underlying22 Try.underlying5 Try.underlying9 (Kd.C_below HR718.out HB.out); have hcw25 := fun n_ : Nat => Kd.C_string (P := Try.prog) (A := A0) (c := c0) Try.underlying22 Try.underlying5 Try.underlying9 (Kd.C_drewN ((Kd.C_below HR718.out HB.out)) n_); have q26 : ((ji16) : Int) ≤ ((t703.length : Int) : Int) := of_decide_eq_true (by first | (with_reducible assumption) | assumption); obtain ⟨i026, hi026, _, hsz26, _⟩ := info_parts info5; have hroom26 : t703.length ≤ co20 := (Kd.V_reads' HO_8.out).2.1; have hC26 : Kd.F (Kd.int .u8) _ _ Ao20 t703.length t703 := (Kd.V_at (base := w.heap.size) HO_8.out).2.2; have q026 : (0 : Int) ≤ ((ji16) : Int) := of_decide_eq_true (by first | (with_reducible assumption) | assumption); have hcut26 := cut_from (P := Try.prog) 22 5 .i64 Try.underlying22 hi026 1 hsz26 Ao20 t703.length co20 (ji16) q026 q26; have hr26 := Kd.F_cut (m := ((ji16) : Int).toNat) (c := co20) hC26 (by omega) hroom26; obtain ⟨A26, hA26⟩ : ∃ A1, A1 = (if co20 = ((ji16) : Int).toNat then Ao20 else (Ao20 : Option Addr).map (·.add (((ji16) : Int).toNat * 1))) := ⟨_, rfl⟩; obtain ⟨c26, hc26⟩ : ∃ c1, c1 = co20 - ((ji16) : Int).toNat := ⟨_, rfl⟩; have hy26 : y719.length = t703.length - ((ji16) : Int).toNat := (by rw [Ny719.out, List.length_drop] <;> omega); rw [show (t703).drop ((ji16) : Int).toNat = y719 from Ny719.out.symm] at hr26; replace hr26 : Kd.F (Kd.int .u8) _ _ A26 y719.length y719 := (by rw [hA26]; exact hr26); rw [← hy26, ← hA26, ← hc26] at hcut26; have HO723 := Aside0.mk (show Kd.V (Kd.int .u8) 5 _ w.heap.size _ (.slice A26 y719.length c26) y719 from Kd.V_mk (by rw [hy26, hc26]; exact Nat.sub_le_sub_right hroom26 _) hr26); have HC723 := Aside0.mk (show y719.length ≤ c26 from by rw [hy26, hc26]; exact Nat.sub_le_sub_right hroom26 _); clear hr26 hC26 hroom26 hi026 hsz26 hc26; have KY26 := Aside0.mk hy26; have KA26 := Aside0.mk hA26; clear hy26 hA26; replace q26 := eq_true q26)))
                    go_ret3
                    exact ⟨_, _, by first | rfl | (simp [errW_none, errW_some] <;> rfl) | (simp only [← hji16]; first | rfl | (simp [errW_none, errW_some] <;> rfl)) | (simp [*, errW_none, errW_some] <;> rfl), by (with_reducible repeat (first | apply Kd.V_alloc | apply Kd.V_drewN | apply Kd.V_drew)); exact Kd.V_mono HO711.out (fun _ hk => hk.1), by (with_reducible repeat (first | apply Kd.V_alloc | apply Kd.V_drewN | apply Kd.V_drew)); exact Kd.V_mono HO723.out (fun _ hk => hk.1), by repeat (first | (with_reducible first | exact HB.out | apply below_alloc | apply pw_below_drewN | apply below_drew1) | exact HB.out)⟩
                  · rw [if_neg c17] at H
                    exact absurd H (by simp)
                · rw [if_neg c15] at H
                  have c15b0 : ((strOfNums t712).toList == (strOfNums y715).toList) = false := beq_eq_false_iff_ne.mpr c15
                  have c15b1 : ((strOfNums t712).toList != (strOfNums y715).toList) = true := bne_iff_ne.mpr c15
                  simp only [Option.some.injEq, Prod.mk.injEq] at H
                  obtain ⟨rfl, rfl, rfl⟩ := H
                  obtain ⟨Ao28, co28, eo28⟩ := Kd.V_slice HO_8.out
                  subst eo28
                  have q27 : ((wrap64 (4 + t702)) : Int) ≤ ((t703.length : Int) : Int) := of_decide_eq_true (by first | (with_reducible assumption) | assumption)
                  obtain ⟨i027, hi027, _, hsz27, _⟩ := info_parts info5
                  have hroom27 : t703.length ≤ co28 := (Kd.V_reads' HO_8.out).2.1
                  have hC27 : Kd.F (Kd.int .u8) _ _ Ao28 t703.length t703 := (Kd.V_at (base := w.heap.size) HO_8.out).2.2
                  have ql27 : (4 : Int) ≤ ((wrap64 (4 + t702)) : Int) := of_decide_eq_true (by first | (with_reducible assumption) | assumption)
                  have hcut27 := cut_mid (P := Try.prog) 22 5 .i64 .i64 Try.underlying22 hi027 1 hsz27 Ao28 t703.length co28 4 (wrap64 (4 + t702)) (by omega) ql27 q27 hroom27
                  have hr27 := Kd.F_mid (lo := (4 : Int).toNat) (hi := ((wrap64 (4 + t702)) : Int).toNat) (c := co28) hC27 (by omega) (by omega) hroom27
                  obtain ⟨A27, hA27⟩ : ∃ A1, A1 = (if co28 = (4 : Int).toNat then Ao28 else (Ao28 : Option Addr).map (·.add ((4 : Int).toNat * 1))) := ⟨_, rfl⟩
                  obtain ⟨c27, hc27⟩ : ∃ c1, c1 = co28 - (4 : Int).toNat := ⟨_, rfl⟩
                  have hy27 : y707.length = ((wrap64 (4 + t702)) : Int).toNat - (4 : Int).toNat := (by rw [Ny707.out, List.length_drop, List.length_take] <;> omega)
                  rw [show ((t703).take ((wrap64 (4 + t702)) : Int).toNat).drop (4 : Int).toNat = y707 from Ny707.out.symm] at hr27
                  replace hr27 : Kd.F (Kd.int .u8) _ _ A27 y707.length y707 := (by rw [hA27]; exact hr27)
                  rw [← hy27, ← hA27, ← hc27] at hcut27
                  have HO711 := Aside0.mk (show Kd.V (Kd.int .u8) 5 _ w.heap.size _ (.slice A27 y707.length c27) y707 from Kd.V_mk (by rw [hy27, hc27]; exact Nat.sub_le_sub_right (Nat.le_trans (by omega) hroom27) _) hr27)
                  have HC711 := Aside0.mk (show y707.length ≤ c27 from by rw [hy27, hc27]; exact Nat.sub_le_sub_right (Nat.le_trans (by omega) hroom27) _)
                  clear hr27 hC27 hroom27 hi027 hsz27 hc27
                  have KY27 := Aside0.mk hy27
                  have KA27 := Aside0.mk hA27
                  clear hy27 hA27
                  replace q27 := eq_true q27
                  go_wp2_with (first | (go_at_call 53; (refine (sawyerref02_PutFrame.calls kj3 _ _ ([] : List Int) _ _ y707 t712 _ ?side1 ?side2 ?side3 ?side4 A12.out).mono ?_); (case side1 => exact Kd.C_nil _ _); (case side2 => exact Nat.le_refl _); (case side3 => repeat (first | exact (Kd.V_reads' HO711.out).2.2 | (with_reducible refine Kd.C_alloc ?_ _) | (with_reducible refine Kd.C_drewN ?_ _) | (with_reducible refine Kd.C_drew ?_))); (case side4 => exact (Kd.V_reads' HO711.out).2.1); rintro e w29 ⟨v713, rfl, ho0, hb⟩; have n0_ := Aside0.mk (Kd.V_elder' (by (with_reducible repeat (first | apply Kd.V_alloc | apply Kd.V_drewN | apply Kd.V_drew)); exact HO_8.out) (Kd.R_base ho0) hb); have n1_ := Aside0.mk (Kd.V_elder' (by (with_reducible repeat (first | apply Kd.V_alloc | apply Kd.V_drewN | apply Kd.V_drew)); exact HO711.out) (Kd.R_base ho0) hb); have n2_ := Aside0.mk (Kd.R_lower (Kd.R_newM (M := fun k_ => (w.heap.size ≤ k_)) ho0 (below_size (by repeat (first | (with_reducible first | exact HB.out | apply below_alloc | apply pw_below_drewN | apply below_drew1) | exact HB.out))) (fun k_ h_ => h_)) (below_size (by repeat (first | (with_reducible first | exact HB.out | apply below_alloc | apply pw_below_drewN | apply below_drew1) | exact HB.out)))); have n3_ := Aside0.mk (below_step (by repeat (first | (with_reducible first | exact HB.out | apply below_alloc | apply pw_below_drewN | apply below_drew1) | exact HB.out)) hb); clear HO_8; clear HO711; clear HB; have HO_8 := n0_; have HO711 := n1_; have HO714 := n2_; have HB := n3_; clear n0_ n1_ n2_ n3_; (try clear hb); (try clear hb2); (try clear hk); (try clear hi); (try clear ho0); have hcv30 := own_string (P := Try.prog) Try.underlying22 Try.underlying5 Try.underlying9 (Kd.own_of_R HO714.out); have hcw30 := fun n_ : Nat => own_string (P := Try.prog) Try.underlying22 Try.underlying5 Try.underlying9 (Kd.own_of_R (Kd.R_drewN HO714.out n_)); obtain ⟨Ao31, co31, eo31⟩ := Kd.R_slice HO714.out; subst eo31; have q32 : ((t712.length : Int) : Int) ≤ ((l0.length : Int) : Int) := of_decide_eq_true (by first | (with_reducible assumption) | assumption); obtain ⟨i032, hi032, _, hsz32, _⟩ := info_parts info5; have hroom32 : l0.length ≤ c0 := HC0.out; have hC32 : Kd.C (Kd.int .u8) _ A0 l0.length l0 := HR0.out; have hcut32 := cut_to (P := Try.prog) 22 5 .i64 Try.underlying22 hi032 A0 l0.length c0 (t712.length : Int) (of_decide_eq_true (by first | (with_reducible assumption) | assumption)) q32 hroom32; have hr32 := Kd.C_take (m := ((t712.length : Int) : Int).toNat) hC32 (by omega); have hy32 : y715.length = ((t712.length : Int) : Int).toNat := (by rw [Ny715.out, List.length_take]; omega); rw [← Ny715.out] at hr32; rw [← hy32] at hcut32; have HR718 := Aside0.mk hr32; have HC718 := Aside0.mk (show y715.length ≤ c0 from by omega); clear hr32 hC32 hroom32 hi032 hsz32; have KY32 := Aside0.mk hy32; clear hy32; replace q32 := eq_true q32; have hcv33 := Kd.C_string (P := Try.prog) (A := A0) (c := c0) Try.underlying22 Try.underlying5 Try.underlying9 (Kd.C_below HR718.out HB.out); have hcw33 := fun n_ : Nat => Kd.C_string (P := Try.prog) (A := A0) (c := c0) Try.underlying22 Try.underlying5 Try.underlying9 (Kd.C_drewN ((Kd.C_below HR718.out HB.out)) n_)))
                  repeat (go_quiet (first | (go_at_call 53; (refine (sawyerref02_PutFrame.calls kj3 _ _ ([] : List Int) _ _ y707 t712 _ ?side1 ?side2 ?side3 ?side4 A12.out).mono ?_); (case side1 => exact Kd.C_nil _ _); (case side2 => exact Nat.le_refl _); (case side3 => repeat (first | exact (Kd.V_reads' HO711.out).2.2 | (with_reducible refine Kd.C_alloc ?_ _) | (with_reducible refine Kd.C_drewN ?_ _) | (with_reducible refine Kd.C_drew ?_))); (case side4 => exact (Kd.V_reads' HO711.out).2.1); rintro e w29 ⟨v713, rfl, ho0, hb⟩; have n0_ := Aside0.mk (Kd.V_elder' (by (with_reducible repeat (first | apply Kd.V_alloc | apply Kd.V_drewN | apply Kd.V_drew)); exact HO_8.out) (Kd.R_base ho0) hb); have n1_ := Aside0.mk (Kd.V_elder' (by (with_reducible repeat (first | apply Kd.V_alloc | apply Kd.V_drewN | apply Kd.V_drew)); exact HO711.out) (Kd.R_base ho0) hb); have n2_ := Aside0.mk (Kd.R_lower (Kd.R_newM (M := fun k_ => (w.heap.size ≤ k_)) ho0 (below_size (by repeat (first | (with_reducible first | exact HB.out | apply below_alloc | apply pw_below_drewN | apply below_drew1) | exact HB.out))) (fun k_ h_ => h_)) (below_size (by repeat (first | (with_reducible first | exact HB.out | apply below_alloc | apply pw_below_drewN | apply below_drew1) | exact HB.out)))); have n3_ := Aside0.mk (below_step (by repeat (first | (with_reducible first | exact HB.out | apply below_alloc | apply pw_below_drewN | apply below_drew1) | exact HB.out)) hb); clear HO_8; clear HO711; clear HB; have HO_8 := n0_; have HO711 := n1_; have HO714 := n2_; have HB := n3_; clear n0_ n1_ n2_ n3_; (try clear hb); (try clear hb2); (try clear hk); (try clear hi); (try clear ho0); have hcv30 := own_string (P := Try.prog) Try.underlying22 Try.underlying5 Try.underlying9 (Kd.own_of_R HO714.out); have hcw30 := fun n_ : Nat => own_string (P := Try.prog) Try.underlying22 Try.underlying5 Try.underlying9 (Kd.own_of_R (Kd.R_drewN HO714.out n_)); obtain ⟨Ao31, co31, eo31⟩ := Kd.R_slice HO714.out; subst eo31; have q32 : ((t712.length : Int) : Int) ≤ ((l0.length : Int) : Int) := of_decide_eq_true (by first | (with_reducible assumption) | assumption); obtain ⟨i032, hi032, _, hsz32, _⟩ := info_parts info5; have hroom32 : l0.length ≤ c0 := HC0.out; have hC32 : Kd.C (Kd.int .u8) _ A0 l0.length l0 := HR0.out; have hcut32 := cut_to (P := Try.prog) 22 5 .i64 Try.underlying22 hi032 A0 l0.length c0 (t712.length : Int) (of_decide_eq_true (by first | (with_reducible assumption) | assumption)) q32 hroom32; have hr32 := Kd.C_take (m := ((t712.length : Int) : Int).toNat) hC32 (by omega); have hy32 : y715.length = ((t712.length : Int) : Int).toNat := (by rw [Ny715.out, List.length_take]; omega); rw [← Ny715.out] at hr32; rw [← hy32] at hcut32; have HR718 := Aside0.mk hr32; have HC718 := Aside0.mk (show y715.length ≤ c0 from by omega); clear hr32 hC32 hroom32 hi032 hsz32; have KY32 := Aside0.mk hy32; clear hy32; replace q32 := eq_true q32; have hcv33 := Kd.C_string (P := Try.prog) (A := A0) (c := c0) Try.underlying22 Try.underlying5 Try.underlying9 (Kd.C_below HR718.out HB.out); have hcw33 := fun n_ : Nat => Kd.C_string (P := Try.prog) (A := A0) (c := c0) Try.underlying22 Try.underlying5 Try.underlying9 (Kd.C_drewN ((Kd.C_below HR718.out HB.out)) n_))); try go_wp2_with (first | (go_at_call 53; (refine (sawyerref02_PutFrame.calls kj3 _ _ ([] : List Int) _ _ y707 t712 _ ?side1 ?side2 ?side3 ?side4 A12.out).mono ?_); (case side1 => exact Kd.C_nil _ _); (case side2 => exact Nat.le_refl _); (case side3 => repeat (first | exact (Kd.V_reads' HO711.out).2.2 | (with_reducible refine Kd.C_alloc ?_ _) | (with_reducible refine Kd.C_drewN ?_ _) | (with_reducible refine Kd.C_drew ?_))); (case side4 => exact (Kd.V_reads' HO711.out).2.1); rintro e w29 ⟨v713, rfl, ho0, hb⟩; have n0_ := Aside0.mk (Kd.V_elder' (by (with_reducible repeat (first | apply Kd.V_alloc | apply Kd.V_drewN | apply Kd.V_drew)); exact HO_8.out) (Kd.R_base ho0) hb); have n1_ := Aside0.mk (Kd.V_elder' (by (with_reducible repeat (first | apply Kd.V_alloc | apply Kd.V_drewN | apply Kd.V_drew)); exact HO711.out) (Kd.R_base ho0) hb); have n2_ := Aside0.mk (Kd.R_lower (Kd.R_newM (M := fun k_ => (w.heap.size ≤ k_)) ho0 (below_size (by repeat (first | (with_reducible first | exact HB.out | apply below_alloc | apply pw_below_drewN | apply below_drew1) | exact HB.out))) (fun k_ h_ => h_)) (below_size (by repeat (first | (with_reducible first | exact HB.out | apply below_alloc | apply pw_below_drewN | apply below_drew1) | exact HB.out)))); have n3_ := Aside0.mk (below_step (by repeat (first | (with_reducible first | exact HB.out | apply below_alloc | apply pw_below_drewN | apply below_drew1) | exact HB.out)) hb); clear HO_8; clear HO711; clear HB; have HO_8 := n0_; have HO711 := n1_; have HO714 := n2_; have HB := n3_; clear n0_ n1_ n2_ n3_; (try clear hb); (try clear hb2); (try clear hk); (try clear hi); (try clear ho0); have hcv30 := own_string (P := Try.prog) Try.underlying22 Try.underlying5 Try.underlying9 (Kd.own_of_R HO714.out); have hcw30 := fun n_ : Nat => own_string (P := Try.prog) Try.underlying22 Try.underlying5 Try.underlying9 (Kd.own_of_R (Kd.R_drewN HO714.out n_)); obtain ⟨Ao31, co31, eo31⟩ := Kd.R_slice HO714.out; subst eo31; have q32 : ((t712.length : Int) : Int) ≤ ((l0.length : Int) : Int) := of_decide_eq_true (by first | (with_reducible assumption) | assumption); obtain ⟨i032, hi032, _, hsz32, _⟩ := info_parts info5; have hroom32 : l0.length ≤ c0 := HC0.out; have hC32 : Kd.C (Kd.int .u8) _ A0 l0.length l0 := HR0.out; have hcut32 := cut_to (P := Try.prog) 22 5 .i64 Try.underlying22 hi032 A0 l0.length c0 (t712.length : Int) (of_decide_eq_true (by first | (with_reducible assumption) | assumption)) q32 hroom32; have hr32 := Kd.C_take (m := ((t712.length : Int) : Int).toNat) hC32 (by omega); have hy32 : y715.length = ((t712.length : Int) : Int).toNat := (by rw [Ny715.out, List.length_take]; omega); rw [← Ny715.out] at hr32; rw [← hy32] at hcut32; have HR718 := Aside0.mk hr32; have HC718 := Aside0.mk (show y715.length ≤ c0 from by omega); clear hr32 hC32 hroom32 hi032 hsz32; have KY32 := Aside0.mk hy32; clear hy32; replace q32 := eq_true q32; have hcv33 := Kd.C_string (P := Try.prog) (A := A0) (c := c0) Try.underlying22 Try.underlying5 Try.underlying9 (Kd.C_below HR718.out HB.out); have hcw33 := fun n_ : Nat => Kd.C_string (P := Try.prog) (A := A0) (c := c0) Try.underlying22 Try.underlying5 Try.underlying9 (Kd.C_drewN ((Kd.C_below HR718.out HB.out)) n_))))
                  go_ret3
                  exact ⟨_, _, by first | rfl | (simp [errW_none, errW_some] <;> rfl) | (simp [*, errW_none, errW_some] <;> rfl), (by exact Kd.V_nil _ _ _ _ _), (by exact Kd.V_nil _ _ _ _ _), by repeat (first | (with_reducible first | exact HB.out | apply below_alloc | apply pw_below_drewN | apply below_drew1) | exact HB.out)⟩
              · rw [if_neg c14] at H
                exact absurd H (by simp)
            · rw [if_neg c13] at H
              exact absurd H (by simp)
          · rw [if_neg c11] at H
            exact absurd H (by simp)
        · rw [if_neg c10] at H
          exact absurd H (by simp)

end Go.Proofs.Ytmkojpkajlpokaa.Px
