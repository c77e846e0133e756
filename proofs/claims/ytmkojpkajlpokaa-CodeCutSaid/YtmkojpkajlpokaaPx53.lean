-- Printed by a program of ours (px) out of the translation; Lean checks it.
import Derived.Test.YtmkojpkajlpokaaPx0
import Derived.Test.YtmkojpkajlpokaaPx4
import Derived.Test.YtmkojpkajlpokaaPx7
import Derived.Test.YtmkojpkajlpokaaPx8
import Derived.Test.YtmkojpkajlpokaaPx28
import Derived.Test.YtmkojpkajlpokaaPx30
namespace Go.Proofs.Ytmkojpkajlpokaa.Px
open Go.RowKit Go.Proofs.YtmkojpkajlpokaaW.PrintWords Go.Proofs.YtmkojpkajlpokaaW.PrintLast Go.Proofs.YtmkojpkajlpokaaW.PrintMore
attribute [local go_sem] max2_int min2_int max_two min_two max_three min_three max_four min_four   -- for this text's walks alone
set_option linter.unusedVariables false
set_option linter.unusedSimpArgs false
set_option linter.unnecessarySimpa false

/-! ### code_TakeFrame: function 50 -/
def code_TakeFrame.j0 : Nat → List Int → Int → List Int → Bool → Option (List Int × List Int × Int)
  | 0, _, _, _, _ => none
  | k + 1, x0, x7, x8, x31 => if x31 = true then (some (([] : List Int), ([] : List Int), 2)) else (if 0 ≤ (wrap64 ((x0.length : Int) - (x8.length : Int))) then (if (wrap64 ((x0.length : Int) - (x8.length : Int))) ≤ (x0.length : Int) then (if 4 ≤ (wrap64 (4 + x7)) then (if (wrap64 (4 + x7)) ≤ (x8.length : Int) then ((some ((x8.take ((wrap64 (4 + x7)) : Int).toNat).drop 4 : List Int)).bind fun y661 => (if 4 ≤ (x8.length : Int) then ((code_number.f k (x8.take 4)).bind fun t669 => ((code_laid_byte.f (x0.take ((wrap64 ((x0.length : Int) - (x8.length : Int))) : Int).toNat) y661).bind fun t670 => ((code_Crc.f k t670).bind fun t673 => (if t669 = (IntKind.u64.wrap (t673)) then ((slices_Clone_byte_byte.f y661).bind fun t674 => (if 0 ≤ (wrap64 (4 + x7)) then (some (t674, (x8.drop ((wrap64 (4 + x7)) : Int).toNat), 0)) else (none))) else (some (([] : List Int), ([] : List Int), 2)))))) else (none))) else (none)) else (none)) else (none)) else (none))
def code_TakeFrame.f (k : Nat) (l0 : List Int) (a1 : Int) : Option (List Int × List Int × Int) := (code_TakeNum.f k l0).bind fun bt652 => (if bt652.2.2 = 0 then (if bt652.1 > a1 then (code_TakeFrame.j0 k l0 bt652.1 bt652.2.1 true) else (code_TakeFrame.j0 k l0 bt652.1 bt652.2.1 (decide (bt652.1 > (wrap64 ((bt652.2.1.length : Int) - 4)))))) else (code_TakeFrame.j0 k l0 bt652.1 bt652.2.1 true))
theorem code_TakeFrame.mono_l : ∀ k, (∀ y0 y1 y2 y3, LeO (code_TakeFrame.j0 k y0 y1 y2 y3) (code_TakeFrame.j0 (k + 1) y0 y1 y2 y3))
  | 0 => fun _ _ _ _ r h => by simp [code_TakeFrame.j0] at h
  | k + 1 => by
    have ih0 := code_TakeFrame.mono_l k
    · intro y0 y1 y2 y3
      unfold code_TakeFrame.j0
      repeat' first
      | (with_reducible exact ih0 _ _ _ _)
      | (with_reducible exact code_Crc.mono _ _)
      | (with_reducible exact code_TakeNum.mono _ _)
      | (with_reducible exact code_number.mono _ _)
      | (with_reducible exact LeO.refl _)
      | (with_reducible exact LeO.none _)
      | (with_reducible refine LeO.ite ?_ ?_)
      | (with_reducible refine LeO.bind ?_ (fun _ => ?_))
      | exact ih0 _ _ _ _
      | exact code_Crc.mono _ _
      | exact code_TakeNum.mono _ _
      | exact code_number.mono _ _
      | exact LeO.none _
      | refine LeO.ite ?_ ?_
      | refine LeO.bind ?_ (fun _ => ?_)
theorem code_TakeFrame.mono : ∀ a0 a1 k, LeO (code_TakeFrame.f k a0 a1) (code_TakeFrame.f (k + 1) a0 a1) := by
  intro a0 a1 k
  have ih0 := code_TakeFrame.mono_l k
  unfold code_TakeFrame.f
  repeat' first
      | (with_reducible exact ih0 _ _ _ _)
      | (with_reducible exact code_Crc.mono _ _)
      | (with_reducible exact code_TakeNum.mono _ _)
      | (with_reducible exact code_number.mono _ _)
      | (with_reducible exact LeO.refl _)
      | (with_reducible exact LeO.none _)
      | (with_reducible refine LeO.ite ?_ ?_)
      | (with_reducible refine LeO.bind ?_ (fun _ => ?_))
      | exact ih0 _ _ _ _
      | exact code_Crc.mono _ _
      | exact code_TakeNum.mono _ _
      | exact code_number.mono _ _
      | exact LeO.none _
      | refine LeO.ite ?_ ?_
      | refine LeO.bind ?_ (fun _ => ?_)
def code_TakeFrame.T4 : Bool × List (List Nat × List Nat) := (true, [([], []), ([], []), ([1], [1]), ([], []), ([3], [3]), ([2, 4], [2, 4]), ([0, 5], [0, 5]), ([], []), ([], []), ([8], [8]), ([7, 9], [7, 9]), ([6, 0, 1, 2, 3, 4, 5, 6], [6]), ([10, 11, 0, 1, 2, 3, 4, 5, 6, 7, 8, 9, 10, 11], [10])])
def code_TakeFrame.B4 : List Nat := [0, 0, 2, 0, 8, 30, 63, 0, 0, 256, 896, 127, 4095]
theorem code_TakeFrame.tab4 : rtab .any (opsOf Try.f50 4) = code_TakeFrame.T4 := by kernel_rfl
theorem code_TakeFrame.bits4 : waitsOk code_TakeFrame.T4.2 code_TakeFrame.B4 = true := by kernel_rfl
def code_TakeFrame.T7 : Bool × List (List Nat × List Nat) := (true, [([], []), ([0], [0]), ([], []), ([], []), ([3], [3]), ([2, 4], [2, 4]), ([1, 1, 0, 1], [1]), ([5, 6, 0, 1, 2, 3, 4, 5, 6], [5]), ([7, 0, 1, 2, 3, 4, 5, 6, 7], [])])
def code_TakeFrame.B7 : List Nat := [0, 1, 0, 0, 8, 28, 3, 127, 255]
theorem code_TakeFrame.tab7 : rtab .any (opsOf Try.f50 7) = code_TakeFrame.T7 := by kernel_rfl
theorem code_TakeFrame.bits7 : waitsOk code_TakeFrame.T7.2 code_TakeFrame.B7 = true := by kernel_rfl
set_option maxHeartbeats 8000000 in
set_option maxRecDepth 100000 in
theorem code_TakeFrame.calls (k : Nat) (A0 : Option Addr) (c0 : Nat) (l0 : List Int) (a1 : Int) (r1 : List Int) (r2 : List Int) (r3 : Int) (w : World) (hr0 : Kd.C (Kd.int .u8) w A0 l0.length l0) (hc0 : l0.length ≤ c0) (h : code_TakeFrame.f k l0 a1 = some (r1, r2, r3)) :
    Calls Try.prog 50 #[.slice A0 l0.length c0, .int .i64 a1] w fun e w' => ∃ v0_ v1_ : Value, e = .returned (.tuple #[v0_, v1_, .int .i64 r3]) ∧ Kd.R (Kd.int .u8) 5 w' w.heap.size (fun k_ => some k_ ≠ (v1_ : Value).ownBlock) v0_ r1 ∧ Kd.Q (Kd.int .u8) 5 w' w.heap.size (fun k_ => some k_ ≠ (v0_ : Value).ownBlock) v1_ r2 ∧ Below w.heap.size w w' := by
  have HR0 := Aside0.mk hr0
  have HC0 := Aside0.mk hc0
  clear hr0 hc0
  have HB := Aside0.mk (Below.refl w.heap.size w)
  have H : ((code_TakeNum.f k l0).bind fun bt652 => (if bt652.2.2 = 0 then (if bt652.1 > a1 then (code_TakeFrame.j0 k l0 bt652.1 bt652.2.1 true) else (code_TakeFrame.j0 k l0 bt652.1 bt652.2.1 (decide (bt652.1 > (wrap64 ((bt652.2.1.length : Int) - 4)))))) else (code_TakeFrame.j0 k l0 bt652.1 bt652.2.1 true))) = some (r1, r2, r3) := h
  clear h
  replace H := Option.bind_eq_some_iff.mp H
  obtain ⟨⟨t652, t653, t654⟩, A30, H⟩ := H
  replace H : (if t654 = 0 then (if t652 > a1 then (code_TakeFrame.j0 k l0 t652 t653 true) else (code_TakeFrame.j0 k l0 t652 t653 (decide (t652 > (wrap64 ((t653.length : Int) - 4)))))) else (code_TakeFrame.j0 k l0 t652 t653 true)) = some (r1, r2, r3) := H
  have A3 := Aside0.mk A30
  clear A30
  have HC4 := Aside0.mk H
  clear H
  go_enter Try.func50, Try.ntmps50
  go_upto_region 2 with (first | ((with_reducible refine gate_callee (f := 36) rfl ?_); refine goesL_ (some 14) rfl rfl Try.func36 (by kernel_rfl) rfl #[.slice A0 l0.length c0] rfl (by (try simp only [List.map_toArray, List.map_cons, List.map_nil]); first | done | rfl | (simp only [List.length_drop, List.length_take]; rfl)) ?_; (with_reducible refine (code_TakeNum.calls k _ _ l0 t652 t653 t654 _ ?side1 ?side2 A3.out).mono ?_); (case side1 => repeat (first | exact HR0.out | (with_reducible refine Kd.C_alloc ?_ _) | (with_reducible refine Kd.C_drewN ?_ _) | (with_reducible refine Kd.C_drew ?_))); (case side2 => exact HC0.out); rintro e w5 ⟨v655, rfl, ho0, hb⟩; refine ⟨_, rfl, ?_⟩; have n0_ := Aside0.mk (Kd.R_lower ho0 (below_size (by repeat (first | (with_reducible first | exact HB.out | apply below_alloc | apply pw_below_drewN | apply below_drew1) | exact HB.out)))); have n1_ := Aside0.mk (below_step (by repeat (first | (with_reducible first | exact HB.out | apply below_alloc | apply pw_below_drewN | apply below_drew1) | exact HB.out)) hb); clear HB; have HO656 := n0_; have HB := n1_; clear n0_ n1_; (try clear hb); (try clear hb2); (try clear hk); (try clear hi); (try clear ho0)))
  (try simp only [Act.put, List.setIfInBounds_toArray, List.set_cons_zero, List.set_cons_succ])
  go_cut [31] (fun v31 wc => ∃ (kq : Nat) (x31_3 : Bool), v31 = .bool x31_3 ∧ Aside0 (code_TakeFrame.j0 kq l0 t652 t653 x31_3 = some (r1, r2, r3)) ∧ Aside0 (kq ≤ k) ∧ Aside0 (Kd.R (Kd.int .u8) 5 wc w.heap.size (fun _ => True) v655 t653) ∧ Aside0 (Below w.heap.size w wc))
  case first =>
    have H := HC4.out
    clear HC4
    by_cases c6 : t654 = 0
    · rw [if_pos c6] at H
      have c6b0 : (t654 == 0) = true := beq_iff_eq.mpr c6
      have c6b1 : (t654 != 0) = false := bne_eq_false_iff_eq.mpr c6
      clear c6
      (first | rw [c6b0] | (simp only [i64_w, i32_w]; rw [c6b0]) | skip)
      by_cases c7 : t652 > a1
      · rw [if_pos c7] at H
        have c7b0 : decide (a1 < t652) = true := decide_eq_true c7
        clear c7
        have H' := Aside0.mk H
        clear H
        go_wp2
        go_meet
        case rel => exact ⟨_, (true), (by first | rfl | (simp; done) | (simp [*]; done)), H', ⟨by first | omega | exact Nat.le_refl _⟩, ⟨by (with_reducible repeat (first | apply Kd.R_alloc | apply Kd.R_drewN | apply Kd.R_drew)); exact HO656.out⟩, ⟨by repeat (first | (with_reducible first | exact HB.out | apply below_alloc | apply pw_below_drewN | apply below_drew1) | exact HB.out)⟩⟩
      · rw [if_neg c7] at H
        have c7b0 : decide (a1 < t652) = false := decide_eq_false c7
        clear c7
        have H' := Aside0.mk H
        clear H
        obtain ⟨Ao8, co8, eo8⟩ := Kd.R_slice HO656.out
        subst eo8
        go_wp2
        go_meet
        case rel => exact ⟨_, (decide (t652 > (wrap64 ((t653.length : Int) - 4)))), (by first | rfl | (simp; done) | (simp [*]; done)), H', ⟨by first | omega | exact Nat.le_refl _⟩, ⟨by (with_reducible repeat (first | apply Kd.R_alloc | apply Kd.R_drewN | apply Kd.R_drew)); exact HO656.out⟩, ⟨by repeat (first | (with_reducible first | exact HB.out | apply below_alloc | apply pw_below_drewN | apply below_drew1) | exact HB.out)⟩⟩
    · rw [if_neg c6] at H
      have c6b0 : (t654 == 0) = false := beq_eq_false_iff_ne.mpr c6
      have c6b1 : (t654 != 0) = true := bne_iff_ne.mpr c6
      (first | rw [c6b0] | (simp only [i64_w, i32_w]; rw [c6b0]) | skip)
      have H' := Aside0.mk H
      clear H
      go_wp2
      go_meet
      case rel => exact ⟨_, (true), (by first | rfl | (simp; done) | (simp [*]; done)), H', ⟨by first | omega | exact Nat.le_refl _⟩, ⟨by (with_reducible repeat (first | apply Kd.R_alloc | apply Kd.R_drewN | apply Kd.R_drew)); exact HO656.out⟩, ⟨by repeat (first | (with_reducible first | exact HB.out | apply below_alloc | apply pw_below_drewN | apply below_drew1) | exact HB.out)⟩⟩
  case rest =>
    clear HC4
    try clear p2
    try clear c3
    try clear c5
    try clear c6
    try clear c6b0
    try clear c6b1
    try clear p6
    try clear c7
    try clear c7b0
    obtain ⟨kq, x31_3, rfl, HA, HJ3, HO_8, HB⟩ := hcut
    cases kq with
    | zero => exact absurd HA.out (by simp [code_TakeFrame.j0])
    | succ kj3 =>
      have H := HA.out
      clear HA
      simp only [code_TakeFrame.j0] at H
      by_cases c9 : x31_3 = true
      · subst c9
        have H1 : (some (([] : List Int), ([] : List Int), 2)) = some (r1, r2, r3) := by rw [if_pos rfl] at H; exact H
        clear H
        have H := H1
        clear H1
        simp only [Option.some.injEq, Prod.mk.injEq] at H
        obtain ⟨rfl, rfl, rfl⟩ := H
        go_wp2
        go_ret3
        exact ⟨_, _, by first | rfl | (simp [errW_none, errW_some] <;> rfl) | (simp [*, errW_none, errW_some] <;> rfl), by first | exact Kd.R_nil _ _ _ _ _ | exact Kd.N_nil _ _ _ _ _ | exact Kd.V_nil _ _ _ _ _ | exact Kd.Q_nil _ _ _ _ _ | exact Kd.S_nil _ _ _ _ _, Kd.Q_of_R (by first | exact Kd.R_nil _ _ _ _ _ | exact Kd.N_nil _ _ _ _ _ | exact Kd.V_nil _ _ _ _ _ | exact Kd.Q_nil _ _ _ _ _ | exact Kd.S_nil _ _ _ _ _), by repeat (first | (with_reducible first | exact HB.out | apply below_alloc | apply pw_below_drewN | apply below_drew1) | exact HB.out)⟩
      · replace c9 := Bool.eq_false_iff.mpr c9
        subst c9
        have H1 : (if 0 ≤ (wrap64 ((l0.length : Int) - (t653.length : Int))) then (if (wrap64 ((l0.length : Int) - (t653.length : Int))) ≤ (l0.length : Int) then (if 4 ≤ (wrap64 (4 + t652)) then (if (wrap64 (4 + t652)) ≤ (t653.length : Int) then ((some ((t653.take ((wrap64 (4 + t652)) : Int).toNat).drop 4 : List Int)).bind fun y661 => (if 4 ≤ (t653.length : Int) then ((code_number.f kj3 (t653.take 4)).bind fun t669 => ((code_laid_byte.f (l0.take ((wrap64 ((l0.length : Int) - (t653.length : Int))) : Int).toNat) y661).bind fun t670 => ((code_Crc.f kj3 t670).bind fun t673 => (if t669 = (IntKind.u64.wrap (t673)) then ((slices_Clone_byte_byte.f y661).bind fun t674 => (if 0 ≤ (wrap64 (4 + t652)) then (some (t674, (t653.drop ((wrap64 (4 + t652)) : Int).toNat), 0)) else (none))) else (some (([] : List Int), ([] : List Int), 2)))))) else (none))) else (none)) else (none)) else (none)) else (none)) = some (r1, r2, r3) := by rw [if_neg (show ¬ (false = true) by decide)] at H; exact H
        clear H
        have H := H1
        clear H1
        obtain ⟨ji10, hji10⟩ : ∃ j_ : Int, (wrap64 ((l0.length : Int) - (t653.length : Int))) = j_ := ⟨_, rfl⟩
        replace H : (if 0 ≤ (ji10) then (if (ji10) ≤ (l0.length : Int) then (if 4 ≤ (wrap64 (4 + t652)) then (if (wrap64 (4 + t652)) ≤ (t653.length : Int) then ((some ((t653.take ((wrap64 (4 + t652)) : Int).toNat).drop 4 : List Int)).bind fun y661 => (if 4 ≤ (t653.length : Int) then ((code_number.f kj3 (t653.take 4)).bind fun t669 => ((code_laid_byte.f (l0.take ((ji10) : Int).toNat) y661).bind fun t670 => ((code_Crc.f kj3 t670).bind fun t673 => (if t669 = (IntKind.u64.wrap (t673)) then ((slices_Clone_byte_byte.f y661).bind fun t674 => (if 0 ≤ (wrap64 (4 + t652)) then (some (t674, (t653.drop ((wrap64 (4 + t652)) : Int).toNat), 0)) else (none))) else (some (([] : List Int), ([] : List Int), 2)))))) else (none))) else (none)) else (none)) else (none)) else (none)) = some (r1, r2, r3) := by first | (rw [hji10] at H; exact H) | (simp only [hji10] at H ⊢; exact H)
        have hji10w : (IntKind.i64.wrap ((l0.length : Int) - (t653.length : Int))) = ji10 := (i64_w _).trans hji10
        by_cases c11 : 0 ≤ (ji10)
        · rw [if_pos c11] at H
          have c11b0 := eq_true c11
          have c11b1 : decide (0 ≤ (ji10)) = true := decide_eq_true c11
          clear c11
          by_cases c12 : (ji10) ≤ (l0.length : Int)
          · rw [if_pos c12] at H
            have c12b0 := eq_true c12
            have c12b1 : decide ((ji10) ≤ (l0.length : Int)) = true := decide_eq_true c12
            clear c12
            obtain ⟨y657, hy657⟩ : ∃ y_ : List Int, y_ = (l0.take ((ji10) : Int).toNat) := ⟨_, rfl⟩
            replace H : (if 4 ≤ (wrap64 (4 + t652)) then (if (wrap64 (4 + t652)) ≤ (t653.length : Int) then ((some ((t653.take ((wrap64 (4 + t652)) : Int).toNat).drop 4 : List Int)).bind fun y661 => (if 4 ≤ (t653.length : Int) then ((code_number.f kj3 (t653.take 4)).bind fun t669 => ((code_laid_byte.f y657 y661).bind fun t670 => ((code_Crc.f kj3 t670).bind fun t673 => (if t669 = (IntKind.u64.wrap (t673)) then ((slices_Clone_byte_byte.f y661).bind fun t674 => (if 0 ≤ (wrap64 (4 + t652)) then (some (t674, (t653.drop ((wrap64 (4 + t652)) : Int).toNat), 0)) else (none))) else (some (([] : List Int), ([] : List Int), 2)))))) else (none))) else (none)) else (none)) = some (r1, r2, r3) := by first | (rw [hy657]; with_reducible exact H) | (have H2_ := (Option.bind_some _ _).symm.trans H; rw [hy657]; with_reducible exact H2_) | (have H2_ := (Option.bind_some _ _).symm.trans H; with_reducible exact H2_) | with_reducible exact H | (rw [hy657]; exact H) | exact H
            have Ny657 := Aside0.mk hy657
            clear hy657
            by_cases c13 : 4 ≤ (wrap64 (4 + t652))
            · rw [if_pos c13] at H
              have c13b0 := eq_true c13
              have c13b1 : decide (4 ≤ (wrap64 (4 + t652))) = true := decide_eq_true c13
              by_cases c14 : (wrap64 (4 + t652)) ≤ (t653.length : Int)
              · rw [if_pos c14] at H
                have c14b0 := eq_true c14
                have c14b1 : decide ((wrap64 (4 + t652)) ≤ (t653.length : Int)) = true := decide_eq_true c14
                obtain ⟨y661, hy661⟩ : ∃ y_ : List Int, y_ = ((t653.take ((wrap64 (4 + t652)) : Int).toNat).drop 4) := ⟨_, rfl⟩
                replace H : (if 4 ≤ (t653.length : Int) then ((code_number.f kj3 (t653.take 4)).bind fun t669 => ((code_laid_byte.f y657 y661).bind fun t670 => ((code_Crc.f kj3 t670).bind fun t673 => (if t669 = (IntKind.u64.wrap (t673)) then ((slices_Clone_byte_byte.f y661).bind fun t674 => (if 0 ≤ (wrap64 (4 + t652)) then (some (t674, (t653.drop ((wrap64 (4 + t652)) : Int).toNat), 0)) else (none))) else (some (([] : List Int), ([] : List Int), 2)))))) else (none)) = some (r1, r2, r3) := by first | (rw [hy661]; with_reducible exact H) | (have H2_ := (Option.bind_some _ _).symm.trans H; rw [hy661]; with_reducible exact H2_) | (have H2_ := (Option.bind_some _ _).symm.trans H; with_reducible exact H2_) | with_reducible exact H | (rw [hy661]; exact H) | exact H
                have Ny661 := Aside0.mk hy661
                clear hy661
                by_cases c15 : 4 ≤ (t653.length : Int)
                · rw [if_pos c15] at H
                  have c15b0 := eq_true c15
                  have c15b1 : decide (4 ≤ (t653.length : Int)) = true := decide_eq_true c15
                  clear c15
                  obtain ⟨y665, hy665⟩ : ∃ y_ : List Int, y_ = (t653.take 4) := ⟨_, rfl⟩
                  replace H : ((code_number.f kj3 y665).bind fun t669 => ((code_laid_byte.f y657 y661).bind fun t670 => ((code_Crc.f kj3 t670).bind fun t673 => (if t669 = (IntKind.u64.wrap (t673)) then ((slices_Clone_byte_byte.f y661).bind fun t674 => (if 0 ≤ (wrap64 (4 + t652)) then (some (t674, (t653.drop ((wrap64 (4 + t652)) : Int).toNat), 0)) else (none))) else (some (([] : List Int), ([] : List Int), 2)))))) = some (r1, r2, r3) := by first | (rw [hy665]; with_reducible exact H) | (have H2_ := (Option.bind_some _ _).symm.trans H; rw [hy665]; with_reducible exact H2_) | (have H2_ := (Option.bind_some _ _).symm.trans H; with_reducible exact H2_) | with_reducible exact H | (rw [hy665]; exact H) | exact H
                  have Ny665 := Aside0.mk hy665
                  clear hy665
                  replace H := Option.bind_eq_some_iff.mp H
                  obtain ⟨t669, A160, H⟩ := H
                  replace H : ((code_laid_byte.f y657 y661).bind fun t670 => ((code_Crc.f kj3 t670).bind fun t673 => (if t669 = (IntKind.u64.wrap (t673)) then ((slices_Clone_byte_byte.f y661).bind fun t674 => (if 0 ≤ (wrap64 (4 + t652)) then (some (t674, (t653.drop ((wrap64 (4 + t652)) : Int).toNat), 0)) else (none))) else (some (([] : List Int), ([] : List Int), 2))))) = some (r1, r2, r3) := H
                  have A16 := Aside0.mk A160
                  clear A160
                  replace H := Option.bind_eq_some_iff.mp H
                  obtain ⟨t670, A170, H⟩ := H
                  replace H : ((code_Crc.f kj3 t670).bind fun t673 => (if t669 = (IntKind.u64.wrap (t673)) then ((slices_Clone_byte_byte.f y661).bind fun t674 => (if 0 ≤ (wrap64 (4 + t652)) then (some (t674, (t653.drop ((wrap64 (4 + t652)) : Int).toNat), 0)) else (none))) else (some (([] : List Int), ([] : List Int), 2)))) = some (r1, r2, r3) := H
                  have A17 := Aside0.mk A170
                  clear A170
                  replace H := Option.bind_eq_some_iff.mp H
                  obtain ⟨t673, A180, H⟩ := H
                  replace H : (if t669 = (IntKind.u64.wrap (t673)) then ((slices_Clone_byte_byte.f y661).bind fun t674 => (if 0 ≤ (wrap64 (4 + t652)) then (some (t674, (t653.drop ((wrap64 (4 + t652)) : Int).toNat), 0)) else (none))) else (some (([] : List Int), ([] : List Int), 2))) = some (r1, r2, r3) := H
                  have A18 := Aside0.mk A180
                  clear A180
                  by_cases c19 : t669 = (IntKind.u64.wrap (t673))
                  · rw [if_pos c19] at H
                    have c19b0 : (t669 == (IntKind.u64.wrap (t673))) = true := beq_iff_eq.mpr c19
                    have c19b1 : (t669 != (IntKind.u64.wrap (t673))) = false := bne_eq_false_iff_eq.mpr c19
                    clear c19
                    replace H := Option.bind_eq_some_iff.mp H
                    obtain ⟨t674, A200, H⟩ := H
                    replace H : (if 0 ≤ (wrap64 (4 + t652)) then (some (t674, (t653.drop ((wrap64 (4 + t652)) : Int).toNat), 0)) else (none)) = some (r1, r2, r3) := H
                    have A20 := Aside0.mk A200
                    clear A200
                    obtain ⟨ji21, hji21⟩ : ∃ j_ : Int, (wrap64 (4 + t652)) = j_ := ⟨_, rfl⟩
                    replace H : (if 0 ≤ (ji21) then (some (t674, (t653.drop ((ji21) : Int).toNat), 0)) else (none)) = some (r1, r2, r3) := by first | (rw [hji21] at H; exact H) | (simp only [hji21] at H ⊢; exact H)
                    (try rw [hji21] at c13b0)
                    (try rw [hji21] at c13b1)
                    (try rw [hji21] at c13)
                    (try rw [hji21] at c14b0)
                    (try rw [hji21] at c14b1)
                    (try rw [hji21] at c14)
                    (try rw [hji21] at Ny661)
                    (try rw [hji21] at A16)
                    (try rw [hji21] at A17)
                    (try rw [hji21] at A18)
                    (try rw [hji21] at A20)
                    have hji21w : (IntKind.i64.wrap (4 + t652)) = ji21 := (i64_w _).trans hji21
                    by_cases c22 : 0 ≤ (ji21)
                    · rw [if_pos c22] at H
                      have c22b0 := eq_true c22
                      have c22b1 : decide (0 ≤ (ji21)) = true := decide_eq_true c22
                      clear c22
                      have c23b0 := eq_true (of_decide_eq_true (by first | (with_reducible assumption) | assumption) : (ji21) ≤ (t653.length : Int))
                      obtain ⟨y677, hy677⟩ : ∃ y_ : List Int, y_ = (t653.drop ((ji21) : Int).toNat) := ⟨_, rfl⟩
                      replace H : (some (t674, y677, 0)) = some (r1, r2, r3) := by first | (rw [hy677]; with_reducible exact H) | (have H2_ := (Option.bind_some _ _).symm.trans H; rw [hy677]; with_reducible exact H2_) | (have H2_ := (Option.bind_some _ _).symm.trans H; with_reducible exact H2_) | with_reducible exact H | (rw [hy677]; exact H) | exact H
                      have Ny677 := Aside0.mk hy677
                      clear hy677
                      simp only [Option.some.injEq, Prod.mk.injEq] at H
                      obtain ⟨rfl, rfl, rfl⟩ := H
                      try go_wp2
                      have n0_ := Aside0.mk (Kd.R_drew HO_8.out)
                      have n1_ := Aside0.mk (below_drew1 HB.out)
                      clear HO_8
                      clear HB
                      have HO_8 := n0_
                      have HB := n1_
                      clear n0_ n1_
                      obtain ⟨Ao25, co25, eo25⟩ := Kd.R_slice HO_8.out
                      (first | subst eo25 | (injection eo25 with f1_ f2_ f3_; have f4_ := f1_.symm; have f5_ := f3_.symm; clear f1_ f2_ f3_; subst f4_; subst f5_))
                      have q26 : ((ji10) : Int) ≤ ((l0.length : Int) : Int) := of_decide_eq_true (by first | (with_reducible assumption) | assumption)
                      obtain ⟨i026, hi026, _, hsz26, _⟩ := info_parts info5
                      have hroom26 : l0.length ≤ c0 := HC0.out
                      have hC26 : Kd.C (Kd.int .u8) _ A0 l0.length l0 := HR0.out
                      have hcut26 := cut_to (P := Try.prog) 22 5 .i64 Try.underlying22 hi026 A0 l0.length c0 (ji10) (of_decide_eq_true (by first | (with_reducible assumption) | assumption)) q26 hroom26
                      have hr26 := Kd.C_take (m := ((ji10) : Int).toNat) hC26 (by omega)
                      have hy26 : y657.length = ((ji10) : Int).toNat := (by rw [Ny657.out, List.length_take]; omega)
                      rw [← Ny657.out] at hr26
                      rw [← hy26] at hcut26
                      have HR660 := Aside0.mk hr26
                      have HC660 := Aside0.mk (show y657.length ≤ c0 from by omega)
                      clear hr26 hC26 hroom26 hi026 hsz26
                      have KY26 := Aside0.mk hy26
                      clear hy26
                      replace q26 := eq_true q26
                      have q27 : ((ji21) : Int) ≤ ((t653.length : Int) : Int) := of_decide_eq_true (by first | (with_reducible assumption) | assumption)
                      obtain ⟨i027, hi027, _, hsz27, _⟩ := info_parts info5
                      have hroom27 : t653.length ≤ co25 := (Kd.R_reads' HO_8.out).2.1
                      have hC27 : Kd.C (Kd.int .u8) _ Ao25 t653.length t653 := (Kd.R_reads' HO_8.out).2.2
                      have ql27 : (4 : Int) ≤ ((ji21) : Int) := of_decide_eq_true (by first | (with_reducible assumption) | assumption)
                      have hcut27 := cut_mid (P := Try.prog) 22 5 .i64 .i64 Try.underlying22 hi027 1 hsz27 Ao25 t653.length co25 4 (ji21) (by omega) ql27 q27 hroom27
                      have hr27 := Kd.C_mid (lo := (4 : Int).toNat) (hi := ((ji21) : Int).toNat) (c := co25) hC27 (by omega) (by omega) hroom27
                      obtain ⟨A27, hA27⟩ : ∃ A1, A1 = (if co25 = (4 : Int).toNat then Ao25 else (Ao25 : Option Addr).map (·.add ((4 : Int).toNat * 1))) := ⟨_, rfl⟩
                      obtain ⟨c27, hc27⟩ : ∃ c1, c1 = co25 - (4 : Int).toNat := ⟨_, rfl⟩
                      have hy27 : y661.length = ((ji21) : Int).toNat - (4 : Int).toNat := (by rw [Ny661.out, List.length_drop, List.length_take] <;> omega)
                      rw [show ((t653).take ((ji21) : Int).toNat).drop (4 : Int).toNat = y661 from Ny661.out.symm] at hr27
                      replace hr27 : Kd.C (Kd.int .u8) _ A27 y661.length y661 := (by rw [hA27]; exact hr27)
                      rw [← hy27, ← hA27, ← hc27] at hcut27
                      have HR664 := Aside0.mk hr27
                      have HC664 := Aside0.mk (show y661.length ≤ c27 from by rw [hy27, hc27]; exact Nat.sub_le_sub_right (Nat.le_trans (by omega) hroom27) _)
                      clear hr27 hC27 hroom27 hi027 hsz27 hc27
                      have KY27 := Aside0.mk hy27
                      have KA27 := Aside0.mk hA27
                      clear hy27 hA27
                      have KL27 := Aside0.mk (show ((ji21) : Int).toNat ≤ t653.length from by omega)
                      have KM27 := Aside0.mk (show 4 ≤ ((ji21) : Int).toNat from by omega)
                      replace q27 := eq_true q27
                      refine start_ (n := 13) (S := fun w' => True) (ds := []) #[false, false, false, false, false, false, false, false, false, false, false, false, false] (by kernel_rfl) rfl rfl trivial (fun hHeld => ?_); refine with_tabW code_TakeFrame.tab4 code_TakeFrame.bits4 (fun HT_ HW_ => ?_)
                      generalize wc.drew = w24 at HO_8 HB HR660 HR664 hHeld ⊢
                      refine pure_ (i := 0) (N := some 32) (v := ?_) (a' := ?_) #[true, false, false, false, false, false, false, false, false, false, false, false, false] rfl rfl (any_of HT_.out (by kernel_rfl)) (fun _ _ _ h => h) (Or.inl ⟨by rfl, ?_⟩) ?_ ?_
                      rotate_left
                      · intro w'
                        go_simp
                        with_reducible rfl
                      rotate_left
                      · simp only [Act.put, List.setIfInBounds_toArray, List.set_cons_zero, List.set_cons_succ, i64_w, i32_w]
                        rfl
                      refine pure_ (i := 1) (N := some 33) (v := ?_) (a' := ?_) #[true, true, false, false, false, false, false, false, false, false, false, false, false] rfl rfl (any_of HT_.out (by kernel_rfl)) (fun _ _ _ h => h) (Or.inl ⟨by rfl, ?_⟩) ?_ ?_
                      rotate_left
                      · intro w'
                        go_simp
                        with_reducible rfl
                      rotate_left
                      · simp only [Act.put, List.setIfInBounds_toArray, List.set_cons_zero, List.set_cons_succ, i64_w, i32_w]
                        rfl
                      refine pure_ (i := 2) (N := some 34) (v := ?_) (a' := ?_) #[true, true, true, false, false, false, false, false, false, false, false, false, false] rfl rfl (any_of HT_.out (by kernel_rfl)) (fun _ _ _ h => h) (Or.inl ⟨by rfl, ?_⟩) ?_ ?_
                      rotate_left
                      · intro w'
                        go_simp
                        with_reducible rfl
                      rotate_left
                      · simp only [Act.put, List.setIfInBounds_toArray, List.set_cons_zero, List.set_cons_succ, i64_w, i32_w]
                        rfl
                      refine pure_ (i := 3) (N := some 35) (v := ?_) (a' := ?_) #[true, true, true, true, false, false, false, false, false, false, false, false, false] rfl rfl (any_of HT_.out (by kernel_rfl)) (fun _ _ _ h => h) (Or.inl ⟨by rfl, ?_⟩) ?_ ?_
                      rotate_left
                      · intro w'
                        go_simp
                        with_reducible rfl
                      rotate_left
                      · simp only [Act.put, List.setIfInBounds_toArray, List.set_cons_zero, List.set_cons_succ, i64_w, i32_w]
                        rfl
                      refine pure_ (i := 4) (N := some 36) (v := ?_) (a' := ?_) #[true, true, true, true, true, false, false, false, false, false, false, false, false] rfl rfl (any_of HT_.out (by kernel_rfl)) (fun _ _ _ h => h) (Or.inl ⟨by rfl, ?_⟩) ?_ ?_
                      rotate_left
                      · intro w'
                        go_simp
                        with_reducible rfl
                      rotate_left
                      · simp only [Act.put, List.setIfInBounds_toArray, List.set_cons_zero, List.set_cons_succ, i64_w, i32_w]
                        rfl
                      refine pure_ (i := 5) (N := some 37) (v := ?_) (a' := ?_) #[true, true, true, true, true, true, false, false, false, false, false, false, false] rfl rfl (any_of HT_.out (by kernel_rfl)) (fun _ _ _ h => h) (Or.inl ⟨by rfl, ?_⟩) ?_ ?_
                      rotate_left
                      · intro w'
                        go_simp
                        with_reducible rfl
                      rotate_left
                      · simp only [Act.put, List.setIfInBounds_toArray, List.set_cons_zero, List.set_cons_succ, i64_w, i32_w]
                        rfl
                      refine pure_ (i := 6) (N := some 38) (v := ?_) (a' := ?_) #[true, true, true, true, true, true, true, false, false, false, false, false, false] rfl rfl (any_of HT_.out (by kernel_rfl)) (fun _ _ _ h => h) (Or.inl ⟨by rfl, ?_⟩) ?_ ?_
                      rotate_left
                      · intro w'
                        go_simp
                        with_reducible rfl
                      rotate_left
                      · simp only [Act.put, List.setIfInBounds_toArray, List.set_cons_zero, List.set_cons_succ, i64_w, i32_w]
                        rfl
                      refine pure_ (i := 7) (N := some 39) (v := ?_) (a' := ?_) #[true, true, true, true, true, true, true, true, false, false, false, false, false] rfl rfl (any_of HT_.out (by kernel_rfl)) (fun _ _ _ h => h) (Or.inl ⟨by rfl, ?_⟩) ?_ ?_
                      rotate_left
                      · intro w'
                        go_simp
                        with_reducible rfl
                      rotate_left
                      · simp only [Act.put, List.setIfInBounds_toArray, List.set_cons_zero, List.set_cons_succ, i64_w, i32_w]
                        rfl
                      refine pure_ (i := 8) (N := some 40) (v := ?_) (a' := ?_) #[true, true, true, true, true, true, true, true, true, false, false, false, false] rfl rfl (any_of HT_.out (by kernel_rfl)) (fun _ _ _ h => h) (Or.inl ⟨by rfl, ?_⟩) ?_ ?_
                      rotate_left
                      · intro w'
                        go_simp
                        with_reducible rfl
                      rotate_left
                      · simp only [Act.put, List.setIfInBounds_toArray, List.set_cons_zero, List.set_cons_succ, i64_w, i32_w]
                        rfl
                      refine pure_ (i := 9) (N := some 41) (v := ?_) (a' := ?_) #[true, true, true, true, true, true, true, true, true, true, false, false, false] rfl rfl (any_of HT_.out (by kernel_rfl)) (fun _ _ _ h => h) (Or.inl ⟨by rfl, ?_⟩) ?_ ?_
                      rotate_left
                      · intro w'
                        go_simp
                        with_reducible rfl
                      rotate_left
                      · simp only [Act.put, List.setIfInBounds_toArray, List.set_cons_zero, List.set_cons_succ, i64_w, i32_w]
                        rfl
                      refine pure_ (i := 10) (N := some 42) (v := ?_) (a' := ?_) #[true, true, true, true, true, true, true, true, true, true, true, false, false] rfl rfl (any_of HT_.out (by kernel_rfl)) (fun _ _ _ h => h) (Or.inl ⟨by rfl, ?_⟩) ?_ ?_
                      rotate_left
                      · intro w'
                        go_simp
                        with_reducible rfl
                      rotate_left
                      · simp only [Act.put, List.setIfInBounds_toArray, List.set_cons_zero, List.set_cons_succ, i64_w, i32_w]
                        rfl
                      refine pure_ (i := 11) (N := some 10) (v := ?_) (a' := ?_) #[true, true, true, true, true, true, true, true, true, true, true, true, false] rfl rfl (any_of HT_.out (by kernel_rfl)) (fun _ _ _ h => h) (Or.inl ⟨by rfl, ?_⟩) ?_ ?_
                      rotate_left
                      · intro w'
                        go_simp
                        with_reducible rfl
                      rotate_left
                      · simp only [Act.put, List.setIfInBounds_toArray, List.set_cons_zero, List.set_cons_succ, i64_w, i32_w]
                        rfl
                      refine pure_ (i := 12) (N := some 11) (v := ?_) (a' := ?_) #[true, true, true, true, true, true, true, true, true, true, true, true, true] rfl rfl (any_of HT_.out (by kernel_rfl)) (fun _ _ _ h => h) (Or.inl ⟨by rfl, ?_⟩) ?_ ?_
                      rotate_left
                      · intro w'
                        go_simp
                        with_reducible rfl
                      rotate_left
                      · simp only [Act.put, List.setIfInBounds_toArray, List.set_cons_zero, List.set_cons_succ, i64_w, i32_w]
                        rfl
                      refine done_ (done_of HT_.out (by kernel_rfl)) ?_
                      have q28 : (4 : Int) ≤ ((t653.length : Int) : Int) := of_decide_eq_true (by first | (with_reducible assumption) | assumption)
                      obtain ⟨i028, hi028, _, hsz28, _⟩ := info_parts info5
                      have hroom28 : t653.length ≤ co25 := (Kd.R_reads' HO_8.out).2.1
                      have hC28 : Kd.C (Kd.int .u8) _ Ao25 t653.length t653 := (Kd.R_reads' HO_8.out).2.2
                      have hcut28 := cut_to (P := Try.prog) 22 5 .i64 Try.underlying22 hi028 Ao25 t653.length co25 4 (by omega) q28 hroom28
                      have hr28 := Kd.C_take (m := 4) hC28 (by omega)
                      have hy28 : y665.length = (4 : Int).toNat := (by rw [Ny665.out, List.length_take]; omega)
                      rw [← Ny665.out] at hr28
                      rw [← hy28] at hcut28
                      have HR668 := Aside0.mk hr28
                      have HC668 := Aside0.mk (show y665.length ≤ co25 from by omega)
                      clear hr28 hC28 hroom28 hi028 hsz28
                      have KY28 := Aside0.mk hy28
                      clear hy28
                      have KL28 := Aside0.mk (show 4 ≤ t653.length from by omega)
                      replace q28 := eq_true q28
                      try go_wp2_with (first | ((with_reducible refine gate_callee (f := 59) rfl ?_); refine goesL_ (some 45) rfl rfl Try.func59 (by kernel_rfl) rfl #[.slice Ao25 y665.length co25] rfl (by (try simp only [List.map_toArray, List.map_cons, List.map_nil]); first | done | rfl | (simp only [List.length_drop, List.length_take]; rfl)) ?_; (with_reducible refine (code_number.calls kj3 _ _ y665 t669 _ ?side1 ?side2 A16.out).mono ?_); (case side1 => repeat (first | exact (by repeat (first | (with_reducible exact HR668.out) | (with_reducible refine Kd.C_alloc ?_ _) | (with_reducible refine Kd.C_drewN ?_ _) | (with_reducible refine Kd.C_drew ?_) | exact HR668.out)) | (with_reducible refine Kd.C_alloc ?_ _) | (with_reducible refine Kd.C_drewN ?_ _) | (with_reducible refine Kd.C_drew ?_))); (case side2 => exact HC668.out); rintro e w' ⟨rfl, ⟨nd, rfl⟩⟩; refine ⟨_, rfl, ?_⟩) | ((with_reducible refine gate_callee (f := 55) rfl ?_); refine goesL_ (some 48) rfl rfl Try.func55 (by kernel_rfl) rfl #[.slice A0 y657.length c0, .slice A27 y661.length c27] rfl (by (try simp only [List.map_toArray, List.map_cons, List.map_nil]); first | done | rfl | (simp only [List.length_drop, List.length_take]; rfl)) ?_; (with_reducible refine (code_laid_byte.calls _ _ y657 _ _ y661 t670 _ ?side1 ?side2 ?side3 ?side4 A17.out).mono ?_); (case side1 => repeat (first | exact (Kd.C_below HR660.out (by repeat (first | (with_reducible first | exact HB.out | apply below_alloc | apply pw_below_drewN | apply below_drew1) | exact HB.out))) | (with_reducible refine Kd.C_alloc ?_ _) | (with_reducible refine Kd.C_drewN ?_ _) | (with_reducible refine Kd.C_drew ?_))); (case side2 => exact HC660.out); (case side3 => repeat (first | exact (by repeat (first | (with_reducible exact HR664.out) | (with_reducible refine Kd.C_alloc ?_ _) | (with_reducible refine Kd.C_drewN ?_ _) | (with_reducible refine Kd.C_drew ?_) | exact HR664.out)) | (with_reducible refine Kd.C_alloc ?_ _) | (with_reducible refine Kd.C_drewN ?_ _) | (with_reducible refine Kd.C_drew ?_))); (case side4 => exact HC664.out); rintro e w29 ⟨v671, rfl, ho0, hb⟩; refine ⟨_, rfl, ?_⟩; have n0_ := Aside0.mk (Kd.R_elder' (by (with_reducible repeat (first | apply Kd.R_alloc | apply Kd.R_drewN | apply Kd.R_drew)); exact HO_8.out) (Kd.R_base ho0) hb); have n1_ := Aside0.mk (Kd.R_lower (Kd.R_new' ho0 (Kd.R_lt (by (with_reducible repeat (first | apply Kd.R_alloc | apply Kd.R_drewN | apply Kd.R_drew)); exact HO_8.out))) (below_size (by repeat (first | (with_reducible first | exact HB.out | apply below_alloc | apply pw_below_drewN | apply below_drew1) | exact HB.out)))); have n2_ := Aside0.mk (Kd.C_below (by repeat (first | (with_reducible exact HR664.out) | (with_reducible refine Kd.C_alloc ?_ _) | (with_reducible refine Kd.C_drewN ?_ _) | (with_reducible refine Kd.C_drew ?_) | exact HR664.out)) hb); have n3_ := Aside0.mk (Kd.C_below (by repeat (first | (with_reducible exact HR668.out) | (with_reducible refine Kd.C_alloc ?_ _) | (with_reducible refine Kd.C_drewN ?_ _) | (with_reducible refine Kd.C_drew ?_) | exact HR668.out)) hb); have n4_ := Aside0.mk (below_step (by repeat (first | (with_reducible first | exact HB.out | apply below_alloc | apply pw_below_drewN | apply below_drew1) | exact HB.out)) hb); clear HO_8; clear HR664; clear HR668; clear HB; have HO_8 := n0_; have HO672 := n1_; have HR664 := n2_; have HR668 := n3_; have HB := n4_; clear n0_ n1_ n2_ n3_ n4_; (try clear hb); (try clear hb2); (try clear hk); (try clear hi); (try clear ho0); obtain ⟨Ao30, co30, eo30⟩ := Kd.R_slice HO672.out; subst eo30) | ((with_reducible refine gate_callee (f := 24) rfl ?_); refine goesL_ (some 49) rfl rfl Try.func24 (by kernel_rfl) rfl #[.slice Ao30 t670.length co30] rfl (by (try simp only [List.map_toArray, List.map_cons, List.map_nil]); first | done | rfl | (simp only [List.length_drop, List.length_take]; rfl)) ?_; (with_reducible refine (code_Crc.calls kj3 _ _ t670 t673 _ ?side1 ?side2 A18.out).mono ?_); (case side1 => repeat (first | exact (Kd.R_reads' HO672.out).2.2 | (with_reducible refine Kd.C_alloc ?_ _) | (with_reducible refine Kd.C_drewN ?_ _) | (with_reducible refine Kd.C_drew ?_))); (case side2 => exact (Kd.R_reads' HO672.out).2.1); rintro e w' ⟨rfl, ⟨nd, rfl⟩⟩; refine ⟨_, rfl, ?_⟩))
                      (try (rw [drewN_self w29]; generalize hq_ : World.drewN w29 _ = w29; have n0_ : Aside0 (Kd.R (Kd.int .u8) 5 w29 w.heap.size (fun k_ => some k_ ≠ (.slice Ao25 t653.length co25 : Value).ownBlock) (.slice Ao30 t670.length co30) t670) := ⟨by rw [← hq_]; exact (by (with_reducible repeat (first | apply Kd.R_alloc | apply Kd.R_drewN | apply Kd.R_drew)); exact Kd.R_mono HO672.out (fun _ hk => hk.2))⟩; have n1_ : Aside0 (Kd.R (Kd.int .u8) 5 w29 w.heap.size (fun k_ => some k_ ≠ (.slice Ao30 t670.length co30 : Value).ownBlock) (.slice Ao25 t653.length co25) t653) := ⟨by rw [← hq_]; exact (by (with_reducible repeat (first | apply Kd.R_alloc | apply Kd.R_drewN | apply Kd.R_drew)); exact Kd.R_mono HO_8.out (fun _ hk => hk.2))⟩; have n2_ : Aside0 (Below w.heap.size w w29) := ⟨by rw [← hq_]; exact (by repeat (first | (with_reducible first | exact HB.out | apply below_alloc | apply pw_below_drewN | apply below_drew1) | exact HB.out))⟩; have n3_ : Aside0 (Kd.C (Kd.int .u8) w29 A27 y661.length y661) := ⟨by rw [← hq_]; exact (by repeat (first | (with_reducible exact HR664.out) | (with_reducible refine Kd.C_alloc ?_ _) | (with_reducible refine Kd.C_drewN ?_ _) | (with_reducible refine Kd.C_drew ?_) | exact HR664.out))⟩; have n4_ : Aside0 (Kd.C (Kd.int .u8) w29 Ao25 y665.length y665) := ⟨by rw [← hq_]; exact (by repeat (first | (with_reducible exact HR668.out) | (with_reducible refine Kd.C_alloc ?_ _) | (with_reducible refine Kd.C_drewN ?_ _) | (with_reducible refine Kd.C_drew ?_) | exact HR668.out))⟩; clear HO672 HO_8 HB HR664 HR668 hq_; have HO672 := n0_; have HO_8 := n1_; have HB := n2_; have HR664 := n3_; have HR668 := n4_; clear n0_ n1_ n2_ n3_ n4_))
                      have n0_ := Aside0.mk (Kd.R_drew HO_8.out)
                      have n1_ := Aside0.mk (Kd.R_drew HO672.out)
                      have n2_ := Aside0.mk (Kd.C_drew HR664.out)
                      have n3_ := Aside0.mk (Kd.C_drew HR668.out)
                      have n4_ := Aside0.mk (below_drew1 HB.out)
                      clear HO_8
                      clear HO672
                      clear HR664
                      clear HR668
                      clear HB
                      have HO_8 := n0_
                      have HO672 := n1_
                      have HR664 := n2_
                      have HR668 := n3_
                      have HB := n4_
                      clear n0_ n1_ n2_ n3_ n4_
                      have n_ := Aside0.mk (Kd.R_mono (ok' := (fun k_ => some k_ ≠ (.slice Ao30 t670.length co30 : Value).ownBlock)) HO_8.out (fun k_ hk => by first | exact hk.2 | exact hk))
                      clear HO_8
                      have HO_8 := n_
                      clear n_
                      have q32 : ((ji21) : Int) ≤ ((t653.length : Int) : Int) := of_decide_eq_true (by first | (with_reducible assumption) | assumption)
                      obtain ⟨i032, hi032, _, hsz32, _⟩ := info_parts info5
                      have hcut32 := cut_from (P := Try.prog) 22 5 .i64 Try.underlying22 hi032 1 hsz32 Ao25 t653.length co25 (ji21) (of_decide_eq_true (by first | (with_reducible assumption) | assumption)) q32
                      have hr32 := Kd.Q_drop (k := ((ji21) : Int).toNat) (Kd.Q_of_R HO_8.out) (by omega)
                      obtain ⟨A32, hA32⟩ : ∃ A1, A1 = (if co25 = ((ji21) : Int).toNat then Ao25 else (Ao25 : Option Addr).map (·.add (((ji21) : Int).toNat * 1))) := ⟨_, rfl⟩
                      obtain ⟨c32, hc32⟩ : ∃ c1, c1 = co25 - ((ji21) : Int).toNat := ⟨_, rfl⟩
                      have hy32 : y677.length = t653.length - ((ji21) : Int).toNat := (by rw [Ny677.out, List.length_drop])
                      rw [← Ny677.out] at hr32
                      rw [← hy32, ← hA32, ← hc32] at hcut32
                      replace hr32 : Kd.Q (Kd.int .u8) 5 _ w.heap.size (fun k_ => some k_ ≠ (.slice Ao30 t670.length co30 : Value).ownBlock) (.slice A32 y677.length c32) y677 := (by rw [hA32, hc32, hy32]; exact hr32)
                      have HE32 : Aside0 ((Value.slice A32 y677.length c32).ownBlock = (.slice Ao25 t653.length co25 : Value).ownBlock) := ⟨by rw [hA32]; split <;> (cases (Ao25 : Option Addr) <;> first | rfl | (simp only [Option.map, Addr.add, Value.ownBlock]; split <;> rfl))⟩
                      clear hy32 hi032 hsz32 HO_8 hA32 hc32
                      have HO679 := Aside0.mk hr32
                      clear hr32
                      replace q32 := eq_true q32
                      have n_ := Aside0.mk (Kd.R_mono (ok' := fun k_ => (True ∧ some k_ ≠ (.slice A32 y677.length c32 : Value).ownBlock)) HO672.out (fun k_ hk => ⟨trivial, (by rw [HE32.out]; first | exact hk.2 | exact hk)⟩))
                      clear HO672
                      have HO672 := n_
                      clear n_
                      refine start_ (n := 9) (S := fun w' => True) (ds := []) #[false, false, false, false, false, false, false, false, false] (by kernel_rfl) rfl rfl trivial (fun hHeld => ?_); refine with_tabW code_TakeFrame.tab7 code_TakeFrame.bits7 (fun HT_ HW_ => ?_)
                      generalize w29.drew = w31 at HO672 HR664 HR668 HB HO679 hHeld ⊢
                      refine pure_ (i := 0) (N := some 52) (v := ?_) (a' := ?_) #[true, false, false, false, false, false, false, false, false] rfl rfl (any_of HT_.out (by kernel_rfl)) (fun _ _ _ h => h) (Or.inl ⟨by rfl, ?_⟩) ?_ ?_
                      rotate_left
                      · intro w'
                        go_simp
                        with_reducible rfl
                      rotate_left
                      · simp only [Act.put, List.setIfInBounds_toArray, List.set_cons_zero, List.set_cons_succ, i64_w, i32_w]
                        rfl
                      refine pure_ (i := 2) (N := some 54) (v := ?_) (a' := ?_) #[true, false, true, false, false, false, false, false, false] rfl rfl (any_of HT_.out (by kernel_rfl)) (fun _ _ _ h => h) (Or.inl ⟨by rfl, ?_⟩) ?_ ?_
                      rotate_left
                      · intro w'
                        go_simp
                        with_reducible rfl
                      rotate_left
                      · simp only [Act.put, List.setIfInBounds_toArray, List.set_cons_zero, List.set_cons_succ, i64_w, i32_w]
                        rfl
                      refine pure_ (i := 3) (N := some 55) (v := ?_) (a' := ?_) #[true, false, true, true, false, false, false, false, false] rfl rfl (any_of HT_.out (by kernel_rfl)) (fun _ _ _ h => h) (Or.inl ⟨by rfl, ?_⟩) ?_ ?_
                      rotate_left
                      · intro w'
                        go_simp
                        with_reducible rfl
                      rotate_left
                      · simp only [Act.put, List.setIfInBounds_toArray, List.set_cons_zero, List.set_cons_succ, i64_w, i32_w]
                        rfl
                      refine pure_ (i := 4) (N := some 56) (v := ?_) (a' := ?_) #[true, false, true, true, true, false, false, false, false] rfl rfl (any_of HT_.out (by kernel_rfl)) (fun _ _ _ h => h) (Or.inl ⟨by rfl, ?_⟩) ?_ ?_
                      rotate_left
                      · intro w'
                        go_simp
                        with_reducible rfl
                      rotate_left
                      · simp only [Act.put, List.setIfInBounds_toArray, List.set_cons_zero, List.set_cons_succ, i64_w, i32_w]
                        rfl
                      refine pure_ (i := 5) (N := some 57) (v := ?_) (a' := ?_) #[true, false, true, true, true, true, false, false, false] rfl rfl (any_of HT_.out (by kernel_rfl)) (fun _ _ _ h => h) (Or.inl ⟨by rfl, ?_⟩) ?_ ?_
                      rotate_left
                      · intro w'
                        go_simp
                        with_reducible rfl
                      rotate_left
                      · simp only [Act.put, List.setIfInBounds_toArray, List.set_cons_zero, List.set_cons_succ, i64_w, i32_w]
                        rfl
                      refine one_ (i := 1) (N := some 53) #[true, true, true, true, true, true, false, false, false] rfl rfl (one_of HT_.out (by kernel_rfl)) (by decide) (fun K hK => ?_)
                      refine goes_ Try.func58 (by kernel_rfl) rfl #[.slice A27 y661.length c27] (by rfl) rfl rfl (by (try simp only [List.map_toArray, List.map_cons, List.map_nil]); first | done | rfl | (simp only [List.length_drop, List.length_take]; rfl)) ?_
                      with_reducible refine (slices_Clone_byte_byte.calls _ _ y661 t674 _ ?side1 ?side2 A20.out).mono ?_
                      (case side1 => repeat (first | exact (by repeat (first | (with_reducible exact HR664.out) | (with_reducible refine Kd.C_alloc ?_ _) | (with_reducible refine Kd.C_drewN ?_ _) | (with_reducible refine Kd.C_drew ?_) | exact HR664.out)) | (with_reducible refine Kd.C_alloc ?_ _) | (with_reducible refine Kd.C_drewN ?_ _) | (with_reducible refine Kd.C_drew ?_)))
                      (case side2 => exact HC664.out)
                      rintro e w33 ⟨v675, rfl, ho0, hb⟩
                      refine ⟨_, rfl, ?_⟩
                      have n0_ := Aside0.mk (Kd.Q_elder' (by (with_reducible repeat (first | apply Kd.Q_alloc | apply Kd.Q_drewN | apply Kd.Q_drew)); exact HO679.out) (Kd.R_base ho0) hb)
                      have n1_ := Aside0.mk (Kd.R_elder' (by (with_reducible repeat (first | apply Kd.R_alloc | apply Kd.R_drewN | apply Kd.R_drew)); exact HO672.out) (Kd.R_base ho0) hb)
                      have n2_ := Aside0.mk (Kd.R_lower (Kd.R_new' (Kd.R_new' ho0 (Kd.Q_lt (by (with_reducible repeat (first | apply Kd.Q_alloc | apply Kd.Q_drewN | apply Kd.Q_drew)); exact HO679.out))) (Kd.R_lt (by (with_reducible repeat (first | apply Kd.R_alloc | apply Kd.R_drewN | apply Kd.R_drew)); exact HO672.out))) (below_size (by repeat (first | (with_reducible first | exact HB.out | apply below_alloc | apply pw_below_drewN | apply below_drew1) | exact HB.out))))
                      have n3_ := Aside0.mk (Kd.C_below (by repeat (first | (with_reducible exact HR664.out) | (with_reducible refine Kd.C_alloc ?_ _) | (with_reducible refine Kd.C_drewN ?_ _) | (with_reducible refine Kd.C_drew ?_) | exact HR664.out)) hb)
                      have n4_ := Aside0.mk (Kd.C_below (by repeat (first | (with_reducible exact HR668.out) | (with_reducible refine Kd.C_alloc ?_ _) | (with_reducible refine Kd.C_drewN ?_ _) | (with_reducible refine Kd.C_drew ?_) | exact HR668.out)) hb)
                      have n5_ := Aside0.mk (below_step (by repeat (first | (with_reducible first | exact HB.out | apply below_alloc | apply pw_below_drewN | apply below_drew1) | exact HB.out)) hb)
                      clear HO679
                      clear HO672
                      clear HR664
                      clear HR668
                      clear HB
                      have HO679 := n0_
                      have HO672 := n1_
                      have HO676 := n2_
                      have HR664 := n3_
                      have HR668 := n4_
                      have HB := n5_
                      clear n0_ n1_ n2_ n3_ n4_ n5_
                      (try clear hb)
                      (try clear hb2)
                      (try clear hk)
                      (try clear hi)
                      (try clear ho0)
                      refine hK.out _ _ trivial (fun hHeld => ?_)
                      clear hK K
                      refine norm_ (a' := ?_) ?_ ?_
                      rotate_left
                      · show Act.put _ (some 53) _ = _
                        simp only [Act.put, List.setIfInBounds_toArray, List.set_cons_zero, List.set_cons_succ, i64_w, i32_w]
                        rfl
                      refine pure_ (i := 6) (N := some 4) (v := ?_) (a' := ?_) #[true, true, true, true, true, true, true, false, false] rfl rfl (any_of HT_.out (by kernel_rfl)) (fun _ _ _ h => h) (Or.inl ⟨by rfl, ?_⟩) ?_ ?_
                      rotate_left
                      · intro w'
                        go_simp
                        with_reducible rfl
                      rotate_left
                      · simp only [Act.put, List.setIfInBounds_toArray, List.set_cons_zero, List.set_cons_succ, i64_w, i32_w]
                        rfl
                      refine pure_ (i := 7) (N := some 5) (v := ?_) (a' := ?_) #[true, true, true, true, true, true, true, true, false] rfl rfl (any_of HT_.out (by kernel_rfl)) (fun _ _ _ h => h) (Or.inl ⟨by rfl, ?_⟩) ?_ ?_
                      rotate_left
                      · intro w'
                        go_simp
                        with_reducible rfl
                      rotate_left
                      · simp only [Act.put, List.setIfInBounds_toArray, List.set_cons_zero, List.set_cons_succ, i64_w, i32_w]
                        rfl
                      refine pure_ (i := 8) (N := some 6) (v := ?_) (a' := ?_) #[true, true, true, true, true, true, true, true, true] rfl rfl (any_of HT_.out (by kernel_rfl)) (fun _ _ _ h => h) (Or.inl ⟨by rfl, ?_⟩) ?_ ?_
                      rotate_left
                      · intro w'
                        go_simp
                        with_reducible rfl
                      rotate_left
                      · simp only [Act.put, List.setIfInBounds_toArray, List.set_cons_zero, List.set_cons_succ, i64_w, i32_w]
                        rfl
                      refine done_ (done_of HT_.out (by kernel_rfl)) ?_
                      try go_wp2
                      go_ret3
                      exact ⟨_, _, by first | rfl | (simp [errW_none, errW_some] <;> rfl) | (simp only [← hji10, ← hji21]; first | rfl | (simp [errW_none, errW_some] <;> rfl)) | (simp [*, errW_none, errW_some] <;> rfl), by (with_reducible repeat (first | apply Kd.R_alloc | apply Kd.R_drewN | apply Kd.R_drew)); exact Kd.R_mono HO676.out (fun _ hk => hk.1.2), by (with_reducible repeat (first | apply Kd.Q_alloc | apply Kd.Q_drewN | apply Kd.Q_drew)); exact Kd.Q_mono HO679.out (fun _ hk => hk.2), by repeat (first | (with_reducible first | exact HB.out | apply below_alloc | apply pw_below_drewN | apply below_drew1) | exact HB.out)⟩
                    · rw [if_neg c22] at H
                      exact absurd H (by simp)
                  · rw [if_neg c19] at H
                    have c19b0 : (t669 == (IntKind.u64.wrap (t673))) = false := beq_eq_false_iff_ne.mpr c19
                    have c19b1 : (t669 != (IntKind.u64.wrap (t673))) = true := bne_iff_ne.mpr c19
                    simp only [Option.some.injEq, Prod.mk.injEq] at H
                    obtain ⟨rfl, rfl, rfl⟩ := H
                    try go_wp2
                    have n0_ := Aside0.mk (Kd.R_drew HO_8.out)
                    have n1_ := Aside0.mk (below_drew1 HB.out)
                    clear HO_8
                    clear HB
                    have HO_8 := n0_
                    have HB := n1_
                    clear n0_ n1_
                    obtain ⟨Ao35, co35, eo35⟩ := Kd.R_slice HO_8.out
                    (first | subst eo35 | (injection eo35 with f1_ f2_ f3_; have f4_ := f1_.symm; have f5_ := f3_.symm; clear f1_ f2_ f3_; subst f4_; subst f5_))
                    have q36 : ((ji10) : Int) ≤ ((l0.length : Int) : Int) := of_decide_eq_true (by first | (with_reducible assumption) | assumption)
                    obtain ⟨i036, hi036, _, hsz36, _⟩ := info_parts info5
                    have hroom36 : l0.length ≤ c0 := HC0.out
                    have hC36 : Kd.C (Kd.int .u8) _ A0 l0.length l0 := HR0.out
                    have hcut36 := cut_to (P := Try.prog) 22 5 .i64 Try.underlying22 hi036 A0 l0.length c0 (ji10) (of_decide_eq_true (by first | (with_reducible assumption) | assumption)) q36 hroom36
                    have hr36 := Kd.C_take (m := ((ji10) : Int).toNat) hC36 (by omega)
                    have hy36 : y657.length = ((ji10) : Int).toNat := (by rw [Ny657.out, List.length_take]; omega)
                    rw [← Ny657.out] at hr36
                    rw [← hy36] at hcut36
                    have HR660 := Aside0.mk hr36
                    have HC660 := Aside0.mk (show y657.length ≤ c0 from by omega)
                    clear hr36 hC36 hroom36 hi036 hsz36
                    have KY36 := Aside0.mk hy36
                    clear hy36
                    replace q36 := eq_true q36
                    have q37 : ((wrap64 (4 + t652)) : Int) ≤ ((t653.length : Int) : Int) := of_decide_eq_true (by first | (with_reducible assumption) | assumption)
                    obtain ⟨i037, hi037, _, hsz37, _⟩ := info_parts info5
                    have hroom37 : t653.length ≤ co35 := (Kd.R_reads' HO_8.out).2.1
                    have hC37 : Kd.C (Kd.int .u8) _ Ao35 t653.length t653 := (Kd.R_reads' HO_8.out).2.2
                    have ql37 : (4 : Int) ≤ ((wrap64 (4 + t652)) : Int) := of_decide_eq_true (by first | (with_reducible assumption) | assumption)
                    have hcut37 := cut_mid (P := Try.prog) 22 5 .i64 .i64 Try.underlying22 hi037 1 hsz37 Ao35 t653.length co35 4 (wrap64 (4 + t652)) (by omega) ql37 q37 hroom37
                    have hr37 := Kd.C_mid (lo := (4 : Int).toNat) (hi := ((wrap64 (4 + t652)) : Int).toNat) (c := co35) hC37 (by omega) (by omega) hroom37
                    obtain ⟨A37, hA37⟩ : ∃ A1, A1 = (if co35 = (4 : Int).toNat then Ao35 else (Ao35 : Option Addr).map (·.add ((4 : Int).toNat * 1))) := ⟨_, rfl⟩
                    obtain ⟨c37, hc37⟩ : ∃ c1, c1 = co35 - (4 : Int).toNat := ⟨_, rfl⟩
                    have hy37 : y661.length = ((wrap64 (4 + t652)) : Int).toNat - (4 : Int).toNat := (by rw [Ny661.out, List.length_drop, List.length_take] <;> omega)
                    rw [show ((t653).take ((wrap64 (4 + t652)) : Int).toNat).drop (4 : Int).toNat = y661 from Ny661.out.symm] at hr37
                    replace hr37 : Kd.C (Kd.int .u8) _ A37 y661.length y661 := (by rw [hA37]; exact hr37)
                    rw [← hy37, ← hA37, ← hc37] at hcut37
                    have HR664 := Aside0.mk hr37
                    have HC664 := Aside0.mk (show y661.length ≤ c37 from by rw [hy37, hc37]; exact Nat.sub_le_sub_right (Nat.le_trans (by omega) hroom37) _)
                    clear hr37 hC37 hroom37 hi037 hsz37 hc37
                    have KY37 := Aside0.mk hy37
                    have KA37 := Aside0.mk hA37
                    clear hy37 hA37
                    have KL37 := Aside0.mk (show ((wrap64 (4 + t652)) : Int).toNat ≤ t653.length from by omega)
                    have KM37 := Aside0.mk (show 4 ≤ ((wrap64 (4 + t652)) : Int).toNat from by omega)
                    replace q37 := eq_true q37
                    refine start_ (n := 13) (S := fun w' => True) (ds := []) #[false, false, false, false, false, false, false, false, false, false, false, false, false] (by kernel_rfl) rfl rfl trivial (fun hHeld => ?_); refine with_tabW code_TakeFrame.tab4 code_TakeFrame.bits4 (fun HT_ HW_ => ?_)
                    generalize wc.drew = w34 at HO_8 HB HR660 HR664 hHeld ⊢
                    refine pure_ (i := 0) (N := some 32) (v := ?_) (a' := ?_) #[true, false, false, false, false, false, false, false, false, false, false, false, false] rfl rfl (any_of HT_.out (by kernel_rfl)) (fun _ _ _ h => h) (Or.inl ⟨by rfl, ?_⟩) ?_ ?_
                    rotate_left
                    · intro w'
                      go_simp
                      with_reducible rfl
                    rotate_left
                    · simp only [Act.put, List.setIfInBounds_toArray, List.set_cons_zero, List.set_cons_succ, i64_w, i32_w]
                      rfl
                    refine pure_ (i := 1) (N := some 33) (v := ?_) (a' := ?_) #[true, true, false, false, false, false, false, false, false, false, false, false, false] rfl rfl (any_of HT_.out (by kernel_rfl)) (fun _ _ _ h => h) (Or.inl ⟨by rfl, ?_⟩) ?_ ?_
                    rotate_left
                    · intro w'
                      go_simp
                      with_reducible rfl
                    rotate_left
                    · simp only [Act.put, List.setIfInBounds_toArray, List.set_cons_zero, List.set_cons_succ, i64_w, i32_w]
                      rfl
                    refine pure_ (i := 2) (N := some 34) (v := ?_) (a' := ?_) #[true, true, true, false, false, false, false, false, false, false, false, false, false] rfl rfl (any_of HT_.out (by kernel_rfl)) (fun _ _ _ h => h) (Or.inl ⟨by rfl, ?_⟩) ?_ ?_
                    rotate_left
                    · intro w'
                      go_simp
                      with_reducible rfl
                    rotate_left
                    · simp only [Act.put, List.setIfInBounds_toArray, List.set_cons_zero, List.set_cons_succ, i64_w, i32_w]
                      rfl
                    refine pure_ (i := 3) (N := some 35) (v := ?_) (a' := ?_) #[true, true, true, true, false, false, false, false, false, false, false, false, false] rfl rfl (any_of HT_.out (by kernel_rfl)) (fun _ _ _ h => h) (Or.inl ⟨by rfl, ?_⟩) ?_ ?_
                    rotate_left
                    · intro w'
                      go_simp
                      with_reducible rfl
                    rotate_left
                    · simp only [Act.put, List.setIfInBounds_toArray, List.set_cons_zero, List.set_cons_succ, i64_w, i32_w]
                      rfl
                    refine pure_ (i := 4) (N := some 36) (v := ?_) (a' := ?_) #[true, true, true, true, true, false, false, false, false, false, false, false, false] rfl rfl (any_of HT_.out (by kernel_rfl)) (fun _ _ _ h => h) (Or.inl ⟨by rfl, ?_⟩) ?_ ?_
                    rotate_left
                    · intro w'
                      go_simp
                      with_reducible rfl
                    rotate_left
                    · simp only [Act.put, List.setIfInBounds_toArray, List.set_cons_zero, List.set_cons_succ, i64_w, i32_w]
                      rfl
                    refine pure_ (i := 5) (N := some 37) (v := ?_) (a' := ?_) #[true, true, true, true, true, true, false, false, false, false, false, false, false] rfl rfl (any_of HT_.out (by kernel_rfl)) (fun _ _ _ h => h) (Or.inl ⟨by rfl, ?_⟩) ?_ ?_
                    rotate_left
                    · intro w'
                      go_simp
                      with_reducible rfl
                    rotate_left
                    · simp only [Act.put, List.setIfInBounds_toArray, List.set_cons_zero, List.set_cons_succ, i64_w, i32_w]
                      rfl
                    refine pure_ (i := 6) (N := some 38) (v := ?_) (a' := ?_) #[true, true, true, true, true, true, true, false, false, false, false, false, false] rfl rfl (any_of HT_.out (by kernel_rfl)) (fun _ _ _ h => h) (Or.inl ⟨by rfl, ?_⟩) ?_ ?_
                    rotate_left
                    · intro w'
                      go_simp
                      with_reducible rfl
                    rotate_left
                    · simp only [Act.put, List.setIfInBounds_toArray, List.set_cons_zero, List.set_cons_succ, i64_w, i32_w]
                      rfl
                    refine pure_ (i := 7) (N := some 39) (v := ?_) (a' := ?_) #[true, true, true, true, true, true, true, true, false, false, false, false, false] rfl rfl (any_of HT_.out (by kernel_rfl)) (fun _ _ _ h => h) (Or.inl ⟨by rfl, ?_⟩) ?_ ?_
                    rotate_left
                    · intro w'
                      go_simp
                      with_reducible rfl
                    rotate_left
                    · simp only [Act.put, List.setIfInBounds_toArray, List.set_cons_zero, List.set_cons_succ, i64_w, i32_w]
                      rfl
                    refine pure_ (i := 8) (N := some 40) (v := ?_) (a' := ?_) #[true, true, true, true, true, true, true, true, true, false, false, false, false] rfl rfl (any_of HT_.out (by kernel_rfl)) (fun _ _ _ h => h) (Or.inl ⟨by rfl, ?_⟩) ?_ ?_
                    rotate_left
                    · intro w'
                      go_simp
                      with_reducible rfl
                    rotate_left
                    · simp only [Act.put, List.setIfInBounds_toArray, List.set_cons_zero, List.set_cons_succ, i64_w, i32_w]
                      rfl
                    refine pure_ (i := 9) (N := some 41) (v := ?_) (a' := ?_) #[true, true, true, true, true, true, true, true, true, true, false, false, false] rfl rfl (any_of HT_.out (by kernel_rfl)) (fun _ _ _ h => h) (Or.inl ⟨by rfl, ?_⟩) ?_ ?_
                    rotate_left
                    · intro w'
                      go_simp
                      with_reducible rfl
                    rotate_left
                    · simp only [Act.put, List.setIfInBounds_toArray, List.set_cons_zero, List.set_cons_succ, i64_w, i32_w]
                      rfl
                    refine pure_ (i := 10) (N := some 42) (v := ?_) (a' := ?_) #[true, true, true, true, true, true, true, true, true, true, true, false, false] rfl rfl (any_of HT_.out (by kernel_rfl)) (fun _ _ _ h => h) (Or.inl ⟨by rfl, ?_⟩) ?_ ?_
                    rotate_left
                    · intro w'
                      go_simp
                      with_reducible rfl
                    rotate_left
                    · simp only [Act.put, List.setIfInBounds_toArray, List.set_cons_zero, List.set_cons_succ, i64_w, i32_w]
                      rfl
                    refine pure_ (i := 11) (N := some 10) (v := ?_) (a' := ?_) #[true, true, true, true, true, true, true, true, true, true, true, true, false] rfl rfl (any_of HT_.out (by kernel_rfl)) (fun _ _ _ h => h) (Or.inl ⟨by rfl, ?_⟩) ?_ ?_
                    rotate_left
                    · intro w'
                      go_simp
                      with_reducible rfl
                    rotate_left
                    · simp only [Act.put, List.setIfInBounds_toArray, List.set_cons_zero, List.set_cons_succ, i64_w, i32_w]
                      rfl
                    refine pure_ (i := 12) (N := some 11) (v := ?_) (a' := ?_) #[true, true, true, true, true, true, true, true, true, true, true, true, true] rfl rfl (any_of HT_.out (by kernel_rfl)) (fun _ _ _ h => h) (Or.inl ⟨by rfl, ?_⟩) ?_ ?_
                    rotate_left
                    · intro w'
                      go_simp
                      with_reducible rfl
                    rotate_left
                    · simp only [Act.put, List.setIfInBounds_toArray, List.set_cons_zero, List.set_cons_succ, i64_w, i32_w]
                      rfl
                    refine done_ (done_of HT_.out (by kernel_rfl)) ?_
                    have q38 : (4 : Int) ≤ ((t653.length : Int) : Int) := of_decide_eq_true (by first | (with_reducible assumption) | assumption)
                    obtain ⟨i038, hi038, _, hsz38, _⟩ := info_parts info5
                    have hroom38 : t653.length ≤ co35 := (Kd.R_reads' HO_8.out).2.1
                    have hC38 : Kd.C (Kd.int .u8) _ Ao35 t653.length t653 := (Kd.R_reads' HO_8.out).2.2
                    have hcut38 := cut_to (P := Try.prog) 22 5 .i64 Try.underlying22 hi038 Ao35 t653.length co35 4 (by omega) q38 hroom38
                    have hr38 := Kd.C_take (m := 4) hC38 (by omega)
                    have hy38 : y665.length = (4 : Int).toNat := (by rw [Ny665.out, List.length_take]; omega)
                    rw [← Ny665.out] at hr38
                    rw [← hy38] at hcut38
                    have HR668 := Aside0.mk hr38
                    have HC668 := Aside0.mk (show y665.length ≤ co35 from by omega)
                    clear hr38 hC38 hroom38 hi038 hsz38
                    have KY38 := Aside0.mk hy38
                    clear hy38
                    have KL38 := Aside0.mk (show 4 ≤ t653.length from by omega)
                    replace q38 := eq_true q38
                    try go_wp2_with (first | ((with_reducible refine gate_callee (f := 59) rfl ?_); refine goesL_ (some 45) rfl rfl Try.func59 (by kernel_rfl) rfl #[.slice Ao35 y665.length co35] rfl (by (try simp only [List.map_toArray, List.map_cons, List.map_nil]); first | done | rfl | (simp only [List.length_drop, List.length_take]; rfl)) ?_; (with_reducible refine (code_number.calls kj3 _ _ y665 t669 _ ?side1 ?side2 A16.out).mono ?_); (case side1 => repeat (first | exact (by repeat (first | (with_reducible exact HR668.out) | (with_reducible refine Kd.C_alloc ?_ _) | (with_reducible refine Kd.C_drewN ?_ _) | (with_reducible refine Kd.C_drew ?_) | exact HR668.out)) | (with_reducible refine Kd.C_alloc ?_ _) | (with_reducible refine Kd.C_drewN ?_ _) | (with_reducible refine Kd.C_drew ?_))); (case side2 => exact HC668.out); rintro e w' ⟨rfl, ⟨nd, rfl⟩⟩; refine ⟨_, rfl, ?_⟩) | ((with_reducible refine gate_callee (f := 55) rfl ?_); refine goesL_ (some 48) rfl rfl Try.func55 (by kernel_rfl) rfl #[.slice A0 y657.length c0, .slice A37 y661.length c37] rfl (by (try simp only [List.map_toArray, List.map_cons, List.map_nil]); first | done | rfl | (simp only [List.length_drop, List.length_take]; rfl)) ?_; (with_reducible refine (code_laid_byte.calls _ _ y657 _ _ y661 t670 _ ?side1 ?side2 ?side3 ?side4 A17.out).mono ?_); (case side1 => repeat (first | exact (Kd.C_below HR660.out (by repeat (first | (with_reducible first | exact HB.out | apply below_alloc | apply pw_below_drewN | apply below_drew1) | exact HB.out))) | (with_reducible refine Kd.C_alloc ?_ _) | (with_reducible refine Kd.C_drewN ?_ _) | (with_reducible refine Kd.C_drew ?_))); (case side2 => exact HC660.out); (case side3 => repeat (first | exact (by repeat (first | (with_reducible exact HR664.out) | (with_reducible refine Kd.C_alloc ?_ _) | (with_reducible refine Kd.C_drewN ?_ _) | (with_reducible refine Kd.C_drew ?_) | exact HR664.out)) | (with_reducible refine Kd.C_alloc ?_ _) | (with_reducible refine Kd.C_drewN ?_ _) | (with_reducible refine Kd.C_drew ?_))); (case side4 => exact HC664.out); rintro e w39 ⟨v671, rfl, ho0, hb⟩; refine ⟨_, rfl, ?_⟩; have n0_ := Aside0.mk (Kd.R_elder' (by (with_reducible repeat (first | apply Kd.R_alloc | apply Kd.R_drewN | apply Kd.R_drew)); exact HO_8.out) (Kd.R_base ho0) hb); have n1_ := Aside0.mk (Kd.R_lower (Kd.R_new' ho0 (Kd.R_lt (by (with_reducible repeat (first | apply Kd.R_alloc | apply Kd.R_drewN | apply Kd.R_drew)); exact HO_8.out))) (below_size (by repeat (first | (with_reducible first | exact HB.out | apply below_alloc | apply pw_below_drewN | apply below_drew1) | exact HB.out)))); have n2_ := Aside0.mk (Kd.C_below (by repeat (first | (with_reducible exact HR664.out) | (with_reducible refine Kd.C_alloc ?_ _) | (with_reducible refine Kd.C_drewN ?_ _) | (with_reducible refine Kd.C_drew ?_) | exact HR664.out)) hb); have n3_ := Aside0.mk (Kd.C_below (by repeat (first | (with_reducible exact HR668.out) | (with_reducible refine Kd.C_alloc ?_ _) | (with_reducible refine Kd.C_drewN ?_ _) | (with_reducible refine Kd.C_drew ?_) | exact HR668.out)) hb); have n4_ := Aside0.mk (below_step (by repeat (first | (with_reducible first | exact HB.out | apply below_alloc | apply pw_below_drewN | apply below_drew1) | exact HB.out)) hb); clear HO_8; clear HR664; clear HR668; clear HB; have HO_8 := n0_; have HO672 := n1_; have HR664 := n2_; have HR668 := n3_; have HB := n4_; clear n0_ n1_ n2_ n3_ n4_; (try clear hb); (try clear hb2); (try clear hk); (try clear hi); (try clear ho0); obtain ⟨Ao40, co40, eo40⟩ := Kd.R_slice HO672.out; subst eo40) | ((with_reducible refine gate_callee (f := 24) rfl ?_); refine goesL_ (some 49) rfl rfl Try.func24 (by kernel_rfl) rfl #[.slice Ao40 t670.length co40] rfl (by (try simp only [List.map_toArray, List.map_cons, List.map_nil]); first | done | rfl | (simp only [List.length_drop, List.length_take]; rfl)) ?_; (with_reducible refine (code_Crc.calls kj3 _ _ t670 t673 _ ?side1 ?side2 A18.out).mono ?_); (case side1 => repeat (first | exact (Kd.R_reads' HO672.out).2.2 | (with_reducible refine Kd.C_alloc ?_ _) | (with_reducible refine Kd.C_drewN ?_ _) | (with_reducible refine Kd.C_drew ?_))); (case side2 => exact (Kd.R_reads' HO672.out).2.1); rintro e w' ⟨rfl, ⟨nd, rfl⟩⟩; refine ⟨_, rfl, ?_⟩))
                    go_ret3
                    exact ⟨_, _, by first | rfl | (simp [errW_none, errW_some] <;> rfl) | (simp only [← hji10]; first | rfl | (simp [errW_none, errW_some] <;> rfl)) | (simp [*, errW_none, errW_some] <;> rfl), by first | exact Kd.R_nil _ _ _ _ _ | exact Kd.N_nil _ _ _ _ _ | exact Kd.V_nil _ _ _ _ _ | exact Kd.Q_nil _ _ _ _ _ | exact Kd.S_nil _ _ _ _ _, Kd.Q_of_R (by first | exact Kd.R_nil _ _ _ _ _ | exact Kd.N_nil _ _ _ _ _ | exact Kd.V_nil _ _ _ _ _ | exact Kd.Q_nil _ _ _ _ _ | exact Kd.S_nil _ _ _ _ _), by repeat (first | (with_reducible first | exact HB.out | apply below_alloc | apply pw_below_drewN | apply below_drew1) | exact HB.out)⟩
                · rw [if_neg c15] at H
                  exact absurd H (by simp)
              · rw [if_neg c14] at H
                exact absurd H (by simp)
            · rw [if_neg c13] at H
              exact absurd H (by simp)
          · rw [if_neg c12] at H
            exact absurd H (by simp)
        · rw [if_neg c11] at H
          exact absurd H (by simp)

end Go.Proofs.Ytmkojpkajlpokaa.Px
