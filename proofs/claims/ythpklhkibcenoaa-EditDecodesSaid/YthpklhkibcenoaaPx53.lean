-- Printed by a program of ours (px) out of the translation; Lean checks it.
import Derived.Test.YthpklhkibcenoaaPx0
import Derived.Test.YthpklhkibcenoaaMB
namespace Go.Proofs.Ythpklhkibcenoaa.Px
open Go.RowKit Go.Proofs.YthpklhkibcenoaaW.PrintWords Go.Proofs.YthpklhkibcenoaaW.PrintLast Go.Proofs.YthpklhkibcenoaaW.PrintMore
attribute [local go_sem] max2_int min2_int max_two min_two max_three min_three max_four min_four   -- for this text's walks alone
set_option linter.unusedVariables false
set_option linter.unusedSimpArgs false
set_option linter.unnecessarySimpa false

/-! ### code_TakeNum: function 63 -/
mutual
def code_TakeNum.l0 : Nat → List Int → Int → Int → List Int → Int → Int → Option (Int × List Int × Int)
 | 0, _, _, _, _, _, _ => none
 | k + 1, x0, x5, x6, x9, x10, x11 => if x11 < x10 then (if 0 ≤ x11 then (if x11 < (x9.length : Int) then (if x11 = 9 then (if x6 = 0 then (some (0, ([] : List Int), 2)) else (if x5 > 4611686018427387903 then (some (0, ([] : List Int), 2)) else (if 0 ≤ x6 then (if x6 ≤ (x0.length : Int) then ((slices_Clone_byte_byte.f (x0.drop (x6 : Int).toNat)).bind fun t432 => (some (wrap64 (x5), t432, 0))) else (none)) else (none)))) else (if (rd x9 x11) = 0 then (code_TakeNum.j1 k x0 x5 x6 x11 (rd x9 x11) x9 x10 x11 (decide (x11 > 0))) else (code_TakeNum.j1 k x0 x5 x6 x11 (rd x9 x11) x9 x10 x11 false))) else (none)) else (none)) else (if x6 = 0 then (some (0, ([] : List Int), 2)) else (if x5 > 4611686018427387903 then (some (0, ([] : List Int), 2)) else (if 0 ≤ x6 then (if x6 ≤ (x0.length : Int) then ((slices_Clone_byte_byte.f (x0.drop (x6 : Int).toNat)).bind fun t424 => (some (wrap64 (x5), t424, 0))) else (none)) else (none))))
def code_TakeNum.j1 : Nat → List Int → Int → Int → Int → Int → List Int → Int → Int → Bool → Option (Int × List Int × Int)
 | 0, _, _, _, _, _, _, _, _, _ => none
 | k + 1, x0, x5, x6, x7, x8, x9, x10, x11, x19 => if x19 = true then (if x6 = 0 then (some (0, ([] : List Int), 2)) else (if x5 > 4611686018427387903 then (some (0, ([] : List Int), 2)) else (if 0 ≤ x6 then (if x6 ≤ (x0.length : Int) then ((slices_Clone_byte_byte.f (x0.drop (x6 : Int).toNat)).bind fun t439 => (some (wrap64 (x5), t439, 0))) else (none)) else (none)))) else (if 0 ≤ (wrap64 (7 * x7)) then (if x8 < 128 then (if (wrap64 (x7 + 1)) = 0 then (some (0, ([] : List Int), 2)) else (if (Go.bits .or .u64 x5 (shl .u64 (IntKind.u64.wrap (Go.bits .and .u8 x8 127)) (wrap64 (7 * x7)))) > 4611686018427387903 then (some (0, ([] : List Int), 2)) else (if 0 ≤ (wrap64 (x7 + 1)) then (if (wrap64 (x7 + 1)) ≤ (x0.length : Int) then ((slices_Clone_byte_byte.f (x0.drop ((wrap64 (x7 + 1)) : Int).toNat)).bind fun t446 => (some (wrap64 (Go.bits .or .u64 x5 (shl .u64 (IntKind.u64.wrap (Go.bits .and .u8 x8 127)) (wrap64 (7 * x7)))), t446, 0))) else (none)) else (none)))) else (code_TakeNum.l0 k x0 (Go.bits .or .u64 x5 (shl .u64 (IntKind.u64.wrap (Go.bits .and .u8 x8 127)) (wrap64 (7 * x7)))) x6 x9 x10 (wrap64 (x11 + 1)))) else (none))
end
def code_TakeNum.f (k : Nat) (l0 : List Int) : Option (Int × List Int × Int) := code_TakeNum.l0 k l0 0 0 l0 (l0.length : Int) 0
theorem code_TakeNum.mono_l : ∀ k, (∀ y0 y1 y2 y3 y4 y5, LeO (code_TakeNum.l0 k y0 y1 y2 y3 y4 y5) (code_TakeNum.l0 (k + 1) y0 y1 y2 y3 y4 y5)) ∧ (∀ y0 y1 y2 y3 y4 y5 y6 y7 y8, LeO (code_TakeNum.j1 k y0 y1 y2 y3 y4 y5 y6 y7 y8) (code_TakeNum.j1 (k + 1) y0 y1 y2 y3 y4 y5 y6 y7 y8))
 | 0 => ⟨fun _ _ _ _ _ _ r h => by simp [code_TakeNum.l0] at h, fun _ _ _ _ _ _ _ _ _ r h => by simp [code_TakeNum.j1] at h⟩
 | k + 1 => by
  obtain ⟨ih0, ih1⟩ := code_TakeNum.mono_l k
  refine ⟨?_, ?_⟩
  ·
   intro y0 y1 y2 y3 y4 y5
   unfold code_TakeNum.l0
   repeat' first
   | (with_reducible exact ih0 _ _ _ _ _ _)
   | (with_reducible exact ih1 _ _ _ _ _ _ _ _ _)
   | (with_reducible exact LeO.refl _)
   | (with_reducible exact LeO.none _)
   | (with_reducible refine LeO.ite ?_ ?_)
   | (with_reducible refine LeO.bind ?_ (fun _ => ?_))
   | exact ih0 _ _ _ _ _ _
   | exact ih1 _ _ _ _ _ _ _ _ _
   | exact LeO.none _
   | refine LeO.ite ?_ ?_
   | refine LeO.bind ?_ (fun _ => ?_)
  ·
   intro y0 y1 y2 y3 y4 y5 y6 y7 y8
   unfold code_TakeNum.j1
   repeat' first
   | (with_reducible exact ih0 _ _ _ _ _ _)
   | (with_reducible exact ih1 _ _ _ _ _ _ _ _ _)
   | (with_reducible exact LeO.refl _)
   | (with_reducible exact LeO.none _)
   | (with_reducible refine LeO.ite ?_ ?_)
   | (with_reducible refine LeO.bind ?_ (fun _ => ?_))
   | exact ih0 _ _ _ _ _ _
   | exact ih1 _ _ _ _ _ _ _ _ _
   | exact LeO.none _
   | refine LeO.ite ?_ ?_
   | refine LeO.bind ?_ (fun _ => ?_)
theorem code_TakeNum.mono : ∀ a0 k, LeO (code_TakeNum.f k a0) (code_TakeNum.f (k + 1) a0) := by
 intro a0 k
 obtain ⟨ih0, ih1⟩ := code_TakeNum.mono_l k
 unfold code_TakeNum.f
 repeat' first
   | (with_reducible exact ih0 _ _ _ _ _ _)
   | (with_reducible exact ih1 _ _ _ _ _ _ _ _ _)
   | (with_reducible exact LeO.refl _)
   | (with_reducible exact LeO.none _)
   | (with_reducible refine LeO.ite ?_ ?_)
   | (with_reducible refine LeO.bind ?_ (fun _ => ?_))
   | exact ih0 _ _ _ _ _ _
   | exact ih1 _ _ _ _ _ _ _ _ _
   | exact LeO.none _
   | refine LeO.ite ?_ ?_
   | refine LeO.bind ?_ (fun _ => ?_)
set_option maxHeartbeats 8000000 in
set_option maxRecDepth 100000 in
theorem code_TakeNum.calls (k : Nat) (A0 : Option Addr) (c0 : Nat) (l0 : List Int) (r1 : Int) (r2 : List Int) (r3 : Int) (w : World) (hr0 : Kd.C (Kd.int .u8) w A0 l0.length l0) (hc0 : l0.length ≤ c0) (h : code_TakeNum.f k l0 = some (r1, r2, r3)) :
  Calls Try.prog 63 #[.slice A0 l0.length c0] w fun e w' => ∃ v1_ : Value, e = .returned (.tuple #[.int .i64 r1, v1_, .int .i64 r3]) ∧ Kd.R (Kd.int .u8) 5 w' w.heap.size (fun _ => True) v1_ r2 ∧ Below w.heap.size w w' := by
 have HR0 := Aside0.mk hr0
 have HC0 := Aside0.mk hc0
 clear hr0 hc0
 have HB := Aside0.mk (Below.refl w.heap.size w)
 have H : (code_TakeNum.l0 k l0 0 0 l0 (l0.length : Int) 0) = some (r1, r2, r3) := h
 clear h
 have H' := Aside0.mk H
 clear H
 go_enter Try.func63, Try.ntmps63
 go_wp2
 try (go_step3; go_wp2; try (go_step3; go_wp2))
 go_loopg [5, 6, 11] k (fun kq v5 v6 v11 w' => ∃ (x5_1 : Int) (x6_1 : Int) (x11_1 : Int), v5 = .int .u64 x5_1 ∧ v6 = .int .i64 x6_1 ∧ v11 = .int .i64 x11_1 ∧ Aside0 (code_TakeNum.l0 kq l0 x5_1 x6_1 l0 (l0.length : Int) x11_1 = some (r1, r2, r3)) ∧ Aside0 (kq ≤ k) ∧ Aside0 (Below w.heap.size w w'))
 case atStart => exact ⟨(0), (0), (0), (by first | rfl | (simp; done) | (simp [*]; done)), (by first | rfl | (simp; done) | (simp [*]; done)), (by first | rfl | (simp; done) | (simp [*]; done)), H', ⟨Nat.le_refl _⟩, ⟨by repeat (first | (with_reducible first | exact HB.out | apply below_alloc | apply pw_below_drewN | apply below_drew1) | exact HB.out)⟩⟩
 case round =>
  clear H'
  obtain ⟨x5_1, x6_1, x11_1, rfl, rfl, rfl, HA, HK1, HB⟩ := hrel
  cases gk with
  | zero => exact absurd HA.out (by simp [code_TakeNum.l0])
  | succ k1 =>
   have H := HA.out
   clear HA
   simp only [code_TakeNum.l0] at H
   by_cases c2 : x11_1 < (l0.length : Int)
   ·
    rw [if_pos c2] at H
    have c2b0 : decide (x11_1 < (l0.length : Int)) = true := decide_eq_true c2
    clear c2
    by_cases c3 : 0 ≤ x11_1
    ·
     rw [if_pos c3] at H
     have c3b0 : decide (0 ≤ x11_1) = true := decide_eq_true c3
     clear c3
     by_cases c4 : x11_1 < (l0.length : Int)
     ·
      rw [if_pos c4] at H
      have c4b0 : decide (x11_1 < (l0.length : Int)) = true := decide_eq_true c4
      clear c4
      by_cases c5 : x11_1 = 9
      ·
       rw [if_pos c5] at H
       have c5b0 : (x11_1 == 9) = true := beq_iff_eq.mpr c5
       have c5b1 : (x11_1 != 9) = false := bne_eq_false_iff_eq.mpr c5
       clear c5
       by_cases c6 : x6_1 = 0
       ·
        rw [if_pos c6] at H
        have c6b0 : (x6_1 == 0) = true := beq_iff_eq.mpr c6
        have c6b1 : (x6_1 != 0) = false := bne_eq_false_iff_eq.mpr c6
        clear c6
        simp only [Option.some.injEq, Prod.mk.injEq] at H
        obtain ⟨rfl, rfl, rfl⟩ := H
        have p427 : 0 ≤ (x11_1 : Int) := of_decide_eq_true (by first | (with_reducible assumption) | assumption)
        have q427 : x11_1 < (l0.length : Int) := of_decide_eq_true (by first | (with_reducible assumption) | assumption)
        obtain ⟨ad427, e427, hx427_0⟩ := Kd.at_int HR0.out x11_1 p427 q427
        cases e427
        replace hx427_0 := (HB.out.cell (World.block_lt_of_cell? w _ hx427_0)).trans hx427_0
        replace p427 := eq_true p427
        replace q427 := eq_true q427
        go_wp2
        try (go_step3; go_wp2; try (go_step3; go_wp2))
        try rw [Exit.noGoto_ret]
        go_ret3
        exact ⟨_, by first | rfl | (simp [errW_none, errW_some] <;> rfl) | (simp [*, errW_none, errW_some] <;> rfl), by first | exact Kd.R_nil _ _ _ _ _ | exact Kd.N_nil _ _ _ _ _ | exact Kd.V_nil _ _ _ _ _ | exact Kd.Q_nil _ _ _ _ _ | exact Kd.S_nil _ _ _ _ _, by repeat (first | (with_reducible first | exact HB.out | apply below_alloc | apply pw_below_drewN | apply below_drew1) | exact HB.out)⟩
       ·
        rw [if_neg c6] at H
        have c6b0 : (x6_1 == 0) = false := beq_eq_false_iff_ne.mpr c6
        have c6b1 : (x6_1 != 0) = true := bne_iff_ne.mpr c6
        by_cases c7 : x5_1 > 4611686018427387903
        ·
         rw [if_pos c7] at H
         have c7b0 : decide (4611686018427387903 < x5_1) = true := decide_eq_true c7
         clear c7
         simp only [Option.some.injEq, Prod.mk.injEq] at H
         obtain ⟨rfl, rfl, rfl⟩ := H
         have p427 : 0 ≤ (x11_1 : Int) := of_decide_eq_true (by first | (with_reducible assumption) | assumption)
         have q427 : x11_1 < (l0.length : Int) := of_decide_eq_true (by first | (with_reducible assumption) | assumption)
         obtain ⟨ad427, e427, hx427_0⟩ := Kd.at_int HR0.out x11_1 p427 q427
         cases e427
         replace hx427_0 := (HB.out.cell (World.block_lt_of_cell? w _ hx427_0)).trans hx427_0
         replace p427 := eq_true p427
         replace q427 := eq_true q427
         go_wp2
         try (go_step3; go_wp2; try (go_step3; go_wp2))
         try rw [Exit.noGoto_ret]
         go_ret3
         exact ⟨_, by first | rfl | (simp [errW_none, errW_some] <;> rfl) | (simp [*, errW_none, errW_some] <;> rfl), by first | exact Kd.R_nil _ _ _ _ _ | exact Kd.N_nil _ _ _ _ _ | exact Kd.V_nil _ _ _ _ _ | exact Kd.Q_nil _ _ _ _ _ | exact Kd.S_nil _ _ _ _ _, by repeat (first | (with_reducible first | exact HB.out | apply below_alloc | apply pw_below_drewN | apply below_drew1) | exact HB.out)⟩
        ·
         rw [if_neg c7] at H
         have c7b0 : decide (4611686018427387903 < x5_1) = false := decide_eq_false c7
         clear c7
         by_cases c8 : 0 ≤ x6_1
         ·
          rw [if_pos c8] at H
          have c8b0 := eq_true c8
          have c8b1 : decide (0 ≤ x6_1) = true := decide_eq_true c8
          clear c8
          by_cases c9 : x6_1 ≤ (l0.length : Int)
          ·
           rw [if_pos c9] at H
           have c9b0 := eq_true c9
           have c9b1 : decide (x6_1 ≤ (l0.length : Int)) = true := decide_eq_true c9
           clear c9
           obtain ⟨y428, hy428⟩ : ∃ y_ : List Int, y_ = (l0.drop (x6_1 : Int).toNat) := ⟨_, rfl⟩
           replace H : ((slices_Clone_byte_byte.f y428).bind fun t432 => (some (wrap64 (x5_1), t432, 0))) = some (r1, r2, r3) := by first | (rw [hy428]; with_reducible exact H) | (have H2_ := (Option.bind_some _ _).symm.trans H; rw [hy428]; with_reducible exact H2_) | (have H2_ := (Option.bind_some _ _).symm.trans H; with_reducible exact H2_) | with_reducible exact H | (rw [hy428]; exact H) | exact H
           have Ny428 := Aside0.mk hy428
           clear hy428
           replace H := Option.bind_eq_some_iff.mp H
           obtain ⟨t432, A100, H⟩ := H
           replace H : (some (wrap64 (x5_1), t432, 0)) = some (r1, r2, r3) := H
           have A10 := Aside0.mk A100
           clear A100
           simp only [Option.some.injEq, Prod.mk.injEq] at H
           obtain ⟨rfl, rfl, rfl⟩ := H
           have p427 : 0 ≤ (x11_1 : Int) := of_decide_eq_true (by first | (with_reducible assumption) | assumption)
           have q427 : x11_1 < (l0.length : Int) := of_decide_eq_true (by first | (with_reducible assumption) | assumption)
           obtain ⟨ad427, e427, hx427_0⟩ := Kd.at_int HR0.out x11_1 p427 q427
           cases e427
           replace hx427_0 := (HB.out.cell (World.block_lt_of_cell? w _ hx427_0)).trans hx427_0
           replace p427 := eq_true p427
           replace q427 := eq_true q427
           have q11 : (x6_1 : Int) ≤ ((l0.length : Int) : Int) := of_decide_eq_true (by first | (with_reducible assumption) | assumption)
           obtain ⟨i011, hi011, _, hsz11, _⟩ := info_parts info5
           have hroom11 : l0.length ≤ c0 := HC0.out
           have hC11 : Kd.C (Kd.int .u8) _ (some ad427) l0.length l0 := HR0.out
           have q011 : (0 : Int) ≤ (x6_1 : Int) := of_decide_eq_true (by first | (with_reducible assumption) | assumption)
           have hcut11 := cut_from (P := Try.prog) 35 5 .i64 Try.underlying35 hi011 1 hsz11 (some ad427) l0.length c0 x6_1 q011 q11
           have hr11 := Kd.C_drop (m := (x6_1 : Int).toNat) (c := c0) hC11 (by omega) hroom11
           obtain ⟨A11, hA11⟩ : ∃ A1, A1 = (if c0 = (x6_1 : Int).toNat then (some ad427) else ((some ad427) : Option Addr).map (·.add ((x6_1 : Int).toNat * 1))) := ⟨_, rfl⟩
           obtain ⟨c11, hc11⟩ : ∃ c1, c1 = c0 - (x6_1 : Int).toNat := ⟨_, rfl⟩
           have hy11 : y428.length = l0.length - (x6_1 : Int).toNat := (by rw [Ny428.out, List.length_drop] <;> omega)
           rw [show (l0).drop (x6_1 : Int).toNat = y428 from Ny428.out.symm] at hr11
           replace hr11 : Kd.C (Kd.int .u8) _ A11 y428.length y428 := (by rw [hA11]; exact hr11)
           rw [← hy11, ← hA11, ← hc11] at hcut11
           have HR431 := Aside0.mk hr11
           have HC431 := Aside0.mk (show y428.length ≤ c11 from by rw [hy11, hc11]; exact Nat.sub_le_sub_right hroom11 _)
           clear hr11 hC11 hroom11 hi011 hsz11 hc11
           have KY11 := Aside0.mk hy11
           have KA11 := Aside0.mk hA11
           clear hy11 hA11
           replace q11 := eq_true q11
           go_wp2_with (first | ((with_reducible refine gate_callee (f := 52) rfl ?_); refine goesL_ (some 50) rfl rfl Try.func52 (by kernel_rfl) rfl #[.slice A11 y428.length c11] rfl (by (try simp only [List.map_toArray, List.map_cons, List.map_nil]); first | done | rfl | (simp only [List.length_drop, List.length_take]; rfl)) ?_; (with_reducible refine (slices_Clone_byte_byte.calls _ _ y428 t432 _ ?side1 ?side2 A10.out).mono ?_); (case side1 => repeat (first | exact (Kd.C_below HR431.out HB.out) | (with_reducible refine Kd.C_alloc ?_ _) | (with_reducible refine Kd.C_drewN ?_ _) | (with_reducible refine Kd.C_drew ?_))); (case side2 => exact HC431.out); rintro e w12 ⟨v433, rfl, ho0, hb⟩; refine ⟨_, rfl, ?_⟩; have n0_ := Aside0.mk (Kd.R_lower ho0 (below_size (by repeat (first | (with_reducible first | exact HB.out | apply below_alloc | apply pw_below_drewN | apply below_drew1) | exact HB.out)))); have n1_ := Aside0.mk (below_step (by repeat (first | (with_reducible first | exact HB.out | apply below_alloc | apply pw_below_drewN | apply below_drew1) | exact HB.out)) hb); clear HB; have HO434 := n0_; have HB := n1_; clear n0_ n1_; (try clear hb); (try clear hb2); (try clear hk); (try clear hi); (try clear ho0)))
           try (go_step3; go_wp2)
           try rw [Exit.noGoto_ret]
           go_ret3
           exact ⟨_, by first | rfl | (simp [errW_none, errW_some] <;> rfl) | (simp [*, errW_none, errW_some] <;> rfl), by (with_reducible repeat (first | apply Kd.R_alloc | apply Kd.R_drewN | apply Kd.R_drew)); exact HO434.out, by repeat (first | (with_reducible first | exact HB.out | apply below_alloc | apply pw_below_drewN | apply below_drew1) | exact HB.out)⟩
          ·
           rw [if_neg c9] at H
           exact absurd H (by simp)
         ·
          rw [if_neg c8] at H
          exact absurd H (by simp)
      ·
       rw [if_neg c5] at H
       have c5b0 : (x11_1 == 9) = false := beq_eq_false_iff_ne.mpr c5
       have c5b1 : (x11_1 != 9) = true := bne_iff_ne.mpr c5
       have HC13 := Aside0.mk H
       clear H
       have p427 : 0 ≤ (x11_1 : Int) := of_decide_eq_true (by first | (with_reducible assumption) | assumption)
       have q427 : x11_1 < (l0.length : Int) := of_decide_eq_true (by first | (with_reducible assumption) | assumption)
       obtain ⟨ad427, e427, hx427_0⟩ := Kd.at_int HR0.out x11_1 p427 q427
       cases e427
       replace hx427_0 := (HB.out.cell (World.block_lt_of_cell? w _ hx427_0)).trans hx427_0
       replace p427 := eq_true p427
       replace q427 := eq_true q427
       go_upto_region 6 with (fail)
       go_cut [19] (fun v19 wc => ∃ (kq : Nat) (x19_12 : Bool), v19 = .bool x19_12 ∧ Aside0 (code_TakeNum.j1 kq l0 x5_1 x6_1 x11_1 (rd l0 x11_1) l0 (l0.length : Int) x11_1 x19_12 = some (r1, r2, r3)) ∧ Aside0 (kq ≤ k1) ∧ Aside0 (Below w.heap.size w wc))
       case first =>
        have H := HC13.out
        clear HC13
        by_cases c14 : (rd l0 x11_1) = 0
        ·
         rw [if_pos c14] at H
         have c14b0 : ((rd l0 x11_1) == 0) = true := beq_iff_eq.mpr c14
         have c14b1 : ((rd l0 x11_1) != 0) = false := bne_eq_false_iff_eq.mpr c14
         clear c14
         (first | rw [c14b0] | (simp only [i64_w, i32_w]; rw [c14b0]) | skip)
         have H' := Aside0.mk H
         clear H
         go_wp2
         try (go_step3; go_wp2; try (go_step3; go_wp2))
         go_meet
         case rel => exact ⟨_, (decide (x11_1 > 0)), (by first | rfl | (simp; done) | (simp [*]; done)), H', ⟨by have := HK1.out; first | omega | exact Nat.le_refl _⟩, ⟨by repeat (first | (with_reducible first | exact HB.out | apply below_alloc | apply pw_below_drewN | apply below_drew1) | exact HB.out)⟩⟩
        ·
         rw [if_neg c14] at H
         have c14b0 : ((rd l0 x11_1) == 0) = false := beq_eq_false_iff_ne.mpr c14
         have c14b1 : ((rd l0 x11_1) != 0) = true := bne_iff_ne.mpr c14
         (first | rw [c14b0] | (simp only [i64_w, i32_w]; rw [c14b0]) | skip)
         have H' := Aside0.mk H
         clear H
         go_wp2
         try (go_step3; go_wp2; try (go_step3; go_wp2))
         go_meet
         case rel => exact ⟨_, (false), (by first | rfl | (simp; done) | (simp [*]; done)), H', ⟨by have := HK1.out; first | omega | exact Nat.le_refl _⟩, ⟨by repeat (first | (with_reducible first | exact HB.out | apply below_alloc | apply pw_below_drewN | apply below_drew1) | exact HB.out)⟩⟩
       case rest =>
        clear HC13
        try clear c1
        try clear q1
        try clear c2
        try clear c2b0
        try clear p2
        try clear c3
        try clear c3b0
        try clear c4
        try clear c4b0
        try clear p4
        try clear q4
        try clear hx4
        try clear c5
        try clear c5b0
        try clear c5b1
        try clear c6
        try clear c6b0
        try clear c6b1
        try clear p6
        try clear c7
        try clear c7b0
        try clear c8
        try clear c8b0
        try clear c8b1
        try clear c9
        try clear c9b0
        try clear c9b1
        try clear c11
        try clear q11
        try clear c14
        try clear c14b0
        try clear c14b1
        try clear hx427_0
        try clear p427
        try clear q011
        try clear q11
        try clear q427
        obtain ⟨kq, x19_12, rfl, HA, HJ12, HB⟩ := hcut
        cases kq with
        | zero => exact absurd HA.out (by simp [code_TakeNum.j1])
        | succ kj12 =>
         have H := HA.out
         clear HA
         simp only [code_TakeNum.j1] at H
         by_cases c15 : x19_12 = true
         ·
          subst c15
          have H1 : (if x6_1 = 0 then (some (0, ([] : List Int), 2)) else (if x5_1 > 4611686018427387903 then (some (0, ([] : List Int), 2)) else (if 0 ≤ x6_1 then (if x6_1 ≤ (l0.length : Int) then ((slices_Clone_byte_byte.f (l0.drop (x6_1 : Int).toNat)).bind fun t439 => (some (wrap64 (x5_1), t439, 0))) else (none)) else (none)))) = some (r1, r2, r3) := by rw [if_pos rfl] at H; exact H
          clear H
          have H := H1
          clear H1
          by_cases c16 : x6_1 = 0
          ·
           rw [if_pos c16] at H
           have c16b0 : (x6_1 == 0) = true := beq_iff_eq.mpr c16
           have c16b1 : (x6_1 != 0) = false := bne_eq_false_iff_eq.mpr c16
           clear c16
           simp only [Option.some.injEq, Prod.mk.injEq] at H
           obtain ⟨rfl, rfl, rfl⟩ := H
           go_wp2
           try (go_step3; go_wp2; try (go_step3; go_wp2))
           try rw [Exit.noGoto_ret]
           go_ret3
           exact ⟨_, by first | rfl | (simp [errW_none, errW_some] <;> rfl) | (simp [*, errW_none, errW_some] <;> rfl), by first | exact Kd.R_nil _ _ _ _ _ | exact Kd.N_nil _ _ _ _ _ | exact Kd.V_nil _ _ _ _ _ | exact Kd.Q_nil _ _ _ _ _ | exact Kd.S_nil _ _ _ _ _, by repeat (first | (with_reducible first | exact HB.out | apply below_alloc | apply pw_below_drewN | apply below_drew1) | exact HB.out)⟩
          ·
           rw [if_neg c16] at H
           have c16b0 : (x6_1 == 0) = false := beq_eq_false_iff_ne.mpr c16
           have c16b1 : (x6_1 != 0) = true := bne_iff_ne.mpr c16
           by_cases c17 : x5_1 > 4611686018427387903
           ·
            rw [if_pos c17] at H
            have c17b0 : decide (4611686018427387903 < x5_1) = true := decide_eq_true c17
            clear c17
            simp only [Option.some.injEq, Prod.mk.injEq] at H
            obtain ⟨rfl, rfl, rfl⟩ := H
            go_wp2
            try (go_step3; go_wp2; try (go_step3; go_wp2))
            try rw [Exit.noGoto_ret]
            go_ret3
            exact ⟨_, by first | rfl | (simp [errW_none, errW_some] <;> rfl) | (simp [*, errW_none, errW_some] <;> rfl), by first | exact Kd.R_nil _ _ _ _ _ | exact Kd.N_nil _ _ _ _ _ | exact Kd.V_nil _ _ _ _ _ | exact Kd.Q_nil _ _ _ _ _ | exact Kd.S_nil _ _ _ _ _, by repeat (first | (with_reducible first | exact HB.out | apply below_alloc | apply pw_below_drewN | apply below_drew1) | exact HB.out)⟩
           ·
            rw [if_neg c17] at H
            have c17b0 : decide (4611686018427387903 < x5_1) = false := decide_eq_false c17
            clear c17
            by_cases c18 : 0 ≤ x6_1
            ·
             rw [if_pos c18] at H
             have c18b0 := eq_true c18
             have c18b1 : decide (0 ≤ x6_1) = true := decide_eq_true c18
             clear c18
             by_cases c19 : x6_1 ≤ (l0.length : Int)
             ·
              rw [if_pos c19] at H
              have c19b0 := eq_true c19
              have c19b1 : decide (x6_1 ≤ (l0.length : Int)) = true := decide_eq_true c19
              clear c19
              obtain ⟨y435, hy435⟩ : ∃ y_ : List Int, y_ = (l0.drop (x6_1 : Int).toNat) := ⟨_, rfl⟩
              replace H : ((slices_Clone_byte_byte.f y435).bind fun t439 => (some (wrap64 (x5_1), t439, 0))) = some (r1, r2, r3) := by first | (rw [hy435]; with_reducible exact H) | (have H2_ := (Option.bind_some _ _).symm.trans H; rw [hy435]; with_reducible exact H2_) | (have H2_ := (Option.bind_some _ _).symm.trans H; with_reducible exact H2_) | with_reducible exact H | (rw [hy435]; exact H) | exact H
              have Ny435 := Aside0.mk hy435
              clear hy435
              replace H := Option.bind_eq_some_iff.mp H
              obtain ⟨t439, A200, H⟩ := H
              replace H : (some (wrap64 (x5_1), t439, 0)) = some (r1, r2, r3) := H
              have A20 := Aside0.mk A200
              clear A200
              simp only [Option.some.injEq, Prod.mk.injEq] at H
              obtain ⟨rfl, rfl, rfl⟩ := H
              have q21 : (x6_1 : Int) ≤ ((l0.length : Int) : Int) := of_decide_eq_true (by first | (with_reducible assumption) | assumption)
              obtain ⟨i021, hi021, _, hsz21, _⟩ := info_parts info5
              have hroom21 : l0.length ≤ c0 := HC0.out
              have hC21 : Kd.C (Kd.int .u8) _ (some ad427) l0.length l0 := HR0.out
              have q021 : (0 : Int) ≤ (x6_1 : Int) := of_decide_eq_true (by first | (with_reducible assumption) | assumption)
              try clear hcut11
              have hcut21 := cut_from (P := Try.prog) 35 5 .i64 Try.underlying35 hi021 1 hsz21 (some ad427) l0.length c0 x6_1 q021 q21
              have hr21 := Kd.C_drop (m := (x6_1 : Int).toNat) (c := c0) hC21 (by omega) hroom21
              obtain ⟨A21, hA21⟩ : ∃ A1, A1 = (if c0 = (x6_1 : Int).toNat then (some ad427) else ((some ad427) : Option Addr).map (·.add ((x6_1 : Int).toNat * 1))) := ⟨_, rfl⟩
              obtain ⟨c21, hc21⟩ : ∃ c1, c1 = c0 - (x6_1 : Int).toNat := ⟨_, rfl⟩
              have hy21 : y435.length = l0.length - (x6_1 : Int).toNat := (by rw [Ny435.out, List.length_drop] <;> omega)
              rw [show (l0).drop (x6_1 : Int).toNat = y435 from Ny435.out.symm] at hr21
              replace hr21 : Kd.C (Kd.int .u8) _ A21 y435.length y435 := (by rw [hA21]; exact hr21)
              rw [← hy21, ← hA21, ← hc21] at hcut21
              have HR438 := Aside0.mk hr21
              have HC438 := Aside0.mk (show y435.length ≤ c21 from by rw [hy21, hc21]; exact Nat.sub_le_sub_right hroom21 _)
              clear hr21 hC21 hroom21 hi021 hsz21 hc21
              have KY21 := Aside0.mk hy21
              have KA21 := Aside0.mk hA21
              clear hy21 hA21
              replace q21 := eq_true q21
              go_wp2_with (first | ((with_reducible refine gate_callee (f := 52) rfl ?_); refine goesL_ (some 50) rfl rfl Try.func52 (by kernel_rfl) rfl #[.slice A21 y435.length c21] rfl (by (try simp only [List.map_toArray, List.map_cons, List.map_nil]); first | done | rfl | (simp only [List.length_drop, List.length_take]; rfl)) ?_; (with_reducible refine (slices_Clone_byte_byte.calls _ _ y435 t439 _ ?side1 ?side2 A20.out).mono ?_); (case side1 => repeat (first | exact (Kd.C_below HR438.out HB.out) | (with_reducible refine Kd.C_alloc ?_ _) | (with_reducible refine Kd.C_drewN ?_ _) | (with_reducible refine Kd.C_drew ?_))); (case side2 => exact HC438.out); rintro e w22 ⟨v440, rfl, ho0, hb⟩; refine ⟨_, rfl, ?_⟩; have n0_ := Aside0.mk (Kd.R_lower ho0 (below_size (by repeat (first | (with_reducible first | exact HB.out | apply below_alloc | apply pw_below_drewN | apply below_drew1) | exact HB.out)))); have n1_ := Aside0.mk (below_step (by repeat (first | (with_reducible first | exact HB.out | apply below_alloc | apply pw_below_drewN | apply below_drew1) | exact HB.out)) hb); clear HB; have HO441 := n0_; have HB := n1_; clear n0_ n1_; (try clear hb); (try clear hb2); (try clear hk); (try clear hi); (try clear ho0)))
              try (go_step3; go_wp2)
              try rw [Exit.noGoto_ret]
              go_ret3
              exact ⟨_, by first | rfl | (simp [errW_none, errW_some] <;> rfl) | (simp [*, errW_none, errW_some] <;> rfl), by (with_reducible repeat (first | apply Kd.R_alloc | apply Kd.R_drewN | apply Kd.R_drew)); exact HO441.out, by repeat (first | (with_reducible first | exact HB.out | apply below_alloc | apply pw_below_drewN | apply below_drew1) | exact HB.out)⟩
             ·
              rw [if_neg c19] at H
              exact absurd H (by simp)
            ·
             rw [if_neg c18] at H
             exact absurd H (by simp)
         ·
          replace c15 := Bool.eq_false_iff.mpr c15
          subst c15
          have H1 : (if 0 ≤ (wrap64 (7 * x11_1)) then (if (rd l0 x11_1) < 128 then (if (wrap64 (x11_1 + 1)) = 0 then (some (0, ([] : List Int), 2)) else (if (Go.bits .or .u64 x5_1 (shl .u64 (IntKind.u64.wrap (Go.bits .and .u8 (rd l0 x11_1) 127)) (wrap64 (7 * x11_1)))) > 4611686018427387903 then (some (0, ([] : List Int), 2)) else (if 0 ≤ (wrap64 (x11_1 + 1)) then (if (wrap64 (x11_1 + 1)) ≤ (l0.length : Int) then ((slices_Clone_byte_byte.f (l0.drop ((wrap64 (x11_1 + 1)) : Int).toNat)).bind fun t446 => (some (wrap64 (Go.bits .or .u64 x5_1 (shl .u64 (IntKind.u64.wrap (Go.bits .and .u8 (rd l0 x11_1) 127)) (wrap64 (7 * x11_1)))), t446, 0))) else (none)) else (none)))) else (code_TakeNum.l0 kj12 l0 (Go.bits .or .u64 x5_1 (shl .u64 (IntKind.u64.wrap (Go.bits .and .u8 (rd l0 x11_1) 127)) (wrap64 (7 * x11_1)))) x6_1 l0 (l0.length : Int) (wrap64 (x11_1 + 1)))) else (none)) = some (r1, r2, r3) := by rw [if_neg (show ¬ (false = true) by decide)] at H; exact H
          clear H
          have H := H1
          clear H1
          obtain ⟨ji23, hji23⟩ : ∃ j_ : Int, (wrap64 (7 * x11_1)) = j_ := ⟨_, rfl⟩
          replace H : (if 0 ≤ (ji23) then (if (rd l0 x11_1) < 128 then (if (wrap64 (x11_1 + 1)) = 0 then (some (0, ([] : List Int), 2)) else (if (Go.bits .or .u64 x5_1 (shl .u64 (IntKind.u64.wrap (Go.bits .and .u8 (rd l0 x11_1) 127)) (ji23))) > 4611686018427387903 then (some (0, ([] : List Int), 2)) else (if 0 ≤ (wrap64 (x11_1 + 1)) then (if (wrap64 (x11_1 + 1)) ≤ (l0.length : Int) then ((slices_Clone_byte_byte.f (l0.drop ((wrap64 (x11_1 + 1)) : Int).toNat)).bind fun t446 => (some (wrap64 (Go.bits .or .u64 x5_1 (shl .u64 (IntKind.u64.wrap (Go.bits .and .u8 (rd l0 x11_1) 127)) (ji23))), t446, 0))) else (none)) else (none)))) else (code_TakeNum.l0 kj12 l0 (Go.bits .or .u64 x5_1 (shl .u64 (IntKind.u64.wrap (Go.bits .and .u8 (rd l0 x11_1) 127)) (ji23))) x6_1 l0 (l0.length : Int) (wrap64 (x11_1 + 1)))) else (none)) = some (r1, r2, r3) := by first | (rw [hji23] at H; exact H) | (simp only [hji23] at H ⊢; exact H)
          have hji23w : (IntKind.i64.wrap (7 * x11_1)) = ji23 := (i64_w _).trans hji23
          by_cases c24 : 0 ≤ (ji23)
          ·
           rw [if_pos c24] at H
           have c24b0 := eq_true c24
           have c24b1 : decide (0 ≤ (ji23)) = true := decide_eq_true c24
           clear c24
           obtain ⟨ji25, hji25⟩ : ∃ j_ : Int, (shl .u64 (IntKind.u64.wrap (Go.bits .and .u8 (rd l0 x11_1) 127)) (ji23)) = j_ := ⟨_, rfl⟩
           replace H : (if (rd l0 x11_1) < 128 then (if (wrap64 (x11_1 + 1)) = 0 then (some (0, ([] : List Int), 2)) else (if (Go.bits .or .u64 x5_1 (ji25)) > 4611686018427387903 then (some (0, ([] : List Int), 2)) else (if 0 ≤ (wrap64 (x11_1 + 1)) then (if (wrap64 (x11_1 + 1)) ≤ (l0.length : Int) then ((slices_Clone_byte_byte.f (l0.drop ((wrap64 (x11_1 + 1)) : Int).toNat)).bind fun t446 => (some (wrap64 (Go.bits .or .u64 x5_1 (ji25)), t446, 0))) else (none)) else (none)))) else (code_TakeNum.l0 kj12 l0 (Go.bits .or .u64 x5_1 (ji25)) x6_1 l0 (l0.length : Int) (wrap64 (x11_1 + 1)))) = some (r1, r2, r3) := by first | (rw [hji25] at H; exact H) | (simp only [hji25] at H ⊢; exact H)
           have hji25_ : (IntKind.u64.wrap ((IntKind.u64.wrap (Go.bits .and .u8 (rd l0 x11_1) 127)) * 2 ^ min (ji23).toNat 64)) = ji25 := hji25
           have hji25z : (ji23) ≤ 64 → (IntKind.u64.wrap ((IntKind.u64.wrap (Go.bits .and .u8 (rd l0 x11_1) 127)) * 2 ^ (ji23).toNat)) = ji25 := shl_small hji25
           by_cases c26 : (rd l0 x11_1) < 128
           ·
            rw [if_pos c26] at H
            have c26b0 : decide ((rd l0 x11_1) < 128) = true := decide_eq_true c26
            clear c26
            by_cases c27 : (wrap64 (x11_1 + 1)) = 0
            ·
             rw [if_pos c27] at H
             have c27b0 : ((wrap64 (x11_1 + 1)) == 0) = true := beq_iff_eq.mpr c27
             have c27b1 : ((wrap64 (x11_1 + 1)) != 0) = false := bne_eq_false_iff_eq.mpr c27
             clear c27
             simp only [Option.some.injEq, Prod.mk.injEq] at H
             obtain ⟨rfl, rfl, rfl⟩ := H
             go_wp2
             try (go_step3; go_wp2; try (go_step3; go_wp2))
             try rw [Exit.noGoto_ret]
             go_ret3
             exact ⟨_, by first | rfl | (simp [errW_none, errW_some] <;> rfl) | (simp only [← hji23, ← hji25]; first | rfl | (simp [errW_none, errW_some] <;> rfl)) | (simp [*, errW_none, errW_some] <;> rfl), by first | exact Kd.R_nil _ _ _ _ _ | exact Kd.N_nil _ _ _ _ _ | exact Kd.V_nil _ _ _ _ _ | exact Kd.Q_nil _ _ _ _ _ | exact Kd.S_nil _ _ _ _ _, by repeat (first | (with_reducible first | exact HB.out | apply below_alloc | apply pw_below_drewN | apply below_drew1) | exact HB.out)⟩
            ·
             rw [if_neg c27] at H
             have c27b0 : ((wrap64 (x11_1 + 1)) == 0) = false := beq_eq_false_iff_ne.mpr c27
             have c27b1 : ((wrap64 (x11_1 + 1)) != 0) = true := bne_iff_ne.mpr c27
             by_cases c28 : (Go.bits .or .u64 x5_1 (ji25)) > 4611686018427387903
             ·
              rw [if_pos c28] at H
              have c28b0 : decide (4611686018427387903 < (Go.bits .or .u64 x5_1 (ji25))) = true := decide_eq_true c28
              clear c28
              simp only [Option.some.injEq, Prod.mk.injEq] at H
              obtain ⟨rfl, rfl, rfl⟩ := H
              go_wp2
              try (go_step3; go_wp2; try (go_step3; go_wp2))
              try rw [Exit.noGoto_ret]
              go_ret3
              exact ⟨_, by first | rfl | (simp [errW_none, errW_some] <;> rfl) | (simp only [← hji23, ← hji25]; first | rfl | (simp [errW_none, errW_some] <;> rfl)) | (simp [*, errW_none, errW_some] <;> rfl), by first | exact Kd.R_nil _ _ _ _ _ | exact Kd.N_nil _ _ _ _ _ | exact Kd.V_nil _ _ _ _ _ | exact Kd.Q_nil _ _ _ _ _ | exact Kd.S_nil _ _ _ _ _, by repeat (first | (with_reducible first | exact HB.out | apply below_alloc | apply pw_below_drewN | apply below_drew1) | exact HB.out)⟩
             ·
              rw [if_neg c28] at H
              have c28b0 : decide (4611686018427387903 < (Go.bits .or .u64 x5_1 (ji25))) = false := decide_eq_false c28
              clear c28
              obtain ⟨ji29, hji29⟩ : ∃ j_ : Int, (wrap64 (x11_1 + 1)) = j_ := ⟨_, rfl⟩
              replace H : (if 0 ≤ (ji29) then (if (ji29) ≤ (l0.length : Int) then ((slices_Clone_byte_byte.f (l0.drop ((ji29) : Int).toNat)).bind fun t446 => (some (wrap64 (Go.bits .or .u64 x5_1 (ji25)), t446, 0))) else (none)) else (none)) = some (r1, r2, r3) := by first | (rw [hji29] at H; exact H) | (simp only [hji29] at H ⊢; exact H)
              (try rw [hji29] at c27b0)
              (try rw [hji29] at c27b1)
              have hji29w : (IntKind.i64.wrap (x11_1 + 1)) = ji29 := (i64_w _).trans hji29
              by_cases c30 : 0 ≤ (ji29)
              ·
               rw [if_pos c30] at H
               have c30b0 := eq_true c30
               have c30b1 : decide (0 ≤ (ji29)) = true := decide_eq_true c30
               clear c30
               by_cases c31 : (ji29) ≤ (l0.length : Int)
               ·
                rw [if_pos c31] at H
                have c31b0 := eq_true c31
                have c31b1 : decide ((ji29) ≤ (l0.length : Int)) = true := decide_eq_true c31
                clear c31
                obtain ⟨y442, hy442⟩ : ∃ y_ : List Int, y_ = (l0.drop ((ji29) : Int).toNat) := ⟨_, rfl⟩
                replace H : ((slices_Clone_byte_byte.f y442).bind fun t446 => (some (wrap64 (Go.bits .or .u64 x5_1 (ji25)), t446, 0))) = some (r1, r2, r3) := by first | (rw [hy442]; with_reducible exact H) | (have H2_ := (Option.bind_some _ _).symm.trans H; rw [hy442]; with_reducible exact H2_) | (have H2_ := (Option.bind_some _ _).symm.trans H; with_reducible exact H2_) | with_reducible exact H | (rw [hy442]; exact H) | exact H
                have Ny442 := Aside0.mk hy442
                clear hy442
                replace H := Option.bind_eq_some_iff.mp H
                obtain ⟨t446, A320, H⟩ := H
                replace H : (some (wrap64 (Go.bits .or .u64 x5_1 (ji25)), t446, 0)) = some (r1, r2, r3) := H
                have A32 := Aside0.mk A320
                clear A320
                simp only [Option.some.injEq, Prod.mk.injEq] at H
                obtain ⟨rfl, rfl, rfl⟩ := H
                have q33 : ((ji29) : Int) ≤ ((l0.length : Int) : Int) := of_decide_eq_true (by first | (with_reducible assumption) | assumption)
                obtain ⟨i033, hi033, _, hsz33, _⟩ := info_parts info5
                have hroom33 : l0.length ≤ c0 := HC0.out
                have hC33 : Kd.C (Kd.int .u8) _ (some ad427) l0.length l0 := HR0.out
                have q033 : (0 : Int) ≤ ((ji29) : Int) := of_decide_eq_true (by first | (with_reducible assumption) | assumption)
                have hcut33 := cut_from (P := Try.prog) 35 5 .i64 Try.underlying35 hi033 1 hsz33 (some ad427) l0.length c0 (ji29) q033 q33
                have hr33 := Kd.C_drop (m := ((ji29) : Int).toNat) (c := c0) hC33 (by omega) hroom33
                obtain ⟨A33, hA33⟩ : ∃ A1, A1 = (if c0 = ((ji29) : Int).toNat then (some ad427) else ((some ad427) : Option Addr).map (·.add (((ji29) : Int).toNat * 1))) := ⟨_, rfl⟩
                obtain ⟨c33, hc33⟩ : ∃ c1, c1 = c0 - ((ji29) : Int).toNat := ⟨_, rfl⟩
                have hy33 : y442.length = l0.length - ((ji29) : Int).toNat := (by rw [Ny442.out, List.length_drop] <;> omega)
                rw [show (l0).drop ((ji29) : Int).toNat = y442 from Ny442.out.symm] at hr33
                replace hr33 : Kd.C (Kd.int .u8) _ A33 y442.length y442 := (by rw [hA33]; exact hr33)
                rw [← hy33, ← hA33, ← hc33] at hcut33
                have HR445 := Aside0.mk hr33
                have HC445 := Aside0.mk (show y442.length ≤ c33 from by rw [hy33, hc33]; exact Nat.sub_le_sub_right hroom33 _)
                clear hr33 hC33 hroom33 hi033 hsz33 hc33
                have KY33 := Aside0.mk hy33
                have KA33 := Aside0.mk hA33
                clear hy33 hA33
                replace q33 := eq_true q33
                go_wp2_with (first | ((with_reducible refine gate_callee (f := 52) rfl ?_); refine goesL_ (some 50) rfl rfl Try.func52 (by kernel_rfl) rfl #[.slice A33 y442.length c33] rfl (by (try simp only [List.map_toArray, List.map_cons, List.map_nil]); first | done | rfl | (simp only [List.length_drop, List.length_take]; rfl)) ?_; (with_reducible refine (slices_Clone_byte_byte.calls _ _ y442 t446 _ ?side1 ?side2 A32.out).mono ?_); (case side1 => repeat (first | exact (Kd.C_below HR445.out HB.out) | (with_reducible refine Kd.C_alloc ?_ _) | (with_reducible refine Kd.C_drewN ?_ _) | (with_reducible refine Kd.C_drew ?_))); (case side2 => exact HC445.out); rintro e w34 ⟨v447, rfl, ho0, hb⟩; refine ⟨_, rfl, ?_⟩; have n0_ := Aside0.mk (Kd.R_lower ho0 (below_size (by repeat (first | (with_reducible first | exact HB.out | apply below_alloc | apply pw_below_drewN | apply below_drew1) | exact HB.out)))); have n1_ := Aside0.mk (below_step (by repeat (first | (with_reducible first | exact HB.out | apply below_alloc | apply pw_below_drewN | apply below_drew1) | exact HB.out)) hb); clear HB; have HO448 := n0_; have HB := n1_; clear n0_ n1_; (try clear hb); (try clear hb2); (try clear hk); (try clear hi); (try clear ho0)))
                try (go_step3; go_wp2)
                try rw [Exit.noGoto_ret]
                go_ret3
                exact ⟨_, by first | rfl | (simp [errW_none, errW_some] <;> rfl) | (simp only [← hji23, ← hji25, ← hji29]; first | rfl | (simp [errW_none, errW_some] <;> rfl)) | (simp [*, errW_none, errW_some] <;> rfl), by (with_reducible repeat (first | apply Kd.R_alloc | apply Kd.R_drewN | apply Kd.R_drew)); exact HO448.out, by repeat (first | (with_reducible first | exact HB.out | apply below_alloc | apply pw_below_drewN | apply below_drew1) | exact HB.out)⟩
               ·
                rw [if_neg c31] at H
                exact absurd H (by simp)
              ·
               rw [if_neg c30] at H
               exact absurd H (by simp)
           ·
            rw [if_neg c26] at H
            have c26b0 : decide ((rd l0 x11_1) < 128) = false := decide_eq_false c26
            clear c26
            have H' := Aside0.mk H
            clear H
            go_wp2
            try (go_step3; go_wp2; try (go_step3; go_wp2))
            go_roundg kj12
            case measure => have := HK1.out; have := HJ12.out; omega
            case rel => exact ⟨(Go.bits .or .u64 x5_1 (ji25)), (x6_1), (wrap64 (x11_1 + 1)), (by first | rfl | (simp; done) | (simp only [← hji25] <;> (first | rfl | simp)) | (simp [*]; done)), (by first | rfl | (simp; done) | (simp [*]; done)), (by first | rfl | (simp; done) | (simp [*]; done)), H', ⟨by have := HK1.out; have := HJ12.out; omega⟩, ⟨by repeat (first | (with_reducible first | exact HB.out | apply below_alloc | apply pw_below_drewN | apply below_drew1) | exact HB.out)⟩⟩
          ·
           rw [if_neg c24] at H
           exact absurd H (by simp)
     ·
      rw [if_neg c4] at H
      exact absurd H (by simp)
    ·
     rw [if_neg c3] at H
     exact absurd H (by simp)
   ·
    rw [if_neg c2] at H
    have c2b0 : decide (x11_1 < (l0.length : Int)) = false := decide_eq_false c2
    clear c2
    by_cases c35 : x6_1 = 0
    ·
     rw [if_pos c35] at H
     have c35b0 : (x6_1 == 0) = true := beq_iff_eq.mpr c35
     have c35b1 : (x6_1 != 0) = false := bne_eq_false_iff_eq.mpr c35
     clear c35
     simp only [Option.some.injEq, Prod.mk.injEq] at H
     obtain ⟨rfl, rfl, rfl⟩ := H
     go_wp2
     try (go_step3; go_wp2; try (go_step3; go_wp2))
     try rw [Exit.noGoto_ret]
     go_ret3
     exact ⟨_, by first | rfl | (simp [errW_none, errW_some] <;> rfl) | (simp [*, errW_none, errW_some] <;> rfl), by first | exact Kd.R_nil _ _ _ _ _ | exact Kd.N_nil _ _ _ _ _ | exact Kd.V_nil _ _ _ _ _ | exact Kd.Q_nil _ _ _ _ _ | exact Kd.S_nil _ _ _ _ _, by repeat (first | (with_reducible first | exact HB.out | apply below_alloc | apply pw_below_drewN | apply below_drew1) | exact HB.out)⟩
    ·
     rw [if_neg c35] at H
     have c35b0 : (x6_1 == 0) = false := beq_eq_false_iff_ne.mpr c35
     have c35b1 : (x6_1 != 0) = true := bne_iff_ne.mpr c35
     by_cases c36 : x5_1 > 4611686018427387903
     ·
      rw [if_pos c36] at H
      have c36b0 : decide (4611686018427387903 < x5_1) = true := decide_eq_true c36
      clear c36
      simp only [Option.some.injEq, Prod.mk.injEq] at H
      obtain ⟨rfl, rfl, rfl⟩ := H
      go_wp2
      try (go_step3; go_wp2; try (go_step3; go_wp2))
      try rw [Exit.noGoto_ret]
      go_ret3
      exact ⟨_, by first | rfl | (simp [errW_none, errW_some] <;> rfl) | (simp [*, errW_none, errW_some] <;> rfl), by first | exact Kd.R_nil _ _ _ _ _ | exact Kd.N_nil _ _ _ _ _ | exact Kd.V_nil _ _ _ _ _ | exact Kd.Q_nil _ _ _ _ _ | exact Kd.S_nil _ _ _ _ _, by repeat (first | (with_reducible first | exact HB.out | apply below_alloc | apply pw_below_drewN | apply below_drew1) | exact HB.out)⟩
     ·
      rw [if_neg c36] at H
      have c36b0 : decide (4611686018427387903 < x5_1) = false := decide_eq_false c36
      clear c36
      by_cases c37 : 0 ≤ x6_1
      ·
       rw [if_pos c37] at H
       have c37b0 := eq_true c37
       have c37b1 : decide (0 ≤ x6_1) = true := decide_eq_true c37
       clear c37
       by_cases c38 : x6_1 ≤ (l0.length : Int)
       ·
        rw [if_pos c38] at H
        have c38b0 := eq_true c38
        have c38b1 : decide (x6_1 ≤ (l0.length : Int)) = true := decide_eq_true c38
        clear c38
        obtain ⟨y420, hy420⟩ : ∃ y_ : List Int, y_ = (l0.drop (x6_1 : Int).toNat) := ⟨_, rfl⟩
        replace H : ((slices_Clone_byte_byte.f y420).bind fun t424 => (some (wrap64 (x5_1), t424, 0))) = some (r1, r2, r3) := by first | (rw [hy420]; with_reducible exact H) | (have H2_ := (Option.bind_some _ _).symm.trans H; rw [hy420]; with_reducible exact H2_) | (have H2_ := (Option.bind_some _ _).symm.trans H; with_reducible exact H2_) | with_reducible exact H | (rw [hy420]; exact H) | exact H
        have Ny420 := Aside0.mk hy420
        clear hy420
        replace H := Option.bind_eq_some_iff.mp H
        obtain ⟨t424, A390, H⟩ := H
        replace H : (some (wrap64 (x5_1), t424, 0)) = some (r1, r2, r3) := H
        have A39 := Aside0.mk A390
        clear A390
        simp only [Option.some.injEq, Prod.mk.injEq] at H
        obtain ⟨rfl, rfl, rfl⟩ := H
        have q40 : (x6_1 : Int) ≤ ((l0.length : Int) : Int) := of_decide_eq_true (by first | (with_reducible assumption) | assumption)
        obtain ⟨i040, hi040, _, hsz40, _⟩ := info_parts info5
        have hroom40 : l0.length ≤ c0 := HC0.out
        have hC40 : Kd.C (Kd.int .u8) _ A0 l0.length l0 := HR0.out
        have q040 : (0 : Int) ≤ (x6_1 : Int) := of_decide_eq_true (by first | (with_reducible assumption) | assumption)
        have hcut40 := cut_from (P := Try.prog) 35 5 .i64 Try.underlying35 hi040 1 hsz40 A0 l0.length c0 x6_1 q040 q40
        have hr40 := Kd.C_drop (m := (x6_1 : Int).toNat) (c := c0) hC40 (by omega) hroom40
        obtain ⟨A40, hA40⟩ : ∃ A1, A1 = (if c0 = (x6_1 : Int).toNat then A0 else (A0 : Option Addr).map (·.add ((x6_1 : Int).toNat * 1))) := ⟨_, rfl⟩
        obtain ⟨c40, hc40⟩ : ∃ c1, c1 = c0 - (x6_1 : Int).toNat := ⟨_, rfl⟩
        have hy40 : y420.length = l0.length - (x6_1 : Int).toNat := (by rw [Ny420.out, List.length_drop] <;> omega)
        rw [show (l0).drop (x6_1 : Int).toNat = y420 from Ny420.out.symm] at hr40
        replace hr40 : Kd.C (Kd.int .u8) _ A40 y420.length y420 := (by rw [hA40]; exact hr40)
        rw [← hy40, ← hA40, ← hc40] at hcut40
        have HR423 := Aside0.mk hr40
        have HC423 := Aside0.mk (show y420.length ≤ c40 from by rw [hy40, hc40]; exact Nat.sub_le_sub_right hroom40 _)
        clear hr40 hC40 hroom40 hi040 hsz40 hc40
        have KY40 := Aside0.mk hy40
        have KA40 := Aside0.mk hA40
        clear hy40 hA40
        replace q40 := eq_true q40
        go_wp2_with (first | ((with_reducible refine gate_callee (f := 52) rfl ?_); refine goesL_ (some 50) rfl rfl Try.func52 (by kernel_rfl) rfl #[.slice A40 y420.length c40] rfl (by (try simp only [List.map_toArray, List.map_cons, List.map_nil]); first | done | rfl | (simp only [List.length_drop, List.length_take]; rfl)) ?_; (with_reducible refine (slices_Clone_byte_byte.calls _ _ y420 t424 _ ?side1 ?side2 A39.out).mono ?_); (case side1 => repeat (first | exact (Kd.C_below HR423.out HB.out) | (with_reducible refine Kd.C_alloc ?_ _) | (with_reducible refine Kd.C_drewN ?_ _) | (with_reducible refine Kd.C_drew ?_))); (case side2 => exact HC423.out); rintro e w41 ⟨v425, rfl, ho0, hb⟩; refine ⟨_, rfl, ?_⟩; have n0_ := Aside0.mk (Kd.R_lower ho0 (below_size (by repeat (first | (with_reducible first | exact HB.out | apply below_alloc | apply pw_below_drewN | apply below_drew1) | exact HB.out)))); have n1_ := Aside0.mk (below_step (by repeat (first | (with_reducible first | exact HB.out | apply below_alloc | apply pw_below_drewN | apply below_drew1) | exact HB.out)) hb); clear HB; have HO426 := n0_; have HB := n1_; clear n0_ n1_; (try clear hb); (try clear hb2); (try clear hk); (try clear hi); (try clear ho0)))
        try (go_step3; go_wp2)
        try rw [Exit.noGoto_ret]
        go_ret3
        exact ⟨_, by first | rfl | (simp [errW_none, errW_some] <;> rfl) | (simp [*, errW_none, errW_some] <;> rfl), by (with_reducible repeat (first | apply Kd.R_alloc | apply Kd.R_drewN | apply Kd.R_drew)); exact HO426.out, by repeat (first | (with_reducible first | exact HB.out | apply below_alloc | apply pw_below_drewN | apply below_drew1) | exact HB.out)⟩
       ·
        rw [if_neg c38] at H
        exact absurd H (by simp)
      ·
       rw [if_neg c37] at H
       exact absurd H (by simp)

end Go.Proofs.Ythpklhkibcenoaa.Px
