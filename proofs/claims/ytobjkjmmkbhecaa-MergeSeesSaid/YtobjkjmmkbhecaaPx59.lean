-- Printed by a program of ours (px) out of the translation; Lean checks it.
import Derived.Test.YtobjkjmmkbhecaaPx0
import Derived.Test.YtobjkjmmkbhecaaMD
import Derived.Test.YtobjkjmmkbhecaaPx57
import Derived.Test.YtobjkjmmkbhecaaPx58
namespace Go.Proofs.Ytobjkjmmkbhecaa.Px
open Go.RowKit Go.Proofs.YtobjkjmmkbhecaaW.PrintWords Go.Proofs.YtobjkjmmkbhecaaW.PrintLast Go.Proofs.YtobjkjmmkbhecaaW.PrintMore
attribute [local go_sem] max2_int min2_int max_two min_two max_three min_three max_four min_four   -- for this text's walks alone
set_option linter.unusedVariables false
set_option linter.unusedSimpArgs false
set_option linter.unnecessarySimpa false

/-! ### sawyerref12_Visible: function 16 -/
def sawyerref12_Visible.l0 : Nat → Int → List (S36) → List (List (S36)) → Int → Option ((List (S36)))
 | 0, _, _, _, _ => none
 | k + 1, x1, x5, x6, x7 => if x7 < (x6.length : Int) then (if 0 ≤ x7 then ((sawyerref12_first.f k (rd_L5 x6 x7) x1).bind fun t419 => (if t419 ≥ 0 then (if 0 ≤ t419 then (if t419 < ((rd_L5 x6 x7).length : Int) then (if ((rd_T36 (rd_L5 x6 x7) t419).f2 = true) then (sawyerref12_Visible.l0 k x1 x5 x6 (wrap64 (x7 + 1))) else ((sawyerref06_Copy.f ((rd_T36 (rd_L5 x6 x7) t419).f0) ((rd_T36 (rd_L5 x6 x7) t419).f1) ((rd_T36 (rd_L5 x6 x7) t419).f2) ((rd_T36 (rd_L5 x6 x7) t419).f3)).bind fun bt424 => (if x5.length < 2199023255552 then (sawyerref12_Visible.l0 k x1 (x5 ++ [(⟨bt424.1, bt424.2.1, bt424.2.2.1, bt424.2.2.2⟩ : S36)]) x6 (wrap64 (x7 + 1))) else (none)))) else (none)) else (none)) else (sawyerref12_Visible.l0 k x1 x5 x6 (wrap64 (x7 + 1))))) else (none)) else (some x5)
def sawyerref12_Visible.f (k : Nat) (l0 : List (S36)) (a1 : Int) : Option ((List (S36))) := (sawyerref12_groups.f l0).bind fun t415 => (sawyerref12_Visible.l0 k a1 ([] : List (S36)) t415 0)
theorem sawyerref12_Visible.mono_l : ∀ k, (∀ y0 y1 y2 y3, LeO (sawyerref12_Visible.l0 k y0 y1 y2 y3) (sawyerref12_Visible.l0 (k + 1) y0 y1 y2 y3))
 | 0 => fun _ _ _ _ r h => by simp [sawyerref12_Visible.l0] at h
 | k + 1 => by
  have ih0 := sawyerref12_Visible.mono_l k
  ·
   intro y0 y1 y2 y3
   unfold sawyerref12_Visible.l0
   repeat' first
   | (with_reducible exact ih0 _ _ _ _)
   | (with_reducible exact sawyerref12_first.mono _ _ _)
   | (with_reducible exact LeO.refl _)
   | (with_reducible exact LeO.none _)
   | (with_reducible refine LeO.ite ?_ ?_)
   | (with_reducible refine LeO.bind ?_ (fun _ => ?_))
   | exact ih0 _ _ _ _
   | exact sawyerref12_first.mono _ _ _
   | exact LeO.none _
   | refine LeO.ite ?_ ?_
   | refine LeO.bind ?_ (fun _ => ?_)
theorem sawyerref12_Visible.mono : ∀ a0 a1 k, LeO (sawyerref12_Visible.f k a0 a1) (sawyerref12_Visible.f (k + 1) a0 a1) := by
 intro a0 a1 k
 have ih0 := sawyerref12_Visible.mono_l k
 unfold sawyerref12_Visible.f
 repeat' first
   | (with_reducible exact ih0 _ _ _ _)
   | (with_reducible exact sawyerref12_first.mono _ _ _)
   | (with_reducible exact LeO.refl _)
   | (with_reducible exact LeO.none _)
   | (with_reducible refine LeO.ite ?_ ?_)
   | (with_reducible refine LeO.bind ?_ (fun _ => ?_))
   | exact ih0 _ _ _ _
   | exact sawyerref12_first.mono _ _ _
   | exact LeO.none _
   | refine LeO.ite ?_ ?_
   | refine LeO.bind ?_ (fun _ => ?_)
set_option maxHeartbeats 8000000 in
set_option maxRecDepth 100000 in
theorem sawyerref12_Visible.calls (k : Nat) (A0 : Option Addr) (c0 : Nat) (l0 : List (S36)) (a1 : Int) (r : List (S36)) (w : World) (hr0 : Kd.C k36 w A0 l0.length l0) (hc0 : l0.length ≤ c0) (h : sawyerref12_Visible.f k l0 a1 = some r) :
  Calls Try.prog 16 #[.slice A0 l0.length c0, .int .i64 a1] w fun e w' => ∃ v0_ : Value, e = .returned (v0_) ∧ Kd.S k36 36 w' w.heap.size (fun _ => True) v0_ r ∧ Below w.heap.size w w' := by
 have hu36 := Try.underlying36
 have HR0 := Aside0.mk hr0
 have HC0 := Aside0.mk hc0
 clear hr0 hc0
 have HB := Aside0.mk (Below.refl w.heap.size w)
 have H : ((sawyerref12_groups.f l0).bind fun t415 => (sawyerref12_Visible.l0 k a1 ([] : List (S36)) t415 0)) = some r := h
 clear h
 replace H := Option.bind_eq_some_iff.mp H
 obtain ⟨t415, A30, H⟩ := H
 replace H : (sawyerref12_Visible.l0 k a1 ([] : List (S36)) t415 0) = some r := H
 have A3 := Aside0.mk A30
 clear A30
 have H' := Aside0.mk H
 clear H
 go_enter Try.func16, Try.ntmps16
 go_wp2_with (first | ((with_reducible refine gate_callee (f := 34) rfl ?_); refine goesL_ (some 10) rfl rfl Try.func34 (by kernel_rfl) rfl #[.slice A0 l0.length c0] rfl (by (try simp only [List.map_toArray, List.map_cons, List.map_nil]); first | done | rfl | (simp only [List.length_drop, List.length_take]; rfl)) ?_; (with_reducible refine (sawyerref12_groups.calls (fun k_ => k_ < w.heap.size) _ _ l0 t415 _ ?side1 A3.out).mono ?_); (case side1 => exact Kd.V_mk HC0.out (Kd.F_below (Kd.C_F k36_heap HR0.out) (by repeat (first | (with_reducible first | exact HB.out | apply below_alloc | apply pw_below_drewN | apply below_drew1) | exact HB.out)))); rintro e w4 ⟨v416, rfl, ho0, hb⟩; refine ⟨_, rfl, ?_⟩; have n0_ := Aside0.mk (Kd.V_lower (Kd.V_mono (ok' := fun k_ => True) ho0 (fun k_ hk_ => trivial)) (below_size (by repeat (first | (with_reducible first | exact HB.out | apply below_alloc | apply pw_below_drewN | apply below_drew1) | exact HB.out)))); have n1_ := Aside0.mk (below_step (by repeat (first | (with_reducible first | exact HB.out | apply below_alloc | apply pw_below_drewN | apply below_drew1) | exact HB.out)) hb); clear HB; have HO417 := n0_; have HB := n1_; clear n0_ n1_; (try clear hb); (try clear hb2); (try clear hk); (try clear hi); (try clear ho0)))
 go_loopg [5, 7] k (fun kq v5 v7 w' => ∃ (x5_1 : List (S36)) (x7_1 : Int), v7 = .int .i64 x7_1 ∧ Aside0 (sawyerref12_Visible.l0 kq a1 x5_1 t415 x7_1 = some r) ∧ Aside0 (kq ≤ k) ∧ Aside0 (Kd.S k36 36 w' w.heap.size (fun _ => True) v5 x5_1) ∧ Aside0 (Kd.V (Kd.slice 36 k36) 24 w' w.heap.size (fun k_ => some k_ ≠ (v5 : Value).ownBlock) v416 t415) ∧ Aside0 (Below w.heap.size w w'))
 case atStart => exact ⟨(([] : List (S36))), (0), (by first | rfl | (simp; done) | (simp [*]; done)), H', ⟨Nat.le_refl _⟩, ⟨by first | exact Kd.S_nil _ _ _ _ _ | exact Kd.N_nil _ _ _ _ _ | exact Kd.V_nil _ _ _ _ _ | exact Kd.Q_nil _ _ _ _ _ | exact Kd.R_nil _ _ _ _ _⟩, ⟨by (with_reducible repeat (first | apply Kd.V_alloc | apply Kd.V_drewN | apply Kd.V_drew)); exact Kd.V_mono HO417.out (fun _ hk => (by simp [Value.ownBlock]))⟩, ⟨by repeat (first | (with_reducible first | exact HB.out | apply below_alloc | apply pw_below_drewN | apply below_drew1) | exact HB.out)⟩⟩
 case round =>
  clear H'
  try clear c1
  try clear p2
  try clear c3
  obtain ⟨x5_1, x7_1, rfl, HA, HK1, HO_5, HO_6, HB⟩ := hrel
  cases gk with
  | zero => exact absurd HA.out (by simp [sawyerref12_Visible.l0])
  | succ k1 =>
   have H := HA.out
   clear HA
   simp only [sawyerref12_Visible.l0] at H
   by_cases c5 : x7_1 < (t415.length : Int)
   ·
    rw [if_pos c5] at H
    have c5b0 : decide (x7_1 < (t415.length : Int)) = true := decide_eq_true c5
    clear c5
    by_cases c6 : 0 ≤ x7_1
    ·
     rw [if_pos c6] at H
     have c6b0 : decide (0 ≤ x7_1) = true := decide_eq_true c6
     clear c6
     replace H := Option.bind_eq_some_iff.mp H
     obtain ⟨t419, A70, H⟩ := H
     replace H : (if t419 ≥ 0 then (if 0 ≤ t419 then (if t419 < ((rd_L5 t415 x7_1).length : Int) then (if ((rd_T36 (rd_L5 t415 x7_1) t419).f2 = true) then (sawyerref12_Visible.l0 k1 a1 x5_1 t415 (wrap64 (x7_1 + 1))) else ((sawyerref06_Copy.f ((rd_T36 (rd_L5 t415 x7_1) t419).f0) ((rd_T36 (rd_L5 t415 x7_1) t419).f1) ((rd_T36 (rd_L5 t415 x7_1) t419).f2) ((rd_T36 (rd_L5 t415 x7_1) t419).f3)).bind fun bt424 => (if x5_1.length < 2199023255552 then (sawyerref12_Visible.l0 k1 a1 (x5_1 ++ [(⟨bt424.1, bt424.2.1, bt424.2.2.1, bt424.2.2.2⟩ : S36)]) t415 (wrap64 (x7_1 + 1))) else (none)))) else (none)) else (none)) else (sawyerref12_Visible.l0 k1 a1 x5_1 t415 (wrap64 (x7_1 + 1)))) = some r := H
     have A7 := Aside0.mk A70
     clear A70
     by_cases c8 : t419 ≥ 0
     ·
      rw [if_pos c8] at H
      have c8b0 : decide (0 ≤ t419) = true := decide_eq_true c8
      clear c8
      by_cases c9 : 0 ≤ t419
      ·
       rw [if_pos c9] at H
       have c9b0 : decide (0 ≤ t419) = true := decide_eq_true c9
       clear c9
       by_cases c10 : t419 < ((rd_L5 t415 x7_1).length : Int)
       ·
        rw [if_pos c10] at H
        have c10b0 : decide (t419 < ((rd_L5 t415 x7_1).length : Int)) = true := decide_eq_true c10
        clear c10
        obtain ⟨bq11, hbq11⟩ : ∃ b_ : Bool, b_ = ((rd_T36 (rd_L5 t415 x7_1) t419).f2) := ⟨_, rfl⟩
        replace H : (if (bq11 = true) then (sawyerref12_Visible.l0 k1 a1 x5_1 t415 (wrap64 (x7_1 + 1))) else ((sawyerref06_Copy.f ((rd_T36 (rd_L5 t415 x7_1) t419).f0) ((rd_T36 (rd_L5 t415 x7_1) t419).f1) (bq11) ((rd_T36 (rd_L5 t415 x7_1) t419).f3)).bind fun bt424 => (if x5_1.length < 2199023255552 then (sawyerref12_Visible.l0 k1 a1 (x5_1 ++ [(⟨bt424.1, bt424.2.1, bt424.2.2.1, bt424.2.2.2⟩ : S36)]) t415 (wrap64 (x7_1 + 1))) else (none)))) = some r := by rw [← hbq11] at H; exact H
        have Nbq11 := Aside0.mk hbq11
        clear hbq11
        by_cases c12 : (bq11 = true)
        ·
         subst c12
         have H1 : (sawyerref12_Visible.l0 k1 a1 x5_1 t415 (wrap64 (x7_1 + 1))) = some r := by rw [if_pos rfl] at H; exact H
         clear H
         have H := H1
         clear H1
         have H' := Aside0.mk H
         clear H
         obtain ⟨Ao13, co13, eo13⟩ := Kd.V_slice HO_6.out
         subst eo13
         have p418 : 0 ≤ (x7_1 : Int) := of_decide_eq_true (by first | (with_reducible assumption) | assumption)
         have q418 : x7_1 < (t415.length : Int) := of_decide_eq_true (by first | (with_reducible assumption) | assumption)
         obtain ⟨ad418, A418_0, c418_0, e418, hx418_0, hl418_0, hi418_0⟩ := at_L5 (Kd.V_reads' HO_6.out).2.2 x7_1 p418 q418
         cases e418
         obtain ⟨ce418, hce418, hMe418, hcc418⟩ := Kd.V_get HO_6.out [] x7_1 p418 (by first | exact q418 | exact of_decide_eq_true (by first | (with_reducible assumption) | assumption) | (have e_ := (Kd.V_reads' HO_6.out).1; omega))
         obtain ⟨ua418_0, uc418_0, rfl, ul418_0, ge418_0⟩ := Kd.FK_slice_open hMe418
         have hv418_0 := hcc418 0 _ rfl
         rw [Nat.add_zero, show ((Kd.slice 36 k36)).sz = 1 from rfl, Nat.mul_one] at hv418_0
         replace hv418_0 := Option.some.inj (hv418_0.symm.trans hx418_0)
         injection hv418_0 with hva_ hvn_ hvc_
         rw [hva_] at ge418_0
         rw [hvc_] at ul418_0
         have HL418_0 := Aside0.mk (show Kd.V k36 36 _ w.heap.size _ _ (rd_L5 t415 x7_1) from Kd.V_mk ul418_0 ge418_0)
         clear hva_ hvn_ hvc_ ge418_0 ul418_0
         clear hcc418 hce418
         have HR418_0 := Aside0.mk hi418_0
         have HC418_0 := Aside0.mk hl418_0
         clear hi418_0 hl418_0
         replace p418 := eq_true p418
         replace q418 := eq_true q418
         go_wp2_with (first | ((with_reducible refine gate_callee (f := 35) rfl ?_); refine goesL_ (some 22) rfl rfl Try.func35 (by kernel_rfl) rfl #[.slice A418_0 (rd_L5 t415 x7_1).length c418_0, .int .i64 a1] rfl (by (try simp only [List.map_toArray, List.map_cons, List.map_nil]); first | done | rfl | (simp only [List.length_drop, List.length_take]; rfl)) ?_; (with_reducible refine (sawyerref12_first.calls k1 _ _ (rd_L5 t415 x7_1) a1 t419 _ ?side1 ?side2 A7.out).mono ?_); (case side1 => repeat (first | exact (by repeat (first | (with_reducible exact HR418_0.out) | (with_reducible refine Kd.C_alloc ?_ _) | (with_reducible refine Kd.C_drewN ?_ _) | (with_reducible refine Kd.C_drew ?_) | exact HR418_0.out)) | (with_reducible refine Kd.C_alloc ?_ _) | (with_reducible refine Kd.C_drewN ?_ _) | (with_reducible refine Kd.C_drew ?_))); (case side2 => exact HC418_0.out); rintro e w' ⟨rfl, ⟨nd, rfl⟩⟩; refine ⟨_, rfl, ?_⟩; have p420 : 0 ≤ (x7_1 : Int) := of_decide_eq_true (by first | (with_reducible assumption) | assumption); have q420 : x7_1 < (t415.length : Int) := of_decide_eq_true (by first | (with_reducible assumption) | assumption); obtain ⟨ad420, A420_0, c420_0, e420, hx420_0, hl420_0, hi420_0⟩ := at_L5 (Kd.V_reads' HO_6.out).2.2 x7_1 p420 q420; obtain rfl : ad418 = ad420 := (by injection e420); obtain ⟨ce420, hce420, hMe420, hcc420⟩ := Kd.V_get HO_6.out [] x7_1 p420 (by first | exact q420 | exact of_decide_eq_true (by first | (with_reducible assumption) | assumption) | (have e_ := (Kd.V_reads' HO_6.out).1; omega)); obtain ⟨ua420_0, uc420_0, rfl, ul420_0, ge420_0⟩ := Kd.FK_slice_open hMe420; have hv420_0 := hcc420 0 _ rfl; rw [Nat.add_zero, show ((Kd.slice 36 k36)).sz = 1 from rfl, Nat.mul_one] at hv420_0; replace hv420_0 := Option.some.inj (hv420_0.symm.trans hx420_0); injection hv420_0 with hva_ hvn_ hvc_; rw [hva_] at ge420_0; rw [hvc_] at ul420_0; have HL420_0 := Aside0.mk (show Kd.V k36 36 _ w.heap.size _ _ (rd_L5 t415 x7_1) from Kd.V_mk ul420_0 ge420_0); clear hva_ hvn_ hvc_ ge420_0 ul420_0; clear hcc420 hce420; have HR420_0 := Aside0.mk hi420_0; have HC420_0 := Aside0.mk hl420_0; clear hi420_0 hl420_0; replace p420 := eq_true p420; replace q420 := eq_true q420; have ea_ := Option.some.inj (hx418_0.symm.trans hx420_0); injection ea_ with ea_ en_ ec_; subst ea_; subst ec_; clear en_; have p421 : 0 ≤ (t419 : Int) := of_decide_eq_true (by first | (with_reducible assumption) | assumption); have q421 : t419 < ((rd_L5 t415 x7_1).length : Int) := of_decide_eq_true (by first | (with_reducible assumption) | assumption); obtain ⟨ad421, A421_0, c421_0, A421_3, c421_3, e421, hx421_0, hx421_1, hx421_2, hx421_3, hl421_0, hi421_0, hl421_3, hi421_3⟩ := at_T36 (by repeat (first | (with_reducible exact HR420_0.out) | (with_reducible refine Kd.C_alloc ?_ _) | (with_reducible refine Kd.C_drewN ?_ _) | (with_reducible refine Kd.C_drew ?_) | exact HR420_0.out)) t419 p421 q421; (try rw [← Nbq11.out] at hx421_2); cases e421; obtain ⟨ce421, hce421, hMe421, hcc421⟩ := Kd.V_get HL420_0.out z36 t419 p421 (by first | exact q421 | exact of_decide_eq_true (by first | (with_reducible assumption) | assumption) | (have e_ := (Kd.V_reads' HL420_0.out).1; omega)); obtain ⟨ua421_0, uc421_0, ua421_3, uc421_3, rfl, ul421_0, ge421_0, ul421_3, ge421_3⟩ := k36_openF hMe421; have hv421_0 := hcc421 0 _ rfl; rw [Nat.add_zero] at hv421_0; replace hv421_0 := Option.some.inj (hv421_0.symm.trans hx421_0); injection hv421_0 with hva_ hvn_ hvc_; rw [hva_] at ge421_0; rw [hvc_] at ul421_0; have HL421_0 := Aside0.mk (show Kd.V (Kd.int .u8) 5 _ w.heap.size _ _ ((rd_T36 (rd_L5 t415 x7_1) t419).f0) from Kd.V_mk ul421_0 ge421_0); clear hva_ hvn_ hvc_ ge421_0 ul421_0; have hv421_3 := hcc421 3 _ rfl; rw [add_field _ _ 3 (by omega)] at hv421_3; replace hv421_3 := Option.some.inj (hv421_3.symm.trans hx421_3); injection hv421_3 with hva_ hvn_ hvc_; rw [hva_] at ge421_3; rw [hvc_] at ul421_3; have HL421_3 := Aside0.mk (show Kd.V (Kd.int .u8) 5 _ w.heap.size _ _ ((rd_T36 (rd_L5 t415 x7_1) t419).f3) from Kd.V_mk ul421_3 ge421_3); clear hva_ hvn_ hvc_ ge421_3 ul421_3; clear hcc421 hce421; have HR421_0 := Aside0.mk hi421_0; have HC421_0 := Aside0.mk hl421_0; clear hi421_0 hl421_0; have HR421_3 := Aside0.mk hi421_3; have HC421_3 := Aside0.mk hl421_3; clear hi421_3 hl421_3; replace p421 := eq_true p421; replace q421 := eq_true q421))
         go_roundg k1
         case measure => have := HK1.out; omega
         case rel => exact ⟨(x5_1), (wrap64 (x7_1 + 1)), (by first | rfl | (simp; done) | (simp [*]; done)), H', ⟨by have := HK1.out; omega⟩, ⟨by (with_reducible repeat (first | apply Kd.S_alloc | apply Kd.S_drewN | apply Kd.S_drew)); exact HO_5.out⟩, ⟨by (with_reducible repeat (first | apply Kd.V_alloc | apply Kd.V_drewN | apply Kd.V_drew)); exact HO_6.out⟩, ⟨by repeat (first | (with_reducible first | exact HB.out | apply below_alloc | apply pw_below_drewN | apply below_drew1) | exact HB.out)⟩⟩
        ·
         replace c12 := Bool.eq_false_iff.mpr c12
         subst c12
         have H1 : ((sawyerref06_Copy.f ((rd_T36 (rd_L5 t415 x7_1) t419).f0) ((rd_T36 (rd_L5 t415 x7_1) t419).f1) (false) ((rd_T36 (rd_L5 t415 x7_1) t419).f3)).bind fun bt424 => (if x5_1.length < 2199023255552 then (sawyerref12_Visible.l0 k1 a1 (x5_1 ++ [(⟨bt424.1, bt424.2.1, bt424.2.2.1, bt424.2.2.2⟩ : S36)]) t415 (wrap64 (x7_1 + 1))) else (none))) = some r := by rw [if_neg (show ¬ (false = true) by decide)] at H; exact H
         clear H
         have H := H1
         clear H1
         replace H := Option.bind_eq_some_iff.mp H
         obtain ⟨⟨t424, t427, t428, t429⟩, A140, H⟩ := H
         replace H : (if x5_1.length < 2199023255552 then (sawyerref12_Visible.l0 k1 a1 (x5_1 ++ [(⟨t424, t427, t428, t429⟩ : S36)]) t415 (wrap64 (x7_1 + 1))) else (none)) = some r := H
         have A14 := Aside0.mk A140
         clear A140
         by_cases c15 : x5_1.length < 2199023255552
         ·
          rw [if_pos c15] at H
          have LMc15 := Aside0.mk c15
          clear c15
          obtain ⟨y432, hy432⟩ : ∃ y_ : List (S36), y_ = (x5_1 ++ [(⟨t424, t427, t428, t429⟩ : S36)]) := ⟨_, rfl⟩
          replace H : (sawyerref12_Visible.l0 k1 a1 y432 t415 (wrap64 (x7_1 + 1))) = some r := by first | (rw [hy432]; with_reducible exact H) | (have H2_ := (Option.bind_some _ _).symm.trans H; rw [hy432]; with_reducible exact H2_) | (have H2_ := (Option.bind_some _ _).symm.trans H; with_reducible exact H2_) | with_reducible exact H | (rw [hy432]; exact H) | exact H
          have Ny432 := Aside0.mk hy432
          clear hy432
          have H' := Aside0.mk H
          clear H
          obtain ⟨Ao16, co16, eo16⟩ := Kd.V_slice HO_6.out
          subst eo16
          have p418 : 0 ≤ (x7_1 : Int) := of_decide_eq_true (by first | (with_reducible assumption) | assumption)
          have q418 : x7_1 < (t415.length : Int) := of_decide_eq_true (by first | (with_reducible assumption) | assumption)
          obtain ⟨ad418, A418_0, c418_0, e418, hx418_0, hl418_0, hi418_0⟩ := at_L5 (Kd.V_reads' HO_6.out).2.2 x7_1 p418 q418
          cases e418
          obtain ⟨ce418, hce418, hMe418, hcc418⟩ := Kd.V_get HO_6.out [] x7_1 p418 (by first | exact q418 | exact of_decide_eq_true (by first | (with_reducible assumption) | assumption) | (have e_ := (Kd.V_reads' HO_6.out).1; omega))
          obtain ⟨ua418_0, uc418_0, rfl, ul418_0, ge418_0⟩ := Kd.FK_slice_open hMe418
          have hv418_0 := hcc418 0 _ rfl
          rw [Nat.add_zero, show ((Kd.slice 36 k36)).sz = 1 from rfl, Nat.mul_one] at hv418_0
          replace hv418_0 := Option.some.inj (hv418_0.symm.trans hx418_0)
          injection hv418_0 with hva_ hvn_ hvc_
          rw [hva_] at ge418_0
          rw [hvc_] at ul418_0
          have HL418_0 := Aside0.mk (show Kd.V k36 36 _ w.heap.size _ _ (rd_L5 t415 x7_1) from Kd.V_mk ul418_0 ge418_0)
          clear hva_ hvn_ hvc_ ge418_0 ul418_0
          clear hcc418 hce418
          have HR418_0 := Aside0.mk hi418_0
          have HC418_0 := Aside0.mk hl418_0
          clear hi418_0 hl418_0
          replace p418 := eq_true p418
          replace q418 := eq_true q418
          go_wp2_with (first | ((with_reducible refine gate_callee (f := 35) rfl ?_); refine goesL_ (some 22) rfl rfl Try.func35 (by kernel_rfl) rfl #[.slice A418_0 (rd_L5 t415 x7_1).length c418_0, .int .i64 a1] rfl (by (try simp only [List.map_toArray, List.map_cons, List.map_nil]); first | done | rfl | (simp only [List.length_drop, List.length_take]; rfl)) ?_; (with_reducible refine (sawyerref12_first.calls k1 _ _ (rd_L5 t415 x7_1) a1 t419 _ ?side1 ?side2 A7.out).mono ?_); (case side1 => repeat (first | exact (by repeat (first | (with_reducible exact HR418_0.out) | (with_reducible refine Kd.C_alloc ?_ _) | (with_reducible refine Kd.C_drewN ?_ _) | (with_reducible refine Kd.C_drew ?_) | exact HR418_0.out)) | (with_reducible refine Kd.C_alloc ?_ _) | (with_reducible refine Kd.C_drewN ?_ _) | (with_reducible refine Kd.C_drew ?_))); (case side2 => exact HC418_0.out); rintro e w' ⟨rfl, ⟨nd, rfl⟩⟩; refine ⟨_, rfl, ?_⟩; have p420 : 0 ≤ (x7_1 : Int) := of_decide_eq_true (by first | (with_reducible assumption) | assumption); have q420 : x7_1 < (t415.length : Int) := of_decide_eq_true (by first | (with_reducible assumption) | assumption); obtain ⟨ad420, A420_0, c420_0, e420, hx420_0, hl420_0, hi420_0⟩ := at_L5 (Kd.V_reads' HO_6.out).2.2 x7_1 p420 q420; obtain rfl : ad418 = ad420 := (by injection e420); obtain ⟨ce420, hce420, hMe420, hcc420⟩ := Kd.V_get HO_6.out [] x7_1 p420 (by first | exact q420 | exact of_decide_eq_true (by first | (with_reducible assumption) | assumption) | (have e_ := (Kd.V_reads' HO_6.out).1; omega)); obtain ⟨ua420_0, uc420_0, rfl, ul420_0, ge420_0⟩ := Kd.FK_slice_open hMe420; have hv420_0 := hcc420 0 _ rfl; rw [Nat.add_zero, show ((Kd.slice 36 k36)).sz = 1 from rfl, Nat.mul_one] at hv420_0; replace hv420_0 := Option.some.inj (hv420_0.symm.trans hx420_0); injection hv420_0 with hva_ hvn_ hvc_; rw [hva_] at ge420_0; rw [hvc_] at ul420_0; have HL420_0 := Aside0.mk (show Kd.V k36 36 _ w.heap.size _ _ (rd_L5 t415 x7_1) from Kd.V_mk ul420_0 ge420_0); clear hva_ hvn_ hvc_ ge420_0 ul420_0; clear hcc420 hce420; have HR420_0 := Aside0.mk hi420_0; have HC420_0 := Aside0.mk hl420_0; clear hi420_0 hl420_0; replace p420 := eq_true p420; replace q420 := eq_true q420; have ea_ := Option.some.inj (hx418_0.symm.trans hx420_0); injection ea_ with ea_ en_ ec_; subst ea_; subst ec_; clear en_; have p421 : 0 ≤ (t419 : Int) := of_decide_eq_true (by first | (with_reducible assumption) | assumption); have q421 : t419 < ((rd_L5 t415 x7_1).length : Int) := of_decide_eq_true (by first | (with_reducible assumption) | assumption); obtain ⟨ad421, A421_0, c421_0, A421_3, c421_3, e421, hx421_0, hx421_1, hx421_2, hx421_3, hl421_0, hi421_0, hl421_3, hi421_3⟩ := at_T36 (by repeat (first | (with_reducible exact HR420_0.out) | (with_reducible refine Kd.C_alloc ?_ _) | (with_reducible refine Kd.C_drewN ?_ _) | (with_reducible refine Kd.C_drew ?_) | exact HR420_0.out)) t419 p421 q421; (try rw [← Nbq11.out] at hx421_2); cases e421; obtain ⟨ce421, hce421, hMe421, hcc421⟩ := Kd.V_get HL420_0.out z36 t419 p421 (by first | exact q421 | exact of_decide_eq_true (by first | (with_reducible assumption) | assumption) | (have e_ := (Kd.V_reads' HL420_0.out).1; omega)); obtain ⟨ua421_0, uc421_0, ua421_3, uc421_3, rfl, ul421_0, ge421_0, ul421_3, ge421_3⟩ := k36_openF hMe421; have hv421_0 := hcc421 0 _ rfl; rw [Nat.add_zero] at hv421_0; replace hv421_0 := Option.some.inj (hv421_0.symm.trans hx421_0); injection hv421_0 with hva_ hvn_ hvc_; rw [hva_] at ge421_0; rw [hvc_] at ul421_0; have HL421_0 := Aside0.mk (show Kd.V (Kd.int .u8) 5 _ w.heap.size _ _ ((rd_T36 (rd_L5 t415 x7_1) t419).f0) from Kd.V_mk ul421_0 ge421_0); clear hva_ hvn_ hvc_ ge421_0 ul421_0; have hv421_3 := hcc421 3 _ rfl; rw [add_field _ _ 3 (by omega)] at hv421_3; replace hv421_3 := Option.some.inj (hv421_3.symm.trans hx421_3); injection hv421_3 with hva_ hvn_ hvc_; rw [hva_] at ge421_3; rw [hvc_] at ul421_3; have HL421_3 := Aside0.mk (show Kd.V (Kd.int .u8) 5 _ w.heap.size _ _ ((rd_T36 (rd_L5 t415 x7_1) t419).f3) from Kd.V_mk ul421_3 ge421_3); clear hva_ hvn_ hvc_ ge421_3 ul421_3; clear hcc421 hce421; have HR421_0 := Aside0.mk hi421_0; have HC421_0 := Aside0.mk hl421_0; clear hi421_0 hl421_0; have HR421_3 := Aside0.mk hi421_3; have HC421_3 := Aside0.mk hl421_3; clear hi421_3 hl421_3; replace p421 := eq_true p421; replace q421 := eq_true q421; have p422 : 0 ≤ (x7_1 : Int) := of_decide_eq_true (by first | (with_reducible assumption) | assumption); have q422 : x7_1 < (t415.length : Int) := of_decide_eq_true (by first | (with_reducible assumption) | assumption); obtain ⟨ad422, A422_0, c422_0, e422, hx422_0, hl422_0, hi422_0⟩ := at_L5 (Kd.V_reads' HO_6.out).2.2 x7_1 p422 q422; obtain rfl : ad418 = ad422 := (by injection e422); obtain ⟨ce422, hce422, hMe422, hcc422⟩ := Kd.V_get HO_6.out [] x7_1 p422 (by first | exact q422 | exact of_decide_eq_true (by first | (with_reducible assumption) | assumption) | (have e_ := (Kd.V_reads' HO_6.out).1; omega)); obtain ⟨ua422_0, uc422_0, rfl, ul422_0, ge422_0⟩ := Kd.FK_slice_open hMe422; have hv422_0 := hcc422 0 _ rfl; rw [Nat.add_zero, show ((Kd.slice 36 k36)).sz = 1 from rfl, Nat.mul_one] at hv422_0; replace hv422_0 := Option.some.inj (hv422_0.symm.trans hx422_0); injection hv422_0 with hva_ hvn_ hvc_; rw [hva_] at ge422_0; rw [hvc_] at ul422_0; have HL422_0 := Aside0.mk (show Kd.V k36 36 _ w.heap.size _ _ (rd_L5 t415 x7_1) from Kd.V_mk ul422_0 ge422_0); clear hva_ hvn_ hvc_ ge422_0 ul422_0; clear hcc422 hce422; have HR422_0 := Aside0.mk hi422_0; have HC422_0 := Aside0.mk hl422_0; clear hi422_0 hl422_0; replace p422 := eq_true p422; replace q422 := eq_true q422; have ea_ := Option.some.inj (hx418_0.symm.trans hx422_0); injection ea_ with ea_ en_ ec_; subst ea_; subst ec_; clear en_; have p423 : 0 ≤ (t419 : Int) := of_decide_eq_true (by first | (with_reducible assumption) | assumption); have q423 : t419 < ((rd_L5 t415 x7_1).length : Int) := of_decide_eq_true (by first | (with_reducible assumption) | assumption); obtain ⟨ad423, A423_0, c423_0, A423_3, c423_3, e423, hx423_0, hx423_1, hx423_2, hx423_3, hl423_0, hi423_0, hl423_3, hi423_3⟩ := at_T36 (by repeat (first | (with_reducible exact HR422_0.out) | (with_reducible refine Kd.C_alloc ?_ _) | (with_reducible refine Kd.C_drewN ?_ _) | (with_reducible refine Kd.C_drew ?_) | exact HR422_0.out)) t419 p423 q423; (try rw [← Nbq11.out] at hx423_2); cases e423; obtain ⟨ce423, hce423, hMe423, hcc423⟩ := Kd.V_get HL422_0.out z36 t419 p423 (by first | exact q423 | exact of_decide_eq_true (by first | (with_reducible assumption) | assumption) | (have e_ := (Kd.V_reads' HL422_0.out).1; omega)); obtain ⟨ua423_0, uc423_0, ua423_3, uc423_3, rfl, ul423_0, ge423_0, ul423_3, ge423_3⟩ := k36_openF hMe423; have hv423_0 := hcc423 0 _ rfl; rw [Nat.add_zero] at hv423_0; replace hv423_0 := Option.some.inj (hv423_0.symm.trans hx423_0); injection hv423_0 with hva_ hvn_ hvc_; rw [hva_] at ge423_0; rw [hvc_] at ul423_0; have HL423_0 := Aside0.mk (show Kd.V (Kd.int .u8) 5 _ w.heap.size _ _ ((rd_T36 (rd_L5 t415 x7_1) t419).f0) from Kd.V_mk ul423_0 ge423_0); clear hva_ hvn_ hvc_ ge423_0 ul423_0; have hv423_3 := hcc423 3 _ rfl; rw [add_field _ _ 3 (by omega)] at hv423_3; replace hv423_3 := Option.some.inj (hv423_3.symm.trans hx423_3); injection hv423_3 with hva_ hvn_ hvc_; rw [hva_] at ge423_3; rw [hvc_] at ul423_3; have HL423_3 := Aside0.mk (show Kd.V (Kd.int .u8) 5 _ w.heap.size _ _ ((rd_T36 (rd_L5 t415 x7_1) t419).f3) from Kd.V_mk ul423_3 ge423_3); clear hva_ hvn_ hvc_ ge423_3 ul423_3; clear hcc423 hce423; have HR423_0 := Aside0.mk hi423_0; have HC423_0 := Aside0.mk hl423_0; clear hi423_0 hl423_0; have HR423_3 := Aside0.mk hi423_3; have HC423_3 := Aside0.mk hl423_3; clear hi423_3 hl423_3; replace p423 := eq_true p423; replace q423 := eq_true q423) | ((with_reducible refine gate_callee (f := 36) rfl ?_); refine goesL_ (some 44) rfl rfl Try.func36 (by kernel_rfl) rfl #[.agg #[.slice A421_0 ((rd_T36 (rd_L5 t415 x7_1) t419).f0).length c421_0, .int .i64 ((rd_T36 (rd_L5 t415 x7_1) t419).f1), .bool false, .slice A421_3 ((rd_T36 (rd_L5 t415 x7_1) t419).f3).length c421_3]] rfl (by (try simp only [List.map_toArray, List.map_cons, List.map_nil]); first | done | rfl | (simp only [List.length_drop, List.length_take]; rfl)) ?_; (with_reducible refine (sawyerref06_Copy.calls _ _ ((rd_T36 (rd_L5 t415 x7_1) t419).f0) ((rd_T36 (rd_L5 t415 x7_1) t419).f1) false _ _ ((rd_T36 (rd_L5 t415 x7_1) t419).f3) t424 t427 t428 t429 _ ?side1 ?side2 ?side3 ?side4 A14.out).mono ?_); (case side1 => repeat (first | exact (by repeat (first | (with_reducible exact HR421_0.out) | (with_reducible refine Kd.C_alloc ?_ _) | (with_reducible refine Kd.C_drewN ?_ _) | (with_reducible refine Kd.C_drew ?_) | exact HR421_0.out)) | (with_reducible refine Kd.C_alloc ?_ _) | (with_reducible refine Kd.C_drewN ?_ _) | (with_reducible refine Kd.C_drew ?_))); (case side2 => exact HC421_0.out); (case side3 => repeat (first | exact (by repeat (first | (with_reducible exact HR421_3.out) | (with_reducible refine Kd.C_alloc ?_ _) | (with_reducible refine Kd.C_drewN ?_ _) | (with_reducible refine Kd.C_drew ?_) | exact HR421_3.out)) | (with_reducible refine Kd.C_alloc ?_ _) | (with_reducible refine Kd.C_drewN ?_ _) | (with_reducible refine Kd.C_drew ?_))); (case side4 => exact HC421_3.out); rintro e w17 ⟨v425, v430, rfl, ho0, ho1, hb⟩; refine ⟨_, rfl, ?_⟩; have n0_ := Aside0.mk (Kd.S_mono (Kd.S_told (Kd.S_told (Kd.S_old (by (with_reducible repeat (first | apply Kd.S_alloc | apply Kd.S_drewN | apply Kd.S_drew)); exact HO_5.out) hb) (Kd.R_base ho0)) (Kd.R_base ho1)) (fun _ h_ => h_.1)); have n1_ := Aside0.mk (Kd.V_mono (Kd.V_told (Kd.V_told (Kd.V_old (by (with_reducible repeat (first | apply Kd.V_alloc | apply Kd.V_drewN | apply Kd.V_drew)); exact HO_6.out) hb) (Kd.R_base ho0)) (Kd.R_base ho1)) (fun _ h_ => h_.1)); have n2_ := Aside0.mk (Kd.V_mono (Kd.V_told (Kd.V_told (Kd.V_old (by (with_reducible repeat (first | apply Kd.V_alloc | apply Kd.V_drewN | apply Kd.V_drew)); exact HL418_0.out) hb) (Kd.R_base ho0)) (Kd.R_base ho1)) (fun _ h_ => h_.1)); have n3_ := Aside0.mk (Kd.V_mono (Kd.V_told (Kd.V_told (Kd.V_old (by (with_reducible repeat (first | apply Kd.V_alloc | apply Kd.V_drewN | apply Kd.V_drew)); exact HL420_0.out) hb) (Kd.R_base ho0)) (Kd.R_base ho1)) (fun _ h_ => h_.1)); have n4_ := Aside0.mk (Kd.V_mono (Kd.V_told (Kd.V_told (Kd.V_old (by (with_reducible repeat (first | apply Kd.V_alloc | apply Kd.V_drewN | apply Kd.V_drew)); exact HL421_0.out) hb) (Kd.R_base ho0)) (Kd.R_base ho1)) (fun _ h_ => h_.1)); have n5_ := Aside0.mk (Kd.V_mono (Kd.V_told (Kd.V_told (Kd.V_old (by (with_reducible repeat (first | apply Kd.V_alloc | apply Kd.V_drewN | apply Kd.V_drew)); exact HL421_3.out) hb) (Kd.R_base ho0)) (Kd.R_base ho1)) (fun _ h_ => h_.1)); have n6_ := Aside0.mk (Kd.V_mono (Kd.V_told (Kd.V_told (Kd.V_old (by (with_reducible repeat (first | apply Kd.V_alloc | apply Kd.V_drewN | apply Kd.V_drew)); exact HL422_0.out) hb) (Kd.R_base ho0)) (Kd.R_base ho1)) (fun _ h_ => h_.1)); have n7_ := Aside0.mk (Kd.V_mono (Kd.V_told (Kd.V_told (Kd.V_old (by (with_reducible repeat (first | apply Kd.V_alloc | apply Kd.V_drewN | apply Kd.V_drew)); exact HL421_0.out) hb) (Kd.R_base ho0)) (Kd.R_base ho1)) (fun _ h_ => h_.1)); have n8_ := Aside0.mk (Kd.V_mono (Kd.V_told (Kd.V_told (Kd.V_old (by (with_reducible repeat (first | apply Kd.V_alloc | apply Kd.V_drewN | apply Kd.V_drew)); exact HL421_3.out) hb) (Kd.R_base ho0)) (Kd.R_base ho1)) (fun _ h_ => h_.1)); have n9_ := Aside0.mk (Kd.R_lower ho0 (below_size (by repeat (first | (with_reducible first | exact HB.out | apply below_alloc | apply pw_below_drewN | apply below_drew1) | exact HB.out)))); have n10_ := Aside0.mk (Kd.R_lower ho1 (below_size (by repeat (first | (with_reducible first | exact HB.out | apply below_alloc | apply pw_below_drewN | apply below_drew1) | exact HB.out)))); have n11_ := Aside0.mk (Kd.C_below (by repeat (first | (with_reducible exact HR418_0.out) | (with_reducible refine Kd.C_alloc ?_ _) | (with_reducible refine Kd.C_drewN ?_ _) | (with_reducible refine Kd.C_drew ?_) | exact HR418_0.out)) hb); have n12_ := Aside0.mk (Kd.C_below (by repeat (first | (with_reducible exact HR420_0.out) | (with_reducible refine Kd.C_alloc ?_ _) | (with_reducible refine Kd.C_drewN ?_ _) | (with_reducible refine Kd.C_drew ?_) | exact HR420_0.out)) hb); have n13_ := Aside0.mk (Kd.C_below (by repeat (first | (with_reducible exact HR421_0.out) | (with_reducible refine Kd.C_alloc ?_ _) | (with_reducible refine Kd.C_drewN ?_ _) | (with_reducible refine Kd.C_drew ?_) | exact HR421_0.out)) hb); have n14_ := Aside0.mk (Kd.C_below (by repeat (first | (with_reducible exact HR421_3.out) | (with_reducible refine Kd.C_alloc ?_ _) | (with_reducible refine Kd.C_drewN ?_ _) | (with_reducible refine Kd.C_drew ?_) | exact HR421_3.out)) hb); have n15_ := Aside0.mk (Kd.C_below (by repeat (first | (with_reducible exact HR422_0.out) | (with_reducible refine Kd.C_alloc ?_ _) | (with_reducible refine Kd.C_drewN ?_ _) | (with_reducible refine Kd.C_drew ?_) | exact HR422_0.out)) hb); have n18_ := Aside0.mk (below_step (by repeat (first | (with_reducible first | exact HB.out | apply below_alloc | apply pw_below_drewN | apply below_drew1) | exact HB.out)) hb); clear HO_5; clear HO_6; clear HL418_0; clear HL420_0; clear HL421_0; clear HL421_3; clear HL422_0; clear HR418_0; clear HR420_0; clear HR421_0; clear HR421_3; clear HR422_0; clear HB; have HO_5 := n0_; have HO_6 := n1_; have HL418_0 := n2_; have HL420_0 := n3_; have HL421_0 := n4_; have HL421_3 := n5_; have HL422_0 := n6_; have HO426 := n9_; have HO431 := n10_; have HR418_0 := n11_; have HR420_0 := n12_; have HR421_0 := n13_; have HR421_3 := n14_; have HR422_0 := n15_; have HB := n18_; clear n0_ n1_ n2_ n3_ n4_ n5_ n6_ n7_ n8_ n9_ n10_ n11_ n12_ n13_ n14_ n15_ n18_; (try clear hb); (try clear hb2); (try clear hk); (try clear hi); (try clear ho0); (try clear ho1); obtain ⟨Ao19, co19, eo19⟩ := Kd.R_slice HO426.out; subst eo19; obtain ⟨Ao20, co20, eo20⟩ := Kd.R_slice HO431.out; subst eo20) | ((with_reducible refine gate_builtin (b := .append) (xs := #[.tmp 36, .tmp 45]) rfl ?_); at_builtin; refine Kd.S_append k36 (w0 := w) w.heap.size rfl (.tmp 36) (.tmp 45) 24 36 (.agg #[(.slice none 0 0), (.int .i64 0), (.bool false), (.slice none 0 0)]) 64 rfl Try.underlying24 info36 rfl (by decide) (by omega) u5 x5_1 (⟨t424, t427, t428, t429⟩ : S36) [.slice Ao19 t424.length co19, .int .i64 t427, .bool t428, .slice Ao20 t429.length co20] (fun _ => True) (fun k_ => some k_ = (.slice Ao19 t424.length co19 : Value).ownBlock ∨ some k_ = (.slice Ao20 t429.length co20 : Value).ownBlock) rfl rfl ?aP (fun k_ hk_ => hk_.elim (fun h_ => ((Kd.R_mono (ok' := fun k_ => ((fun _ => True)) k_ ∧ some k_ ≠ (u5 : Value).ownBlock) (Kd.R_apart' (HO426.out) (Kd.S_typed HO_5.out) (by decide)) (fun k_ hk => ⟨trivial, hk.2⟩))).1 k_ h_.symm) (fun h_ => ((Kd.R_mono (ok' := fun k_ => ((fun _ => True)) k_ ∧ some k_ ≠ (u5 : Value).ownBlock) (Kd.R_apart' (HO431.out) (Kd.S_typed HO_5.out) (by decide)) (fun k_ hk => ⟨trivial, hk.2⟩))).1 k_ h_.symm)) ?aF ?aO ?aB ?aS ?aL ?_; (case aP => exact k36_mkM _ _ _ (⟨t424, t427, t428, t429⟩ : S36) (Kd.R_mono (Kd.R_tight rfl (Kd.R_mono (ok' := fun k_ => ((fun _ => True)) k_ ∧ some k_ ≠ (u5 : Value).ownBlock) (Kd.R_apart' (HO426.out) (Kd.S_typed HO_5.out) (by decide)) (fun k_ hk => ⟨trivial, hk.2⟩))) (fun _ h_ => Or.inl h_)) (Kd.R_mono (Kd.R_tight rfl (Kd.R_mono (ok' := fun k_ => ((fun _ => True)) k_ ∧ some k_ ≠ (u5 : Value).ownBlock) (Kd.R_apart' (HO431.out) (Kd.S_typed HO_5.out) (by decide)) (fun k_ hk => ⟨trivial, hk.2⟩))) (fun _ h_ => Or.inr (h_)))); (case aB => exact (by repeat (first | (with_reducible first | exact HB.out | apply below_alloc | apply pw_below_drewN | apply below_drew1) | exact HB.out))); (case aF => exact (fun _ _ => trivial)); (case aO => exact (by (with_reducible repeat (first | apply Kd.S_alloc | apply Kd.S_drewN | apply Kd.S_drew)); exact Kd.S_mono HO_5.out (fun k_ hk => ⟨trivial, fun e_ => e_.elim (fun h_ => hk.1.2 h_) (fun h_ => hk.2 h_)⟩))); (case aS => exact (below_size (by repeat (first | (with_reducible first | exact HB.out | apply below_alloc | apply pw_below_drewN | apply below_drew1) | exact HB.out)))); (case aL => have := LMc15.out; omega); intro v433 w18 ho hb hg hat; rw [← Ny432.out] at ho; have n0_ := Aside0.mk (Kd.V_afterv (ok := (fun k_ => some k_ ≠ (.slice Ao19 t424.length co19 : Value).ownBlock ∧ some k_ ≠ (.slice Ao20 t429.length co20 : Value).ownBlock)) (by (with_reducible repeat (first | apply Kd.V_alloc | apply Kd.V_drewN | apply Kd.V_drew)); exact Kd.V_mono HO_6.out (fun _ hk => ⟨⟨hk.1.2, hk.2⟩, hk.1.1⟩)) hg hat); have n1_ := Aside0.mk (Kd.V_afterv (ok := (fun k_ => some k_ ≠ (.slice Ao19 t424.length co19 : Value).ownBlock ∧ some k_ ≠ (.slice Ao20 t429.length co20 : Value).ownBlock)) (by (with_reducible repeat (first | apply Kd.V_alloc | apply Kd.V_drewN | apply Kd.V_drew)); exact Kd.V_mono HL418_0.out (fun _ hk => ⟨⟨hk.1.2, hk.2⟩, hk.1.1⟩)) hg hat); have n2_ := Aside0.mk (Kd.V_afterv (ok := (fun k_ => some k_ ≠ (.slice Ao19 t424.length co19 : Value).ownBlock ∧ some k_ ≠ (.slice Ao20 t429.length co20 : Value).ownBlock)) (by (with_reducible repeat (first | apply Kd.V_alloc | apply Kd.V_drewN | apply Kd.V_drew)); exact Kd.V_mono HL420_0.out (fun _ hk => ⟨⟨hk.1.2, hk.2⟩, hk.1.1⟩)) hg hat); have n3_ := Aside0.mk (Kd.V_afterv (ok := (fun k_ => some k_ ≠ (.slice Ao19 t424.length co19 : Value).ownBlock ∧ some k_ ≠ (.slice Ao20 t429.length co20 : Value).ownBlock)) (by (with_reducible repeat (first | apply Kd.V_alloc | apply Kd.V_drewN | apply Kd.V_drew)); exact Kd.V_mono HL421_0.out (fun _ hk => ⟨⟨hk.1.2, hk.2⟩, hk.1.1⟩)) hg hat); have n4_ := Aside0.mk (Kd.V_afterv (ok := (fun k_ => some k_ ≠ (.slice Ao19 t424.length co19 : Value).ownBlock ∧ some k_ ≠ (.slice Ao20 t429.length co20 : Value).ownBlock)) (by (with_reducible repeat (first | apply Kd.V_alloc | apply Kd.V_drewN | apply Kd.V_drew)); exact Kd.V_mono HL421_3.out (fun _ hk => ⟨⟨hk.1.2, hk.2⟩, hk.1.1⟩)) hg hat); have n5_ := Aside0.mk (Kd.V_afterv (ok := (fun k_ => some k_ ≠ (.slice Ao19 t424.length co19 : Value).ownBlock ∧ some k_ ≠ (.slice Ao20 t429.length co20 : Value).ownBlock)) (by (with_reducible repeat (first | apply Kd.V_alloc | apply Kd.V_drewN | apply Kd.V_drew)); exact Kd.V_mono HL422_0.out (fun _ hk => ⟨⟨hk.1.2, hk.2⟩, hk.1.1⟩)) hg hat); have n6_ := Aside0.mk (Kd.V_afterv (ok := (fun k_ => some k_ ≠ (.slice Ao19 t424.length co19 : Value).ownBlock ∧ some k_ ≠ (.slice Ao20 t429.length co20 : Value).ownBlock)) (by (with_reducible repeat (first | apply Kd.V_alloc | apply Kd.V_drewN | apply Kd.V_drew)); exact Kd.V_mono HL421_0.out (fun _ hk => ⟨⟨hk.1.2, hk.2⟩, hk.1.1⟩)) hg hat); have n7_ := Aside0.mk (Kd.V_afterv (ok := (fun k_ => some k_ ≠ (.slice Ao19 t424.length co19 : Value).ownBlock ∧ some k_ ≠ (.slice Ao20 t429.length co20 : Value).ownBlock)) (by (with_reducible repeat (first | apply Kd.V_alloc | apply Kd.V_drewN | apply Kd.V_drew)); exact Kd.V_mono HL421_3.out (fun _ hk => ⟨⟨hk.1.2, hk.2⟩, hk.1.1⟩)) hg hat); have n8_ := Aside0.mk (hb); have n9_ := Aside0.mk (ho); clear HO_6; clear HL418_0; clear HL420_0; clear HL421_0; clear HL421_3; clear HL422_0; clear HB; clear HO_5; clear HO426; clear HO431; have HO_6 := n0_; have HL418_0 := n1_; have HL420_0 := n2_; have HL421_0 := n3_; have HL421_3 := n4_; have HL422_0 := n5_; have HB := n8_; have HO434 := n9_; clear n0_ n1_ n2_ n3_ n4_ n5_ n6_ n7_ n8_ n9_; clear ho hb hg hat))
          go_roundg k1
          case measure => have := HK1.out; omega
          case rel => exact ⟨(y432), (wrap64 (x7_1 + 1)), (by first | rfl | (simp; done) | (simp [*]; done)), H', ⟨by have := HK1.out; omega⟩, ⟨by (with_reducible repeat (first | apply Kd.S_alloc | apply Kd.S_drewN | apply Kd.S_drew)); exact HO434.out⟩, ⟨by (with_reducible repeat (first | apply Kd.V_alloc | apply Kd.V_drewN | apply Kd.V_drew)); exact Kd.V_mono HO_6.out (fun _ hk => hk.2)⟩, ⟨by repeat (first | (with_reducible first | exact HB.out | apply below_alloc | apply pw_below_drewN | apply below_drew1) | exact HB.out)⟩⟩
         ·
          rw [if_neg c15] at H
          exact absurd H (by simp)
       ·
        rw [if_neg c10] at H
        exact absurd H (by simp)
      ·
       rw [if_neg c9] at H
       exact absurd H (by simp)
     ·
      rw [if_neg c8] at H
      have c8b0 : decide (0 ≤ t419) = false := decide_eq_false c8
      clear c8
      have H' := Aside0.mk H
      clear H
      obtain ⟨Ao21, co21, eo21⟩ := Kd.V_slice HO_6.out
      subst eo21
      have p418 : 0 ≤ (x7_1 : Int) := of_decide_eq_true (by first | (with_reducible assumption) | assumption)
      have q418 : x7_1 < (t415.length : Int) := of_decide_eq_true (by first | (with_reducible assumption) | assumption)
      obtain ⟨ad418, A418_0, c418_0, e418, hx418_0, hl418_0, hi418_0⟩ := at_L5 (Kd.V_reads' HO_6.out).2.2 x7_1 p418 q418
      cases e418
      obtain ⟨ce418, hce418, hMe418, hcc418⟩ := Kd.V_get HO_6.out [] x7_1 p418 (by first | exact q418 | exact of_decide_eq_true (by first | (with_reducible assumption) | assumption) | (have e_ := (Kd.V_reads' HO_6.out).1; omega))
      obtain ⟨ua418_0, uc418_0, rfl, ul418_0, ge418_0⟩ := Kd.FK_slice_open hMe418
      have hv418_0 := hcc418 0 _ rfl
      rw [Nat.add_zero, show ((Kd.slice 36 k36)).sz = 1 from rfl, Nat.mul_one] at hv418_0
      replace hv418_0 := Option.some.inj (hv418_0.symm.trans hx418_0)
      injection hv418_0 with hva_ hvn_ hvc_
      rw [hva_] at ge418_0
      rw [hvc_] at ul418_0
      have HL418_0 := Aside0.mk (show Kd.V k36 36 _ w.heap.size _ _ (rd_L5 t415 x7_1) from Kd.V_mk ul418_0 ge418_0)
      clear hva_ hvn_ hvc_ ge418_0 ul418_0
      clear hcc418 hce418
      have HR418_0 := Aside0.mk hi418_0
      have HC418_0 := Aside0.mk hl418_0
      clear hi418_0 hl418_0
      replace p418 := eq_true p418
      replace q418 := eq_true q418
      go_wp2_with (first | ((with_reducible refine gate_callee (f := 35) rfl ?_); refine goesL_ (some 22) rfl rfl Try.func35 (by kernel_rfl) rfl #[.slice A418_0 (rd_L5 t415 x7_1).length c418_0, .int .i64 a1] rfl (by (try simp only [List.map_toArray, List.map_cons, List.map_nil]); first | done | rfl | (simp only [List.length_drop, List.length_take]; rfl)) ?_; (with_reducible refine (sawyerref12_first.calls k1 _ _ (rd_L5 t415 x7_1) a1 t419 _ ?side1 ?side2 A7.out).mono ?_); (case side1 => repeat (first | exact (by repeat (first | (with_reducible exact HR418_0.out) | (with_reducible refine Kd.C_alloc ?_ _) | (with_reducible refine Kd.C_drewN ?_ _) | (with_reducible refine Kd.C_drew ?_) | exact HR418_0.out)) | (with_reducible refine Kd.C_alloc ?_ _) | (with_reducible refine Kd.C_drewN ?_ _) | (with_reducible refine Kd.C_drew ?_))); (case side2 => exact HC418_0.out); rintro e w' ⟨rfl, ⟨nd, rfl⟩⟩; refine ⟨_, rfl, ?_⟩))
      go_roundg k1
      case measure => have := HK1.out; omega
      case rel => exact ⟨(x5_1), (wrap64 (x7_1 + 1)), (by first | rfl | (simp; done) | (simp [*]; done)), H', ⟨by have := HK1.out; omega⟩, ⟨by (with_reducible repeat (first | apply Kd.S_alloc | apply Kd.S_drewN | apply Kd.S_drew)); exact HO_5.out⟩, ⟨by (with_reducible repeat (first | apply Kd.V_alloc | apply Kd.V_drewN | apply Kd.V_drew)); exact HO_6.out⟩, ⟨by repeat (first | (with_reducible first | exact HB.out | apply below_alloc | apply pw_below_drewN | apply below_drew1) | exact HB.out)⟩⟩
    ·
     rw [if_neg c6] at H
     exact absurd H (by simp)
   ·
    rw [if_neg c5] at H
    have c5b0 : decide (x7_1 < (t415.length : Int)) = false := decide_eq_false c5
    clear c5
    obtain rfl := Option.some.inj H
    obtain ⟨Ao22, co22, eo22⟩ := Kd.V_slice HO_6.out
    subst eo22
    go_wp2
    go_ret
    exact ⟨_, by first | rfl | (simp [errW_none, errW_some] <;> rfl) | (simp [*, errW_none, errW_some] <;> rfl), by (with_reducible repeat (first | apply Kd.S_alloc | apply Kd.S_drewN | apply Kd.S_drew)); exact HO_5.out, by repeat (first | (with_reducible first | exact HB.out | apply below_alloc | apply pw_below_drewN | apply below_drew1) | exact HB.out)⟩

end Go.Proofs.Ytobjkjmmkbhecaa.Px
