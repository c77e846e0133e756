-- Printed by a program of ours (px) out of the translation; Lean checks it.
import Derived.Test.YtmkojpkajlpokaaPx0
import Derived.Test.YtmkojpkajlpokaaPx53
import Derived.Test.YtmkojpkajlpokaaPx56
namespace Go.Proofs.Ytmkojpkajlpokaa.Px
open Go.RowKit Go.Proofs.YtmkojpkajlpokaaW.PrintWords Go.Proofs.YtmkojpkajlpokaaW.PrintLast Go.Proofs.YtmkojpkajlpokaaW.PrintMore
attribute [local go_sem] max2_int min2_int max_two min_two max_three min_three max_four min_four   -- for this text's walks alone
set_option linter.unusedVariables false
set_option linter.unusedSimpArgs false
set_option linter.unnecessarySimpa false

/-! ### sawyerlaw02_CodeCut: function 17 -/
def sawyerlaw02_CodeCut.j0 : Nat → List Int → Int → Int → List Int → Bool → Option (Bool)
  | 0, _, _, _, _, _ => none
  | k + 1, x0, x1, x2, x7, x25 => if x25 = true then (some (decide ((x0.length : Int) > 1000))) else (if (x7.length : Int) = 0 then (none) else (if 0 ≤ (Int.tmod (Go.bits .and .i64 x1 65535) (x7.length : Int)) then (if (Int.tmod (Go.bits .and .i64 x1 65535) (x7.length : Int)) ≤ (x7.length : Int) then ((code_TakeFrame.f k (x7.take ((Int.tmod (Go.bits .and .i64 x1 65535) (x7.length : Int)) : Int).toNat) (x0.length : Int)).bind fun bt770 => (if (wrap64 ((wrap64 ((x7.length : Int) - (x0.length : Int))) - 4)) < 1 then (some false) else (if (wrap64 ((x7.length : Int) - (wrap64 ((wrap64 ((x7.length : Int) - (x0.length : Int))) - 4)))) = 0 then (none) else (if 0 ≤ (wrap64 ((wrap64 ((wrap64 ((x7.length : Int) - (x0.length : Int))) - 4)) + (Int.tmod (Go.bits .and .i64 x1 65535) (wrap64 ((x7.length : Int) - (wrap64 ((wrap64 ((x7.length : Int) - (x0.length : Int))) - 4))))))) then (if (wrap64 ((wrap64 ((wrap64 ((x7.length : Int) - (x0.length : Int))) - 4)) + (Int.tmod (Go.bits .and .i64 x1 65535) (wrap64 ((x7.length : Int) - (wrap64 ((wrap64 ((x7.length : Int) - (x0.length : Int))) - 4))))))) < (x7.length : Int) then (if 0 ≤ (Go.bits .and .i64 x2 7) then ((code_TakeFrame.f k (x7.set ((wrap64 ((wrap64 ((wrap64 ((x7.length : Int) - (x0.length : Int))) - 4)) + (Int.tmod (Go.bits .and .i64 x1 65535) (wrap64 ((x7.length : Int) - (wrap64 ((wrap64 ((x7.length : Int) - (x0.length : Int))) - 4))))))) : Int).toNat (Go.bits .xor .u8 (rd x7 (wrap64 ((wrap64 ((wrap64 ((x7.length : Int) - (x0.length : Int))) - 4)) + (Int.tmod (Go.bits .and .i64 x1 65535) (wrap64 ((x7.length : Int) - (wrap64 ((wrap64 ((x7.length : Int) - (x0.length : Int))) - 4)))))))) (shl .u8 1 (Go.bits .and .i64 x2 7)))) (x0.length : Int)).bind fun bt779 => (if bt770.2.2 = 2 then (some (bt779.2.2 == 2)) else (some false))) else (none)) else (none)) else (none))))) else (none)) else (none)))
def sawyerlaw02_CodeCut.f (k : Nat) (l0 : List Int) (a1 : Int) (a2 : Int) : Option (Bool) := (code_PutFrame.f k ([] : List Int) l0).bind fun t763 => (if (t763.length : Int) < 5 then (sawyerlaw02_CodeCut.j0 k l0 a1 a2 t763 true) else (sawyerlaw02_CodeCut.j0 k l0 a1 a2 t763 (decide ((l0.length : Int) > 1000))))
theorem sawyerlaw02_CodeCut.mono_l : ∀ k, (∀ y0 y1 y2 y3 y4, LeO (sawyerlaw02_CodeCut.j0 k y0 y1 y2 y3 y4) (sawyerlaw02_CodeCut.j0 (k + 1) y0 y1 y2 y3 y4))
  | 0 => fun _ _ _ _ _ r h => by simp [sawyerlaw02_CodeCut.j0] at h
  | k + 1 => by
    have ih0 := sawyerlaw02_CodeCut.mono_l k
    · intro y0 y1 y2 y3 y4
      unfold sawyerlaw02_CodeCut.j0
      repeat' first
      | (with_reducible exact ih0 _ _ _ _ _)
      | (with_reducible exact code_PutFrame.mono _ _ _)
      | (with_reducible exact code_TakeFrame.mono _ _ _)
      | (with_reducible exact LeO.refl _)
      | (with_reducible exact LeO.none _)
      | (with_reducible refine LeO.ite ?_ ?_)
      | (with_reducible refine LeO.bind ?_ (fun _ => ?_))
      | exact ih0 _ _ _ _ _
      | exact code_PutFrame.mono _ _ _
      | exact code_TakeFrame.mono _ _ _
      | exact LeO.none _
      | refine LeO.ite ?_ ?_
      | refine LeO.bind ?_ (fun _ => ?_)
theorem sawyerlaw02_CodeCut.mono : ∀ a0 a1 a2 k, LeO (sawyerlaw02_CodeCut.f k a0 a1 a2) (sawyerlaw02_CodeCut.f (k + 1) a0 a1 a2) := by
  intro a0 a1 a2 k
  have ih0 := sawyerlaw02_CodeCut.mono_l k
  unfold sawyerlaw02_CodeCut.f
  repeat' first
      | (with_reducible exact ih0 _ _ _ _ _)
      | (with_reducible exact code_PutFrame.mono _ _ _)
      | (with_reducible exact code_TakeFrame.mono _ _ _)
      | (with_reducible exact LeO.refl _)
      | (with_reducible exact LeO.none _)
      | (with_reducible refine LeO.ite ?_ ?_)
      | (with_reducible refine LeO.bind ?_ (fun _ => ?_))
      | exact ih0 _ _ _ _ _
      | exact code_PutFrame.mono _ _ _
      | exact code_TakeFrame.mono _ _ _
      | exact LeO.none _
      | refine LeO.ite ?_ ?_
      | refine LeO.bind ?_ (fun _ => ?_)
def sawyerlaw02_CodeCut.T9 : Bool × List (List Nat × List Nat) := (true, [([], []), ([], []), ([], []), ([], []), ([2, 3], [2, 3]), ([4], [4]), ([], []), ([6], [6]), ([7], [7]), ([5, 8], [5, 8]), ([0, 1, 0, 1, 2, 3, 4, 5, 6, 7, 8, 9], [0, 1]), ([10, 9, 0, 1, 2, 3, 4, 5, 6, 7, 8, 9], [9, 10])])
def sawyerlaw02_CodeCut.B9 : List Nat := [0, 0, 0, 0, 12, 28, 0, 64, 192, 508, 1023, 2047]
theorem sawyerlaw02_CodeCut.tab9 : rtab .any (opsOf Try.f17 9) = sawyerlaw02_CodeCut.T9 := by kernel_rfl
theorem sawyerlaw02_CodeCut.bits9 : waitsOk sawyerlaw02_CodeCut.T9.2 sawyerlaw02_CodeCut.B9 = true := by kernel_rfl
set_option maxHeartbeats 8000000 in
set_option maxRecDepth 100000 in
theorem sawyerlaw02_CodeCut.calls (k : Nat) (A0 : Option Addr) (c0 : Nat) (l0 : List Int) (a1 : Int) (a2 : Int) (r : Bool) (w : World) (hr0 : Kd.C (Kd.int .u8) w A0 l0.length l0) (hc0 : l0.length ≤ c0) (h : sawyerlaw02_CodeCut.f k l0 a1 a2 = some r) :
    Calls Try.prog 17 #[.slice A0 l0.length c0, .int .i64 a1, .int .i64 a2] w fun e w' => e = .returned (.bool r) ∧ Below w.heap.size w w' := by
  have HR0 := Aside0.mk hr0
  have HC0 := Aside0.mk hc0
  clear hr0 hc0
  have HB := Aside0.mk (Below.refl w.heap.size w)
  have H : ((code_PutFrame.f k ([] : List Int) l0).bind fun t763 => (if (t763.length : Int) < 5 then (sawyerlaw02_CodeCut.j0 k l0 a1 a2 t763 true) else (sawyerlaw02_CodeCut.j0 k l0 a1 a2 t763 (decide ((l0.length : Int) > 1000))))) = some r := h
  clear h
  replace H := Option.bind_eq_some_iff.mp H
  obtain ⟨t763, A40, H⟩ := H
  replace H : (if (t763.length : Int) < 5 then (sawyerlaw02_CodeCut.j0 k l0 a1 a2 t763 true) else (sawyerlaw02_CodeCut.j0 k l0 a1 a2 t763 (decide ((l0.length : Int) > 1000)))) = some r := H
  have A4 := Aside0.mk A40
  clear A40
  have HC5 := Aside0.mk H
  clear H
  go_enter Try.func17, Try.ntmps17
  go_upto_region 2 with (first | ((with_reducible refine gate_callee (f := 52) rfl ?_); refine goesL_ (some 17) rfl rfl Try.func52 (by kernel_rfl) rfl #[.slice none 0 0, .slice A0 l0.length c0] rfl (by (try simp only [List.map_toArray, List.map_cons, List.map_nil]); first | done | rfl | (simp only [List.length_drop, List.length_take]; rfl)) ?_; (refine (code_PutFrame.calls k (fun k_ => False) _ _ ([] : List Int) (fun k_ => k_ < w.heap.size) _ _ l0 t763 _ ?side1 ?side2 A4.out).mono ?_); (case side1 => exact Kd.V_nil _ _ _ _ _); (case side2 => exact Kd.V_mk HC0.out (Kd.F_below (Kd.C_F (Kd.heap_int .u8) HR0.out) (by repeat (first | (with_reducible first | exact HB.out | apply below_alloc | apply pw_below_drewN | apply below_drew1) | exact HB.out)))); rintro e w6 ⟨v764, rfl, ho0, hb⟩; refine ⟨_, rfl, ?_⟩; have n0_ := Aside0.mk (Kd.R_lower (Kd.R_mono (ok' := fun k_ => True) ho0 (fun _ hk_ => trivial)) (below_size (by repeat (first | (with_reducible first | exact HB.out | apply below_alloc | apply pw_below_drewN | apply below_drew1) | exact HB.out)))); have n1_ := Aside0.mk (below_step (by repeat (first | (with_reducible first | exact HB.out | apply below_alloc | apply pw_below_drewN | apply below_drew1) | exact HB.out)) hb); clear HB; have HO765 := n0_; have HB := n1_; clear n0_ n1_; (try clear hb); (try clear hb2); (try clear hk); (try clear hi); (try clear ho0)))
  (try simp only [Act.put, List.setIfInBounds_toArray, List.set_cons_zero, List.set_cons_succ])
  go_cut [25] (fun v25 wc => ∃ (kq : Nat) (x25_4 : Bool), v25 = .bool x25_4 ∧ Aside0 (sawyerlaw02_CodeCut.j0 kq l0 a1 a2 t763 x25_4 = some r) ∧ Aside0 (kq ≤ k) ∧ Aside0 (Kd.R (Kd.int .u8) 5 wc w.heap.size (fun _ => True) v764 t763) ∧ Aside0 (Below w.heap.size w wc))
  case first =>
    have H := HC5.out
    clear HC5
    by_cases c7 : (t763.length : Int) < 5
    · rw [if_pos c7] at H
      have c7b0 : decide ((t763.length : Int) < 5) = true := decide_eq_true c7
      have c7b1 : decide (t763.length < 5) = true := decide_eq_true (by omega)
      clear c7
      (first | rw [c7b0] | (simp only [i64_w, i32_w]; rw [c7b0]) | skip)
      have H' := Aside0.mk H
      clear H
      obtain ⟨Ao8, co8, eo8⟩ := Kd.R_slice HO765.out
      subst eo8
      go_wp2
      go_meet
      case rel => exact ⟨_, (true), (by first | rfl | (simp; done) | (simp [*]; done)), H', ⟨by first | omega | exact Nat.le_refl _⟩, ⟨by (with_reducible repeat (first | apply Kd.R_alloc | apply Kd.R_drewN | apply Kd.R_drew)); exact HO765.out⟩, ⟨by repeat (first | (with_reducible first | exact HB.out | apply below_alloc | apply pw_below_drewN | apply below_drew1) | exact HB.out)⟩⟩
    · rw [if_neg c7] at H
      have c7b0 : decide ((t763.length : Int) < 5) = false := decide_eq_false c7
      have c7b1 : decide (t763.length < 5) = false := decide_eq_false (by omega)
      clear c7
      (first | rw [c7b0] | (simp only [i64_w, i32_w]; rw [c7b0]) | skip)
      have H' := Aside0.mk H
      clear H
      obtain ⟨Ao9, co9, eo9⟩ := Kd.R_slice HO765.out
      subst eo9
      go_wp2
      go_meet
      case rel => exact ⟨_, (decide ((l0.length : Int) > 1000)), (by first | rfl | (simp; done) | (simp [*]; done)), H', ⟨by first | omega | exact Nat.le_refl _⟩, ⟨by (with_reducible repeat (first | apply Kd.R_alloc | apply Kd.R_drewN | apply Kd.R_drew)); exact HO765.out⟩, ⟨by repeat (first | (with_reducible first | exact HB.out | apply below_alloc | apply pw_below_drewN | apply below_drew1) | exact HB.out)⟩⟩
  case rest =>
    clear HC5
    try clear c1
    try clear p2
    try clear c5
    try clear c7
    try clear c7b0
    try clear c7b1
    obtain ⟨kq, x25_4, rfl, HA, HJ4, HO_7, HB⟩ := hcut
    cases kq with
    | zero => exact absurd HA.out (by simp [sawyerlaw02_CodeCut.j0])
    | succ kj4 =>
      have H := HA.out
      clear HA
      simp only [sawyerlaw02_CodeCut.j0] at H
      by_cases c10 : x25_4 = true
      · subst c10
        have H1 : (some (decide ((l0.length : Int) > 1000))) = some r := by rw [if_pos rfl] at H; exact H
        clear H
        have H := H1
        clear H1
        obtain rfl := Option.some.inj H
        go_wp2
        go_ret
        exact ⟨by first | rfl | (simp [errW_none, errW_some] <;> rfl) | (simp [*, errW_none, errW_some] <;> rfl), by repeat (first | (with_reducible first | exact HB.out | apply below_alloc | apply pw_below_drewN | apply below_drew1) | exact HB.out)⟩
      · replace c10 := Bool.eq_false_iff.mpr c10
        subst c10
        have H1 : (if (t763.length : Int) = 0 then (none) else (if 0 ≤ (Int.tmod (Go.bits .and .i64 a1 65535) (t763.length : Int)) then (if (Int.tmod (Go.bits .and .i64 a1 65535) (t763.length : Int)) ≤ (t763.length : Int) then ((code_TakeFrame.f kj4 (t763.take ((Int.tmod (Go.bits .and .i64 a1 65535) (t763.length : Int)) : Int).toNat) (l0.length : Int)).bind fun bt770 => (if (wrap64 ((wrap64 ((t763.length : Int) - (l0.length : Int))) - 4)) < 1 then (some false) else (if (wrap64 ((t763.length : Int) - (wrap64 ((wrap64 ((t763.length : Int) - (l0.length : Int))) - 4)))) = 0 then (none) else (if 0 ≤ (wrap64 ((wrap64 ((wrap64 ((t763.length : Int) - (l0.length : Int))) - 4)) + (Int.tmod (Go.bits .and .i64 a1 65535) (wrap64 ((t763.length : Int) - (wrap64 ((wrap64 ((t763.length : Int) - (l0.length : Int))) - 4))))))) then (if (wrap64 ((wrap64 ((wrap64 ((t763.length : Int) - (l0.length : Int))) - 4)) + (Int.tmod (Go.bits .and .i64 a1 65535) (wrap64 ((t763.length : Int) - (wrap64 ((wrap64 ((t763.length : Int) - (l0.length : Int))) - 4))))))) < (t763.length : Int) then (if 0 ≤ (Go.bits .and .i64 a2 7) then ((code_TakeFrame.f kj4 (t763.set ((wrap64 ((wrap64 ((wrap64 ((t763.length : Int) - (l0.length : Int))) - 4)) + (Int.tmod (Go.bits .and .i64 a1 65535) (wrap64 ((t763.length : Int) - (wrap64 ((wrap64 ((t763.length : Int) - (l0.length : Int))) - 4))))))) : Int).toNat (Go.bits .xor .u8 (rd t763 (wrap64 ((wrap64 ((wrap64 ((t763.length : Int) - (l0.length : Int))) - 4)) + (Int.tmod (Go.bits .and .i64 a1 65535) (wrap64 ((t763.length : Int) - (wrap64 ((wrap64 ((t763.length : Int) - (l0.length : Int))) - 4)))))))) (shl .u8 1 (Go.bits .and .i64 a2 7)))) (l0.length : Int)).bind fun bt779 => (if bt770.2.2 = 2 then (some (bt779.2.2 == 2)) else (some false))) else (none)) else (none)) else (none))))) else (none)) else (none))) = some r := by rw [if_neg (show ¬ (false = true) by decide)] at H; exact H
        clear H
        have H := H1
        clear H1
        by_cases c11 : (t763.length : Int) = 0
        · rw [if_pos c11] at H
          exact absurd H (by simp)
        · rw [if_neg c11] at H
          have c11b0 : ((t763.length : Int) == 0) = false := beq_eq_false_iff_ne.mpr c11
          have c11b1 : ((t763.length : Int) != 0) = true := bne_iff_ne.mpr c11
          have c11b2 : ¬ (t763 = []) := fun h_ => c11 (by rw [h_]; rfl)
          obtain ⟨ji12, hji12⟩ : ∃ j_ : Int, (Int.tmod (Go.bits .and .i64 a1 65535) (t763.length : Int)) = j_ := ⟨_, rfl⟩
          replace H : (if 0 ≤ (ji12) then (if (ji12) ≤ (t763.length : Int) then ((code_TakeFrame.f kj4 (t763.take ((ji12) : Int).toNat) (l0.length : Int)).bind fun bt770 => (if (wrap64 ((wrap64 ((t763.length : Int) - (l0.length : Int))) - 4)) < 1 then (some false) else (if (wrap64 ((t763.length : Int) - (wrap64 ((wrap64 ((t763.length : Int) - (l0.length : Int))) - 4)))) = 0 then (none) else (if 0 ≤ (wrap64 ((wrap64 ((wrap64 ((t763.length : Int) - (l0.length : Int))) - 4)) + (Int.tmod (Go.bits .and .i64 a1 65535) (wrap64 ((t763.length : Int) - (wrap64 ((wrap64 ((t763.length : Int) - (l0.length : Int))) - 4))))))) then (if (wrap64 ((wrap64 ((wrap64 ((t763.length : Int) - (l0.length : Int))) - 4)) + (Int.tmod (Go.bits .and .i64 a1 65535) (wrap64 ((t763.length : Int) - (wrap64 ((wrap64 ((t763.length : Int) - (l0.length : Int))) - 4))))))) < (t763.length : Int) then (if 0 ≤ (Go.bits .and .i64 a2 7) then ((code_TakeFrame.f kj4 (t763.set ((wrap64 ((wrap64 ((wrap64 ((t763.length : Int) - (l0.length : Int))) - 4)) + (Int.tmod (Go.bits .and .i64 a1 65535) (wrap64 ((t763.length : Int) - (wrap64 ((wrap64 ((t763.length : Int) - (l0.length : Int))) - 4))))))) : Int).toNat (Go.bits .xor .u8 (rd t763 (wrap64 ((wrap64 ((wrap64 ((t763.length : Int) - (l0.length : Int))) - 4)) + (Int.tmod (Go.bits .and .i64 a1 65535) (wrap64 ((t763.length : Int) - (wrap64 ((wrap64 ((t763.length : Int) - (l0.length : Int))) - 4)))))))) (shl .u8 1 (Go.bits .and .i64 a2 7)))) (l0.length : Int)).bind fun bt779 => (if bt770.2.2 = 2 then (some (bt779.2.2 == 2)) else (some false))) else (none)) else (none)) else (none))))) else (none)) else (none)) = some r := by first | (rw [hji12] at H; exact H) | (simp only [hji12] at H ⊢; exact H)
          by_cases c13 : 0 ≤ (ji12)
          · rw [if_pos c13] at H
            have c13b0 := eq_true c13
            have c13b1 : decide (0 ≤ (ji12)) = true := decide_eq_true c13
            clear c13
            by_cases c14 : (ji12) ≤ (t763.length : Int)
            · rw [if_pos c14] at H
              have c14b0 := eq_true c14
              have c14b1 : decide ((ji12) ≤ (t763.length : Int)) = true := decide_eq_true c14
              clear c14
              obtain ⟨y766, hy766⟩ : ∃ y_ : List Int, y_ = (t763.take ((ji12) : Int).toNat) := ⟨_, rfl⟩
              replace H : ((code_TakeFrame.f kj4 y766 (l0.length : Int)).bind fun bt770 => (if (wrap64 ((wrap64 ((t763.length : Int) - (l0.length : Int))) - 4)) < 1 then (some false) else (if (wrap64 ((t763.length : Int) - (wrap64 ((wrap64 ((t763.length : Int) - (l0.length : Int))) - 4)))) = 0 then (none) else (if 0 ≤ (wrap64 ((wrap64 ((wrap64 ((t763.length : Int) - (l0.length : Int))) - 4)) + (Int.tmod (Go.bits .and .i64 a1 65535) (wrap64 ((t763.length : Int) - (wrap64 ((wrap64 ((t763.length : Int) - (l0.length : Int))) - 4))))))) then (if (wrap64 ((wrap64 ((wrap64 ((t763.length : Int) - (l0.length : Int))) - 4)) + (Int.tmod (Go.bits .and .i64 a1 65535) (wrap64 ((t763.length : Int) - (wrap64 ((wrap64 ((t763.length : Int) - (l0.length : Int))) - 4))))))) < (t763.length : Int) then (if 0 ≤ (Go.bits .and .i64 a2 7) then ((code_TakeFrame.f kj4 (t763.set ((wrap64 ((wrap64 ((wrap64 ((t763.length : Int) - (l0.length : Int))) - 4)) + (Int.tmod (Go.bits .and .i64 a1 65535) (wrap64 ((t763.length : Int) - (wrap64 ((wrap64 ((t763.length : Int) - (l0.length : Int))) - 4))))))) : Int).toNat (Go.bits .xor .u8 (rd t763 (wrap64 ((wrap64 ((wrap64 ((t763.length : Int) - (l0.length : Int))) - 4)) + (Int.tmod (Go.bits .and .i64 a1 65535) (wrap64 ((t763.length : Int) - (wrap64 ((wrap64 ((t763.length : Int) - (l0.length : Int))) - 4)))))))) (shl .u8 1 (Go.bits .and .i64 a2 7)))) (l0.length : Int)).bind fun bt779 => (if bt770.2.2 = 2 then (some (bt779.2.2 == 2)) else (some false))) else (none)) else (none)) else (none))))) = some r := by first | (rw [hy766]; with_reducible exact H) | (have H2_ := (Option.bind_some _ _).symm.trans H; rw [hy766]; with_reducible exact H2_) | (have H2_ := (Option.bind_some _ _).symm.trans H; with_reducible exact H2_) | with_reducible exact H | (rw [hy766]; exact H) | exact H
              have Ny766 := Aside0.mk hy766
              clear hy766
              replace H := Option.bind_eq_some_iff.mp H
              obtain ⟨⟨t770, t771, t772⟩, A150, H⟩ := H
              replace H : (if (wrap64 ((wrap64 ((t763.length : Int) - (l0.length : Int))) - 4)) < 1 then (some false) else (if (wrap64 ((t763.length : Int) - (wrap64 ((wrap64 ((t763.length : Int) - (l0.length : Int))) - 4)))) = 0 then (none) else (if 0 ≤ (wrap64 ((wrap64 ((wrap64 ((t763.length : Int) - (l0.length : Int))) - 4)) + (Int.tmod (Go.bits .and .i64 a1 65535) (wrap64 ((t763.length : Int) - (wrap64 ((wrap64 ((t763.length : Int) - (l0.length : Int))) - 4))))))) then (if (wrap64 ((wrap64 ((wrap64 ((t763.length : Int) - (l0.length : Int))) - 4)) + (Int.tmod (Go.bits .and .i64 a1 65535) (wrap64 ((t763.length : Int) - (wrap64 ((wrap64 ((t763.length : Int) - (l0.length : Int))) - 4))))))) < (t763.length : Int) then (if 0 ≤ (Go.bits .and .i64 a2 7) then ((code_TakeFrame.f kj4 (t763.set ((wrap64 ((wrap64 ((wrap64 ((t763.length : Int) - (l0.length : Int))) - 4)) + (Int.tmod (Go.bits .and .i64 a1 65535) (wrap64 ((t763.length : Int) - (wrap64 ((wrap64 ((t763.length : Int) - (l0.length : Int))) - 4))))))) : Int).toNat (Go.bits .xor .u8 (rd t763 (wrap64 ((wrap64 ((wrap64 ((t763.length : Int) - (l0.length : Int))) - 4)) + (Int.tmod (Go.bits .and .i64 a1 65535) (wrap64 ((t763.length : Int) - (wrap64 ((wrap64 ((t763.length : Int) - (l0.length : Int))) - 4)))))))) (shl .u8 1 (Go.bits .and .i64 a2 7)))) (l0.length : Int)).bind fun bt779 => (if t772 = 2 then (some (bt779.2.2 == 2)) else (some false))) else (none)) else (none)) else (none)))) = some r := H
              have A15 := Aside0.mk A150
              clear A150
              by_cases c16 : (wrap64 ((wrap64 ((t763.length : Int) - (l0.length : Int))) - 4)) < 1
              · rw [if_pos c16] at H
                have c16b0 : decide ((wrap64 ((wrap64 ((t763.length : Int) - (l0.length : Int))) - 4)) < 1) = true := decide_eq_true c16
                clear c16
                obtain rfl := Option.some.inj H
                obtain ⟨Ao17, co17, eo17⟩ := Kd.R_slice HO_7.out
                subst eo17
                have q18 : ((ji12) : Int) ≤ ((t763.length : Int) : Int) := of_decide_eq_true (by first | (with_reducible assumption) | assumption)
                obtain ⟨i018, hi018, _, hsz18, _⟩ := info_parts info5
                have hroom18 : t763.length ≤ co17 := (Kd.R_reads' HO_7.out).2.1
                have hC18 : Kd.C (Kd.int .u8) _ Ao17 t763.length t763 := (Kd.R_reads' HO_7.out).2.2
                have hcut18 := cut_to (P := Try.prog) 22 5 .i64 Try.underlying22 hi018 Ao17 t763.length co17 (ji12) (of_decide_eq_true (by first | (with_reducible assumption) | assumption)) q18 hroom18
                have hr18 := Kd.C_take (m := ((ji12) : Int).toNat) hC18 (by omega)
                have hy18 : y766.length = ((ji12) : Int).toNat := (by rw [Ny766.out, List.length_take]; omega)
                rw [← Ny766.out] at hr18
                rw [← hy18] at hcut18
                have HR769 := Aside0.mk hr18
                have HC769 := Aside0.mk (show y766.length ≤ co17 from by omega)
                clear hr18 hC18 hroom18 hi018 hsz18
                have KY18 := Aside0.mk hy18
                clear hy18
                have KL18 := Aside0.mk (show ((ji12) : Int).toNat ≤ t763.length from by omega)
                replace q18 := eq_true q18
                go_wp2_with (first | ((with_reducible refine gate_callee (f := 50) rfl ?_); refine goesL_ (some 39) rfl rfl Try.func50 (by kernel_rfl) rfl #[.slice Ao17 y766.length co17, .int .i64 (l0.length : Int)] rfl (by (try simp only [List.map_toArray, List.map_cons, List.map_nil]); first | done | rfl | (simp only [List.length_drop, List.length_take]; rfl)) ?_; (with_reducible refine (code_TakeFrame.calls kj4 _ _ y766 (l0.length : Int) t770 t771 t772 _ ?side1 ?side2 A15.out).mono ?_); (case side1 => repeat (first | exact (by repeat (first | (with_reducible exact HR769.out) | (with_reducible refine Kd.C_alloc ?_ _) | (with_reducible refine Kd.C_drewN ?_ _) | (with_reducible refine Kd.C_drew ?_) | exact HR769.out)) | (with_reducible refine Kd.C_alloc ?_ _) | (with_reducible refine Kd.C_drewN ?_ _) | (with_reducible refine Kd.C_drew ?_))); (case side2 => exact HC769.out); rintro e w19 ⟨v773, v775, rfl, ho0, ho1, hb⟩; refine ⟨_, rfl, ?_⟩; have n0_ := Aside0.mk (Kd.R_mono (Kd.R_told (Kd.R_told (Kd.R_old (by (with_reducible repeat (first | apply Kd.R_alloc | apply Kd.R_drewN | apply Kd.R_drew)); exact HO_7.out) hb) (Kd.R_base ho0)) (Kd.Q_base ho1)) (fun _ h_ => h_.1)); have n1_ := Aside0.mk (Kd.R_lower (Kd.R_new' ho0 (Kd.R_lt (by (with_reducible repeat (first | apply Kd.R_alloc | apply Kd.R_drewN | apply Kd.R_drew)); exact HO_7.out))) (below_size (by repeat (first | (with_reducible first | exact HB.out | apply below_alloc | apply pw_below_drewN | apply below_drew1) | exact HB.out)))); have n2_ := Aside0.mk (Kd.Q_lower (Kd.Q_new' ho1 (Kd.R_lt (by (with_reducible repeat (first | apply Kd.R_alloc | apply Kd.R_drewN | apply Kd.R_drew)); exact HO_7.out))) (below_size (by repeat (first | (with_reducible first | exact HB.out | apply below_alloc | apply pw_below_drewN | apply below_drew1) | exact HB.out)))); have n3_ := Aside0.mk (Kd.C_below (by repeat (first | (with_reducible exact HR769.out) | (with_reducible refine Kd.C_alloc ?_ _) | (with_reducible refine Kd.C_drewN ?_ _) | (with_reducible refine Kd.C_drew ?_) | exact HR769.out)) hb); have n4_ := Aside0.mk (below_step (by repeat (first | (with_reducible first | exact HB.out | apply below_alloc | apply pw_below_drewN | apply below_drew1) | exact HB.out)) hb); clear HO_7; clear HR769; clear HB; have HO_7 := n0_; have HO774 := n1_; have HO776 := n2_; have HR769 := n3_; have HB := n4_; clear n0_ n1_ n2_ n3_ n4_; (try clear hb); (try clear hb2); (try clear hk); (try clear hi); (try clear ho0); (try clear ho1)))
                go_ret
                exact ⟨by first | rfl | (simp [errW_none, errW_some] <;> rfl) | (simp only [← hji12]; first | rfl | (simp [errW_none, errW_some] <;> rfl)) | (simp [*, errW_none, errW_some] <;> rfl), by repeat (first | (with_reducible first | exact HB.out | apply below_alloc | apply pw_below_drewN | apply below_drew1) | exact HB.out)⟩
              · rw [if_neg c16] at H
                have c16b0 : decide ((wrap64 ((wrap64 ((t763.length : Int) - (l0.length : Int))) - 4)) < 1) = false := decide_eq_false c16
                clear c16
                by_cases c20 : (wrap64 ((t763.length : Int) - (wrap64 ((wrap64 ((t763.length : Int) - (l0.length : Int))) - 4)))) = 0
                · rw [if_pos c20] at H
                  exact absurd H (by simp)
                · rw [if_neg c20] at H
                  have c20b0 : ((wrap64 ((t763.length : Int) - (wrap64 ((wrap64 ((t763.length : Int) - (l0.length : Int))) - 4)))) == 0) = false := beq_eq_false_iff_ne.mpr c20
                  have c20b1 : ((wrap64 ((t763.length : Int) - (wrap64 ((wrap64 ((t763.length : Int) - (l0.length : Int))) - 4)))) != 0) = true := bne_iff_ne.mpr c20
                  obtain ⟨ji21, hji21⟩ : ∃ j_ : Int, (wrap64 ((wrap64 ((wrap64 ((t763.length : Int) - (l0.length : Int))) - 4)) + (Int.tmod (Go.bits .and .i64 a1 65535) (wrap64 ((t763.length : Int) - (wrap64 ((wrap64 ((t763.length : Int) - (l0.length : Int))) - 4))))))) = j_ := ⟨_, rfl⟩
                  replace H : (if 0 ≤ (ji21) then (if (ji21) < (t763.length : Int) then (if 0 ≤ (Go.bits .and .i64 a2 7) then ((code_TakeFrame.f kj4 (t763.set ((ji21) : Int).toNat (Go.bits .xor .u8 (rd t763 (ji21)) (shl .u8 1 (Go.bits .and .i64 a2 7)))) (l0.length : Int)).bind fun bt779 => (if t772 = 2 then (some (bt779.2.2 == 2)) else (some false))) else (none)) else (none)) else (none)) = some r := by first | (rw [hji21] at H; exact H) | (simp only [hji21] at H ⊢; exact H)
                  (try rw [hji21] at A15)
                  have hji21w : (IntKind.i64.wrap ((wrap64 ((wrap64 ((t763.length : Int) - (l0.length : Int))) - 4)) + (Int.tmod (Go.bits .and .i64 a1 65535) (wrap64 ((t763.length : Int) - (wrap64 ((wrap64 ((t763.length : Int) - (l0.length : Int))) - 4))))))) = ji21 := (i64_w _).trans hji21
                  by_cases c22 : 0 ≤ (ji21)
                  · rw [if_pos c22] at H
                    have c22b0 : decide (0 ≤ (ji21)) = true := decide_eq_true c22
                    clear c22
                    by_cases c23 : (ji21) < (t763.length : Int)
                    · rw [if_pos c23] at H
                      have c23b0 : decide ((ji21) < (t763.length : Int)) = true := decide_eq_true c23
                      clear c23
                      by_cases c24 : 0 ≤ (Go.bits .and .i64 a2 7)
                      · rw [if_pos c24] at H
                        have c24b0 := eq_true c24
                        have c24b1 : decide (0 ≤ (Go.bits .and .i64 a2 7)) = true := decide_eq_true c24
                        clear c24
                        obtain ⟨ji25, hji25⟩ : ∃ j_ : Int, (shl .u8 1 (Go.bits .and .i64 a2 7)) = j_ := ⟨_, rfl⟩
                        replace H : ((code_TakeFrame.f kj4 (t763.set ((ji21) : Int).toNat (Go.bits .xor .u8 (rd t763 (ji21)) (ji25))) (l0.length : Int)).bind fun bt779 => (if t772 = 2 then (some (bt779.2.2 == 2)) else (some false))) = some r := by first | (rw [hji25] at H; exact H) | (simp only [hji25] at H ⊢; exact H)
                        (try rw [hji25] at A15)
                        have hji25_ : (IntKind.u8.wrap (1 * 2 ^ min (Go.bits .and .i64 a2 7).toNat 8)) = ji25 := hji25
                        have hji25z : (Go.bits .and .i64 a2 7) ≤ 8 → (IntKind.u8.wrap (1 * 2 ^ (Go.bits .and .i64 a2 7).toNat)) = ji25 := shl_small hji25
                        have hji25u : (IntKind.u8.wrap (2 ^ min (Go.bits .and .i64 a2 7).toNat 8)) = ji25 := by have h_ := hji25_; rw [Int.one_mul] at h_; exact h_
                        have hji25v : (Go.bits .and .i64 a2 7) ≤ 8 → (IntKind.u8.wrap (2 ^ (Go.bits .and .i64 a2 7).toNat)) = ji25 := fun hle_ => by have h_ := hji25z hle_; rw [Int.one_mul] at h_; exact h_
                        obtain ⟨y778, hy778⟩ : ∃ y_ : List Int, y_ = (t763.set ((ji21) : Int).toNat (Go.bits .xor .u8 (rd t763 (ji21)) (ji25))) := ⟨_, rfl⟩
                        replace H : ((code_TakeFrame.f kj4 y778 (l0.length : Int)).bind fun bt779 => (if t772 = 2 then (some (bt779.2.2 == 2)) else (some false))) = some r := by first | (rw [hy778]; with_reducible exact H) | (have H2_ := (Option.bind_some _ _).symm.trans H; rw [hy778]; with_reducible exact H2_) | (have H2_ := (Option.bind_some _ _).symm.trans H; with_reducible exact H2_) | with_reducible exact H | (rw [hy778]; exact H) | exact H
                        have Ny778 := Aside0.mk hy778
                        clear hy778
                        replace H := Option.bind_eq_some_iff.mp H
                        obtain ⟨⟨t779, t780, t781⟩, A270, H⟩ := H
                        replace H : (if t772 = 2 then (some (t781 == 2)) else (some false)) = some r := H
                        have A27 := Aside0.mk A270
                        clear A270
                        by_cases c28 : t772 = 2
                        · rw [if_pos c28] at H
                          have c28b0 : (t772 == 2) = true := beq_iff_eq.mpr c28
                          have c28b1 : (t772 != 2) = false := bne_eq_false_iff_eq.mpr c28
                          clear c28
                          obtain rfl := Option.some.inj H
                          obtain ⟨Ao29, co29, eo29⟩ := Kd.R_slice HO_7.out
                          subst eo29
                          have q30 : ((ji12) : Int) ≤ ((t763.length : Int) : Int) := of_decide_eq_true (by first | (with_reducible assumption) | assumption)
                          obtain ⟨i030, hi030, _, hsz30, _⟩ := info_parts info5
                          have hroom30 : t763.length ≤ co29 := (Kd.R_reads' HO_7.out).2.1
                          have hC30 : Kd.C (Kd.int .u8) _ Ao29 t763.length t763 := (Kd.R_reads' HO_7.out).2.2
                          have hcut30 := cut_to (P := Try.prog) 22 5 .i64 Try.underlying22 hi030 Ao29 t763.length co29 (ji12) (of_decide_eq_true (by first | (with_reducible assumption) | assumption)) q30 hroom30
                          have hr30 := Kd.C_take (m := ((ji12) : Int).toNat) hC30 (by omega)
                          have hy30 : y766.length = ((ji12) : Int).toNat := (by rw [Ny766.out, List.length_take]; omega)
                          rw [← Ny766.out] at hr30
                          rw [← hy30] at hcut30
                          have HR769 := Aside0.mk hr30
                          have HC769 := Aside0.mk (show y766.length ≤ co29 from by omega)
                          clear hr30 hC30 hroom30 hi030 hsz30
                          have KY30 := Aside0.mk hy30
                          clear hy30
                          have KL30 := Aside0.mk (show ((ji12) : Int).toNat ≤ t763.length from by omega)
                          replace q30 := eq_true q30
                          try go_wp2_with (first | ((with_reducible refine gate_callee (f := 50) rfl ?_); refine goesL_ (some 39) rfl rfl Try.func50 (by kernel_rfl) rfl #[.slice Ao29 y766.length co29, .int .i64 (l0.length : Int)] rfl (by (try simp only [List.map_toArray, List.map_cons, List.map_nil]); first | done | rfl | (simp only [List.length_drop, List.length_take]; rfl)) ?_; (with_reducible refine (code_TakeFrame.calls kj4 _ _ y766 (l0.length : Int) t770 t771 t772 _ ?side1 ?side2 A15.out).mono ?_); (case side1 => repeat (first | exact (by repeat (first | (with_reducible exact HR769.out) | (with_reducible refine Kd.C_alloc ?_ _) | (with_reducible refine Kd.C_drewN ?_ _) | (with_reducible refine Kd.C_drew ?_) | exact HR769.out)) | (with_reducible refine Kd.C_alloc ?_ _) | (with_reducible refine Kd.C_drewN ?_ _) | (with_reducible refine Kd.C_drew ?_))); (case side2 => exact HC769.out); rintro e w31 ⟨v773, v775, rfl, ho0, ho1, hb⟩; refine ⟨_, rfl, ?_⟩; have n0_ := Aside0.mk (Kd.R_mono (Kd.R_told (Kd.R_told (Kd.R_old (by (with_reducible repeat (first | apply Kd.R_alloc | apply Kd.R_drewN | apply Kd.R_drew)); exact HO_7.out) hb) (Kd.R_base ho0)) (Kd.Q_base ho1)) (fun _ h_ => h_.1)); have n1_ := Aside0.mk (Kd.R_lower (Kd.R_new' ho0 (Kd.R_lt (by (with_reducible repeat (first | apply Kd.R_alloc | apply Kd.R_drewN | apply Kd.R_drew)); exact HO_7.out))) (below_size (by repeat (first | (with_reducible first | exact HB.out | apply below_alloc | apply pw_below_drewN | apply below_drew1) | exact HB.out)))); have n2_ := Aside0.mk (Kd.Q_lower (Kd.Q_new' ho1 (Kd.R_lt (by (with_reducible repeat (first | apply Kd.R_alloc | apply Kd.R_drewN | apply Kd.R_drew)); exact HO_7.out))) (below_size (by repeat (first | (with_reducible first | exact HB.out | apply below_alloc | apply pw_below_drewN | apply below_drew1) | exact HB.out)))); have n3_ := Aside0.mk (Kd.C_below (by repeat (first | (with_reducible exact HR769.out) | (with_reducible refine Kd.C_alloc ?_ _) | (with_reducible refine Kd.C_drewN ?_ _) | (with_reducible refine Kd.C_drew ?_) | exact HR769.out)) hb); have n4_ := Aside0.mk (below_step (by repeat (first | (with_reducible first | exact HB.out | apply below_alloc | apply pw_below_drewN | apply below_drew1) | exact HB.out)) hb); clear HO_7; clear HR769; clear HB; have HO_7 := n0_; have HO774 := n1_; have HO776 := n2_; have HR769 := n3_; have HB := n4_; clear n0_ n1_ n2_ n3_ n4_; (try clear hb); (try clear hb2); (try clear hk); (try clear hi); (try clear ho0); (try clear ho1)))
                          have n0_ := Aside0.mk (Kd.R_drew HO_7.out)
                          have n1_ := Aside0.mk (Kd.R_drew HO774.out)
                          have n2_ := Aside0.mk (Kd.Q_drew HO776.out)
                          have n3_ := Aside0.mk (Kd.C_drew HR769.out)
                          have n4_ := Aside0.mk (below_drew1 HB.out)
                          clear HO_7
                          clear HO774
                          clear HO776
                          clear HR769
                          clear HB
                          have HO_7 := n0_
                          have HO774 := n1_
                          have HO776 := n2_
                          have HR769 := n3_
                          have HB := n4_
                          clear n0_ n1_ n2_ n3_ n4_
                          have p777 : 0 ≤ ((ji21) : Int) := of_decide_eq_true (by first | (with_reducible assumption) | assumption)
                          have q777 : (ji21) < (t763.length : Int) := of_decide_eq_true (by first | (with_reducible assumption) | assumption)
                          obtain ⟨ad777, e777, hx777_0⟩ := Kd.at_int (Kd.R_reads' HO_7.out).2.2 (ji21) p777 q777
                          cases e777
                          replace p777 := eq_true p777
                          replace q777 := eq_true q777
                          have p26 : 0 ≤ ((ji21) : Int) := of_decide_eq_true (by first | (with_reducible assumption) | assumption)
                          have q26 : ((ji21) : Int) < ((t763.length : Int) : Int) := of_decide_eq_true (by first | (with_reducible assumption) | assumption)
                          obtain ⟨go26, co26, eo26, gb26, gl26, cl26, HG26⟩ := Kd.R_form HO_7.out (by omega)
                          (first | cases eo26 | (injection eo26 with ea_ en_ ec_; (first | subst ea_ | (injection ea_ with ea_; subst ea_)); subst ec_; clear en_))
                          have GB26 := Aside0.mk gb26
                          have GG26 := Aside0.mk HG26
                          clear gb26 gl26 HG26
                          (first | simp only [add_plain] at hx777_0 | skip)
                          obtain ⟨hx26_0, hf26_0⟩ := Kd.R_celln 0 HO_7.out ((ji21) : Int) p26 q26
                          replace p26 := eq_true p26
                          replace q26 := eq_true q26
                          have HP33 := Kd.R_putn HO_7.out ((ji21) : Int) (Go.bits .xor .u8 (rd t763 (ji21)) (ji25))
                          rw [← Ny778.out] at HP33
                          have HQ33 := Aside0.mk HP33
                          clear HP33
                          refine start_ (n := 12) (S := fun w' => w'.cell? ⟨go26, ((ji21)).toNat, none⟩ = some (.int .u8 (rd t763 (ji21)))) (ds := [11]) #[false, false, false, false, false, false, false, false, false, false, false, false] (by kernel_rfl) rfl rfl (hx777_0) (fun hHeld => ?_); refine with_tabW sawyerlaw02_CodeCut.tab9 sawyerlaw02_CodeCut.bits9 (fun HT_ HW_ => ?_)
                          generalize w31.drew = w32 at HO_7 HO774 HO776 HR769 HB GG26 HQ33 hf26_0 hx26_0 hx777_0 hHeld ⊢
                          refine pure_ (i := 0) (N := some 60) (v := ?_) (a' := ?_) #[true, false, false, false, false, false, false, false, false, false, false, false] rfl rfl (any_of HT_.out (by kernel_rfl)) (fun _ _ _ h => h) (Or.inl ⟨by rfl, ?_⟩) ?_ ?_
                          rotate_left
                          · intro w'
                            go_simp
                            with_reducible rfl
                          rotate_left
                          · simp only [Act.put, List.setIfInBounds_toArray, List.set_cons_zero, List.set_cons_succ, i64_w, i32_w]
                            rfl
                          refine pure_ (i := 1) (N := some 61) (v := ?_) (a' := ?_) #[true, true, false, false, false, false, false, false, false, false, false, false] rfl rfl (any_of HT_.out (by kernel_rfl)) (fun _ _ _ h => h) (Or.inl ⟨by rfl, ?_⟩) ?_ ?_
                          rotate_left
                          · intro w'
                            go_simp
                            with_reducible rfl
                          rotate_left
                          · simp only [Act.put, List.setIfInBounds_toArray, List.set_cons_zero, List.set_cons_succ, i64_w, i32_w]
                            rfl
                          refine pure_ (i := 2) (N := some 62) (v := ?_) (a' := ?_) #[true, true, true, false, false, false, false, false, false, false, false, false] rfl rfl (any_of HT_.out (by kernel_rfl)) (fun _ _ _ h => h) (Or.inl ⟨by rfl, ?_⟩) ?_ ?_
                          rotate_left
                          · intro w'
                            go_simp
                            with_reducible rfl
                          rotate_left
                          · simp only [Act.put, List.setIfInBounds_toArray, List.set_cons_zero, List.set_cons_succ, i64_w, i32_w]
                            rfl
                          refine pure_ (i := 3) (N := some 63) (v := ?_) (a' := ?_) #[true, true, true, true, false, false, false, false, false, false, false, false] rfl rfl (any_of HT_.out (by kernel_rfl)) (fun _ _ _ h => h) (Or.inl ⟨by rfl, ?_⟩) ?_ ?_
                          rotate_left
                          · intro w'
                            go_simp
                            with_reducible rfl
                          rotate_left
                          · simp only [Act.put, List.setIfInBounds_toArray, List.set_cons_zero, List.set_cons_succ, i64_w, i32_w]
                            rfl
                          refine pure_ (i := 4) (N := some 64) (v := ?_) (a' := ?_) #[true, true, true, true, true, false, false, false, false, false, false, false] rfl rfl (any_of HT_.out (by kernel_rfl)) (fun _ _ _ h => h) (Or.inl ⟨by rfl, ?_⟩) ?_ ?_
                          rotate_left
                          · intro w'
                            go_simp
                            with_reducible rfl
                          rotate_left
                          · simp only [Act.put, List.setIfInBounds_toArray, List.set_cons_zero, List.set_cons_succ, i64_w, i32_w]
                            rfl
                          refine pure_ (i := 6) (N := some 66) (v := ?_) (a' := ?_) #[true, true, true, true, true, false, true, false, false, false, false, false] rfl rfl (any_of HT_.out (by kernel_rfl)) (fun _ _ _ h => h) (Or.inl ⟨by rfl, ?_⟩) ?_ ?_
                          rotate_left
                          · intro w'
                            go_simp
                            with_reducible rfl
                          rotate_left
                          · simp only [Act.put, List.setIfInBounds_toArray, List.set_cons_zero, List.set_cons_succ, i64_w, i32_w]
                            rfl
                          refine pure_ (i := 7) (N := some 67) (v := ?_) (a' := ?_) #[true, true, true, true, true, false, true, true, false, false, false, false] rfl rfl (any_of HT_.out (by kernel_rfl)) (fun _ _ _ h => h) (Or.inl ⟨by rfl, ?_⟩) ?_ ?_
                          rotate_left
                          · intro w'
                            go_simp
                            with_reducible rfl
                          rotate_left
                          · simp only [Act.put, List.setIfInBounds_toArray, List.set_cons_zero, List.set_cons_succ, i64_w, i32_w]
                            rfl
                          refine pure_ (i := 8) (N := some 68) (v := ?_) (a' := ?_) #[true, true, true, true, true, false, true, true, true, false, false, false] rfl rfl (any_of HT_.out (by kernel_rfl)) (fun _ _ _ h => h) (Or.inl ⟨by rfl, ?_⟩) ?_ ?_
                          rotate_left
                          · intro w'
                            go_simp
                            with_reducible rfl
                          rotate_left
                          · simp only [Act.put, List.setIfInBounds_toArray, List.set_cons_zero, List.set_cons_succ, i64_w, i32_w]
                            rfl
                          refine take_ (i := 5) (N := some 65) (v := ?_) (a' := ?_) #[true, true, true, true, true, true, true, true, true, false, false, false] rfl rfl (take_ofW HT_.out HW_.out (by kernel_rfl)) (fun _ _ _ h => h) (Or.inl ⟨by rfl, ?_⟩) hHeld ?_ ?_
                          rotate_left
                          · intro w' s0
                            go_simp
                            with_reducible rfl
                          rotate_left
                          · simp only [Act.put, List.setIfInBounds_toArray, List.set_cons_zero, List.set_cons_succ, i64_w, i32_w]
                            rfl
                          refine pure_ (i := 9) (N := some 69) (v := ?_) (a' := ?_) #[true, true, true, true, true, true, true, true, true, true, false, false] rfl rfl (any_of HT_.out (by kernel_rfl)) (fun _ _ _ h => h) (Or.inl ⟨by rfl, ?_⟩) ?_ ?_
                          rotate_left
                          · intro w'
                            go_simp
                            with_reducible rfl
                          rotate_left
                          · simp only [Act.put, List.setIfInBounds_toArray, List.set_cons_zero, List.set_cons_succ, i64_w, i32_w]
                            rfl
                          refine pure_ (i := 10) (N := some 70) (v := ?_) (a' := ?_) #[true, true, true, true, true, true, true, true, true, true, true, false] rfl rfl (any_of HT_.out (by kernel_rfl)) (fun _ _ _ h => h) (Or.inl ⟨by rfl, ?_⟩) ?_ ?_
                          rotate_left
                          · intro w'
                            go_simp
                            with_reducible rfl
                          rotate_left
                          · simp only [Act.put, List.setIfInBounds_toArray, List.set_cons_zero, List.set_cons_succ, i64_w, i32_w]
                            rfl
                          refine last_ (i := 11) (N := none) #[true, true, true, true, true, true, true, true, true, true, true, true] rfl rfl (one_of HT_.out (by kernel_rfl)) (by decide) (fun K hK => ?_)
                          refine skip_ (w1 := ?_) (by rfl) rfl ?_ ?_
                          rotate_left
                          · go_simp
                            rfl
                          refine hK.out _ _ ?_
                          clear hK K
                          refine done_ (done_of HT_.out (by kernel_rfl)) ?_
                          try go_wp2_with (first | ((with_reducible refine gate_callee (f := 50) rfl ?_); refine goesL_ (some 75) rfl rfl Try.func50 (by kernel_rfl) rfl #[.slice (some ⟨go26, 0, none⟩) y778.length co29, .int .i64 (l0.length : Int)] rfl (by (try simp only [List.map_toArray, List.map_cons, List.map_nil]); first | done | (rw [show y778.length = t763.length from (Kd.R_reads' HQ33.out).1.symm] <;> rfl) | rfl | (simp only [List.length_drop, List.length_take]; rfl)) ?_; (with_reducible refine (code_TakeFrame.calls kj4 _ _ y778 (l0.length : Int) t779 t780 t781 _ ?side1 ?side2 A27.out).mono ?_); (case side1 => refine (Kd.R_reads' (e := 5) (base := w.heap.size) (ok := fun k_ => ((True ∧ some k_ ≠ (v773 : Value).ownBlock) ∧ some k_ ≠ (v775 : Value).ownBlock)) (n := t763.length) (c := co29) ?_).2.2; exact (by (with_reducible repeat (first | apply Kd.R_alloc | apply Kd.R_drewN | apply Kd.R_drew)); exact HQ33.out)); (case side2 => rw [show y778.length = t763.length from (Kd.R_reads' HQ33.out).1.symm]; exact (Kd.R_reads' HO_7.out).2.1); rintro e w34 ⟨v782, v784, rfl, ho0, ho1, hb⟩; refine ⟨_, rfl, ?_⟩; have n0_ := Aside0.mk (Kd.R_mono (Kd.R_told (Kd.R_told (Kd.R_old (by (with_reducible repeat (first | apply Kd.R_alloc | apply Kd.R_drewN | apply Kd.R_drew)); exact HQ33.out) hb) (Kd.R_base ho0)) (Kd.Q_base ho1)) (fun _ h_ => h_.1)); have n1_ := Aside0.mk (Kd.R_mono (Kd.R_told (Kd.R_told (Kd.R_old (by (with_reducible repeat (first | apply Kd.R_alloc | apply Kd.R_drewN | apply Kd.R_drew)); exact (Kd.R_mono (Kd.R_far (p := ⟨go26, ((ji21) : Int).toNat, none⟩) (Kd.R_mono HO774.out (fun k_ hk => (⟨hk, fun e_ => hk.2 (by rw [e_]; rfl)⟩ : _ ∧ k_ ≠ go26))) (fun _ hk => hk.2) (.int .u8 (Go.bits .xor .u8 (rd t763 (ji21)) (ji25)))) (fun _ h_ => h_.1))) hb) (Kd.R_base ho0)) (Kd.Q_base ho1)) (fun _ h_ => h_.1)); have n2_ := Aside0.mk (Kd.Q_mono (Kd.Q_told (Kd.Q_told (Kd.Q_old (by (with_reducible repeat (first | apply Kd.Q_alloc | apply Kd.Q_drewN | apply Kd.Q_drew)); exact (Kd.Q_mono (Kd.Q_far (p := ⟨go26, ((ji21) : Int).toNat, none⟩) (Kd.Q_mono HO776.out (fun k_ hk => (⟨hk, fun e_ => hk.2 (by rw [e_]; rfl)⟩ : _ ∧ k_ ≠ go26))) (fun _ hk => hk.2) (.int .u8 (Go.bits .xor .u8 (rd t763 (ji21)) (ji25)))) (fun _ h_ => h_.1))) hb) (Kd.R_base ho0)) (Kd.Q_base ho1)) (fun _ h_ => h_.1)); have n3_ := Aside0.mk (Kd.R_lower (Kd.R_new' (Kd.R_new' (Kd.R_new' ho0 (Kd.R_lt (by (with_reducible repeat (first | apply Kd.R_alloc | apply Kd.R_drewN | apply Kd.R_drew)); exact HQ33.out))) (Kd.R_lt (by (with_reducible repeat (first | apply Kd.R_alloc | apply Kd.R_drewN | apply Kd.R_drew)); exact (Kd.R_mono (Kd.R_far (p := ⟨go26, ((ji21) : Int).toNat, none⟩) (Kd.R_mono HO774.out (fun k_ hk => (⟨hk, fun e_ => hk.2 (by rw [e_]; rfl)⟩ : _ ∧ k_ ≠ go26))) (fun _ hk => hk.2) (.int .u8 (Go.bits .xor .u8 (rd t763 (ji21)) (ji25)))) (fun _ h_ => h_.1))))) (Kd.Q_lt (by (with_reducible repeat (first | apply Kd.Q_alloc | apply Kd.Q_drewN | apply Kd.Q_drew)); exact (Kd.Q_mono (Kd.Q_far (p := ⟨go26, ((ji21) : Int).toNat, none⟩) (Kd.Q_mono HO776.out (fun k_ hk => (⟨hk, fun e_ => hk.2 (by rw [e_]; rfl)⟩ : _ ∧ k_ ≠ go26))) (fun _ hk => hk.2) (.int .u8 (Go.bits .xor .u8 (rd t763 (ji21)) (ji25)))) (fun _ h_ => h_.1))))) (below_size (by repeat (first | (with_reducible first | exact HB.out | apply below_alloc | apply pw_below_drewN | apply below_drew1 | refine below_set ?_ GB26.out) | exact HB.out)))); have n4_ := Aside0.mk (Kd.Q_lower (Kd.Q_new' (Kd.Q_new' (Kd.Q_new' ho1 (Kd.R_lt (by (with_reducible repeat (first | apply Kd.R_alloc | apply Kd.R_drewN | apply Kd.R_drew)); exact HQ33.out))) (Kd.R_lt (by (with_reducible repeat (first | apply Kd.R_alloc | apply Kd.R_drewN | apply Kd.R_drew)); exact (Kd.R_mono (Kd.R_far (p := ⟨go26, ((ji21) : Int).toNat, none⟩) (Kd.R_mono HO774.out (fun k_ hk => (⟨hk, fun e_ => hk.2 (by rw [e_]; rfl)⟩ : _ ∧ k_ ≠ go26))) (fun _ hk => hk.2) (.int .u8 (Go.bits .xor .u8 (rd t763 (ji21)) (ji25)))) (fun _ h_ => h_.1))))) (Kd.Q_lt (by (with_reducible repeat (first | apply Kd.Q_alloc | apply Kd.Q_drewN | apply Kd.Q_drew)); exact (Kd.Q_mono (Kd.Q_far (p := ⟨go26, ((ji21) : Int).toNat, none⟩) (Kd.Q_mono HO776.out (fun k_ hk => (⟨hk, fun e_ => hk.2 (by rw [e_]; rfl)⟩ : _ ∧ k_ ≠ go26))) (fun _ hk => hk.2) (.int .u8 (Go.bits .xor .u8 (rd t763 (ji21)) (ji25)))) (fun _ h_ => h_.1))))) (below_size (by repeat (first | (with_reducible first | exact HB.out | apply below_alloc | apply pw_below_drewN | apply below_drew1 | refine below_set ?_ GB26.out) | exact HB.out)))); have n5_ := Aside0.mk (below_step (by repeat (first | (with_reducible first | exact HB.out | apply below_alloc | apply pw_below_drewN | apply below_drew1 | refine below_set ?_ GB26.out) | exact HB.out)) hb); clear HO_7; clear HO774; clear HO776; clear HB; have HO_7 := n0_; have HO774 := n1_; have HO776 := n2_; have HO783 := n3_; have HO785 := n4_; have HB := n5_; clear n0_ n1_ n2_ n3_ n4_ n5_; (try clear hb); (try clear hb2); (try clear hk); (try clear hi); (try clear ho0); (try clear ho1)))
                          go_ret
                          exact ⟨by first | rfl | (simp [errW_none, errW_some] <;> rfl) | (simp only [← hji12, ← hji21, ← hji25]; first | rfl | (simp [errW_none, errW_some] <;> rfl)) | (simp [*, errW_none, errW_some] <;> rfl), by repeat (first | (with_reducible first | exact HB.out | apply below_alloc | apply pw_below_drewN | apply below_drew1) | exact HB.out)⟩
                        · rw [if_neg c28] at H
                          have c28b0 : (t772 == 2) = false := beq_eq_false_iff_ne.mpr c28
                          have c28b1 : (t772 != 2) = true := bne_iff_ne.mpr c28
                          obtain rfl := Option.some.inj H
                          obtain ⟨Ao35, co35, eo35⟩ := Kd.R_slice HO_7.out
                          subst eo35
                          have q36 : ((ji12) : Int) ≤ ((t763.length : Int) : Int) := of_decide_eq_true (by first | (with_reducible assumption) | assumption)
                          obtain ⟨i036, hi036, _, hsz36, _⟩ := info_parts info5
                          have hroom36 : t763.length ≤ co35 := (Kd.R_reads' HO_7.out).2.1
                          have hC36 : Kd.C (Kd.int .u8) _ Ao35 t763.length t763 := (Kd.R_reads' HO_7.out).2.2
                          have hcut36 := cut_to (P := Try.prog) 22 5 .i64 Try.underlying22 hi036 Ao35 t763.length co35 (ji12) (of_decide_eq_true (by first | (with_reducible assumption) | assumption)) q36 hroom36
                          have hr36 := Kd.C_take (m := ((ji12) : Int).toNat) hC36 (by omega)
                          have hy36 : y766.length = ((ji12) : Int).toNat := (by rw [Ny766.out, List.length_take]; omega)
                          rw [← Ny766.out] at hr36
                          rw [← hy36] at hcut36
                          have HR769 := Aside0.mk hr36
                          have HC769 := Aside0.mk (show y766.length ≤ co35 from by omega)
                          clear hr36 hC36 hroom36 hi036 hsz36
                          have KY36 := Aside0.mk hy36
                          clear hy36
                          have KL36 := Aside0.mk (show ((ji12) : Int).toNat ≤ t763.length from by omega)
                          replace q36 := eq_true q36
                          try go_wp2_with (first | ((with_reducible refine gate_callee (f := 50) rfl ?_); refine goesL_ (some 39) rfl rfl Try.func50 (by kernel_rfl) rfl #[.slice Ao35 y766.length co35, .int .i64 (l0.length : Int)] rfl (by (try simp only [List.map_toArray, List.map_cons, List.map_nil]); first | done | rfl | (simp only [List.length_drop, List.length_take]; rfl)) ?_; (with_reducible refine (code_TakeFrame.calls kj4 _ _ y766 (l0.length : Int) t770 t771 t772 _ ?side1 ?side2 A15.out).mono ?_); (case side1 => repeat (first | exact (by repeat (first | (with_reducible exact HR769.out) | (with_reducible refine Kd.C_alloc ?_ _) | (with_reducible refine Kd.C_drewN ?_ _) | (with_reducible refine Kd.C_drew ?_) | exact HR769.out)) | (with_reducible refine Kd.C_alloc ?_ _) | (with_reducible refine Kd.C_drewN ?_ _) | (with_reducible refine Kd.C_drew ?_))); (case side2 => exact HC769.out); rintro e w37 ⟨v773, v775, rfl, ho0, ho1, hb⟩; refine ⟨_, rfl, ?_⟩; have n0_ := Aside0.mk (Kd.R_mono (Kd.R_told (Kd.R_told (Kd.R_old (by (with_reducible repeat (first | apply Kd.R_alloc | apply Kd.R_drewN | apply Kd.R_drew)); exact HO_7.out) hb) (Kd.R_base ho0)) (Kd.Q_base ho1)) (fun _ h_ => h_.1)); have n1_ := Aside0.mk (Kd.R_lower (Kd.R_new' ho0 (Kd.R_lt (by (with_reducible repeat (first | apply Kd.R_alloc | apply Kd.R_drewN | apply Kd.R_drew)); exact HO_7.out))) (below_size (by repeat (first | (with_reducible first | exact HB.out | apply below_alloc | apply pw_below_drewN | apply below_drew1) | exact HB.out)))); have n2_ := Aside0.mk (Kd.Q_lower (Kd.Q_new' ho1 (Kd.R_lt (by (with_reducible repeat (first | apply Kd.R_alloc | apply Kd.R_drewN | apply Kd.R_drew)); exact HO_7.out))) (below_size (by repeat (first | (with_reducible first | exact HB.out | apply below_alloc | apply pw_below_drewN | apply below_drew1) | exact HB.out)))); have n3_ := Aside0.mk (Kd.C_below (by repeat (first | (with_reducible exact HR769.out) | (with_reducible refine Kd.C_alloc ?_ _) | (with_reducible refine Kd.C_drewN ?_ _) | (with_reducible refine Kd.C_drew ?_) | exact HR769.out)) hb); have n4_ := Aside0.mk (below_step (by repeat (first | (with_reducible first | exact HB.out | apply below_alloc | apply pw_below_drewN | apply below_drew1) | exact HB.out)) hb); clear HO_7; clear HR769; clear HB; have HO_7 := n0_; have HO774 := n1_; have HO776 := n2_; have HR769 := n3_; have HB := n4_; clear n0_ n1_ n2_ n3_ n4_; (try clear hb); (try clear hb2); (try clear hk); (try clear hi); (try clear ho0); (try clear ho1)))
                          have n0_ := Aside0.mk (Kd.R_drew HO_7.out)
                          have n1_ := Aside0.mk (Kd.R_drew HO774.out)
                          have n2_ := Aside0.mk (Kd.Q_drew HO776.out)
                          have n3_ := Aside0.mk (Kd.C_drew HR769.out)
                          have n4_ := Aside0.mk (below_drew1 HB.out)
                          clear HO_7
                          clear HO774
                          clear HO776
                          clear HR769
                          clear HB
                          have HO_7 := n0_
                          have HO774 := n1_
                          have HO776 := n2_
                          have HR769 := n3_
                          have HB := n4_
                          clear n0_ n1_ n2_ n3_ n4_
                          have p777 : 0 ≤ ((ji21) : Int) := of_decide_eq_true (by first | (with_reducible assumption) | assumption)
                          have q777 : (ji21) < (t763.length : Int) := of_decide_eq_true (by first | (with_reducible assumption) | assumption)
                          obtain ⟨ad777, e777, hx777_0⟩ := Kd.at_int (Kd.R_reads' HO_7.out).2.2 (ji21) p777 q777
                          cases e777
                          replace p777 := eq_true p777
                          replace q777 := eq_true q777
                          have p26 : 0 ≤ ((ji21) : Int) := of_decide_eq_true (by first | (with_reducible assumption) | assumption)
                          have q26 : ((ji21) : Int) < ((t763.length : Int) : Int) := of_decide_eq_true (by first | (with_reducible assumption) | assumption)
                          obtain ⟨go26, co26, eo26, gb26, gl26, cl26, HG26⟩ := Kd.R_form HO_7.out (by omega)
                          (first | cases eo26 | (injection eo26 with ea_ en_ ec_; (first | subst ea_ | (injection ea_ with ea_; subst ea_)); subst ec_; clear en_))
                          have GB26 := Aside0.mk gb26
                          have GG26 := Aside0.mk HG26
                          clear gb26 gl26 HG26
                          (first | simp only [add_plain] at hx777_0 | skip)
                          obtain ⟨hx26_0, hf26_0⟩ := Kd.R_celln 0 HO_7.out ((ji21) : Int) p26 q26
                          replace p26 := eq_true p26
                          replace q26 := eq_true q26
                          have HP39 := Kd.R_putn HO_7.out ((ji21) : Int) (Go.bits .xor .u8 (rd t763 (ji21)) (ji25))
                          rw [← Ny778.out] at HP39
                          have HQ39 := Aside0.mk HP39
                          clear HP39
                          refine start_ (n := 12) (S := fun w' => w'.cell? ⟨go26, ((ji21)).toNat, none⟩ = some (.int .u8 (rd t763 (ji21)))) (ds := [11]) #[false, false, false, false, false, false, false, false, false, false, false, false] (by kernel_rfl) rfl rfl (hx777_0) (fun hHeld => ?_); refine with_tabW sawyerlaw02_CodeCut.tab9 sawyerlaw02_CodeCut.bits9 (fun HT_ HW_ => ?_)
                          generalize w37.drew = w38 at HO_7 HO774 HO776 HR769 HB GG26 HQ39 hf26_0 hx26_0 hx777_0 hHeld ⊢
                          refine pure_ (i := 0) (N := some 60) (v := ?_) (a' := ?_) #[true, false, false, false, false, false, false, false, false, false, false, false] rfl rfl (any_of HT_.out (by kernel_rfl)) (fun _ _ _ h => h) (Or.inl ⟨by rfl, ?_⟩) ?_ ?_
                          rotate_left
                          · intro w'
                            go_simp
                            with_reducible rfl
                          rotate_left
                          · simp only [Act.put, List.setIfInBounds_toArray, List.set_cons_zero, List.set_cons_succ, i64_w, i32_w]
                            rfl
                          refine pure_ (i := 1) (N := some 61) (v := ?_) (a' := ?_) #[true, true, false, false, false, false, false, false, false, false, false, false] rfl rfl (any_of HT_.out (by kernel_rfl)) (fun _ _ _ h => h) (Or.inl ⟨by rfl, ?_⟩) ?_ ?_
                          rotate_left
                          · intro w'
                            go_simp
                            with_reducible rfl
                          rotate_left
                          · simp only [Act.put, List.setIfInBounds_toArray, List.set_cons_zero, List.set_cons_succ, i64_w, i32_w]
                            rfl
                          refine pure_ (i := 2) (N := some 62) (v := ?_) (a' := ?_) #[true, true, true, false, false, false, false, false, false, false, false, false] rfl rfl (any_of HT_.out (by kernel_rfl)) (fun _ _ _ h => h) (Or.inl ⟨by rfl, ?_⟩) ?_ ?_
                          rotate_left
                          · intro w'
                            go_simp
                            with_reducible rfl
                          rotate_left
                          · simp only [Act.put, List.setIfInBounds_toArray, List.set_cons_zero, List.set_cons_succ, i64_w, i32_w]
                            rfl
                          refine pure_ (i := 3) (N := some 63) (v := ?_) (a' := ?_) #[true, true, true, true, false, false, false, false, false, false, false, false] rfl rfl (any_of HT_.out (by kernel_rfl)) (fun _ _ _ h => h) (Or.inl ⟨by rfl, ?_⟩) ?_ ?_
                          rotate_left
                          · intro w'
                            go_simp
                            with_reducible rfl
                          rotate_left
                          · simp only [Act.put, List.setIfInBounds_toArray, List.set_cons_zero, List.set_cons_succ, i64_w, i32_w]
                            rfl
                          refine pure_ (i := 4) (N := some 64) (v := ?_) (a' := ?_) #[true, true, true, true, true, false, false, false, false, false, false, false] rfl rfl (any_of HT_.out (by kernel_rfl)) (fun _ _ _ h => h) (Or.inl ⟨by rfl, ?_⟩) ?_ ?_
                          rotate_left
                          · intro w'
                            go_simp
                            with_reducible rfl
                          rotate_left
                          · simp only [Act.put, List.setIfInBounds_toArray, List.set_cons_zero, List.set_cons_succ, i64_w, i32_w]
                            rfl
                          refine pure_ (i := 6) (N := some 66) (v := ?_) (a' := ?_) #[true, true, true, true, true, false, true, false, false, false, false, false] rfl rfl (any_of HT_.out (by kernel_rfl)) (fun _ _ _ h => h) (Or.inl ⟨by rfl, ?_⟩) ?_ ?_
                          rotate_left
                          · intro w'
                            go_simp
                            with_reducible rfl
                          rotate_left
                          · simp only [Act.put, List.setIfInBounds_toArray, List.set_cons_zero, List.set_cons_succ, i64_w, i32_w]
                            rfl
                          refine pure_ (i := 7) (N := some 67) (v := ?_) (a' := ?_) #[true, true, true, true, true, false, true, true, false, false, false, false] rfl rfl (any_of HT_.out (by kernel_rfl)) (fun _ _ _ h => h) (Or.inl ⟨by rfl, ?_⟩) ?_ ?_
                          rotate_left
                          · intro w'
                            go_simp
                            with_reducible rfl
                          rotate_left
                          · simp only [Act.put, List.setIfInBounds_toArray, List.set_cons_zero, List.set_cons_succ, i64_w, i32_w]
                            rfl
                          refine pure_ (i := 8) (N := some 68) (v := ?_) (a' := ?_) #[true, true, true, true, true, false, true, true, true, false, false, false] rfl rfl (any_of HT_.out (by kernel_rfl)) (fun _ _ _ h => h) (Or.inl ⟨by rfl, ?_⟩) ?_ ?_
                          rotate_left
                          · intro w'
                            go_simp
                            with_reducible rfl
                          rotate_left
                          · simp only [Act.put, List.setIfInBounds_toArray, List.set_cons_zero, List.set_cons_succ, i64_w, i32_w]
                            rfl
                          refine take_ (i := 5) (N := some 65) (v := ?_) (a' := ?_) #[true, true, true, true, true, true, true, true, true, false, false, false] rfl rfl (take_ofW HT_.out HW_.out (by kernel_rfl)) (fun _ _ _ h => h) (Or.inl ⟨by rfl, ?_⟩) hHeld ?_ ?_
                          rotate_left
                          · intro w' s0
                            go_simp
                            with_reducible rfl
                          rotate_left
                          · simp only [Act.put, List.setIfInBounds_toArray, List.set_cons_zero, List.set_cons_succ, i64_w, i32_w]
                            rfl
                          refine pure_ (i := 9) (N := some 69) (v := ?_) (a' := ?_) #[true, true, true, true, true, true, true, true, true, true, false, false] rfl rfl (any_of HT_.out (by kernel_rfl)) (fun _ _ _ h => h) (Or.inl ⟨by rfl, ?_⟩) ?_ ?_
                          rotate_left
                          · intro w'
                            go_simp
                            with_reducible rfl
                          rotate_left
                          · simp only [Act.put, List.setIfInBounds_toArray, List.set_cons_zero, List.set_cons_succ, i64_w, i32_w]
                            rfl
                          refine pure_ (i := 10) (N := some 70) (v := ?_) (a' := ?_) #[true, true, true, true, true, true, true, true, true, true, true, false] rfl rfl (any_of HT_.out (by kernel_rfl)) (fun _ _ _ h => h) (Or.inl ⟨by rfl, ?_⟩) ?_ ?_
                          rotate_left
                          · intro w'
                            go_simp
                            with_reducible rfl
                          rotate_left
                          · simp only [Act.put, List.setIfInBounds_toArray, List.set_cons_zero, List.set_cons_succ, i64_w, i32_w]
                            rfl
                          refine last_ (i := 11) (N := none) #[true, true, true, true, true, true, true, true, true, true, true, true] rfl rfl (one_of HT_.out (by kernel_rfl)) (by decide) (fun K hK => ?_)
                          refine skip_ (w1 := ?_) (by rfl) rfl ?_ ?_
                          rotate_left
                          · go_simp
                            rfl
                          refine hK.out _ _ ?_
                          clear hK K
                          refine done_ (done_of HT_.out (by kernel_rfl)) ?_
                          try go_wp2_with (first | ((with_reducible refine gate_callee (f := 50) rfl ?_); refine goesL_ (some 75) rfl rfl Try.func50 (by kernel_rfl) rfl #[.slice (some ⟨go26, 0, none⟩) y778.length co35, .int .i64 (l0.length : Int)] rfl (by (try simp only [List.map_toArray, List.map_cons, List.map_nil]); first | done | (rw [show y778.length = t763.length from (Kd.R_reads' HQ39.out).1.symm] <;> rfl) | rfl | (simp only [List.length_drop, List.length_take]; rfl)) ?_; (with_reducible refine (code_TakeFrame.calls kj4 _ _ y778 (l0.length : Int) t779 t780 t781 _ ?side1 ?side2 A27.out).mono ?_); (case side1 => refine (Kd.R_reads' (e := 5) (base := w.heap.size) (ok := fun k_ => ((True ∧ some k_ ≠ (v773 : Value).ownBlock) ∧ some k_ ≠ (v775 : Value).ownBlock)) (n := t763.length) (c := co35) ?_).2.2; exact (by (with_reducible repeat (first | apply Kd.R_alloc | apply Kd.R_drewN | apply Kd.R_drew)); exact HQ39.out)); (case side2 => rw [show y778.length = t763.length from (Kd.R_reads' HQ39.out).1.symm]; exact (Kd.R_reads' HO_7.out).2.1); rintro e w40 ⟨v782, v784, rfl, ho0, ho1, hb⟩; refine ⟨_, rfl, ?_⟩; have n0_ := Aside0.mk (Kd.R_mono (Kd.R_told (Kd.R_told (Kd.R_old (by (with_reducible repeat (first | apply Kd.R_alloc | apply Kd.R_drewN | apply Kd.R_drew)); exact HQ39.out) hb) (Kd.R_base ho0)) (Kd.Q_base ho1)) (fun _ h_ => h_.1)); have n1_ := Aside0.mk (Kd.R_mono (Kd.R_told (Kd.R_told (Kd.R_old (by (with_reducible repeat (first | apply Kd.R_alloc | apply Kd.R_drewN | apply Kd.R_drew)); exact (Kd.R_mono (Kd.R_far (p := ⟨go26, ((ji21) : Int).toNat, none⟩) (Kd.R_mono HO774.out (fun k_ hk => (⟨hk, fun e_ => hk.2 (by rw [e_]; rfl)⟩ : _ ∧ k_ ≠ go26))) (fun _ hk => hk.2) (.int .u8 (Go.bits .xor .u8 (rd t763 (ji21)) (ji25)))) (fun _ h_ => h_.1))) hb) (Kd.R_base ho0)) (Kd.Q_base ho1)) (fun _ h_ => h_.1)); have n2_ := Aside0.mk (Kd.Q_mono (Kd.Q_told (Kd.Q_told (Kd.Q_old (by (with_reducible repeat (first | apply Kd.Q_alloc | apply Kd.Q_drewN | apply Kd.Q_drew)); exact (Kd.Q_mono (Kd.Q_far (p := ⟨go26, ((ji21) : Int).toNat, none⟩) (Kd.Q_mono HO776.out (fun k_ hk => (⟨hk, fun e_ => hk.2 (by rw [e_]; rfl)⟩ : _ ∧ k_ ≠ go26))) (fun _ hk => hk.2) (.int .u8 (Go.bits .xor .u8 (rd t763 (ji21)) (ji25)))) (fun _ h_ => h_.1))) hb) (Kd.R_base ho0)) (Kd.Q_base ho1)) (fun _ h_ => h_.1)); have n3_ := Aside0.mk (Kd.R_lower (Kd.R_new' (Kd.R_new' (Kd.R_new' ho0 (Kd.R_lt (by (with_reducible repeat (first | apply Kd.R_alloc | apply Kd.R_drewN | apply Kd.R_drew)); exact HQ39.out))) (Kd.R_lt (by (with_reducible repeat (first | apply Kd.R_alloc | apply Kd.R_drewN | apply Kd.R_drew)); exact (Kd.R_mono (Kd.R_far (p := ⟨go26, ((ji21) : Int).toNat, none⟩) (Kd.R_mono HO774.out (fun k_ hk => (⟨hk, fun e_ => hk.2 (by rw [e_]; rfl)⟩ : _ ∧ k_ ≠ go26))) (fun _ hk => hk.2) (.int .u8 (Go.bits .xor .u8 (rd t763 (ji21)) (ji25)))) (fun _ h_ => h_.1))))) (Kd.Q_lt (by (with_reducible repeat (first | apply Kd.Q_alloc | apply Kd.Q_drewN | apply Kd.Q_drew)); exact (Kd.Q_mono (Kd.Q_far (p := ⟨go26, ((ji21) : Int).toNat, none⟩) (Kd.Q_mono HO776.out (fun k_ hk => (⟨hk, fun e_ => hk.2 (by rw [e_]; rfl)⟩ : _ ∧ k_ ≠ go26))) (fun _ hk => hk.2) (.int .u8 (Go.bits .xor .u8 (rd t763 (ji21)) (ji25)))) (fun _ h_ => h_.1))))) (below_size (by repeat (first | (with_reducible first | exact HB.out | apply below_alloc | apply pw_below_drewN | apply below_drew1 | refine below_set ?_ GB26.out) | exact HB.out)))); have n4_ := Aside0.mk (Kd.Q_lower (Kd.Q_new' (Kd.Q_new' (Kd.Q_new' ho1 (Kd.R_lt (by (with_reducible repeat (first | apply Kd.R_alloc | apply Kd.R_drewN | apply Kd.R_drew)); exact HQ39.out))) (Kd.R_lt (by (with_reducible repeat (first | apply Kd.R_alloc | apply Kd.R_drewN | apply Kd.R_drew)); exact (Kd.R_mono (Kd.R_far (p := ⟨go26, ((ji21) : Int).toNat, none⟩) (Kd.R_mono HO774.out (fun k_ hk => (⟨hk, fun e_ => hk.2 (by rw [e_]; rfl)⟩ : _ ∧ k_ ≠ go26))) (fun _ hk => hk.2) (.int .u8 (Go.bits .xor .u8 (rd t763 (ji21)) (ji25)))) (fun _ h_ => h_.1))))) (Kd.Q_lt (by (with_reducible repeat (first | apply Kd.Q_alloc | apply Kd.Q_drewN | apply Kd.Q_drew)); exact (Kd.Q_mono (Kd.Q_far (p := ⟨go26, ((ji21) : Int).toNat, none⟩) (Kd.Q_mono HO776.out (fun k_ hk => (⟨hk, fun e_ => hk.2 (by rw [e_]; rfl)⟩ : _ ∧ k_ ≠ go26))) (fun _ hk => hk.2) (.int .u8 (Go.bits .xor .u8 (rd t763 (ji21)) (ji25)))) (fun _ h_ => h_.1))))) (below_size (by repeat (first | (with_reducible first | exact HB.out | apply below_alloc | apply pw_below_drewN | apply below_drew1 | refine below_set ?_ GB26.out) | exact HB.out)))); have n5_ := Aside0.mk (below_step (by repeat (first | (with_reducible first | exact HB.out | apply below_alloc | apply pw_below_drewN | apply below_drew1 | refine below_set ?_ GB26.out) | exact HB.out)) hb); clear HO_7; clear HO774; clear HO776; clear HB; have HO_7 := n0_; have HO774 := n1_; have HO776 := n2_; have HO783 := n3_; have HO785 := n4_; have HB := n5_; clear n0_ n1_ n2_ n3_ n4_ n5_; (try clear hb); (try clear hb2); (try clear hk); (try clear hi); (try clear ho0); (try clear ho1)))
                          go_ret
                          exact ⟨by first | rfl | (simp [errW_none, errW_some] <;> rfl) | (simp only [← hji12, ← hji21, ← hji25]; first | rfl | (simp [errW_none, errW_some] <;> rfl)) | (simp [*, errW_none, errW_some] <;> rfl), by repeat (first | (with_reducible first | exact HB.out | apply below_alloc | apply pw_below_drewN | apply below_drew1) | exact HB.out)⟩
                      · rw [if_neg c24] at H
                        exact absurd H (by simp)
                    · rw [if_neg c23] at H
                      exact absurd H (by simp)
                  · rw [if_neg c22] at H
                    exact absurd H (by simp)
            · rw [if_neg c14] at H
              exact absurd H (by simp)
          · rw [if_neg c13] at H
            exact absurd H (by simp)

/-- THE ONE PURE STATEMENT of sawyerlaw02_CodeCut: yours. -/
def sawyerlaw02_CodeCut.Pure : Prop := ∀ (l0 : List Int) (a1 : Int) (a2 : Int), l0.length ≤ maxLen → l0.length * 1 ≤ 140737488351232 → (∀ x ∈ l0, (Lit.int .u8 x).wf = true) → (Lit.int .i64 a1).wf = true → (Lit.int .i64 a2).wf = true → ∃ k, sawyerlaw02_CodeCut.f k l0 a1 a2 = some true
theorem sawyerlaw02_CodeCut.walk (P : sawyerlaw02_CodeCut.Pure) (a0 : Option Addr) (len0 cap0 : Nat) (z0 : List Int) (a1 : Int) (a2 : Int) (w : World) (w0 : (a0 = none ∧ len0 = 0 ∧ cap0 = 0 ∧ z0 = []) ∨ ∃ x, a0 = some x ∧ len0 ≤ cap0 ∧ cap0 ≤ maxLen ∧ z0.length = cap0 ∧ (∀ i, i < z0.length → w.cell? (x.add i) = some (.int .u8 (z0.getD i 0))) ∧ ∀ n ∈ z0, (Lit.int .u8 n).wf = true) (y0 : len0 * 1 ≤ 140737488351232) (w1 : (Lit.int .i64 a1).wf = true) (w2 : (Lit.int .i64 a2).wf = true) :
    Calls Try.prog 17 #[.slice a0 len0 cap0, .int .i64 a1, .int .i64 a2] w fun e w' => e = .returned (.bool true) ∧ Below w.heap.size w w' := by
  obtain ⟨l0, rfl, hr0, hm0, hw0, hc0⟩ := ReadsInt.ofRowC w0
  obtain ⟨k, h⟩ := P l0 a1 a2 hm0 y0 hw0 w1 w2
  refine (sawyerlaw02_CodeCut.calls k _ _ l0 a1 a2 true w (Kd.C_of_reads (d := (0 : Int)) (h1 := fun _ => rfl) hr0) hc0 h).mono ?_
  rintro e w' ⟨rfl, hd⟩
  exact ⟨rfl, hd⟩

end Go.Proofs.Ytmkojpkajlpokaa.Px
