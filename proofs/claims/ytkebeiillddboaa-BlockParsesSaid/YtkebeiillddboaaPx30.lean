-- Printed by a program of ours (px) out of the translation; Lean checks it.
import Derived.Test.YtkebeiillddboaaPx0
import Derived.Test.YtkebeiillddboaaPx24
import Derived.Test.YtkebeiillddboaaPx25
import Derived.Test.YtkebeiillddboaaPx26
import Derived.Test.YtkebeiillddboaaPx27
import Derived.Test.YtkebeiillddboaaPx29
namespace Go.Proofs.Ytkebeiillddboaa.Px
open Go.RowKit Go.Proofs.YtkebeiillddboaaW.PrintWords Go.Proofs.YtkebeiillddboaaW.PrintLast Go.Proofs.YtkebeiillddboaaW.PrintMore
attribute [local go_sem] max2_int min2_int max_two min_two max_three min_three max_four min_four   -- for this text's walks alone
set_option linter.unusedVariables false
set_option linter.unusedSimpArgs false
set_option linter.unnecessarySimpa false

/-! ### sawyerref08_Build: function 10 -/
def sawyerref08_Build.l0 : Nat → List (S38) → List Int → List Int → Int → Option (List Int × Int)
  | 0, _, _, _, _ => none
  | k + 1, x0, x4, x5, x6 => if x6 < (x0.length : Int) then (if 0 ≤ x6 then ((sawyerref08_shared.f k x5 ((rd_T38 x0 x6).f0)).bind fun t313 => ((sawyerref02_PutNum.f k x4 t313).bind fun t315 => (if 0 ≤ t313 then (if t313 ≤ (((rd_T38 x0 x6).f0).length : Int) then ((sawyerref02_PutText.f k t315 (strOfNums (((rd_T38 x0 x6).f0).drop (t313 : Int).toNat))).bind fun t324 => (if (rd_T38 x0 x6).f2 = true then ((sawyerref02_PutNum.f k t324 (wrap64 ((wrap64 (2 * ((rd_T38 x0 x6).f1))) + 1))).bind fun t329 => ((sawyerref02_PutText.f k t329 (strOfNums ((rd_T38 x0 x6).f3))).bind fun t333 => (sawyerref08_Build.l0 k x0 t333 ((rd_T38 x0 x6).f0) (wrap64 (x6 + 1))))) else ((sawyerref02_PutNum.f k t324 (wrap64 (2 * ((rd_T38 x0 x6).f1)))).bind fun t336 => ((sawyerref02_PutText.f k t336 (strOfNums ((rd_T38 x0 x6).f3))).bind fun t340 => (sawyerref08_Build.l0 k x0 t340 ((rd_T38 x0 x6).f0) (wrap64 (x6 + 1))))))) else (none)) else (none)))) else (none)) else ((sawyerref08_Summed.f k x4).bind fun t309 => (some (t309, 0)))
def sawyerref08_Build.f (k : Nat) (l0 : List (S38)) : Option (List Int × Int) := (sawyerref08_Check.f k l0).bind fun t305 => (if t305 = 0 then ((sawyerref02_PutNum.f k ([] : List Int) (l0.length : Int)).bind fun t306 => (sawyerref08_Build.l0 k l0 t306 ([] : List Int) 0)) else (some (([] : List Int), 1)))
theorem sawyerref08_Build.mono_l : ∀ k, (∀ y0 y1 y2 y3, LeO (sawyerref08_Build.l0 k y0 y1 y2 y3) (sawyerref08_Build.l0 (k + 1) y0 y1 y2 y3))
  | 0 => fun _ _ _ _ r h => by simp [sawyerref08_Build.l0] at h
  | k + 1 => by
    have ih0 := sawyerref08_Build.mono_l k
    · intro y0 y1 y2 y3
      unfold sawyerref08_Build.l0
      repeat' first
      | (with_reducible exact ih0 _ _ _ _)
      | (with_reducible exact sawyerref02_PutNum.mono _ _ _)
      | (with_reducible exact sawyerref02_PutText.mono _ _ _)
      | (with_reducible exact sawyerref08_Check.mono _ _)
      | (with_reducible exact sawyerref08_Summed.mono _ _)
      | (with_reducible exact sawyerref08_shared.mono _ _ _)
      | (with_reducible exact LeO.refl _)
      | (with_reducible exact LeO.none _)
      | (with_reducible refine LeO.ite ?_ ?_)
      | (with_reducible refine LeO.bind ?_ (fun _ => ?_))
      | exact ih0 _ _ _ _
      | exact sawyerref02_PutNum.mono _ _ _
      | exact sawyerref02_PutText.mono _ _ _
      | exact sawyerref08_Check.mono _ _
      | exact sawyerref08_Summed.mono _ _
      | exact sawyerref08_shared.mono _ _ _
      | exact LeO.none _
      | refine LeO.ite ?_ ?_
      | refine LeO.bind ?_ (fun _ => ?_)
theorem sawyerref08_Build.mono : ∀ a0 k, LeO (sawyerref08_Build.f k a0) (sawyerref08_Build.f (k + 1) a0) := by
  intro a0 k
  have ih0 := sawyerref08_Build.mono_l k
  unfold sawyerref08_Build.f
  repeat' first
      | (with_reducible exact ih0 _ _ _ _)
      | (with_reducible exact sawyerref02_PutNum.mono _ _ _)
      | (with_reducible exact sawyerref02_PutText.mono _ _ _)
      | (with_reducible exact sawyerref08_Check.mono _ _)
      | (with_reducible exact sawyerref08_Summed.mono _ _)
      | (with_reducible exact sawyerref08_shared.mono _ _ _)
      | (with_reducible exact LeO.refl _)
      | (with_reducible exact LeO.none _)
      | (with_reducible refine LeO.ite ?_ ?_)
      | (with_reducible refine LeO.bind ?_ (fun _ => ?_))
      | exact ih0 _ _ _ _
      | exact sawyerref02_PutNum.mono _ _ _
      | exact sawyerref02_PutText.mono _ _ _
      | exact sawyerref08_Check.mono _ _
      | exact sawyerref08_Summed.mono _ _
      | exact sawyerref08_shared.mono _ _ _
      | exact LeO.none _
      | refine LeO.ite ?_ ?_
      | refine LeO.bind ?_ (fun _ => ?_)

set_option maxHeartbeats 8000000 in
set_option maxRecDepth 100000 in
theorem sawyerref08_Build.calls (k : Nat) (A0 : Option Addr) (c0 : Nat) (l0 : List (S38)) (r1 : List Int) (r2 : Int) (w : World) (hr0 : Kd.C k38 w A0 l0.length l0) (hc0 : l0.length ≤ c0) (h : sawyerref08_Build.f k l0 = some (r1, r2)) :
    Calls Try.prog 10 #[.slice A0 l0.length c0] w fun e w' => ∃ v0_ : Value, e = .returned (.tuple #[v0_, .int .i64 r2]) ∧ Kd.R (Kd.int .u8) 5 w' w.heap.size (fun _ => True) v0_ r1 ∧ Below w.heap.size w w' := by
  have hu38 := Try.underlying38
  unfold sawyerref08_Build.f at h
  replace h := Option.bind_eq_some_iff.mp h
  obtain ⟨t, ht, H⟩ := h
  have HR0 := Aside0.mk hr0; have HC0 := Aside0.mk hc0; clear hr0 hc0
  by_cases ct : t = 0
  · rw [if_pos ct] at H
    have ct1 : (t == 0) = true := by simp [ct]
    have ct2 : (t != 0) = false := by simp [ct]
    clear ct
    replace H := Option.bind_eq_some_iff.mp H
    obtain ⟨a0, ha, H0⟩ := H
    have H := Aside0.mk H0
    clear H0
    go_enter Try.func10, Try.ntmps10
    go_wp2_with (first
      | ((with_reducible refine gate_callee (f := 13) rfl ?_); refine goesL_ (some 10) rfl rfl Try.func13 (by kernel_rfl) rfl #[.slice A0 l0.length c0] rfl (by (try simp only [List.map_toArray, List.map_cons, List.map_nil]); first | done | rfl) ?_; refine (sawyerref08_Check.calls k _ _ l0 t _ HR0.out HC0.out ht).mono ?_; rintro ex w1 ⟨rfl, hB1⟩; refine ⟨_, rfl, ?_⟩; have hB1 := Aside0.mk hB1)
      | ((with_reducible refine gate_callee (f := 24) rfl ?_); refine goesL_ (some 14) rfl rfl Try.func24 (by kernel_rfl) rfl #[.slice none 0 0, .int .i64 (l0.length : Int)] rfl (by (try simp only [List.map_toArray, List.map_cons, List.map_nil]); first | done | rfl) ?_; refine (sawyerref02_PutNum.calls k none 0 [] _ a0 w1 (Kd.C_nil _ _) (Nat.le_refl _) ha).mono ?_; rintro ex w2 ⟨v1, rfl, hv1, hB2⟩; refine ⟨_, rfl, ?_⟩; obtain ⟨Aa, ca, rfl⟩ := Kd.R_slice hv1; have hv1 := Aside0.mk hv1; have hB1 := Aside0.mk (below_step hB1.out hB2); clear hB2))
    go_loopg [4, 5, 6] k (fun kq v4 v5 v6 w' => ∃ (ac la : List Int) (i : Int) (Aa : Option Addr) (ca : Nat) (Al : Option Addr) (cl : Nat), v4 = .slice Aa ac.length ca ∧ v5 = .slice Al la.length cl ∧ v6 = .int .i64 i ∧ Aside0 (sawyerref08_Build.l0 kq l0 ac la i = some (r1, r2)) ∧ Aside0 (kq ≤ k) ∧ Aside0 (Kd.C (Kd.int .u8) w' Aa ac.length ac) ∧ Aside0 (ac.length ≤ ca) ∧ Aside0 (Kd.C (Kd.int .u8) w' Al la.length la) ∧ Aside0 (la.length ≤ cl) ∧ Aside0 (Below w.heap.size w w'))
    case atStart => exact ⟨a0, [], 0, Aa, ca, none, 0, rfl, rfl, rfl, H, ⟨Nat.le_refl _⟩, ⟨(Kd.R_reads' hv1.out).2.2⟩, ⟨(Kd.R_reads' hv1.out).2.1⟩, ⟨Kd.C_nil _ _⟩, ⟨Nat.le_refl _⟩, hB1⟩
    case round =>
      clear H hv1 hB1
      obtain ⟨ac, la, i, Aa, ca, Al, cl, rfl, rfl, rfl, HA, HK1, HCa, HLa, HCl, HLl, HB⟩ := hrel
      cases gk with
      | zero => exact absurd HA.out (by simp [sawyerref08_Build.l0])
      | succ k1 =>
        have H := HA.out
        clear HA
        simp only [sawyerref08_Build.l0] at H
        by_cases c1 : i < (l0.length : Int)
        · rw [if_pos c1] at H
          have c1b : decide (i < (l0.length : Int)) = true := decide_eq_true c1
          by_cases c2 : 0 ≤ i
          · rw [if_pos c2] at H
            replace H := Option.bind_eq_some_iff.mp H
            obtain ⟨n, hn, H⟩ := H
            replace H := Option.bind_eq_some_iff.mp H
            obtain ⟨a1, ha1, H⟩ := H
            by_cases n0 : 0 ≤ n
            · rw [if_pos n0] at H
              by_cases n1 : n ≤ ((rd_T38 l0 i).f0.length : Int)
              · rw [if_pos n1] at H
                obtain ⟨y, hy⟩ : ∃ y_ : List Int, y_ = (rd_T38 l0 i).f0.drop (n : Int).toNat := ⟨_, rfl⟩
                rw [← hy] at H
                replace H := Option.bind_eq_some_iff.mp H
                obtain ⟨a2, ha2, H⟩ := H
                obtain ⟨ad, A1, c1', A3, c3, e1, hx0, hx1, hx2, hx3, hl1, hi1, hl3, hi3⟩ := at_T38 (Kd.C_below HR0.out HB.out) i c2 c1
                subst e1
                have hy2 : y.length = (rd_T38 l0 i).f0.length - (n : Int).toNat := by rw [hy, List.length_drop]
                obtain ⟨i0, hi0, _, hsz, _⟩ := info_parts info5
                have hcut := cut_from (P := Try.prog) 24 5 .i64 Try.underlying24 hi0 1 hsz A1 (rd_T38 l0 i).f0.length c1' n n0 n1
                have hd := Kd.C_drop (m := (n : Int).toNat) hi1 (by omega) hl1
                obtain ⟨Ac, hAc⟩ : ∃ A_, A_ = (if c1' = (n : Int).toNat then A1 else (A1 : Option Addr).map (·.add ((n : Int).toNat * 1))) := ⟨_, rfl⟩
                obtain ⟨cc, hcc⟩ : ∃ c_, c_ = c1' - (n : Int).toNat := ⟨_, rfl⟩
                rw [← hy] at hd
                replace hd : Kd.C (Kd.int .u8) wr Ac y.length y := by rw [hAc]; exact hd
                have hlc : y.length ≤ cc := by rw [hy2, hcc]; exact Nat.sub_le_sub_right hl1 _
                rw [← hy2, ← hAc, ← hcc] at hcut
                have HX0 := Aside0.mk hx0; have HX3 := Aside0.mk hx3; have HD := Aside0.mk hd; have HLC := Aside0.mk hlc; have HI1 := Aside0.mk hi1; have HL1 := Aside0.mk hl1; have HI3 := Aside0.mk hi3; have HL3 := Aside0.mk hl3; have HY := Aside0.mk hy; clear hd hlc hi1 hl1 hi3 hl3 hy hy2 hAc hcc hi0 hsz
                have p1 := eq_true c2
                have q1 := eq_true c1
                clear c1 c2
                by_cases g : (rd_T38 l0 i).f2 = true
                · rw [if_pos g] at H
                  rw [g] at hx2
                  clear g
                  replace H := Option.bind_eq_some_iff.mp H
                  obtain ⟨a3, ha3, H⟩ := H
                  replace H := Option.bind_eq_some_iff.mp H
                  obtain ⟨a4, ha4, H⟩ := H
                  have H := Aside0.mk H
                  go_wp2_with ((with_reducible refine gate_callee (f := 25) rfl ?_); refine goesL_ (some 27) rfl rfl Try.func25 (by kernel_rfl) rfl #[.slice Al la.length cl, .slice A1 (rd_T38 l0 i).f0.length c1'] rfl (by (try simp only [List.map_toArray, List.map_cons, List.map_nil]); first | done | rfl) ?_; refine (sawyerref08_shared.calls k1 _ _ la _ _ _ n _ HCl.out HLl.out HI1.out HL1.out hn).mono ?_; rintro ex w2 ⟨rfl, ⟨nd, rfl⟩⟩; refine ⟨_, rfl, ?_⟩)
                  have g1 := (Kd.C_drew (Kd.C_drewN HD.out nd))
                  refine start_ (n := 13) (S := fun w' => w'.cell? (ad.add (i.toNat * 4)) = some (.slice A1 (rd_T38 l0 i).f0.length c1') ∧ Kd.C (Kd.int .u8) w' Ac y.length y) (ds := []) #[false, false, false, false, false, false, false, false, false, false, false, false, false] (by kernel_rfl) rfl rfl ⟨HX0.out, g1⟩ (fun hHeld => ?_)
                  have HCa2 := Aside0.mk (Kd.C_drew (Kd.C_drewN HCa.out nd))
                  have HX3b := Aside0.mk (show (wr.drewN nd).drew.cell? _ = _ from HX3.out)
                  have HX1b := Aside0.mk (show (wr.drewN nd).drew.cell? _ = _ from hx1)
                  have HX2b := Aside0.mk (show (wr.drewN nd).drew.cell? _ = _ from hx2)
                  clear hx1 hx2 hx0 hx3
                  have HI3b := Aside0.mk (Kd.C_drew (Kd.C_drewN HI3.out nd))
                  have HI1b := Aside0.mk (Kd.C_drew (Kd.C_drewN HI1.out nd))
                  have HB2 := Aside0.mk (below_drew (pw_below_drewN HB.out nd))
                  clear g1
                  generalize (wr.drewN nd).drew = w5 at HCa2 HX3b HX1b HX2b HI3b HI1b HB2 hHeld ⊢
                  refine pure_ (i := 0) (N := some 33) (v := ?_) (a' := ?_) #[true, false, false, false, false, false, false, false, false, false, false, false, false] rfl rfl (by kernel_rfl) (fun _ _ _ h => h) (Or.inl ⟨by rfl, ?_⟩) ?_ ?_
                  rotate_left
                  · intro w'
                    go_simp
                    with_reducible rfl
                  rotate_left
                  · simp only [Act.put, List.setIfInBounds_toArray, List.set_cons_zero, List.set_cons_succ, i64_w, i32_w]
                    rfl
                  refine pure_ (i := 1) (N := some 34) (v := ?_) (a' := ?_) #[true, true, false, false, false, false, false, false, false, false, false, false, false] rfl rfl (by kernel_rfl) (fun _ _ _ h => h) (Or.inl ⟨by rfl, ?_⟩) ?_ ?_
                  rotate_left
                  · intro w'
                    go_simp
                    with_reducible rfl
                  rotate_left
                  · simp only [Act.put, List.setIfInBounds_toArray, List.set_cons_zero, List.set_cons_succ, i64_w, i32_w]
                    rfl
                  refine pure_ (i := 3) (N := some 36) (v := ?_) (a' := ?_) #[true, true, false, true, false, false, false, false, false, false, false, false, false] rfl rfl (by kernel_rfl) (fun _ _ _ h => h) (Or.inl ⟨by rfl, ?_⟩) ?_ ?_
                  rotate_left
                  · intro w'
                    go_simp
                    with_reducible rfl
                  rotate_left
                  · simp only [Act.put, List.setIfInBounds_toArray, List.set_cons_zero, List.set_cons_succ, i64_w, i32_w]
                    rfl
                  refine pure_ (i := 4) (N := some 37) (v := ?_) (a' := ?_) #[true, true, false, true, true, false, false, false, false, false, false, false, false] rfl rfl (by kernel_rfl) (fun _ _ _ h => h) (Or.inl ⟨by rfl, ?_⟩) ?_ ?_
                  rotate_left
                  · intro w'
                    go_simp
                    with_reducible rfl
                  rotate_left
                  · simp only [Act.put, List.setIfInBounds_toArray, List.set_cons_zero, List.set_cons_succ, i64_w, i32_w]
                    rfl
                  refine pure_ (i := 5) (N := some 38) (v := ?_) (a' := ?_) #[true, true, false, true, true, true, false, false, false, false, false, false, false] rfl rfl (by kernel_rfl) (fun _ _ _ h => h) (Or.inl ⟨by rfl, ?_⟩) ?_ ?_
                  rotate_left
                  · intro w'
                    go_simp
                    with_reducible rfl
                  rotate_left
                  · simp only [Act.put, List.setIfInBounds_toArray, List.set_cons_zero, List.set_cons_succ, i64_w, i32_w]
                    rfl
                  refine pure_ (i := 6) (N := some 39) (v := ?_) (a' := ?_) #[true, true, false, true, true, true, true, false, false, false, false, false, false] rfl rfl (by kernel_rfl) (fun _ _ _ h => h) (Or.inl ⟨by rfl, ?_⟩) ?_ ?_
                  rotate_left
                  · intro w'
                    go_simp
                    with_reducible rfl
                  rotate_left
                  · simp only [Act.put, List.setIfInBounds_toArray, List.set_cons_zero, List.set_cons_succ, i64_w, i32_w]
                    rfl
                  refine take_ (i := 7) (N := some 40) (v := ?_) (a' := ?_) #[true, true, false, true, true, true, true, true, false, false, false, false, false] rfl rfl (by kernel_rfl) (fun _ _ _ h => h) (Or.inl ⟨by rfl, ?_⟩) hHeld ?_ ?_
                  rotate_left
                  · rintro w' ⟨s0, s1⟩
                    go_simp
                    with_reducible rfl
                  rotate_left
                  · simp only [Act.put, List.setIfInBounds_toArray, List.set_cons_zero, List.set_cons_succ, i64_w, i32_w]
                    rfl
                  refine pure_ (i := 8) (N := some 41) (v := ?_) (a' := ?_) #[true, true, false, true, true, true, true, true, true, false, false, false, false] rfl rfl (by kernel_rfl) (fun _ _ _ h => h) (Or.inl ⟨by rfl, ?_⟩) ?_ ?_
                  rotate_left
                  · intro w'
                    go_simp
                    with_reducible rfl
                  rotate_left
                  · simp only [Act.put, List.setIfInBounds_toArray, List.set_cons_zero, List.set_cons_succ, i64_w, i32_w]
                    rfl
                  refine pure_ (i := 9) (N := some 42) (v := ?_) (a' := ?_) #[true, true, false, true, true, true, true, true, true, true, false, false, false] rfl rfl (by kernel_rfl) (fun _ _ _ h => h) (Or.inl ⟨by rfl, ?_⟩) ?_ ?_
                  rotate_left
                  · intro w'
                    go_simp
                    with_reducible rfl
                  rotate_left
                  · simp only [Act.put, List.setIfInBounds_toArray, List.set_cons_zero, List.set_cons_succ, i64_w, i32_w]
                    rfl
                  refine take_ (i := 10) (N := some 43) (v := ?_) (a' := ?_) #[true, true, false, true, true, true, true, true, true, true, true, false, false] rfl rfl (by kernel_rfl) (fun _ _ _ h => h) (Or.inl ⟨by rfl, ?_⟩) hHeld ?_ ?_
                  rotate_left
                  · rintro w' ⟨s0, s1⟩
                    have hcv := Kd.C_string (P := Try.prog) (A := Ac) (c := cc) Try.underlying24 Try.underlying5 Try.underlying9 s1
                    go_simp
                    with_reducible rfl
                  rotate_left
                  · simp only [Act.put, List.setIfInBounds_toArray, List.set_cons_zero, List.set_cons_succ, i64_w, i32_w]
                    rfl
                  refine one_ (i := 2) (N := some 35) #[true, true, true, true, true, true, true, true, true, true, true, false, false] rfl rfl (by kernel_rfl) (by decide) (fun K hK => ?_)
                  refine goes_ Try.func24 (by kernel_rfl) rfl #[.slice Aa ac.length ca, .int .i64 n] (by rfl) rfl rfl (by (try simp only [List.map_toArray, List.map_cons, List.map_nil]); first | done | rfl) ?_
                  refine (sawyerref02_PutNum.calls k1 _ _ ac n a1 _ HCa2.out HLa.out ha1).mono ?_
                  rintro ex w6 ⟨v6, rfl, ho6, hb6⟩
                  refine ⟨_, rfl, ?_⟩
                  obtain ⟨A6, c6, rfl⟩ := Kd.R_slice ho6
                  have HO6 := Aside0.mk ho6; have HB6 := Aside0.mk hb6; clear ho6 hb6
                  refine hK.out _ _ ⟨pw_cell_below HB6.out hHeld.1, Kd.C_below hHeld.2 HB6.out⟩ (fun hHeld => ?_)
                  clear hK K
                  refine norm_ (a' := ?_) ?_ ?_
                  rotate_left
                  · show Act.put _ (some 35) _ = _
                    simp only [Act.put, List.setIfInBounds_toArray, List.set_cons_zero, List.set_cons_succ, i64_w, i32_w]
                    rfl
                  refine one_ (i := 11) (N := some 44) #[true, true, true, true, true, true, true, true, true, true, true, true, false] rfl rfl (by kernel_rfl) (by decide) (fun K hK => ?_)
                  refine goes_ Try.func26 (by kernel_rfl) rfl #[.slice A6 a1.length c6, .string (strOfNums y)] (by rfl) rfl rfl (by (try simp only [List.map_toArray, List.map_cons, List.map_nil]); first | done | rfl) ?_
                  refine (sawyerref02_PutText.calls k1 _ _ a1 (strOfNums y) a2 _ (Kd.R_reads' HO6.out).2.2 (Kd.R_reads' HO6.out).2.1 ha2).mono ?_
                  rintro ex w7 ⟨v7, rfl, ho7, hb7⟩
                  refine ⟨_, rfl, ?_⟩
                  obtain ⟨A7, c7, rfl⟩ := Kd.R_slice ho7
                  have HO7 := Aside0.mk ho7
                  have HB7 := Aside0.mk (below_step HB6.out hb7)
                  have hbx := Aside0.mk hb7; clear ho7 hb7
                  refine hK.out _ _ ⟨pw_cell_below hbx.out hHeld.1, Kd.C_below hHeld.2 hbx.out⟩ (fun hHeld => ?_)
                  clear hK K
                  refine norm_ (a' := ?_) ?_ ?_
                  rotate_left
                  · show Act.put _ (some 44) _ = _
                    simp only [Act.put, List.setIfInBounds_toArray, List.set_cons_zero, List.set_cons_succ, i64_w, i32_w]
                    rfl
                  refine pure_ (i := 12) (N := some 4) (v := ?_) (a' := ?_) #[true, true, true, true, true, true, true, true, true, true, true, true, true] rfl rfl (by kernel_rfl) (fun _ _ _ h => h) (Or.inl ⟨by rfl, ?_⟩) ?_ ?_
                  rotate_left
                  · intro w'
                    go_simp
                    with_reducible rfl
                  rotate_left
                  · simp only [Act.put, List.setIfInBounds_toArray, List.set_cons_zero, List.set_cons_succ, i64_w, i32_w]
                    rfl
                  refine done_ (by kernel_rfl) ?_
                  have hx1' : w7.cell? _ = _ := pw_cell_below HB7.out HX1b.out
                  have hx2' : w7.cell? _ = _ := pw_cell_below HB7.out HX2b.out
                  go_wp2
                  refine start_ (n := 11) (S := fun w' => w'.cell? ⟨(ad.add (i.toNat * 4)).block, (ad.add (i.toNat * 4)).off + 3, none⟩ = some (.slice A3 (rd_T38 l0 i).f3.length c3) ∧ Kd.C (Kd.int .u8) w' A3 (rd_T38 l0 i).f3.length (rd_T38 l0 i).f3) (ds := []) #[false, false, false, false, false, false, false, false, false, false, false] (by kernel_rfl) rfl rfl ⟨(pw_cell_below HB7.out HX3b.out :), Kd.C_drew (Kd.C_below HI3b.out HB7.out)⟩ (fun hHeld => ?_)
                  have HA7 := Aside0.mk (Kd.C_drew (Kd.R_reads' HO7.out).2.2)
                  have HLA7 := Aside0.mk (Kd.R_reads' HO7.out).2.1
                  have HK7 := Aside0.mk (Kd.C_drew (Kd.C_below HI1b.out HB7.out))
                  have HB8 := Aside0.mk (below_drew (below_step HB2.out HB7.out))
                  generalize w7.drew = w8 at HA7 HK7 HB8 hHeld ⊢
                  refine pure_ (i := 0) (N := some 58) (v := ?_) (a' := ?_) #[true, false, false, false, false, false, false, false, false, false, false] rfl rfl (by kernel_rfl) (fun _ _ _ h => h) (Or.inl ⟨by rfl, ?_⟩) ?_ ?_
                  rotate_left
                  · intro w'
                    go_simp
                    with_reducible rfl
                  rotate_left
                  · simp only [Act.put, List.setIfInBounds_toArray, List.set_cons_zero, List.set_cons_succ, i64_w, i32_w]
                    rfl
                  refine pure_ (i := 1) (N := some 59) (v := ?_) (a' := ?_) #[true, true, false, false, false, false, false, false, false, false, false] rfl rfl (by kernel_rfl) (fun _ _ _ h => h) (Or.inl ⟨by rfl, ?_⟩) ?_ ?_
                  rotate_left
                  · intro w'
                    go_simp
                    with_reducible rfl
                  rotate_left
                  · simp only [Act.put, List.setIfInBounds_toArray, List.set_cons_zero, List.set_cons_succ, i64_w, i32_w]
                    rfl
                  refine pure_ (i := 3) (N := some 61) (v := ?_) (a' := ?_) #[true, true, false, true, false, false, false, false, false, false, false] rfl rfl (by kernel_rfl) (fun _ _ _ h => h) (Or.inl ⟨by rfl, ?_⟩) ?_ ?_
                  rotate_left
                  · intro w'
                    go_simp
                    with_reducible rfl
                  rotate_left
                  · simp only [Act.put, List.setIfInBounds_toArray, List.set_cons_zero, List.set_cons_succ, i64_w, i32_w]
                    rfl
                  refine pure_ (i := 4) (N := some 62) (v := ?_) (a' := ?_) #[true, true, false, true, true, false, false, false, false, false, false] rfl rfl (by kernel_rfl) (fun _ _ _ h => h) (Or.inl ⟨by rfl, ?_⟩) ?_ ?_
                  rotate_left
                  · intro w'
                    go_simp
                    with_reducible rfl
                  rotate_left
                  · simp only [Act.put, List.setIfInBounds_toArray, List.set_cons_zero, List.set_cons_succ, i64_w, i32_w]
                    rfl
                  refine pure_ (i := 5) (N := some 63) (v := ?_) (a' := ?_) #[true, true, false, true, true, true, false, false, false, false, false] rfl rfl (by kernel_rfl) (fun _ _ _ h => h) (Or.inl ⟨by rfl, ?_⟩) ?_ ?_
                  rotate_left
                  · intro w'
                    go_simp
                    with_reducible rfl
                  rotate_left
                  · simp only [Act.put, List.setIfInBounds_toArray, List.set_cons_zero, List.set_cons_succ, i64_w, i32_w]
                    rfl
                  refine pure_ (i := 6) (N := some 64) (v := ?_) (a' := ?_) #[true, true, false, true, true, true, true, false, false, false, false] rfl rfl (by kernel_rfl) (fun _ _ _ h => h) (Or.inl ⟨by rfl, ?_⟩) ?_ ?_
                  rotate_left
                  · intro w'
                    go_simp
                    with_reducible rfl
                  rotate_left
                  · simp only [Act.put, List.setIfInBounds_toArray, List.set_cons_zero, List.set_cons_succ, i64_w, i32_w]
                    rfl
                  refine take_ (i := 7) (N := some 65) (v := ?_) (a' := ?_) #[true, true, false, true, true, true, true, true, false, false, false] rfl rfl (by kernel_rfl) (fun _ _ _ h => h) (Or.inl ⟨by rfl, ?_⟩) hHeld ?_ ?_
                  rotate_left
                  · rintro w' ⟨s0, s1⟩
                    go_simp
                    with_reducible rfl
                  rotate_left
                  · simp only [Act.put, List.setIfInBounds_toArray, List.set_cons_zero, List.set_cons_succ, i64_w, i32_w]
                    rfl
                  refine take_ (i := 8) (N := some 66) (v := ?_) (a' := ?_) #[true, true, false, true, true, true, true, true, true, false, false] rfl rfl (by kernel_rfl) (fun _ _ _ h => h) (Or.inl ⟨by rfl, ?_⟩) hHeld ?_ ?_
                  rotate_left
                  · rintro w' ⟨s0, s1⟩
                    have hcv := Kd.C_string (P := Try.prog) (A := A3) (c := c3) Try.underlying24 Try.underlying5 Try.underlying9 s1
                    go_simp
                    with_reducible rfl
                  rotate_left
                  · simp only [Act.put, List.setIfInBounds_toArray, List.set_cons_zero, List.set_cons_succ, i64_w, i32_w]
                    rfl
                  refine one_ (i := 2) (N := some 60) #[true, true, true, true, true, true, true, true, true, false, false] rfl rfl (by kernel_rfl) (by decide) (fun K hK => ?_)
                  refine goes_ Try.func24 (by kernel_rfl) rfl #[.slice A7 a2.length c7, .int .i64 (wrap64 (wrap64 (2 * (rd_T38 l0 i).f1) + 1))] (by rfl) rfl rfl (by (try simp only [List.map_toArray, List.map_cons, List.map_nil]); first | done | rfl) ?_
                  refine (sawyerref02_PutNum.calls k1 _ _ a2 _ a3 _ HA7.out HLA7.out ha3).mono ?_
                  rintro ex w9 ⟨v9, rfl, ho9, hb9⟩
                  refine ⟨_, rfl, ?_⟩
                  obtain ⟨A9, c9, rfl⟩ := Kd.R_slice ho9
                  have HO9 := Aside0.mk ho9; have HB9 := Aside0.mk hb9; clear ho9 hb9
                  refine hK.out _ _ ⟨pw_cell_below HB9.out hHeld.1, Kd.C_below hHeld.2 HB9.out⟩ (fun hHeld => ?_)
                  clear hK K
                  refine norm_ (a' := ?_) ?_ ?_
                  rotate_left
                  · show Act.put _ (some 60) _ = _
                    simp only [Act.put, List.setIfInBounds_toArray, List.set_cons_zero, List.set_cons_succ, i64_w, i32_w]
                    rfl
                  refine one_ (i := 9) (N := some 67) #[true, true, true, true, true, true, true, true, true, true, false] rfl rfl (by kernel_rfl) (by decide) (fun K hK => ?_)
                  refine goes_ Try.func26 (by kernel_rfl) rfl #[.slice A9 a3.length c9, .string (strOfNums (rd_T38 l0 i).f3)] (by rfl) rfl rfl (by (try simp only [List.map_toArray, List.map_cons, List.map_nil]); first | done | rfl) ?_
                  refine (sawyerref02_PutText.calls k1 _ _ a3 (strOfNums (rd_T38 l0 i).f3) a4 _ (Kd.R_reads' HO9.out).2.2 (Kd.R_reads' HO9.out).2.1 ha4).mono ?_
                  rintro ex w10 ⟨v10, rfl, ho10, hb10⟩
                  refine ⟨_, rfl, ?_⟩
                  obtain ⟨A10, c10, rfl⟩ := Kd.R_slice ho10
                  have HO10 := Aside0.mk ho10
                  have HB10 := Aside0.mk (below_step HB9.out hb10)
                  have hby := Aside0.mk hb10; clear ho10 hb10
                  refine hK.out _ _ ⟨pw_cell_below hby.out hHeld.1, Kd.C_below hHeld.2 hby.out⟩ (fun hHeld => ?_)
                  clear hK K
                  refine norm_ (a' := ?_) ?_ ?_
                  rotate_left
                  · show Act.put _ (some 67) _ = _
                    simp only [Act.put, List.setIfInBounds_toArray, List.set_cons_zero, List.set_cons_succ, i64_w, i32_w]
                    rfl
                  refine pure_ (i := 10) (N := some 4) (v := ?_) (a' := ?_) #[true, true, true, true, true, true, true, true, true, true, true] rfl rfl (by kernel_rfl) (fun _ _ _ h => h) (Or.inl ⟨by rfl, ?_⟩) ?_ ?_
                  rotate_left
                  · intro w'
                    go_simp
                    with_reducible rfl
                  rotate_left
                  · simp only [Act.put, List.setIfInBounds_toArray, List.set_cons_zero, List.set_cons_succ, i64_w, i32_w]
                    rfl
                  refine done_ (by kernel_rfl) ?_
                  go_wp2
                  go_roundg k1
                  case measure => omega
                  case rel => exact ⟨a4, (rd_T38 l0 i).f0, (wrap64 (i + 1)), A10, c10, A1, c1', rfl, rfl, rfl, H, ⟨Nat.le_of_succ_le HK1.out⟩, ⟨(Kd.R_reads' HO10.out).2.2⟩, ⟨(Kd.R_reads' HO10.out).2.1⟩, ⟨Kd.C_below HK7.out HB10.out⟩, HL1, ⟨below_step HB8.out HB10.out⟩⟩
                · rw [if_neg g] at H
                  have g := Bool.eq_false_iff.mpr g
                  rw [g] at hx2
                  clear g
                  replace H := Option.bind_eq_some_iff.mp H
                  obtain ⟨a3, ha3, H⟩ := H
                  replace H := Option.bind_eq_some_iff.mp H
                  obtain ⟨a4, ha4, H⟩ := H
                  have H := Aside0.mk H
                  go_wp2_with ((with_reducible refine gate_callee (f := 25) rfl ?_); refine goesL_ (some 27) rfl rfl Try.func25 (by kernel_rfl) rfl #[.slice Al la.length cl, .slice A1 (rd_T38 l0 i).f0.length c1'] rfl (by (try simp only [List.map_toArray, List.map_cons, List.map_nil]); first | done | rfl) ?_; refine (sawyerref08_shared.calls k1 _ _ la _ _ _ n _ HCl.out HLl.out HI1.out HL1.out hn).mono ?_; rintro ex w2 ⟨rfl, ⟨nd, rfl⟩⟩; refine ⟨_, rfl, ?_⟩)
                  have g1 := (Kd.C_drew (Kd.C_drewN HD.out nd))
                  refine start_ (n := 13) (S := fun w' => w'.cell? (ad.add (i.toNat * 4)) = some (.slice A1 (rd_T38 l0 i).f0.length c1') ∧ Kd.C (Kd.int .u8) w' Ac y.length y) (ds := []) #[false, false, false, false, false, false, false, false, false, false, false, false, false] (by kernel_rfl) rfl rfl ⟨HX0.out, g1⟩ (fun hHeld => ?_)
                  have HCa2 := Aside0.mk (Kd.C_drew (Kd.C_drewN HCa.out nd))
                  have HX3b := Aside0.mk (show (wr.drewN nd).drew.cell? _ = _ from HX3.out)
                  have HX1b := Aside0.mk (show (wr.drewN nd).drew.cell? _ = _ from hx1)
                  have HX2b := Aside0.mk (show (wr.drewN nd).drew.cell? _ = _ from hx2)
                  clear hx1 hx2 hx0 hx3
                  have HI3b := Aside0.mk (Kd.C_drew (Kd.C_drewN HI3.out nd))
                  have HI1b := Aside0.mk (Kd.C_drew (Kd.C_drewN HI1.out nd))
                  have HB2 := Aside0.mk (below_drew (pw_below_drewN HB.out nd))
                  clear g1
                  generalize (wr.drewN nd).drew = w5 at HCa2 HX3b HX1b HX2b HI3b HI1b HB2 hHeld ⊢
                  refine pure_ (i := 0) (N := some 33) (v := ?_) (a' := ?_) #[true, false, false, false, false, false, false, false, false, false, false, false, false] rfl rfl (by kernel_rfl) (fun _ _ _ h => h) (Or.inl ⟨by rfl, ?_⟩) ?_ ?_
                  rotate_left
                  · intro w'
                    go_simp
                    with_reducible rfl
                  rotate_left
                  · simp only [Act.put, List.setIfInBounds_toArray, List.set_cons_zero, List.set_cons_succ, i64_w, i32_w]
                    rfl
                  refine pure_ (i := 1) (N := some 34) (v := ?_) (a' := ?_) #[true, true, false, false, false, false, false, false, false, false, false, false, false] rfl rfl (by kernel_rfl) (fun _ _ _ h => h) (Or.inl ⟨by rfl, ?_⟩) ?_ ?_
                  rotate_left
                  · intro w'
                    go_simp
                    with_reducible rfl
                  rotate_left
                  · simp only [Act.put, List.setIfInBounds_toArray, List.set_cons_zero, List.set_cons_succ, i64_w, i32_w]
                    rfl
                  refine pure_ (i := 3) (N := some 36) (v := ?_) (a' := ?_) #[true, true, false, true, false, false, false, false, false, false, false, false, false] rfl rfl (by kernel_rfl) (fun _ _ _ h => h) (Or.inl ⟨by rfl, ?_⟩) ?_ ?_
                  rotate_left
                  · intro w'
                    go_simp
                    with_reducible rfl
                  rotate_left
                  · simp only [Act.put, List.setIfInBounds_toArray, List.set_cons_zero, List.set_cons_succ, i64_w, i32_w]
                    rfl
                  refine pure_ (i := 4) (N := some 37) (v := ?_) (a' := ?_) #[true, true, false, true, true, false, false, false, false, false, false, false, false] rfl rfl (by kernel_rfl) (fun _ _ _ h => h) (Or.inl ⟨by rfl, ?_⟩) ?_ ?_
                  rotate_left
                  · intro w'
                    go_simp
                    with_reducible rfl
                  rotate_left
                  · simp only [Act.put, List.setIfInBounds_toArray, List.set_cons_zero, List.set_cons_succ, i64_w, i32_w]
                    rfl
                  refine pure_ (i := 5) (N := some 38) (v := ?_) (a' := ?_) #[true, true, false, true, true, true, false, false, false, false, false, false, false] rfl rfl (by kernel_rfl) (fun _ _ _ h => h) (Or.inl ⟨by rfl, ?_⟩) ?_ ?_
                  rotate_left
                  · intro w'
                    go_simp
                    with_reducible rfl
                  rotate_left
                  · simp only [Act.put, List.setIfInBounds_toArray, List.set_cons_zero, List.set_cons_succ, i64_w, i32_w]
                    rfl
                  refine pure_ (i := 6) (N := some 39) (v := ?_) (a' := ?_) #[true, true, false, true, true, true, true, false, false, false, false, false, false] rfl rfl (by kernel_rfl) (fun _ _ _ h => h) (Or.inl ⟨by rfl, ?_⟩) ?_ ?_
                  rotate_left
                  · intro w'
                    go_simp
                    with_reducible rfl
                  rotate_left
                  · simp only [Act.put, List.setIfInBounds_toArray, List.set_cons_zero, List.set_cons_succ, i64_w, i32_w]
                    rfl
                  refine take_ (i := 7) (N := some 40) (v := ?_) (a' := ?_) #[true, true, false, true, true, true, true, true, false, false, false, false, false] rfl rfl (by kernel_rfl) (fun _ _ _ h => h) (Or.inl ⟨by rfl, ?_⟩) hHeld ?_ ?_
                  rotate_left
                  · rintro w' ⟨s0, s1⟩
                    go_simp
                    with_reducible rfl
                  rotate_left
                  · simp only [Act.put, List.setIfInBounds_toArray, List.set_cons_zero, List.set_cons_succ, i64_w, i32_w]
                    rfl
                  refine pure_ (i := 8) (N := some 41) (v := ?_) (a' := ?_) #[true, true, false, true, true, true, true, true, true, false, false, false, false] rfl rfl (by kernel_rfl) (fun _ _ _ h => h) (Or.inl ⟨by rfl, ?_⟩) ?_ ?_
                  rotate_left
                  · intro w'
                    go_simp
                    with_reducible rfl
                  rotate_left
                  · simp only [Act.put, List.setIfInBounds_toArray, List.set_cons_zero, List.set_cons_succ, i64_w, i32_w]
                    rfl
                  refine pure_ (i := 9) (N := some 42) (v := ?_) (a' := ?_) #[true, true, false, true, true, true, true, true, true, true, false, false, false] rfl rfl (by kernel_rfl) (fun _ _ _ h => h) (Or.inl ⟨by rfl, ?_⟩) ?_ ?_
                  rotate_left
                  · intro w'
                    go_simp
                    with_reducible rfl
                  rotate_left
                  · simp only [Act.put, List.setIfInBounds_toArray, List.set_cons_zero, List.set_cons_succ, i64_w, i32_w]
                    rfl
                  refine take_ (i := 10) (N := some 43) (v := ?_) (a' := ?_) #[true, true, false, true, true, true, true, true, true, true, true, false, false] rfl rfl (by kernel_rfl) (fun _ _ _ h => h) (Or.inl ⟨by rfl, ?_⟩) hHeld ?_ ?_
                  rotate_left
                  · rintro w' ⟨s0, s1⟩
                    have hcv := Kd.C_string (P := Try.prog) (A := Ac) (c := cc) Try.underlying24 Try.underlying5 Try.underlying9 s1
                    go_simp
                    with_reducible rfl
                  rotate_left
                  · simp only [Act.put, List.setIfInBounds_toArray, List.set_cons_zero, List.set_cons_succ, i64_w, i32_w]
                    rfl
                  refine one_ (i := 2) (N := some 35) #[true, true, true, true, true, true, true, true, true, true, true, false, false] rfl rfl (by kernel_rfl) (by decide) (fun K hK => ?_)
                  refine goes_ Try.func24 (by kernel_rfl) rfl #[.slice Aa ac.length ca, .int .i64 n] (by rfl) rfl rfl (by (try simp only [List.map_toArray, List.map_cons, List.map_nil]); first | done | rfl) ?_
                  refine (sawyerref02_PutNum.calls k1 _ _ ac n a1 _ HCa2.out HLa.out ha1).mono ?_
                  rintro ex w6 ⟨v6, rfl, ho6, hb6⟩
                  refine ⟨_, rfl, ?_⟩
                  obtain ⟨A6, c6, rfl⟩ := Kd.R_slice ho6
                  have HO6 := Aside0.mk ho6; have HB6 := Aside0.mk hb6; clear ho6 hb6
                  refine hK.out _ _ ⟨pw_cell_below HB6.out hHeld.1, Kd.C_below hHeld.2 HB6.out⟩ (fun hHeld => ?_)
                  clear hK K
                  refine norm_ (a' := ?_) ?_ ?_
                  rotate_left
                  · show Act.put _ (some 35) _ = _
                    simp only [Act.put, List.setIfInBounds_toArray, List.set_cons_zero, List.set_cons_succ, i64_w, i32_w]
                    rfl
                  refine one_ (i := 11) (N := some 44) #[true, true, true, true, true, true, true, true, true, true, true, true, false] rfl rfl (by kernel_rfl) (by decide) (fun K hK => ?_)
                  refine goes_ Try.func26 (by kernel_rfl) rfl #[.slice A6 a1.length c6, .string (strOfNums y)] (by rfl) rfl rfl (by (try simp only [List.map_toArray, List.map_cons, List.map_nil]); first | done | rfl) ?_
                  refine (sawyerref02_PutText.calls k1 _ _ a1 (strOfNums y) a2 _ (Kd.R_reads' HO6.out).2.2 (Kd.R_reads' HO6.out).2.1 ha2).mono ?_
                  rintro ex w7 ⟨v7, rfl, ho7, hb7⟩
                  refine ⟨_, rfl, ?_⟩
                  obtain ⟨A7, c7, rfl⟩ := Kd.R_slice ho7
                  have HO7 := Aside0.mk ho7
                  have HB7 := Aside0.mk (below_step HB6.out hb7)
                  have hbx := Aside0.mk hb7; clear ho7 hb7
                  refine hK.out _ _ ⟨pw_cell_below hbx.out hHeld.1, Kd.C_below hHeld.2 hbx.out⟩ (fun hHeld => ?_)
                  clear hK K
                  refine norm_ (a' := ?_) ?_ ?_
                  rotate_left
                  · show Act.put _ (some 44) _ = _
                    simp only [Act.put, List.setIfInBounds_toArray, List.set_cons_zero, List.set_cons_succ, i64_w, i32_w]
                    rfl
                  refine pure_ (i := 12) (N := some 4) (v := ?_) (a' := ?_) #[true, true, true, true, true, true, true, true, true, true, true, true, true] rfl rfl (by kernel_rfl) (fun _ _ _ h => h) (Or.inl ⟨by rfl, ?_⟩) ?_ ?_
                  rotate_left
                  · intro w'
                    go_simp
                    with_reducible rfl
                  rotate_left
                  · simp only [Act.put, List.setIfInBounds_toArray, List.set_cons_zero, List.set_cons_succ, i64_w, i32_w]
                    rfl
                  refine done_ (by kernel_rfl) ?_
                  have hx1' : w7.cell? _ = _ := pw_cell_below HB7.out HX1b.out
                  have hx2' : w7.cell? _ = _ := pw_cell_below HB7.out HX2b.out
                  go_wp2
                  refine start_ (n := 11) (S := fun w' => w'.cell? ⟨(ad.add (i.toNat * 4)).block, (ad.add (i.toNat * 4)).off + 3, none⟩ = some (.slice A3 (rd_T38 l0 i).f3.length c3) ∧ Kd.C (Kd.int .u8) w' A3 (rd_T38 l0 i).f3.length (rd_T38 l0 i).f3) (ds := []) #[false, false, false, false, false, false, false, false, false, false, false] (by kernel_rfl) rfl rfl ⟨(pw_cell_below HB7.out HX3b.out :), Kd.C_drew (Kd.C_below HI3b.out HB7.out)⟩ (fun hHeld => ?_)
                  have HA7 := Aside0.mk (Kd.C_drew (Kd.R_reads' HO7.out).2.2)
                  have HLA7 := Aside0.mk (Kd.R_reads' HO7.out).2.1
                  have HK7 := Aside0.mk (Kd.C_drew (Kd.C_below HI1b.out HB7.out))
                  have HB8 := Aside0.mk (below_drew (below_step HB2.out HB7.out))
                  generalize w7.drew = w8 at HA7 HK7 HB8 hHeld ⊢
                  refine pure_ (i := 0) (N := some 58) (v := ?_) (a' := ?_) #[true, false, false, false, false, false, false, false, false, false, false] rfl rfl (by kernel_rfl) (fun _ _ _ h => h) (Or.inl ⟨by rfl, ?_⟩) ?_ ?_
                  rotate_left
                  · intro w'
                    go_simp
                    with_reducible rfl
                  rotate_left
                  · simp only [Act.put, List.setIfInBounds_toArray, List.set_cons_zero, List.set_cons_succ, i64_w, i32_w]
                    rfl
                  refine pure_ (i := 1) (N := some 59) (v := ?_) (a' := ?_) #[true, true, false, false, false, false, false, false, false, false, false] rfl rfl (by kernel_rfl) (fun _ _ _ h => h) (Or.inl ⟨by rfl, ?_⟩) ?_ ?_
                  rotate_left
                  · intro w'
                    go_simp
                    with_reducible rfl
                  rotate_left
                  · simp only [Act.put, List.setIfInBounds_toArray, List.set_cons_zero, List.set_cons_succ, i64_w, i32_w]
                    rfl
                  refine pure_ (i := 3) (N := some 61) (v := ?_) (a' := ?_) #[true, true, false, true, false, false, false, false, false, false, false] rfl rfl (by kernel_rfl) (fun _ _ _ h => h) (Or.inl ⟨by rfl, ?_⟩) ?_ ?_
                  rotate_left
                  · intro w'
                    go_simp
                    with_reducible rfl
                  rotate_left
                  · simp only [Act.put, List.setIfInBounds_toArray, List.set_cons_zero, List.set_cons_succ, i64_w, i32_w]
                    rfl
                  refine pure_ (i := 4) (N := some 62) (v := ?_) (a' := ?_) #[true, true, false, true, true, false, false, false, false, false, false] rfl rfl (by kernel_rfl) (fun _ _ _ h => h) (Or.inl ⟨by rfl, ?_⟩) ?_ ?_
                  rotate_left
                  · intro w'
                    go_simp
                    with_reducible rfl
                  rotate_left
                  · simp only [Act.put, List.setIfInBounds_toArray, List.set_cons_zero, List.set_cons_succ, i64_w, i32_w]
                    rfl
                  refine pure_ (i := 5) (N := some 63) (v := ?_) (a' := ?_) #[true, true, false, true, true, true, false, false, false, false, false] rfl rfl (by kernel_rfl) (fun _ _ _ h => h) (Or.inl ⟨by rfl, ?_⟩) ?_ ?_
                  rotate_left
                  · intro w'
                    go_simp
                    with_reducible rfl
                  rotate_left
                  · simp only [Act.put, List.setIfInBounds_toArray, List.set_cons_zero, List.set_cons_succ, i64_w, i32_w]
                    rfl
                  refine pure_ (i := 6) (N := some 64) (v := ?_) (a' := ?_) #[true, true, false, true, true, true, true, false, false, false, false] rfl rfl (by kernel_rfl) (fun _ _ _ h => h) (Or.inl ⟨by rfl, ?_⟩) ?_ ?_
                  rotate_left
                  · intro w'
                    go_simp
                    with_reducible rfl
                  rotate_left
                  · simp only [Act.put, List.setIfInBounds_toArray, List.set_cons_zero, List.set_cons_succ, i64_w, i32_w]
                    rfl
                  refine take_ (i := 7) (N := some 65) (v := ?_) (a' := ?_) #[true, true, false, true, true, true, true, true, false, false, false] rfl rfl (by kernel_rfl) (fun _ _ _ h => h) (Or.inl ⟨by rfl, ?_⟩) hHeld ?_ ?_
                  rotate_left
                  · rintro w' ⟨s0, s1⟩
                    go_simp
                    with_reducible rfl
                  rotate_left
                  · simp only [Act.put, List.setIfInBounds_toArray, List.set_cons_zero, List.set_cons_succ, i64_w, i32_w]
                    rfl
                  refine take_ (i := 8) (N := some 66) (v := ?_) (a' := ?_) #[true, true, false, true, true, true, true, true, true, false, false] rfl rfl (by kernel_rfl) (fun _ _ _ h => h) (Or.inl ⟨by rfl, ?_⟩) hHeld ?_ ?_
                  rotate_left
                  · rintro w' ⟨s0, s1⟩
                    have hcv := Kd.C_string (P := Try.prog) (A := A3) (c := c3) Try.underlying24 Try.underlying5 Try.underlying9 s1
                    go_simp
                    with_reducible rfl
                  rotate_left
                  · simp only [Act.put, List.setIfInBounds_toArray, List.set_cons_zero, List.set_cons_succ, i64_w, i32_w]
                    rfl
                  refine one_ (i := 2) (N := some 60) #[true, true, true, true, true, true, true, true, true, false, false] rfl rfl (by kernel_rfl) (by decide) (fun K hK => ?_)
                  refine goes_ Try.func24 (by kernel_rfl) rfl #[.slice A7 a2.length c7, .int .i64 (wrap64 (2 * (rd_T38 l0 i).f1))] (by rfl) rfl rfl (by (try simp only [List.map_toArray, List.map_cons, List.map_nil]); first | done | rfl) ?_
                  refine (sawyerref02_PutNum.calls k1 _ _ a2 _ a3 _ HA7.out HLA7.out ha3).mono ?_
                  rintro ex w9 ⟨v9, rfl, ho9, hb9⟩
                  refine ⟨_, rfl, ?_⟩
                  obtain ⟨A9, c9, rfl⟩ := Kd.R_slice ho9
                  have HO9 := Aside0.mk ho9; have HB9 := Aside0.mk hb9; clear ho9 hb9
                  refine hK.out _ _ ⟨pw_cell_below HB9.out hHeld.1, Kd.C_below hHeld.2 HB9.out⟩ (fun hHeld => ?_)
                  clear hK K
                  refine norm_ (a' := ?_) ?_ ?_
                  rotate_left
                  · show Act.put _ (some 60) _ = _
                    simp only [Act.put, List.setIfInBounds_toArray, List.set_cons_zero, List.set_cons_succ, i64_w, i32_w]
                    rfl
                  refine one_ (i := 9) (N := some 67) #[true, true, true, true, true, true, true, true, true, true, false] rfl rfl (by kernel_rfl) (by decide) (fun K hK => ?_)
                  refine goes_ Try.func26 (by kernel_rfl) rfl #[.slice A9 a3.length c9, .string (strOfNums (rd_T38 l0 i).f3)] (by rfl) rfl rfl (by (try simp only [List.map_toArray, List.map_cons, List.map_nil]); first | done | rfl) ?_
                  refine (sawyerref02_PutText.calls k1 _ _ a3 (strOfNums (rd_T38 l0 i).f3) a4 _ (Kd.R_reads' HO9.out).2.2 (Kd.R_reads' HO9.out).2.1 ha4).mono ?_
                  rintro ex w10 ⟨v10, rfl, ho10, hb10⟩
                  refine ⟨_, rfl, ?_⟩
                  obtain ⟨A10, c10, rfl⟩ := Kd.R_slice ho10
                  have HO10 := Aside0.mk ho10
                  have HB10 := Aside0.mk (below_step HB9.out hb10)
                  have hby := Aside0.mk hb10; clear ho10 hb10
                  refine hK.out _ _ ⟨pw_cell_below hby.out hHeld.1, Kd.C_below hHeld.2 hby.out⟩ (fun hHeld => ?_)
                  clear hK K
                  refine norm_ (a' := ?_) ?_ ?_
                  rotate_left
                  · show Act.put _ (some 67) _ = _
                    simp only [Act.put, List.setIfInBounds_toArray, List.set_cons_zero, List.set_cons_succ, i64_w, i32_w]
                    rfl
                  refine pure_ (i := 10) (N := some 4) (v := ?_) (a' := ?_) #[true, true, true, true, true, true, true, true, true, true, true] rfl rfl (by kernel_rfl) (fun _ _ _ h => h) (Or.inl ⟨by rfl, ?_⟩) ?_ ?_
                  rotate_left
                  · intro w'
                    go_simp
                    with_reducible rfl
                  rotate_left
                  · simp only [Act.put, List.setIfInBounds_toArray, List.set_cons_zero, List.set_cons_succ, i64_w, i32_w]
                    rfl
                  refine done_ (by kernel_rfl) ?_
                  go_wp2
                  go_roundg k1
                  case measure => omega
                  case rel => exact ⟨a4, (rd_T38 l0 i).f0, (wrap64 (i + 1)), A10, c10, A1, c1', rfl, rfl, rfl, H, ⟨Nat.le_of_succ_le HK1.out⟩, ⟨(Kd.R_reads' HO10.out).2.2⟩, ⟨(Kd.R_reads' HO10.out).2.1⟩, ⟨Kd.C_below HK7.out HB10.out⟩, HL1, ⟨below_step HB8.out HB10.out⟩⟩
              · rw [if_neg n1] at H
                cases H
            · rw [if_neg n0] at H
              cases H
          · rw [if_neg c2] at H
            cases H
        · rw [if_neg c1] at H
          have c1b : decide (i < (l0.length : Int)) = false := decide_eq_false c1
          replace H := Option.bind_eq_some_iff.mp H
          obtain ⟨o, ho, H⟩ := H
          simp only [Option.some.injEq, Prod.mk.injEq] at H
          obtain ⟨rfl, rfl⟩ := H
          go_wp2_with ((with_reducible refine gate_callee (f := 27) rfl ?_); refine goesL_ (some 69) rfl rfl Try.func27 (by kernel_rfl) rfl #[.slice Aa ac.length ca] rfl (by (try simp only [List.map_toArray, List.map_cons, List.map_nil]); first | done | rfl) ?_; refine (sawyerref08_Summed.calls k1 _ _ ac o _ HCa.out HLa.out ho).mono ?_; rintro ex w2 ⟨v2, rfl, hv2, hB2⟩; refine ⟨_, rfl, ?_⟩; have hv2 := Aside0.mk hv2; have hB2 := Aside0.mk hB2)
          go_ret2
          exact ⟨_, rfl, Kd.R_lower (Kd.R_mono hv2.out (fun _ _ => trivial)) HB.out.size, below_step HB.out hB2.out⟩
  · rw [if_neg ct] at H
    have ct1 : (t == 0) = false := by simp [ct]
    have ct2 : (t != 0) = true := by simp [ct]
    clear ct
    simp only [Option.some.injEq, Prod.mk.injEq] at H
    obtain ⟨rfl, rfl⟩ := H
    go_enter Try.func10, Try.ntmps10
    go_wp2_with ((with_reducible refine gate_callee (f := 13) rfl ?_); refine goesL_ (some 10) rfl rfl Try.func13 (by kernel_rfl) rfl #[.slice A0 l0.length c0] rfl (by (try simp only [List.map_toArray, List.map_cons, List.map_nil]); first | done | rfl) ?_; refine (sawyerref08_Check.calls k _ _ l0 t _ HR0.out HC0.out ht).mono ?_; rintro ex w1 ⟨rfl, hB1⟩; refine ⟨_, rfl, ?_⟩; have hB1 := Aside0.mk hB1)
    go_ret2
    exact ⟨.slice none 0 0, rfl, Kd.R_nil _ _ _ _ _, hB1.out⟩


end Go.Proofs.Ytkebeiillddboaa.Px
