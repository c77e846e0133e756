/- The law MergeKeeps as a contract of its function. Conditions: those of each theorem. -/
import Derived.Test.YtobjkjmmkbhecaaCore
import Derived.Test.YtobjkjmmkbhecaaHaw
import Derived.Test.YtobjkjmmkbhecaaME
import Derived.Test.YtobjkjmmkbhecaaHkp
import Derived.Test.YtobjkjmmkbhecaaHkq
import Derived.Test.YtobjkjmmkbhecaaHla
import Derived.Test.YtobjkjmmkbhecaaHlr
import Derived.Test.YtobjkjmmkbhecaaHmo
import Derived.Test.YtobjkjmmkbhecaaHod
import Derived.Test.YtobjkjmmkbhecaaHpl
import Derived.Test.YtobjkjmmkbhecaaHpr
import Derived.Test.YtobjkjmmkbhecaaHrw
import Derived.Test.YtobjkjmmkbhecaaHvi
import Derived.Test.YtobjkjmmkbhecaaPx0
import Derived.Test.YtobjkjmmkbhecaaHlt
import Derived.Test.YtobjkjmmkbhecaaHps
import Derived.Test.YtobjkjmmkbhecaaHsp
import Derived.Test.YtobjkjmmkbhecaaHso
namespace Go.Proofs.Ytobjkjmmkbhecaa.Sk
open Go.RowKit Go.Proofs.YtobjkjmmkbhecaaW.PrintWords Go.Proofs.YtobjkjmmkbhecaaW.PrintLast Go.Proofs.YtobjkjmmkbhecaaW.PrintMore Go.Proofs.Ytobjkjmmkbhecaa.Px Go.Proofs.Ytobjkjmmkbhecaa.Sw
set_option linter.unusedVariables false
set_option linter.unusedSimpArgs false

theorem int_at {w : World} {A : Option Addr} {n : Nat} {l : List Int} (h : Kd.C (Kd.int .i64) w A n l) {i : Nat} {x : Int} (hi : l[i]? = some x) (hn : l.length = n) : ∃ ad, A = some ad ∧ w.cell? (ad.add i) = some (.int .i64 x) := by
 have hil := (List.getElem?_eq_some_iff.1 hi).1
 obtain ⟨ad, c, e, hl, hK, hc⟩ := Kd.C_get h (0 : Int) (i : Int) (by omega) (by omega)
 rw [Int.toNat_natCast, List.getD_eq_getElem?_getD, hi] at hK
 obtain rfl : c = [.int .i64 x] := hK
 have h2 := hc 0 _ rfl
 rw [Int.toNat_natCast] at h2
 have hsz : (Kd.int .i64).sz = 1 := rfl
 rw [hsz, Nat.mul_one, Nat.add_zero] at h2
 exact ⟨ad, e, h2⟩
set_option maxHeartbeats 40000000 in
set_option maxRecDepth 100000 in
theorem keeps_calls {w : World} {A : Option Addr} {c : Nat} {xs : List S36} (hC : Kd.C k36 w A xs.length xs) (hlc : xs.length ≤ c) (hE : ∀ e ∈ xs, EB e) (hln : xs.length ≤ 4000000000000) {B : Option Addr} {d : Nat} {pins : List Int} (hP : Kd.C (Kd.int .i64) w B pins.length pins) (hpc : pins.length ≤ d) (bottom : Bool) :
  Calls Try.prog 6 #[.slice A xs.length c, .slice B pins.length d, .bool bottom] w fun ex w' => ex = .returned (.bool true) ∧ Below w.heap.size w w' := by
 have HC := Aside0.mk hC
 have HLC := Aside0.mk hlc
 have HE := Aside0.mk hE
 have HLN := Aside0.mk hln
 have HP := Aside0.mk hP
 have HPC := Aside0.mk hpc
 obtain ⟨ob, hob⟩ : ∃ ob, ob = rowOk none xs := ⟨_, rfl⟩
 have HOB := Aside0.mk hob
 clear hC hlc hE hln hob hP hpc
 cases ob with
 | false =>
  as_aux_lemma =>
  go_enter Try.func6, Try.ntmps6
  go_wp2_with (first
   | ((with_reducible refine gate_dst (N := 14) rfl ?_); (try (refine gate_guard (by rfl) ?_; dsimp only)); refine goesL_ (some 14) rfl rfl Try.func11 (by kernel_rfl) rfl #[] rfl (by (try simp only [List.map_toArray, List.map_cons, List.map_nil]); first | done | rfl) ?_; refine (awake_calls w).mono ?_; rintro ex w1 ⟨rfl, hb1⟩; refine ⟨_, rfl, ?_⟩; have n_ := Aside0.mk hb1; clear hb1; have hb1 := n_; clear n_)
   | ((with_reducible refine gate_dst (N := 16) rfl ?_); (try (refine gate_guard (by rfl) ?_; dsimp only)); refine goesL_ (some 16) rfl rfl Try.func21 (by kernel_rfl) rfl #[.slice A xs.length c] rfl (by (try simp only [List.map_toArray, List.map_cons, List.map_nil]); first | done | rfl) ?_; refine (ordered_calls (Kd.C_below HC.out hb1.out) HLC.out (fun e he => (HE.out e he).1) HLN.out).mono ?_; rintro ex w2 ⟨rfl, hb2⟩; refine ⟨_, rfl, ?_⟩; rw [← HOB.out]; have n_ := Aside0.mk hb2; clear hb2; have hb2 := n_; clear n_))
  go_ret
  exact ⟨rfl, below_step hb1.out hb2.out⟩
 | true =>
 by_cases hl : xs.length ≤ 300
 case neg =>
  as_aux_lemma =>
  have hd : ((300 : Int) < (xs.length : Int)) = True := eq_true (by omega)
  go_enter Try.func6, Try.ntmps6
  go_wp2_with (first
   | ((with_reducible refine gate_dst (N := 14) rfl ?_); (try (refine gate_guard (by rfl) ?_; dsimp only)); refine goesL_ (some 14) rfl rfl Try.func11 (by kernel_rfl) rfl #[] rfl (by (try simp only [List.map_toArray, List.map_cons, List.map_nil]); first | done | rfl) ?_; refine (awake_calls w).mono ?_; rintro ex w1 ⟨rfl, hb1⟩; refine ⟨_, rfl, ?_⟩; have n_ := Aside0.mk hb1; clear hb1; have hb1 := n_; clear n_)
   | ((with_reducible refine gate_dst (N := 16) rfl ?_); (try (refine gate_guard (by rfl) ?_; dsimp only)); refine goesL_ (some 16) rfl rfl Try.func21 (by kernel_rfl) rfl #[.slice A xs.length c] rfl (by (try simp only [List.map_toArray, List.map_cons, List.map_nil]); first | done | rfl) ?_; refine (ordered_calls (Kd.C_below HC.out hb1.out) HLC.out (fun e he => (HE.out e he).1) HLN.out).mono ?_; rintro ex w2 ⟨rfl, hb2⟩; refine ⟨_, rfl, ?_⟩; rw [← HOB.out]; have n_ := Aside0.mk hb2; clear hb2; have hb2 := n_; clear n_))
  go_ret
  exact ⟨rfl, below_step hb1.out hb2.out⟩
 have hd : ((300 : Int) < (xs.length : Int)) = False := eq_false (by omega)
 by_cases hpn : pins.length ≤ 30
 case neg =>
  as_aux_lemma =>
  have hd3 : ((30 : Int) < (pins.length : Int)) = True := eq_true (by omega)
  go_enter Try.func6, Try.ntmps6
  go_wp2_with (first
   | ((with_reducible refine gate_dst (N := 14) rfl ?_); (try (refine gate_guard (by rfl) ?_; dsimp only)); refine goesL_ (some 14) rfl rfl Try.func11 (by kernel_rfl) rfl #[] rfl (by (try simp only [List.map_toArray, List.map_cons, List.map_nil]); first | done | rfl) ?_; refine (awake_calls w).mono ?_; rintro ex w1 ⟨rfl, hb1⟩; refine ⟨_, rfl, ?_⟩; have n_ := Aside0.mk hb1; clear hb1; have hb1 := n_; clear n_)
   | ((with_reducible refine gate_dst (N := 16) rfl ?_); (try (refine gate_guard (by rfl) ?_; dsimp only)); refine goesL_ (some 16) rfl rfl Try.func21 (by kernel_rfl) rfl #[.slice A xs.length c] rfl (by (try simp only [List.map_toArray, List.map_cons, List.map_nil]); first | done | rfl) ?_; refine (ordered_calls (Kd.C_below HC.out hb1.out) HLC.out (fun e he => (HE.out e he).1) HLN.out).mono ?_; rintro ex w2 ⟨rfl, hb2⟩; refine ⟨_, rfl, ?_⟩; rw [← HOB.out]; have n_ := Aside0.mk hb2; clear hb2; have hb2 := n_; clear n_))
  go_ret
  exact ⟨rfl, below_step hb1.out hb2.out⟩
 as_aux_lemma =>
 have hd3 : ((30 : Int) < (pins.length : Int)) = False := eq_false (by omega)
 have HPN := Aside0.mk hpn
 have hro := rowOk_str (fun e he => HE.out e he) (fun q hq => by cases hq) HOB.out.symm
 have HSTR := Aside0.mk hro.1
 have HCK := Aside0.mk hro.2.1
 have HGD := Aside0.mk (show goodL xs = true from good_of HE.out hro.2.1 (by omega))
 have HL9 := Aside0.mk (show xs.length ≤ 300 from hl)
 obtain ⟨M, hM⟩ : ∃ M, M = pruM pins bottom xs := ⟨_, rfl⟩
 have hsub := pruM_sub pins bottom xs
 rw [← hM] at hsub
 have HSUB := Aside0.mk hsub.1
 have HMN := Aside0.mk (Nat.le_trans hsub.2 hl)
 have HGM := Aside0.mk (show goodL M = true by rw [hM]; exact pruM_good HGD.out pins bottom)
 have HEM := Aside0.mk (fun e he => HE.out e (HSUB.out e he))
 have HOM := Aside0.mk (show rowOk none M = true by rw [hM]; exact prune_row HE.out HOB.out.symm)
 have HVM := Aside0.mk (show ∀ p, (p ∈ pins ∨ ∀ e ∈ xs, e.f1 ≤ p) → visM p M = visM p xs from fun p hp => by rw [hM]; exact prune_vis HE.out hro.1 hp)
 have HVX := Aside0.mk (HVM.out 1099511627776 (.inr (fun e he => (ckE_iff.1 (hro.2.1 e he)).2.2.2.1)))
 have HPA := Aside0.mk (show pruM pins bottom M = M by rw [hM]; exact prune_again HE.out hro.1)
 have HM := Aside0.mk hM
 clear hM hsub hro hl hpn
 go_enter Try.func6, Try.ntmps6
 go_wp2_with (first
  | ((with_reducible refine gate_dst (N := 14) rfl ?_); (try (refine gate_guard (by rfl) ?_; dsimp only)); refine goesL_ (some 14) rfl rfl Try.func11 (by kernel_rfl) rfl #[] rfl (by (try simp only [List.map_toArray, List.map_cons, List.map_nil]); first | done | rfl) ?_; refine (awake_calls w).mono ?_; rintro ex w1 ⟨rfl, hb1⟩; refine ⟨_, rfl, ?_⟩; have n_ := Aside0.mk hb1; clear hb1; have hb1 := n_; clear n_)
  | ((with_reducible refine gate_dst (N := 16) rfl ?_); (try (refine gate_guard (by rfl) ?_; dsimp only)); refine goesL_ (some 16) rfl rfl Try.func21 (by kernel_rfl) rfl #[.slice A xs.length c] rfl (by (try simp only [List.map_toArray, List.map_cons, List.map_nil]); first | done | rfl) ?_; refine (ordered_calls (Kd.C_below HC.out hb1.out) HLC.out (fun e he => (HE.out e he).1) HLN.out).mono ?_; rintro ex w2 ⟨rfl, hb2⟩; refine ⟨_, rfl, ?_⟩; rw [← HOB.out]; have n_ := Aside0.mk hb2; clear hb2; have hb2 := n_; clear n_)
  | ((with_reducible refine gate_dst (N := 32) rfl ?_); (try (refine gate_guard (by rfl) ?_; dsimp only)); refine goesL_ (some 32) rfl rfl Try.func17 (by kernel_rfl) rfl #[.slice A xs.length c, .slice B pins.length d, .bool bottom] rfl (by (try simp only [List.map_toArray, List.map_cons, List.map_nil]); first | done | rfl) ?_; refine (prune_calls (Kd.C_F k36_heap (Kd.C_below (Kd.C_below HC.out hb1.out) hb2.out)) HLC.out HGD.out (Kd.C_below (Kd.C_below HP.out hb1.out) hb2.out) HPC.out (by have h := HPN.out; omega) bottom).mono ?_; rintro ex w3 ⟨v_, rfl, hv_, hb_⟩; refine ⟨_, rfl, ?_⟩; rw [← HM.out] at hv_; obtain ⟨Ak, ck, rfl, l_, f_⟩ := hv_; have LK := Aside0.mk (l_); have CK := Aside0.mk (Kd.F_now f_); have Bw3 := Aside0.mk (hb_); clear l_ f_ hb_))
 go_loopg [9] pins.length (fun kq v9 w' => ∃ i : Nat, v9 = .int .i64 (i : Int) ∧ Aside0 (kq + i = pins.length) ∧ Aside0 (Below w3.heap.size w3 w'))
 case atStart => exact ⟨0, rfl, ⟨rfl⟩, ⟨Below.refl _ _⟩⟩
 case round =>
  obtain ⟨i, rfl, HK, HB⟩ := hrel
  cases gk with
  | zero =>
   as_aux_lemma =>
   have hlt : ((i : Int) < (pins.length : Int)) = False := eq_false (by have h := HK.out; omega)
   go_wp2
   clear hlt
   have HXO := Aside0.mk (Kd.C_below (Kd.C_below (Kd.C_below (Kd.C_below HC.out hb1.out) hb2.out) Bw3.out) HB.out)
   have HKO := Aside0.mk (Kd.C_below CK.out HB.out)
   have HPO := Aside0.mk (Kd.C_below (Kd.C_below (Kd.C_below (Kd.C_below HP.out hb1.out) hb2.out) Bw3.out) HB.out)
   have HB0 := Aside0.mk (below_step (below_step (below_step hb1.out hb2.out) Bw3.out) HB.out)
   clear HB HC HP CK
   generalize wr = wo at HXO HKO HPO HB0 ⊢
   go_loopg [10] M.length (fun kq v10 w' => ∃ k : Nat, v10 = .int .i64 (k : Int) ∧ Aside0 (kq + k = M.length) ∧ Aside0 (Below wo.heap.size wo w'))
   case atStart => exact ⟨0, rfl, ⟨rfl⟩, ⟨Below.refl _ _⟩⟩
   case round =>
    obtain ⟨k, rfl, Hk36, HBO⟩ := hrel
    cases gk with
    | zero =>
     as_aux_lemma =>
     have hlt2 : ((k : Int) < (M.length : Int)) = False := eq_false (by have h := Hk36.out; omega)
     have hvs := visM_sub 1099511627776 xs
     have HGV := Aside0.mk (show ∀ e ∈ visM 1099511627776 xs, GE e from fun e he => ⟨(HE.out e (hvs.1 e he)).1, (HE.out e (hvs.1 e he)).2.1⟩)
     have HVN := Aside0.mk (Nat.le_trans hvs.2 HL9.out)
     clear hvs
     go_wp2_with (first
      | ((with_reducible refine gate_dst (N := 88) rfl ?_); (try (refine gate_guard (by rfl) ?_; dsimp only)); refine goesL_ (some 88) rfl rfl Try.func21 (by kernel_rfl) rfl #[.slice Ak M.length ck] rfl (by (try simp only [List.map_toArray, List.map_cons, List.map_nil]); first | done | rfl) ?_; refine (ordered_calls (Kd.C_below HKO.out HBO.out) LK.out (fun e he => (HEM.out e he).1) (by have h := HMN.out; omega)).mono ?_; rintro ex w11 ⟨rfl, hb_⟩; refine ⟨_, rfl, ?_⟩; rw [HOM.out]; have B11 := Aside0.mk (hb_); clear hb_)
      | ((with_reducible refine gate_dst (N := 93) rfl ?_); (try (refine gate_guard (by rfl) ?_; dsimp only)); refine goesL_ (some 93) rfl rfl Try.func15 (by kernel_rfl) rfl #[.slice Ak M.length ck, .int .i64 1099511627776] rfl (by (try simp only [List.map_toArray, List.map_cons, List.map_nil]); first | done | rfl) ?_; refine (visible_calls (Kd.C_F k36_heap (Kd.C_below (Kd.C_below HKO.out HBO.out) B11.out)) LK.out HGM.out 1099511627776).mono ?_; rintro ex w12 ⟨v_, rfl, hv_, hb_⟩; refine ⟨_, rfl, ?_⟩; rw [HVX.out] at hv_; obtain ⟨Av, cv, rfl, l_, f_⟩ := hv_; have LV := Aside0.mk (l_); have CV := Aside0.mk (Kd.F_now f_); have B12 := Aside0.mk (hb_); clear l_ f_ hb_)
      | ((with_reducible refine gate_dst (N := 96) rfl ?_); (try (refine gate_guard (by rfl) ?_; dsimp only)); refine goesL_ (some 96) rfl rfl Try.func15 (by kernel_rfl) rfl #[.slice A xs.length c, .int .i64 1099511627776] rfl (by (try simp only [List.map_toArray, List.map_cons, List.map_nil]); first | done | rfl) ?_; refine (visible_calls (Kd.C_F k36_heap (Kd.C_below (Kd.C_below (Kd.C_below HXO.out HBO.out) B11.out) B12.out)) HLC.out HGD.out 1099511627776).mono ?_; rintro ex w13 ⟨v_, rfl, hv_, hb_⟩; refine ⟨_, rfl, ?_⟩; obtain ⟨Au, cu, rfl, l_, f_⟩ := hv_; have LU := Aside0.mk (l_); have CU := Aside0.mk (Kd.F_now f_); have B13 := Aside0.mk (hb_); clear l_ f_ hb_)
      | ((with_reducible refine gate_dst (N := 97) rfl ?_); (try (refine gate_guard (by rfl) ?_; dsimp only)); refine goesL_ (some 97) rfl rfl Try.func12 (by kernel_rfl) rfl #[.slice Av (visM 1099511627776 xs).length cv, .slice Au (visM 1099511627776 xs).length cu] rfl (by (try simp only [List.map_toArray, List.map_cons, List.map_nil]); first | done | rfl) ?_; refine (same_calls (Kd.C_below CV.out B13.out) LV.out CU.out LU.out HGV.out (by have h := HVN.out; omega)).mono ?_; rintro ex w14 ⟨rfl, hb_⟩; refine ⟨_, rfl, ?_⟩; have B14 := Aside0.mk (hb_); clear hb_)
      | ((with_reducible refine gate_dst (N := 103) rfl ?_); (try (refine gate_guard (by rfl) ?_; dsimp only)); refine goesL_ (some 103) rfl rfl Try.func17 (by kernel_rfl) rfl #[.slice Ak M.length ck, .slice B pins.length d, .bool bottom] rfl (by (try simp only [List.map_toArray, List.map_cons, List.map_nil]); first | done | rfl) ?_; refine (prune_calls (Kd.C_F k36_heap (Kd.C_below (Kd.C_below (Kd.C_below (Kd.C_below (Kd.C_below HKO.out HBO.out) B11.out) B12.out) B13.out) B14.out)) LK.out HGM.out (Kd.C_below (Kd.C_below (Kd.C_below (Kd.C_below (Kd.C_below HPO.out HBO.out) B11.out) B12.out) B13.out) B14.out) HPC.out (by have h := HPN.out; omega) bottom).mono ?_; rintro ex w15 ⟨v_, rfl, hv_, hb_⟩; refine ⟨_, rfl, ?_⟩; rw [HPA.out] at hv_; obtain ⟨Aq, cq, rfl, l_, f_⟩ := hv_; have B15 := Aside0.mk (hb_); clear l_ f_ hb_))
     go_ret
     exact ⟨rfl, below_step (below_step (below_step (below_step (below_step (below_step HB0.out HBO.out) B11.out) B12.out) B13.out) B14.out) B15.out⟩
    | succ k2 =>
     as_aux_lemma =>
     have hkl : k < M.length := by have h := Hk36.out; omega
     have hlt2 : ((k : Int) < (M.length : Int)) = True := eq_true (by omega)
     have HWI := Aside0.mk (wadd1 (x := k) (z := k + 1) rfl (by have h := HMN.out; omega))
     obtain ⟨z, hz⟩ : ∃ z, M[k]? = some z := ⟨_, List.getElem?_eq_getElem hkl⟩
     obtain ⟨bk, M0, m0, M3, m3, ea, hz0, hz1, hz2, hz3, hKz⟩ := at_CE (Kd.C_below HKO.out HBO.out) k z hz
     subst ea
     have HKZ := Aside0.mk hKz
     have HZM := Aside0.mk (List.mem_of_getElem? hz)
     have HZB := Aside0.mk (HEM.out z HZM.out)
     have HVE := Aside0.mk (ver_str HE.out HSTR.out (HSUB.out z HZM.out))
     have HXW := Aside0.mk (Kd.C_below HXO.out HBO.out)
     have HZ0 := Aside0.mk hz0
     have HZ1 := Aside0.mk hz1
     have HZ2 := Aside0.mk hz2
     have HZ3 := Aside0.mk hz3
     clear hz hkl hKz hz2 hz3
     go_upto_region 13 with (fail)
     refine s_ 18 [16] (fun w' => w'.cell? (bk.add (k * 4)) = some (.slice M0 z.f0.length m0) ∧ w'.cell? ⟨(bk.add (k * 4)).block, (bk.add (k * 4)).off + 1, none⟩ = some (.int .i64 z.f1)) (hS := ⟨hz0, hz1⟩) (h := fun hHeld => ?_)
     have HDW := Aside0.mk (show Below wr.heap.size wr wr.drew from below_drew (Below.refl _ _))
     clear hz0 hz1
     generalize wr.drew = w5 at hHeld HDW ⊢
     refine p_ 0 60 (bb 18 1) (h := ?_)
     refine p_ 1 61 (bb 18 3) (h := ?_)
     refine p_ 2 62 (bb 18 7) (h := ?_)
     refine p_ 3 63 (bb 18 15) (h := ?_)
     refine p_ 4 64 (bb 18 31) (h := ?_)
     refine t_ 5 65 (bb 18 63) hHeld (h := ?_)
     refine p_ 6 66 (bb 18 127) (h := ?_)
     refine p_ 7 67 (bb 18 255) (h := ?_)
     refine p_ 8 68 (bb 18 511) (h := ?_)
     refine p_ 9 69 (bb 18 1023) (h := ?_)
     refine t_ 10 70 (bb 18 2047) hHeld (h := ?_)
     refine join_ (σ := Option Addr × Nat × Option Addr × Nat × Nat) 2 (bb 18 65535) (fun s => [(71, .tuple #[.agg #[.slice s.1 z.f0.length s.2.1, .int .i64 z.f1, .bool z.f2, .slice s.2.2.1 z.f3.length s.2.2.2.1], .bool true]), (59, .tuple #[.agg #[.slice s.1 z.f0.length s.2.1, .int .i64 z.f1, .bool z.f2, .slice s.2.2.1 z.f3.length s.2.2.2.1], .bool true]), (72, .agg #[.slice s.1 z.f0.length s.2.1, .int .i64 z.f1, .bool z.f2, .slice s.2.2.1 z.f3.length s.2.2.2.1]), (73, .bool true), (11, .pointer (some ⟨s.2.2.2.2, 0, none⟩))]) (fun (s : Option Addr × Nat × Option Addr × Nat × Nat) (w' : World) => (z.f0.length ≤ s.2.1 ∧ Kd.F (Kd.int .u8) w' (fun k => k ≠ s.2.2.2.2) s.1 z.f0.length z.f0 ∧ z.f3.length ≤ s.2.2.2.1 ∧ Kd.F (Kd.int .u8) w' (fun k => k ≠ s.2.2.2.2) s.2.2.1 z.f3.length z.f3) ∧ w'.heap[s.2.2.2.2]? = some (.cells #[.slice none 0 0, .int .i64 0, .bool false, .slice none 0 0] 36 (0, 0)) ∧ w5.heap.size ≤ s.2.2.2.2 ∧ Below w5.heap.size w5 w') ?_ (fun hcont => ?_)
     rotate_left
     ·
      refine two_ (i := 11) (j := 15) (Ni := some 71) (Nj := some 11) (bb 18 4095) (bb 18 34815) rfl rfl rfl rfl (by kernel_rfl) (by decide) (by decide) (fun K hK => ?_) (fun K hK => ?_)
      ·
       refine goes_ Try.func22 (by kernel_rfl) rfl #[.slice A xs.length c, .slice M0 z.f0.length m0, .int .i64 z.f1] (by rfl) rfl rfl (by (try simp only [List.map_toArray, List.map_cons, List.map_nil]); first | done | rfl) ?_
       refine (verF_calls z.f1 (Kd.C_below HXW.out (below_step HDW.out (Below.refl _ _))) HLC.out (Kd.C_below HKZ.out.2.1 (below_step HDW.out (Below.refl _ _))) HKZ.out.1 HZB.out.1 HGD.out HVE.out).mono ?_
       rintro ex wc ⟨P0, p0, P3, p3, rfl, hl0, hl3, hF0, hF3, hbc⟩
       refine ⟨_, rfl, ?_⟩
       have hl0 := Aside0.mk hl0
       have hF0 := Aside0.mk hF0
       have hl3 := Aside0.mk hl3
       have hF3 := Aside0.mk hF3
       have hbc := Aside0.mk hbc
       refine hK.out _ _ ⟨pw_cell_below (hbc.out) hHeld.1, pw_cell_below (hbc.out) hHeld.2⟩ (fun hHeld => ?_)
       clear hK K
       refine m_ 71 (h := ?_)
       refine p_ 12 59 (bb 18 8191) (h := ?_)
       refine p_ 13 72 (bb 18 16383) (h := ?_)
       refine p_ 14 73 (bb 18 32767) (h := ?_)
       refine n_ 15 11 (bb 18 65535) (h := fun K hK => ?_)
       refine alloc_step (N := 11) (cs := #[.slice none 0 0, .int .i64 0, .bool false, .slice none 0 0]) (t := 36) (by rfl) rfl ?hr ?_
       case hr => first | (go_simp; done) | (go_simp; rfl)
       intro ga hqa wa hxa hba
       have hqa := Aside0.mk hqa
       have hxa := Aside0.mk hxa
       have hba := Aside0.mk hba
       refine hK.out _ _ ⟨pw_cell_below (hba.out) hHeld.1, pw_cell_below (hba.out) hHeld.2⟩ (fun hHeld => ?_)
       clear hK K
       refine m_ 11 (h := ?_)
       refine norm_ ?_ (hcont (P0, p0, P3, p3, ga) _ ⟨⟨hl0.out, Kd.F_mono (Kd.F_below (Kd.F_bound hF0.out) hba.out) (fun k hk => by have := hqa.out; have := hk.2; show k ≠ ga; omega), hl3.out, Kd.F_mono (Kd.F_below (Kd.F_bound hF3.out) hba.out) (fun k hk => by have := hqa.out; have := hk.2; show k ≠ ga; omega)⟩, hxa.out, by have := hqa.out; have := hbc.out.size; show _ ≤ ga; omega, below_step hbc.out hba.out⟩)
       show _ = Go.Proofs.YtobjkjmmkbhecaaW.PrintLast.putAll _ [(71, .tuple #[.agg #[.slice P0 z.f0.length p0, .int .i64 z.f1, .bool z.f2, .slice P3 z.f3.length p3], .bool true]), (59, .tuple #[.agg #[.slice P0 z.f0.length p0, .int .i64 z.f1, .bool z.f2, .slice P3 z.f3.length p3], .bool true]), (72, .agg #[.slice P0 z.f0.length p0, .int .i64 z.f1, .bool z.f2, .slice P3 z.f3.length p3]), (73, .bool true), (11, .pointer (some ⟨ga, 0, none⟩))]
       simp only [Go.Proofs.YtobjkjmmkbhecaaW.PrintLast.putAll, Act.put, List.setIfInBounds_toArray, List.set_cons_zero, List.set_cons_succ]

      ·
       refine alloc_step (N := 11) (cs := #[.slice none 0 0, .int .i64 0, .bool false, .slice none 0 0]) (t := 36) (by rfl) rfl ?hr ?_
       case hr => first | (go_simp; done) | (go_simp; rfl)
       intro ga hqa wa hxa hba
       have hqa := Aside0.mk hqa
       have hxa := Aside0.mk hxa
       have hba := Aside0.mk hba
       refine hK.out _ _ ⟨pw_cell_below (hba.out) hHeld.1, pw_cell_below (hba.out) hHeld.2⟩ (fun hHeld => ?_)
       clear hK K
       refine m_ 11 (h := ?_)
       refine n_ 11 71 (bb 18 36863) (h := fun K hK => ?_)
       refine goes_ Try.func22 (by kernel_rfl) rfl #[.slice A xs.length c, .slice M0 z.f0.length m0, .int .i64 z.f1] (by rfl) rfl rfl (by (try simp only [List.map_toArray, List.map_cons, List.map_nil]); first | done | rfl) ?_
       refine (verF_calls z.f1 (Kd.C_below HXW.out (below_step HDW.out hba.out)) HLC.out (Kd.C_below HKZ.out.2.1 (below_step HDW.out hba.out)) HKZ.out.1 HZB.out.1 HGD.out HVE.out).mono ?_
       rintro ex wc ⟨P0, p0, P3, p3, rfl, hl0, hl3, hF0, hF3, hbc⟩
       refine ⟨_, rfl, ?_⟩
       have hl0 := Aside0.mk hl0
       have hF0 := Aside0.mk hF0
       have hl3 := Aside0.mk hl3
       have hF3 := Aside0.mk hF3
       have hbc := Aside0.mk hbc
       refine hK.out _ _ ⟨pw_cell_below (hbc.out) hHeld.1, pw_cell_below (hbc.out) hHeld.2⟩ (fun hHeld => ?_)
       clear hK K
       refine m_ 71 (h := ?_)
       refine p_ 12 59 (bb 18 40959) (h := ?_)
       refine p_ 13 72 (bb 18 49151) (h := ?_)
       refine p_ 14 73 (bb 18 65535) (h := ?_)
       refine norm_ ?_ (hcont (P0, p0, P3, p3, ga) _ ⟨⟨hl0.out, Kd.F_mono hF0.out (fun k hk => by have := blk_lt hxa.out; have h2 : wa.heap.size ≤ k := hk; show k ≠ ga; omega), hl3.out, Kd.F_mono hF3.out (fun k hk => by have := blk_lt hxa.out; have h2 : wa.heap.size ≤ k := hk; show k ≠ ga; omega)⟩, blk_below hxa.out hbc.out, by have := hqa.out; show _ ≤ ga; omega, below_step hba.out hbc.out⟩)
       show _ = Go.Proofs.YtobjkjmmkbhecaaW.PrintLast.putAll _ [(71, .tuple #[.agg #[.slice P0 z.f0.length p0, .int .i64 z.f1, .bool z.f2, .slice P3 z.f3.length p3], .bool true]), (59, .tuple #[.agg #[.slice P0 z.f0.length p0, .int .i64 z.f1, .bool z.f2, .slice P3 z.f3.length p3], .bool true]), (72, .agg #[.slice P0 z.f0.length p0, .int .i64 z.f1, .bool z.f2, .slice P3 z.f3.length p3]), (73, .bool true), (11, .pointer (some ⟨ga, 0, none⟩))]
       simp only [Go.Proofs.YtobjkjmmkbhecaaW.PrintLast.putAll, Act.put, List.setIfInBounds_toArray, List.set_cons_zero, List.set_cons_succ]

     rintro ⟨P0, p0, P3, p3, ga⟩ wc ⟨⟨hl0, hF0, hl3, hF3⟩, hxa, hga, hbc⟩
     have HL0 := Aside0.mk (show z.f0.length ≤ p0 from hl0)
     have HF0 := Aside0.mk (show Kd.F (Kd.int .u8) wc (fun k => k ≠ ga) P0 z.f0.length z.f0 from hF0)
     have HL3 := Aside0.mk (show z.f3.length ≤ p3 from hl3)
     have HF3 := Aside0.mk (show Kd.F (Kd.int .u8) wc (fun k => k ≠ ga) P3 z.f3.length z.f3 from hF3)
     have HXA := Aside0.mk (show wc.heap[ga]? = _ from hxa)
     have HGA := Aside0.mk (show w5.heap.size ≤ ga from hga)
     have HBC := Aside0.mk hbc
     clear hl0 hF0 hl3 hF3 hxa hga hbc
     have hHeld := Aside0.mk (show (wc.cell? (bk.add (k * 4)) = some (.slice M0 z.f0.length m0) ∧ wc.cell? ⟨(bk.add (k * 4)).block, (bk.add (k * 4)).off + 1, none⟩ = some (.int .i64 z.f1)) ∧ True from ⟨⟨pw_cell_below (HBC.out) hHeld.1, pw_cell_below (HBC.out) hHeld.2⟩, trivial⟩)
     replace hHeld := hHeld.out.1
     refine norm_ (a' := ?_) ?_ ?_
     rotate_left
     ·
      show Go.Proofs.YtobjkjmmkbhecaaW.PrintLast.putAll _ [(71, .tuple #[.agg #[.slice P0 z.f0.length p0, .int .i64 z.f1, .bool z.f2, .slice P3 z.f3.length p3], .bool true]), (59, .tuple #[.agg #[.slice P0 z.f0.length p0, .int .i64 z.f1, .bool z.f2, .slice P3 z.f3.length p3], .bool true]), (72, .agg #[.slice P0 z.f0.length p0, .int .i64 z.f1, .bool z.f2, .slice P3 z.f3.length p3]), (73, .bool true), (11, .pointer (some ⟨ga, 0, none⟩))] = _
      simp only [Go.Proofs.YtobjkjmmkbhecaaW.PrintLast.putAll, Act.put, List.setIfInBounds_toArray, List.set_cons_zero, List.set_cons_succ]
      rfl
     have hcy0 : wc.cell? ⟨ga, 0, none⟩ = some (.slice none 0 0) := (blk_cell HXA.out 0).trans rfl
     have hcy1 : wc.cell? ⟨ga, 1, none⟩ = some (.int .i64 0) := (blk_cell HXA.out 1).trans rfl
     have hcy2 : wc.cell? ⟨ga, 2, none⟩ = some (.bool false) := (blk_cell HXA.out 2).trans rfl
     have hcy3 : wc.cell? ⟨ga, 3, none⟩ = some (.slice none 0 0) := (blk_cell HXA.out 3).trans rfl
     have hfy0 : wc.frozen? ⟨ga, 0, none⟩ = false := blk_frozen HXA.out 0
     have hfy1 : wc.frozen? ⟨ga, 1, none⟩ = false := blk_frozen HXA.out 1
     have hfy2 : wc.frozen? ⟨ga, 2, none⟩ = false := blk_frozen HXA.out 2
     have hfy3 : wc.frozen? ⟨ga, 3, none⟩ = false := blk_frozen HXA.out 3
     refine l_ 16 (bb 18 131071) (h := ?_)
     clear hcy0 hcy1 hcy2 hcy3 hfy0 hfy1 hfy2 hfy3 hHeld
     have X6 := Aside0.mk (set_four (a := .slice P0 z.f0.length p0) (b := .int .i64 z.f1) (c := .bool z.f2) (d := .slice P3 z.f3.length p3) HXA.out)
     have B6 := Aside0.mk (show Below w5.heap.size w5 ((((wc.setCell ⟨ga, 0, none⟩ (.slice P0 z.f0.length p0)).setCell ⟨ga, 1, none⟩ (.int .i64 z.f1)).setCell ⟨ga, 2, none⟩ (.bool z.f2)).setCell ⟨ga, 3, none⟩ (.slice P3 z.f3.length p3)) from below_set (below_set (below_set (below_set HBC.out HGA.out) HGA.out) HGA.out) HGA.out)
     have HH0 := Aside0.mk (f_far4 HF0.out (fun k hk => hk) (.slice P0 z.f0.length p0) (.int .i64 z.f1) (.bool z.f2) (.slice P3 z.f3.length p3))
     have HH3 := Aside0.mk (f_far4 HF3.out (fun k hk => hk) (.slice P0 z.f0.length p0) (.int .i64 z.f1) (.bool z.f2) (.slice P3 z.f3.length p3))
     generalize ((((wc.setCell ⟨ga, 0, none⟩ (.slice P0 z.f0.length p0)).setCell ⟨ga, 1, none⟩ (.int .i64 z.f1)).setCell ⟨ga, 2, none⟩ (.bool z.f2)).setCell ⟨ga, 3, none⟩ (.slice P3 z.f3.length p3)) = w6 at X6 B6 HH0 HH3 ⊢
     clear HF0 HF3 HXA HGA HBC
     refine p_ 17 12 (bb 18 262143) (h := ?_)
     refine d_ (h := ?_)
     clear hHeld
     go_upto_region 14 with (fail)
     have X6d := Aside0.mk (blk_drew X6.out)
     have B7 := Aside0.mk (below_drew (below_step HDW.out B6.out))
     refine s_ 11 [] (fun w' => w'.cell? ⟨ga, 0, none⟩ = some (.slice P0 z.f0.length p0) ∧ w'.cell? ⟨ga, 1, none⟩ = some (.int .i64 z.f1) ∧ w'.cell? ⟨ga, 2, none⟩ = some (.bool z.f2) ∧ w'.cell? ⟨ga, 3, none⟩ = some (.slice P3 z.f3.length p3) ∧ w'.cell? (bk.add (k * 4)) = some (.slice M0 z.f0.length m0) ∧ w'.cell? ⟨(bk.add (k * 4)).block, (bk.add (k * 4)).off + 1, none⟩ = some (.int .i64 z.f1) ∧ w'.cell? ⟨(bk.add (k * 4)).block, (bk.add (k * 4)).off + 2, none⟩ = some (.bool z.f2) ∧ w'.cell? ⟨(bk.add (k * 4)).block, (bk.add (k * 4)).off + 3, none⟩ = some (.slice M3 z.f3.length m3)) (hS := ⟨(blk_cell X6d.out 0).trans rfl, (blk_cell X6d.out 1).trans rfl, (blk_cell X6d.out 2).trans rfl, (blk_cell X6d.out 3).trans rfl, pw_cell_below B7.out HZ0.out, pw_cell_below B7.out HZ1.out, pw_cell_below B7.out HZ2.out, pw_cell_below B7.out HZ3.out⟩) (h := fun hHeld => ?_)
     refine p_ 0 74 (bb 11 1) (h := ?_)
     refine p_ 1 75 (bb 11 3) (h := ?_)
     refine p_ 2 76 (bb 11 7) (h := ?_)
     refine t_ 3 77 (bb 11 15) hHeld (h := ?_)
     refine p_ 4 78 (bb 11 31) (h := ?_)
     refine p_ 5 79 (bb 11 63) (h := ?_)
     refine p_ 6 80 (bb 11 127) (h := ?_)
     refine t_ 7 81 (bb 11 255) hHeld (h := ?_)
     refine n_ 8 82 (bb 11 511) (h := fun K hK => ?_)
     refine goes_ Try.func23 (by kernel_rfl) rfl #[.agg #[.slice P0 z.f0.length p0, .int .i64 z.f1, .bool z.f2, .slice P3 z.f3.length p3], .agg #[.slice M0 z.f0.length m0, .int .i64 z.f1, .bool z.f2, .slice M3 z.f3.length m3]] (by rfl) rfl rfl (by (try simp only [List.map_toArray, List.map_cons, List.map_nil]); first | done | rfl) ?_
     refine (sameOne_calls (Kd.C_drew (Kd.F_now HH0.out)) HL0.out (Kd.C_drew (Kd.F_now HH3.out)) HL3.out (Kd.C_below HKZ.out.2.1 B7.out) HKZ.out.1 (Kd.C_below HKZ.out.2.2.2 B7.out) HKZ.out.2.2.1 ⟨HZB.out.1, HZB.out.2.1⟩).mono ?_
     rintro ex w8 ⟨rfl, hb8⟩
     refine ⟨_, rfl, ?_⟩
     have hb8 := Aside0.mk hb8
     refine hK.out _ _ ⟨pw_cell_below hb8.out hHeld.1, pw_cell_below hb8.out hHeld.2.1, pw_cell_below hb8.out hHeld.2.2.1, pw_cell_below hb8.out hHeld.2.2.2.1, pw_cell_below hb8.out hHeld.2.2.2.2.1, pw_cell_below hb8.out hHeld.2.2.2.2.2.1, pw_cell_below hb8.out hHeld.2.2.2.2.2.2.1, pw_cell_below hb8.out hHeld.2.2.2.2.2.2.2⟩ (fun hHeld => ?_)
     clear hK K
     refine m_ 82 (h := ?_)
     refine p_ 9 83 (bb 11 1023) (h := ?_)
     refine p_ 10 84 (bb 11 2047) (h := ?_)
     refine d_ (h := ?_)
     clear hHeld
     go_wp2
     go_roundg k2
     case measure => exact Nat.lt_succ_self _
     case rel => exact ⟨k + 1, by first | rfl | rw [HWI.out], ⟨by have h := Hk36.out; omega⟩, ⟨below_step (below_step HBO.out B7.out) hb8.out⟩⟩
  | succ k1 =>
   as_aux_lemma =>
   have hil : i < pins.length := by have h := HK.out; omega
   have hlt : ((i : Int) < (pins.length : Int)) = True := eq_true (by omega)
   have HWK := Aside0.mk (wadd1 (x := i) (z := i + 1) rfl (by have h := HPN.out; omega))
   obtain ⟨p, hp⟩ : ∃ p, pins[i]? = some p := ⟨_, List.getElem?_eq_getElem hil⟩
   obtain ⟨pd, ea, hpc⟩ := int_at (Kd.C_below (Kd.C_below (Kd.C_below (Kd.C_below HP.out hb1.out) hb2.out) Bw3.out) HB.out) hp rfl
   subst ea
   have HVE := Aside0.mk (HVM.out p (.inl (List.mem_of_getElem? hp)))
   have hvs := visM_sub p xs
   have HGV := Aside0.mk (show ∀ e ∈ visM p xs, GE e from fun e he => ⟨(HE.out e (hvs.1 e he)).1, (HE.out e (hvs.1 e he)).2.1⟩)
   have HVN := Aside0.mk (Nat.le_trans hvs.2 HL9.out)
   clear hvs hp hil
   go_upto_region 8 with (fail)
   refine s_ 14 [] (fun w' => w'.cell? (pd.add i) = some (.int .i64 p)) (hS := (hpc)) (h := fun hHeld => ?_)
   have HDW := Aside0.mk (show Below wr.heap.size wr wr.drew from below_drew (Below.refl _ _))
   clear hpc
   generalize wr.drew = w5 at hHeld HDW ⊢
   refine p_ 0 39 (bb 14 1) (h := ?_)
   refine p_ 1 40 (bb 14 3) (h := ?_)
   refine p_ 2 41 (bb 14 7) (h := ?_)
   refine p_ 3 42 (bb 14 15) (h := ?_)
   refine t_ 4 43 (bb 14 31) hHeld (h := ?_)
   refine p_ 6 45 (bb 14 95) (h := ?_)
   refine p_ 7 46 (bb 14 223) (h := ?_)
   refine p_ 8 47 (bb 14 479) (h := ?_)
   refine p_ 9 48 (bb 14 991) (h := ?_)
   refine t_ 10 49 (bb 14 2015) hHeld (h := ?_)
   refine n_ 5 44 (bb 14 2047) (h := fun K hK => ?_)
   refine goes_ Try.func15 (by kernel_rfl) rfl #[.slice Ak M.length ck, .int .i64 p] (by rfl) rfl rfl (by (try simp only [List.map_toArray, List.map_cons, List.map_nil]); first | done | rfl) ?_
   refine (visible_calls (Kd.C_F k36_heap (Kd.C_below (Kd.C_below CK.out HB.out) HDW.out)) LK.out HGM.out p).mono ?_
   rintro ex w6 ⟨v_, rfl, hv_, hb_⟩
   refine ⟨_, rfl, ?_⟩
   rw [HVE.out] at hv_
   obtain ⟨Av, cv, rfl, l_, f_⟩ := hv_
   have LV := Aside0.mk l_
   have CV := Aside0.mk (Kd.F_now f_)
   have B6 := Aside0.mk hb_
   clear l_ f_ hb_
   refine hK.out _ _ (pw_cell_below B6.out hHeld) (fun hHeld => ?_)
   clear hK K
   refine m_ 44 (h := ?_)
   refine n_ 11 50 (bb 14 4095) (h := fun K hK => ?_)
   refine goes_ Try.func15 (by kernel_rfl) rfl #[.slice A xs.length c, .int .i64 p] (by rfl) rfl rfl (by (try simp only [List.map_toArray, List.map_cons, List.map_nil]); first | done | rfl) ?_
   refine (visible_calls (Kd.C_F k36_heap (Kd.C_below (Kd.C_below (Kd.C_below (Kd.C_below (Kd.C_below (Kd.C_below HC.out hb1.out) hb2.out) Bw3.out) HB.out) HDW.out) B6.out)) HLC.out HGD.out p).mono ?_
   rintro ex w7 ⟨v_, rfl, hv_, hb_⟩
   refine ⟨_, rfl, ?_⟩
   skip
   obtain ⟨Au, cu, rfl, l_, f_⟩ := hv_
   have LU := Aside0.mk l_
   have CU := Aside0.mk (Kd.F_now f_)
   have B7 := Aside0.mk hb_
   clear l_ f_ hb_
   refine hK.out _ _ (pw_cell_below B7.out hHeld) (fun hHeld => ?_)
   clear hK K
   refine m_ 50 (h := ?_)
   refine n_ 12 51 (bb 14 8191) (h := fun K hK => ?_)
   refine goes_ Try.func12 (by kernel_rfl) rfl #[.slice Av (visM p xs).length cv, .slice Au (visM p xs).length cu] (by rfl) rfl rfl (by (try simp only [List.map_toArray, List.map_cons, List.map_nil]); first | done | rfl) ?_
   refine (same_calls (Kd.C_below CV.out B7.out) LV.out CU.out LU.out HGV.out (by have h := HVN.out; omega)).mono ?_
   rintro ex w8 ⟨rfl, hb_⟩
   refine ⟨_, rfl, ?_⟩
   have B8 := Aside0.mk hb_
   clear hb_
   refine hK.out _ _ (pw_cell_below B8.out hHeld) (fun hHeld => ?_)
   clear hK K
   refine m_ 51 (h := ?_)
   refine p_ 13 52 (bb 14 16383) (h := ?_)
   refine d_ (h := ?_)
   clear hHeld
   go_wp2
   go_roundg k1
   case measure => exact Nat.lt_succ_self _
   case rel => exact ⟨i + 1, by first | rfl | rw [HWK.out], ⟨by have h := HK.out; omega⟩, ⟨below_step (below_step (below_step (below_step HB.out HDW.out) B6.out) B7.out) B8.out⟩⟩
end Go.Proofs.Ytobjkjmmkbhecaa.Sk
