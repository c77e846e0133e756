/- The law MergeSees as a contract of its function. Conditions: those of each theorem. -/
import Derived.Test.YtobjkjmmkbhecaaCore
import Derived.Test.YtobjkjmmkbhecaaHaw
import Derived.Test.YtobjkjmmkbhecaaHgp
import Derived.Test.YtobjkjmmkbhecaaHkp
import Derived.Test.YtobjkjmmkbhecaaHoq
import Derived.Test.YtobjkjmmkbhecaaHpl
import Derived.Test.YtobjkjmmkbhecaaHpr
import Derived.Test.YtobjkjmmkbhecaaHrs
import Derived.Test.YtobjkjmmkbhecaaHrv
import Derived.Test.YtobjkjmmkbhecaaHrw
import Derived.Test.YtobjkjmmkbhecaaHsp
import Derived.Test.YtobjkjmmkbhecaaHvi
import Derived.Test.YtobjkjmmkbhecaaME
import Derived.Test.YtobjkjmmkbhecaaPx0
import Derived.Test.YtobjkjmmkbhecaaHps
namespace Go.Proofs.Ytobjkjmmkbhecaa.Sk
open Go.RowKit Go.Proofs.YtobjkjmmkbhecaaW.PrintWords Go.Proofs.YtobjkjmmkbhecaaW.PrintLast Go.Proofs.YtobjkjmmkbhecaaW.PrintMore Go.Proofs.Ytobjkjmmkbhecaa.Px Go.Proofs.Ytobjkjmmkbhecaa.Sw
set_option linter.unusedVariables false
set_option linter.unusedSimpArgs false

theorem pieces_len (most : Int) (l : List S36) : (splitE (fun e : S36 => e.f0) most l).length ≤ l.length := by
 have h1 := fold_len most (groupsK (fun e : S36 => e.f0) l) (groupsK (fun e : S36 => e.f0) l).length
 rw [List.take_length] at h1
 exact Nat.le_trans h1 (groupsK_len l.length l (Nat.le_refl _))
set_option maxHeartbeats 40000000 in
set_option maxRecDepth 100000 in
theorem sees_calls {w : World} {A : Option Addr} {c : Nat} {xs : List S36} (hC : Kd.C k36 w A xs.length xs) (hlc : xs.length ≤ c) (hE : ∀ e ∈ xs, EB e ∧ e.f0.length < 140737488355328 ∧ e.f3.length < 140737488355328) (_hln : xs.length ≤ 4000000000000) (seq : Int) {B : Option Addr} {d : Nat} {pins : List Int} (hP : Kd.C (Kd.int .i64) w B pins.length pins) (hpc : pins.length ≤ d) (bottom : Bool) (most : Int) :
  Calls Try.prog 4 #[.slice A xs.length c, .int .i64 seq, .slice B pins.length d, .bool bottom, .int .i64 most] w fun ex w' => ex = .returned (.bool true) ∧ Below w.heap.size w w' := by
 have HC := Aside0.mk hC
 have HLC := Aside0.mk hlc
 have HP := Aside0.mk hP
 have HPC := Aside0.mk hpc
 have HE := Aside0.mk hE
 clear hC hlc hP hpc hE
 by_cases hl : xs.length ≤ 400
 case neg =>
  as_aux_lemma =>
  have hd : ((400 : Int) < (xs.length : Int)) = True := eq_true (by omega)
  go_enter Try.func4, Try.ntmps4
  go_wp2_with (first
   | ((with_reducible refine gate_dst (N := 15) rfl ?_); (try (refine gate_guard (by rfl) ?_; dsimp only)); refine goesL_ (some 15) rfl rfl Try.func11 (by kernel_rfl) rfl #[] rfl (by (try simp only [List.map_toArray, List.map_cons, List.map_nil]); first | done | rfl) ?_; refine (awake_calls w).mono ?_; rintro ex w1 ⟨rfl, hb1⟩; refine ⟨_, rfl, ?_⟩; have n_ := Aside0.mk hb1; clear hb1; have hb1 := n_; clear n_))
  go_ret
  exact ⟨rfl, hb1.out⟩
 have hd : ((400 : Int) < (xs.length : Int)) = False := eq_false (by omega)
 by_cases hpn : pins.length ≤ 100
 case neg =>
  as_aux_lemma =>
  have hd3 : ((100 : Int) < (pins.length : Int)) = True := eq_true (by omega)
  go_enter Try.func4, Try.ntmps4
  go_wp2_with (first
   | ((with_reducible refine gate_dst (N := 15) rfl ?_); (try (refine gate_guard (by rfl) ?_; dsimp only)); refine goesL_ (some 15) rfl rfl Try.func11 (by kernel_rfl) rfl #[] rfl (by (try simp only [List.map_toArray, List.map_cons, List.map_nil]); first | done | rfl) ?_; refine (awake_calls w).mono ?_; rintro ex w1 ⟨rfl, hb1⟩; refine ⟨_, rfl, ?_⟩; have n_ := Aside0.mk hb1; clear hb1; have hb1 := n_; clear n_))
  go_ret
  exact ⟨rfl, hb1.out⟩
 as_aux_lemma =>
 have hd3 : ((100 : Int) < (pins.length : Int)) = False := eq_false (by omega)
 have HPN := Aside0.mk hpn
 have HL4 := Aside0.mk hl
 have HL9 := Aside0.mk (show xs.length ≤ 1000000000 by omega)
 have HGD := Aside0.mk (show goodL xs = true from goodL_iff.2 ⟨HE.out, by omega⟩)
 have HGE := Aside0.mk (show ∀ e ∈ xs, GE e from fun e he => ⟨(HE.out e he).1.1, (HE.out e he).1.2.1⟩)
 have hvs := visM_sub seq xs
 have HGV := Aside0.mk (show ∀ e ∈ visM seq xs, GE e from fun e he => HGE.out e (hvs.1 e he))
 have HVN := Aside0.mk (show (visM seq xs).length ≤ 1000000000 by have h := hvs.2; omega)
 have hps := pruM_sub pins bottom xs
 have HGP := Aside0.mk (show ∀ e ∈ pruM pins bottom xs, GE e from fun e he => HGE.out e (hps.1 e he))
 have HPL := Aside0.mk (show (pruM pins bottom xs).length ≤ 1000000000 by have h := hps.2; omega)
 obtain ⟨S, hS⟩ : ∃ S, S = splitE (fun e : S36 => e.f0) most xs := ⟨_, rfl⟩
 have HS := Aside0.mk hS
 have HSF := Aside0.mk (show S.flatten = xs by rw [hS]; exact splitE_flat most xs)
 have HSL := Aside0.mk (show S.length ≤ 400 by rw [hS]; exact Nat.le_trans (pieces_len most xs) hl)
 clear hvs hps hS hl hpn
 go_enter Try.func4, Try.ntmps4
 go_wp2_with (first
  | ((with_reducible refine gate_dst (N := 15) rfl ?_); (try (refine gate_guard (by rfl) ?_; dsimp only)); refine goesL_ (some 15) rfl rfl Try.func11 (by kernel_rfl) rfl #[] rfl (by (try simp only [List.map_toArray, List.map_cons, List.map_nil]); first | done | rfl) ?_; refine (awake_calls w).mono ?_; rintro ex w1 ⟨rfl, hb1⟩; refine ⟨_, rfl, ?_⟩; have n_ := Aside0.mk hb1; clear hb1; have hb1 := n_; clear n_)
  | ((with_reducible refine gate_dst (N := 27) rfl ?_); (try (refine gate_guard (by rfl) ?_; dsimp only)); refine goesL_ (some 27) rfl rfl Try.func15 (by kernel_rfl) rfl #[.slice A xs.length c, .int .i64 seq] rfl (by (try simp only [List.map_toArray, List.map_cons, List.map_nil]); first | done | rfl) ?_; refine (visible_calls (Kd.C_F k36_heap (Kd.C_below HC.out hb1.out)) HLC.out HGD.out seq).mono ?_; rintro ex w2 ⟨v_, rfl, hv_, hb_⟩; refine ⟨_, rfl, ?_⟩; obtain ⟨Av, cv, rfl, l_, f_⟩ := hv_; have LV := Aside0.mk (l_); have CV := Aside0.mk (Kd.F_now f_); have B2 := Aside0.mk (hb_); clear l_ f_ hb_)
  | ((with_reducible refine gate_dst (N := 30) rfl ?_); (try (refine gate_guard (by rfl) ?_; dsimp only)); refine goesL_ (some 30) rfl rfl Try.func16 (by kernel_rfl) rfl #[.slice A xs.length c, .int .i64 seq] rfl (by (try simp only [List.map_toArray, List.map_cons, List.map_nil]); first | done | rfl) ?_; refine (rvisible_calls (Kd.C_below (Kd.C_below HC.out hb1.out) B2.out) HLC.out HGD.out seq).mono ?_; rintro ex w3 ⟨Au, cu, rfl, l_, f_, hb_⟩; refine ⟨_, rfl, ?_⟩; have LU := Aside0.mk (l_); have CU := Aside0.mk (f_); have B3 := Aside0.mk (hb_); clear l_ f_ hb_)
  | ((with_reducible refine gate_dst (N := 31) rfl ?_); (try (refine gate_guard (by rfl) ?_; dsimp only)); refine goesL_ (some 31) rfl rfl Try.func12 (by kernel_rfl) rfl #[.slice Av (visM seq xs).length cv, .slice Au (visM seq xs).length cu] rfl (by (try simp only [List.map_toArray, List.map_cons, List.map_nil]); first | done | rfl) ?_; refine (same_calls (Kd.C_below CV.out B3.out) LV.out CU.out LU.out HGV.out HVN.out).mono ?_; rintro ex w4 ⟨rfl, hb_⟩; refine ⟨_, rfl, ?_⟩; have B4 := Aside0.mk (hb_); clear hb_)
  | ((with_reducible refine gate_dst (N := 37) rfl ?_); (try (refine gate_guard (by rfl) ?_; dsimp only)); refine goesL_ (some 37) rfl rfl Try.func17 (by kernel_rfl) rfl #[.slice A xs.length c, .slice B pins.length d, .bool bottom] rfl (by (try simp only [List.map_toArray, List.map_cons, List.map_nil]); first | done | rfl) ?_; refine (prune_calls (Kd.C_F k36_heap (Kd.C_below (Kd.C_below (Kd.C_below (Kd.C_below HC.out hb1.out) B2.out) B3.out) B4.out)) HLC.out HGD.out (Kd.C_below (Kd.C_below (Kd.C_below (Kd.C_below HP.out hb1.out) B2.out) B3.out) B4.out) HPC.out (by have h := HPN.out; omega) bottom).mono ?_; rintro ex w5 ⟨v_, rfl, hv_, hb_⟩; refine ⟨_, rfl, ?_⟩; obtain ⟨Ap, cp, rfl, l_, f_⟩ := hv_; have LP := Aside0.mk (l_); have CP := Aside0.mk (Kd.F_now f_); have B5 := Aside0.mk (hb_); clear l_ f_ hb_)
  | ((with_reducible refine gate_dst (N := 41) rfl ?_); (try (refine gate_guard (by rfl) ?_; dsimp only)); refine goesL_ (some 41) rfl rfl Try.func18 (by kernel_rfl) rfl #[.slice A xs.length c, .slice B pins.length d, .bool bottom] rfl (by (try simp only [List.map_toArray, List.map_cons, List.map_nil]); first | done | rfl) ?_; refine (rprune_calls (Kd.C_F k36_heap (Kd.C_below (Kd.C_below (Kd.C_below (Kd.C_below (Kd.C_below HC.out hb1.out) B2.out) B3.out) B4.out) B5.out)) HLC.out HGD.out (Kd.C_below (Kd.C_below (Kd.C_below (Kd.C_below (Kd.C_below HP.out hb1.out) B2.out) B3.out) B4.out) B5.out) HPC.out (by have h := HPN.out; omega) bottom).mono ?_; rintro ex w6 ⟨Aq, cq, rfl, l_, f_, hb_⟩; refine ⟨_, rfl, ?_⟩; have LQ := Aside0.mk (l_); have CQ := Aside0.mk (f_); have B6 := Aside0.mk (hb_); clear l_ f_ hb_)
  | ((with_reducible refine gate_dst (N := 42) rfl ?_); (try (refine gate_guard (by rfl) ?_; dsimp only)); refine goesL_ (some 42) rfl rfl Try.func12 (by kernel_rfl) rfl #[.slice Ap (pruM pins bottom xs).length cp, .slice Aq (pruM pins bottom xs).length cq] rfl (by (try simp only [List.map_toArray, List.map_cons, List.map_nil]); first | done | rfl) ?_; refine (same_calls (Kd.C_below CP.out B6.out) LP.out CQ.out LQ.out HGP.out HPL.out).mono ?_; rintro ex w7 ⟨rfl, hb_⟩; refine ⟨_, rfl, ?_⟩; have B7 := Aside0.mk (hb_); clear hb_)
  | ((with_reducible refine gate_dst (N := 47) rfl ?_); (try (refine gate_guard (by rfl) ?_; dsimp only)); refine goesL_ (some 47) rfl rfl Try.func19 (by kernel_rfl) rfl #[.slice A xs.length c, .int .i64 most] rfl (by (try simp only [List.map_toArray, List.map_cons, List.map_nil]); first | done | rfl) ?_; refine (split_calls (Kd.C_F k36_heap (Kd.C_below (Kd.C_below (Kd.C_below (Kd.C_below (Kd.C_below (Kd.C_below (Kd.C_below HC.out hb1.out) B2.out) B3.out) B4.out) B5.out) B6.out) B7.out)) HLC.out HL9.out (goodL_iff.1 HGD.out).1 most).mono ?_; rintro ex w8 ⟨v_, rfl, hn_, hb_⟩; refine ⟨_, rfl, ?_⟩; rw [← HS.out] at hn_; obtain ⟨Aa, ca, e_⟩ := Kd.N_slice hn_; subst e_; have SA := Aside0.mk (Kd.F_mono (ok' := fun k => k < w8.heap.size) (Kd.F_bound (Kd.N_F hn_)) (fun k hk => hk.2)); have B8 := Aside0.mk (hb_); clear hn_ hb_)
  | ((with_reducible refine gate_dst (N := 50) rfl ?_); (try (refine gate_guard (by rfl) ?_; dsimp only)); refine goesL_ (some 50) rfl rfl Try.func20 (by kernel_rfl) rfl #[.slice A xs.length c, .int .i64 most] rfl (by (try simp only [List.map_toArray, List.map_cons, List.map_nil]); first | done | rfl) ?_; refine (rsplit_calls (Kd.C_F k36_heap (Kd.C_below (Kd.C_below (Kd.C_below (Kd.C_below (Kd.C_below (Kd.C_below (Kd.C_below (Kd.C_below HC.out hb1.out) B2.out) B3.out) B4.out) B5.out) B6.out) B7.out) B8.out)) HLC.out HGD.out most).mono ?_; rintro ex w9 ⟨v_, rfl, hn_, hb_⟩; refine ⟨_, rfl, ?_⟩; rw [← HS.out] at hn_; obtain ⟨Ab, cb, e_⟩ := Kd.N_slice hn_; subst e_; have SB := Aside0.mk (Kd.F_mono (ok' := fun k => k < w9.heap.size) (Kd.F_bound (Kd.N_F hn_)) (fun k hk => hk.2)); have B9 := Aside0.mk (hb_); clear hn_ hb_))
 go_loopg [14] S.length (fun kq v14 w' => ∃ i : Nat, v14 = .int .i64 (i : Int) ∧ Aside0 (kq + i = S.length) ∧ Aside0 (Below w9.heap.size w9 w'))
 case atStart => exact ⟨0, rfl, ⟨rfl⟩, ⟨Below.refl _ _⟩⟩
 case round =>
  obtain ⟨i, rfl, HK, HB⟩ := hrel
  cases gk with
  | zero =>
   as_aux_lemma =>
   have hlt : ((i : Int) < (S.length : Int)) = False := eq_false (by have h := HK.out; omega)
   go_wp2
   go_ret
   exact ⟨rfl, below_step (below_step (below_step (below_step (below_step (below_step (below_step (below_step (below_step (hb1.out) B2.out) B3.out) B4.out) B5.out) B6.out) B7.out) B8.out) B9.out) HB.out⟩
  | succ k1 =>
   as_aux_lemma =>
   have hil : i < S.length := by have h := HK.out; omega
   have hlt : ((i : Int) < (S.length : Int)) = True := eq_true (by omega)
   obtain ⟨x, hx⟩ : ∃ x, S[i]? = some x := ⟨_, List.getElem?_eq_getElem hil⟩
   have HWK := Aside0.mk (wadd1 (x := i) (z := i + 1) rfl (by have h := HSL.out; omega))
   have hmf := mem_flat hx
   rw [HSF.out] at hmf
   have HXL := Aside0.mk (show x.length ≤ 1000000000 by have h := hmf.1; have h2 := HL9.out; omega)
   have HGX := Aside0.mk (show ∀ e ∈ x, GE e from fun e he => HGE.out e (hmf.2 e he))
   obtain ⟨ad1, B1, d1, ea, hr1, hl1, hf1⟩ := rows_of_F (Kd.F_below (Kd.F_below SA.out B9.out) HB.out) i x hx
   subst ea
   obtain ⟨ad2, B2x, d2, ea, hr2, hl2, hf2⟩ := rows_of_F (Kd.F_below SB.out HB.out) i x hx
   subst ea
   have HL1 := Aside0.mk hl1
   have HL2 := Aside0.mk hl2
   have HF1 := Aside0.mk (Kd.F_now hf1)
   have HF2 := Aside0.mk (Kd.F_now hf2)
   clear hmf hl1 hl2 hf1 hf2 hx hil
   go_upto_region 13 with (fail)
   refine s_ 10 [] (fun w' => w'.cell? (ad1.add i) = some (.slice B1 x.length d1) ∧ w'.cell? (ad2.add i) = some (.slice B2x x.length d2)) (hS := ⟨hr1, hr2⟩) (h := fun hHeld => ?_)
   have HDW := Aside0.mk (show Below wr.heap.size wr wr.drew from below_drew (Below.refl _ _))
   clear hr1 hr2
   generalize wr.drew = w10 at hHeld HDW ⊢
   refine p_ 0 66 (bb 10 1) (h := ?_)
   refine p_ 1 67 (bb 10 3) (h := ?_)
   refine p_ 2 68 (bb 10 7) (h := ?_)
   refine t_ 3 69 (bb 10 15) hHeld (h := ?_)
   refine p_ 4 70 (bb 10 31) (h := ?_)
   refine p_ 5 71 (bb 10 63) (h := ?_)
   refine p_ 6 72 (bb 10 127) (h := ?_)
   refine t_ 7 73 (bb 10 255) hHeld (h := ?_)
   refine n_ 8 74 (bb 10 511) (h := fun K hK => ?_)
   refine goes_ Try.func12 (by kernel_rfl) rfl #[.slice B1 x.length d1, .slice B2x x.length d2] (by rfl) rfl rfl (by (try simp only [List.map_toArray, List.map_cons, List.map_nil]); first | done | rfl) ?_
   refine (same_calls (Kd.C_below HF1.out HDW.out) HL1.out (Kd.C_below HF2.out HDW.out) HL2.out HGX.out HXL.out).mono ?_
   rintro ex w11 ⟨rfl, hb_⟩
   refine ⟨_, rfl, ?_⟩
   have B11 := Aside0.mk hb_
   clear hb_
   refine hK.out _ _ ⟨pw_cell_below B11.out hHeld.1, pw_cell_below B11.out hHeld.2⟩ (fun hHeld => ?_)
   clear hK K
   refine m_ 74 (h := ?_)
   refine p_ 9 75 (bb 10 1023) (h := ?_)
   refine d_ (h := ?_)
   clear hHeld
   go_wp2
   go_roundg k1
   case measure => exact Nat.lt_succ_self _
   case rel => exact ⟨i + 1, by first | rfl | rw [HWK.out], ⟨by have h := HK.out; omega⟩, ⟨below_step (below_step HB.out HDW.out) B11.out⟩⟩
end Go.Proofs.Ytobjkjmmkbhecaa.Sk
