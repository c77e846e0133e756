/- A piece of a row is put in order by insertion. Conditions: those of each theorem. -/
import Derived.Test.YtobjkjmmkbhecaaCore
import Derived.Test.YtobjkjmmkbhecaaME
import Derived.Test.YtobjkjmmkbhecaaHso
import Derived.Test.YtobjkjmmkbhecaaPx0
import Derived.Test.YtobjkjmmkbhecaaSpecA
namespace Go.Proofs.Ytobjkjmmkbhecaa.Sk
open Go.RowKit Go.Proofs.YtobjkjmmkbhecaaW.PrintWords Go.Proofs.YtobjkjmmkbhecaaW.PrintLast Go.Proofs.YtobjkjmmkbhecaaW.PrintMore Go.Proofs.Ytobjkjmmkbhecaa.Px Go.Proofs.Ytobjkjmmkbhecaa.Sw
set_option linter.unusedVariables false
set_option linter.unusedSimpArgs false
set_option maxHeartbeats 4000000 in
set_option maxRecDepth 100000 in
theorem insert_calls {w : World} {base n cap : Nat} {ok : Nat → Prop} {ad : Addr} {P M S : List S36} (hn : Kd.N k36 36 w base ok (.slice (some ad) n cap) (P ++ (M ++ S))) {a b : Nat} (ha : a = P.length) (hb : b = P.length + M.length) (hsz : n ≤ 1000000000000) {G : S36 → Prop} {q : S36 → S36 → Int} (hq : POrd G q) (hG : ∀ z ∈ M, G z) (fid : Nat) (fn : Func) (caps : Array Value) (hf : Try.prog.funcs[fid]? = some fn) (hfn : (fn.name == "runtime.NumGoroutine") = false) (hfb : fn.body.isSome = true) (hsay : Says2 w (fun k => some k = (Value.slice (some ad) n cap).ownBlock) G fid caps q) :
  Calls Try.prog 56 #[.slice (some ad) n cap, .int .i64 (a : Int), .int .i64 (b : Int), .func (.func fid) #[] caps] w fun ex w' => ex = .returned (.tuple #[]) ∧ (∃ M', Stb G q M' M ∧ Srt q M' ∧ Kd.N k36 36 w' base ok (.slice (some ad) n cap) (P ++ (M' ++ S))) ∧ Chg w w' (fun k => some k = (Value.slice (some ad) n cap).ownBlock) := by
 have huE := Try.underlying36
 have HN := Aside0.mk hn
 have HMAX := Aside0.mk hsz
 have HLEN := Aside0.mk (show n = P.length + (M.length + S.length) by have := (Kd.N_reads' hn).1; simpa using this)
 obtain ⟨gv, hgv⟩ := N_head hn
 have HAD := Aside0.mk hgv
 have HA := Aside0.mk ha
 have HB := Aside0.mk hb
 have HQ := Aside0.mk hq
 have HG := Aside0.mk hG
 have HSAY := Aside0.mk hsay
 have HW1 := Aside0.mk (show 0 < M.length → wrap64 ((a : Int) + 1) = ((a + 1 : Nat) : Int) from fun h => by rw [wrap_in (by omega) (by have h1 := HMAX.out; have h2 := HLEN.out; omega)]; rfl)
 by_cases hne : M = []
 ·
  subst hne
  have hge : a = b := by rw [ha, hb]; rfl
  have hal : a ≤ n := by have h := HLEN.out; omega
  subst hge
  clear hn hgv ha hb hG hsay hq HW1
  have hw : wrap64 ((a : Int) + 1) = (a : Int) + 1 := wrap_in (by omega) (by omega)
  go_enter Try.func56, Try.ntmps56
  go_wp2
  go_loopg [8] 0 (fun kq v8 w' => v8 = .int .i64 ((a : Int) + 1) ∧ Aside0 (Kd.N k36 36 w' base ok (.slice (some ad) n cap) (P ++ ([] ++ S))) ∧ Aside0 (Chg w w' (fun k => some k = (Value.slice (some ad) n cap).ownBlock)))
  case atStart => exact ⟨by first | rfl | rw [hw], HN, ⟨Chg.refl _ _⟩⟩
  case round =>
   obtain ⟨rfl, HNr, HCH⟩ := hrel
   clear hw
   go_wp2
   go_end0
   exact ⟨rfl, ⟨[], Stb.refl _, Srt.nil, HNr.out⟩, HCH.out⟩
 clear hn hgv ha hb hG hsay hq
 have HM0 := Aside0.mk (show 0 < M.length from List.length_pos_iff.2 hne)
 clear hne
 go_enter Try.func56, Try.ntmps56
 go_wp2
 go_loopg [8] (M.length - 1) (fun kq v8 w' => ∃ (i : Nat) (T R : List S36), v8 = .int .i64 (i : Int) ∧ Aside0 (kq = R.length) ∧ Aside0 (i = P.length + T.length ∧ Srt q T ∧ Stb G q (T ++ R) M) ∧ Aside0 (Kd.N k36 36 w' base ok (.slice (some ad) n cap) (P ++ (T ++ (R ++ S)))) ∧ Aside0 (Chg w w' (fun k => some k = (Value.slice (some ad) n cap).ownBlock)))
 case atStart =>
  obtain ⟨x, M', hx⟩ : ∃ x M', M = x :: M' := by
   cases M with
   | nil => exact absurd HM0.out (by simp)
   | cons x M' => exact ⟨x, M', rfl⟩
  exact ⟨a + 1, [x], M', by rw [HW1.out HM0.out], ⟨by rw [hx]; simp⟩, ⟨by rw [HA.out]; rfl, Srt.single x, by rw [hx]; exact Stb.refl _⟩, ⟨by have h := HN.out; rw [hx] at h; exact h⟩, ⟨Chg.refl _ _⟩⟩
 case round =>
  obtain ⟨i, T, R, rfl, HK, HT, HNr, HCH⟩ := hrel
  have HLT := Aside0.mk (show T.length + R.length = M.length by have := HT.out.2.2.length_eq; simpa using this)
  cases gk with
  | zero =>
   have hlt : (i < b) = False := eq_false (by have h1 := HT.out.1; have h2 := HB.out; have h3 := HLT.out; have h4 := HK.out; omega)
   have HR := Aside0.mk (show R = [] from List.length_eq_zero_iff.1 HK.out.symm)
   go_wp2
   go_end0
   exact ⟨rfl, ⟨T, by have h := HT.out.2.2; rw [HR.out, List.append_nil] at h; exact h, HT.out.2.1, by have h := HNr.out; rw [HR.out] at h; exact h⟩, HCH.out⟩
  | succ k1 =>
   obtain ⟨x, R', rfl⟩ : ∃ x R', R = x :: R' := by
    cases R with
    | nil => exact absurd HK.out (by simp)
    | cons x R' => exact ⟨x, R', rfl⟩
   have HI := Aside0.mk (show i < b ∧ b ≤ n ∧ P.length + T.length = i ∧ k1 = R'.length by have h1 := HT.out.1; have h2 := HB.out; have h3 := HLT.out; have h4 := HK.out; have h5 := HLEN.out; simp only [List.length_cons] at h3 h4; omega)
   have hlt : (i < b) = True := eq_true HI.out.1
   have HWI := Aside0.mk (show wrap64 ((i : Int) + 1) = ((i + 1 : Nat) : Int) by rw [wrap_in (by omega) (by have h1 := HMAX.out; have h2 := HI.out; omega)]; rfl)
   have HGX := Aside0.mk (HG.out x (HT.out.2.2.mem_iff.1 (by simp)))
   have HGT := Aside0.mk (show ∀ z ∈ T, G z from fun z hz => HG.out z (HT.out.2.2.mem_iff.1 (List.mem_append_left _ hz)))
   have HST := Aside0.mk HT.out.2.1
   have HPM := Aside0.mk (show ∀ T', Stb G q T' (T ++ [x]) → Stb G q (T' ++ R') M from fun T' h => (h.append_right R').trans (by have h2 := HT.out.2.2; simpa using h2))
   go_wp2
   go_loopg [9] T.length (fun kq v9 w' => ∃ (j : Nat) (U V : List S36), v9 = .int .i64 (j : Int) ∧ Aside0 (kq = U.length) ∧ Aside0 (j = P.length + U.length ∧ T = U ++ V ∧ ∀ v ∈ V, q x v < 0) ∧ Aside0 (Kd.N k36 36 w' base ok (.slice (some ad) n cap) (P ++ (U ++ (x :: (V ++ (R' ++ S)))))) ∧ Aside0 (Chg w w' (fun k => some k = (Value.slice (some ad) n cap).ownBlock)))
   case atStart => exact ⟨i, T, [], rfl, ⟨rfl⟩, ⟨HI.out.2.2.1.symm, (List.append_nil _).symm, fun v hv => by cases hv⟩, ⟨HNr.out⟩, HCH⟩
   case round =>
    clear HNr HCH HT HK
    obtain ⟨j, U, V, rfl, HK2, HU, HNs, HCH2⟩ := hrel
    have HIX := Aside0.mk (show (P ++ (U ++ (x :: (V ++ (R' ++ S)))))[j]? = some x by rw [← List.append_assoc]; exact get_app' (by rw [HU.out.1, List.length_append]))
    cases gk with
    | zero =>
     have HU0 := Aside0.mk (show U = [] from List.length_eq_zero_iff.1 HK2.out.symm)
     have hgt : (a < j) = False := eq_false (by have h1 := HU.out.1; rw [HU0.out] at h1; have h2 := HA.out; simp only [List.length_nil] at h1; omega)
     go_wp2
     refine s_ 17 [14] (fun w' => True) (hS := trivial) (h := fun hHeld => ?_)
     refine p_ 0 18 (bb 17 1) (h := ?_)
     refine p_ 1 19 (bb 17 3) (h := ?_)
     refine p_ 2 20 (bb 17 7) (h := ?_)
     refine p_ 3 21 (bb 17 15) (h := ?_)
     refine o_ 4 22 (bb 17 31) (h := ?_)
     refine o_ 5 23 (bb 17 63) (h := ?_)
     refine o_ 6 24 (bb 17 127) (h := ?_)
     refine o_ 7 25 (bb 17 255) (h := ?_)
     refine o_ 8 26 (bb 17 511) (h := ?_)
     refine o_ 9 27 (bb 17 1023) (h := ?_)
     refine o_ 10 28 (bb 17 2047) (h := ?_)
     refine o_ 11 29 (bb 17 4095) (h := ?_)
     refine o_ 12 30 (bb 17 8191) (h := ?_)
     refine o_ 13 31 (bb 17 16383) (h := ?_)
     refine loff_ 14 32 (bb 17 32767) rfl rfl (by kernel_rfl) (by decide) (by rfl) (by (simp only [Act.put, List.setIfInBounds_toArray, List.set_cons_zero, List.set_cons_succ, i64_w, i32_w]; rfl)) ?_
     refine o_ 15 33 (bb 17 65535) (h := ?_)
     refine p_ 16 34 (bb 17 131071) (h := ?_)
     refine d_ (h := ?_)
     go_wp2
     go_roundg k1
     case measure => exact Nat.lt_succ_self _
     refine ⟨i + 1, x :: T, R', by rw [HWI.out], ⟨HI.out.2.2.2⟩, ⟨by have h := HI.out.2.2.1; rw [List.length_cons]; omega, ?_, HPM.out (x :: T) (Stb.front HQ.out HGX.out HGT.out (fun v hv => HU.out.2.2 v (by have h := HU.out.2.1; rw [HU0.out, List.nil_append] at h; rw [← h]; exact hv)))⟩, ⟨?_⟩, ⟨HCH2.out.drew⟩⟩
     ·
      refine Srt.cons_iff.2 ⟨fun v hv => HQ.out.as x v HGX.out (HGT.out v hv) (HU.out.2.2 v ?_), HST.out⟩
      have h := HU.out.2.1
      rw [HU0.out, List.nil_append] at h
      rw [← h]; exact hv
     ·
      have h := Kd.N_drew HNs.out
      have h2 := HU.out.2.1
      rw [HU0.out, List.nil_append] at h2
      rw [HU0.out, ← h2] at h
      exact h
    | succ k2 =>
     obtain ⟨U', u, hu⟩ : ∃ U' u, U = U' ++ [u] := by
      rcases ends U with e | h
      ·
       exact absurd HK2.out (by rw [e]; simp)
      ·
       exact h
     subst hu
     obtain ⟨j1, hj1⟩ : ∃ j1, j1 = P.length + U'.length := ⟨_, rfl⟩
     have HJ := Aside0.mk (show j = j1 + 1 ∧ j < n ∧ j1 < n ∧ a ≤ j1 ∧ k2 = U'.length ∧ j1 = P.length + U'.length by
      have h1 := HU.out.1; have h2 := HI.out; have h3 := congrArg List.length HU.out.2.1; have h4 := HA.out; have h5 := HK2.out
      simp only [List.length_append, List.length_cons, List.length_nil] at h1 h3 h5; omega)
     clear hj1
     have HIU := Aside0.mk (show (P ++ (U' ++ [u] ++ (x :: (V ++ (R' ++ S)))))[j1]? = some u by
      have e : P ++ (U' ++ [u] ++ (x :: (V ++ (R' ++ S)))) = (P ++ U') ++ u :: (x :: (V ++ (R' ++ S))) := by simp
      rw [e]; exact get_app' (by rw [HJ.out.2.2.2.2.2, List.length_append]))
     have HGU := Aside0.mk (HGT.out u (by rw [HU.out.2.1]; simp))
     have hgt : (a < j) = True := eq_true (by have h := HJ.out; omega)
     have hjn : (j < n) = True := eq_true HJ.out.2.1
     have hjn1 : (j1 < n) = True := eq_true HJ.out.2.2.1
     have hjm : wrap64 ((j : Int) - 1) = (j1 : Int) := by have h := HJ.out; rw [wrap_in (by omega) (by have h1 := HMAX.out; omega)]; omega
     obtain ⟨X0, c0, X3, c3, hx0, hx1, hx2, hx3, hF_⟩ := at_NE HNs.out j x HIX.out
     have HFX := Aside0.mk hF_
     clear hF_
     obtain ⟨Y0, d0, Y3, d3, hy0, hy1, hy2, hy3, hF_⟩ := at_NE HNs.out j1 u HIU.out
     have HFY := Aside0.mk hF_
     clear hF_
     by_cases hqu : q x u < 0
     ·
      have hqt : (q x u < 0) = True := eq_true hqu
      have HSET := Aside0.mk (show ((P ++ (U' ++ [u] ++ (x :: (V ++ (R' ++ S))))).set j u).set j1 x = P ++ (U' ++ (x :: (u :: V ++ (R' ++ S)))) by
       have e : P ++ (U' ++ [u] ++ (x :: (V ++ (R' ++ S)))) = (P ++ U') ++ u :: ([] ++ x :: (V ++ (R' ++ S))) := by simp
       rw [e, swap_app' (by rw [HJ.out.2.2.2.2.2, List.length_append]) (by rw [HJ.out.1, HJ.out.2.2.2.2.2, List.length_append]; rfl)]
       simp)
      have HQU := Aside0.mk hqu
      clear hqu
      go_wp2
      refine s_ 17 [14] (fun w' => w'.cell? (ad.add (j * 4)) = some (.slice X0 x.f0.length c0) ∧ w'.cell? ⟨(ad.add (j * 4)).block, (ad.add (j * 4)).off + 1, none⟩ = some (.int .i64 x.f1) ∧ w'.cell? ⟨(ad.add (j * 4)).block, (ad.add (j * 4)).off + 2, none⟩ = some (.bool x.f2) ∧ w'.cell? ⟨(ad.add (j * 4)).block, (ad.add (j * 4)).off + 3, none⟩ = some (.slice X3 x.f3.length c3) ∧ w'.cell? (ad.add (j1 * 4)) = some (.slice Y0 u.f0.length d0) ∧ w'.cell? ⟨(ad.add (j1 * 4)).block, (ad.add (j1 * 4)).off + 1, none⟩ = some (.int .i64 u.f1) ∧ w'.cell? ⟨(ad.add (j1 * 4)).block, (ad.add (j1 * 4)).off + 2, none⟩ = some (.bool u.f2) ∧ w'.cell? ⟨(ad.add (j1 * 4)).block, (ad.add (j1 * 4)).off + 3, none⟩ = some (.slice Y3 u.f3.length d3)) (hS := ⟨hx0, hx1, hx2, hx3, hy0, hy1, hy2, hy3⟩) (h := fun hHeld => ?_)
      refine p_ 0 18 (bb 17 1) (h := ?_)
      refine p_ 1 19 (bb 17 3) (h := ?_)
      refine p_ 2 20 (bb 17 7) (h := ?_)
      refine p_ 3 21 (bb 17 15) (h := ?_)
      refine p_ 4 22 (bb 17 31) (h := ?_)
      refine p_ 5 23 (bb 17 63) (h := ?_)
      refine p_ 6 24 (bb 17 127) (h := ?_)
      refine p_ 7 25 (bb 17 255) (h := ?_)
      refine t_ 8 26 (bb 17 511) hHeld (h := ?_)
      refine p_ 9 27 (bb 17 1023) (h := ?_)
      refine p_ 10 28 (bb 17 2047) (h := ?_)
      refine p_ 11 29 (bb 17 4095) (h := ?_)
      refine p_ 12 30 (bb 17 8191) (h := ?_)
      refine t_ 13 31 (bb 17 16383) hHeld (h := ?_)
      refine lcv_ 14 32 (bb 17 32767) #[] caps (#[.agg #[.slice X0 x.f0.length c0, .int .i64 x.f1, .bool x.f2, .slice X3 x.f3.length c3], .agg #[.slice Y0 u.f0.length d0, .int .i64 u.f1, .bool u.f2, .slice Y3 u.f3.length d3]] ++ caps) hf hfn hfb rfl rfl (by kernel_rfl) (by decide) (by rfl) rfl rfl (by (try simp only [List.map_toArray, List.map_cons, List.map_nil]); first | done | rfl) ?_
      refine (HSAY.out x u X0 c0 X3 c3 Y0 d0 Y3 d3 _ (HGX.out) (HGU.out) (HCH2.out.drew).kept (k36_C (Kd.FK_now (Kd.FK_below HFX.out (below_drew (Below.refl _ _))))).1 (k36_C (Kd.FK_now (Kd.FK_below HFX.out (below_drew (Below.refl _ _))))).2.1 (k36_C (Kd.FK_now (Kd.FK_below HFX.out (below_drew (Below.refl _ _))))).2.2.1 (k36_C (Kd.FK_now (Kd.FK_below HFX.out (below_drew (Below.refl _ _))))).2.2.2 (k36_C (Kd.FK_now (Kd.FK_below HFY.out (below_drew (Below.refl _ _))))).1 (k36_C (Kd.FK_now (Kd.FK_below HFY.out (below_drew (Below.refl _ _))))).2.1 (k36_C (Kd.FK_now (Kd.FK_below HFY.out (below_drew (Below.refl _ _))))).2.2.1 (k36_C (Kd.FK_now (Kd.FK_below HFY.out (below_drew (Below.refl _ _))))).2.2.2).mono ?_
      rintro ex w3 ⟨rfl, hb3⟩
      refine ⟨_, rfl, ?_⟩
      have HB3 := Aside0.mk hb3
      clear hb3
      refine m_ 32 (h := ?_)
      refine p_ 15 33 (bb 17 65535) (h := ?_)
      refine p_ 16 34 (bb 17 131071) (h := ?_)
      refine d_ (h := ?_)
      have HNs3 := Aside0.mk (Kd.N_below (Kd.N_drew HNs.out) HB3.out)
      have HCH3 := Aside0.mk (HCH2.out.drew.below_step HB3.out)
      clear hHeld hx0 hy0 hx1 hy1 hx2 hy2 hx3 hy3
      obtain ⟨X0, c0, X3, c3, hx0, hx1, hx2, hx3, hF_⟩ := at_NE HNs3.out j x HIX.out
      have HFX := Aside0.mk hF_
      clear hF_
      obtain ⟨Y0, d0, Y3, d3, hy0, hy1, hy2, hy3, hF_⟩ := at_NE HNs3.out j1 u HIU.out
      have HFY := Aside0.mk hF_
      clear hF_
      go_wp2
      refine s_ 18 [15, 17] (fun w' => w'.cell? (ad.add (j * 4)) = some (.slice X0 x.f0.length c0) ∧ w'.cell? ⟨(ad.add (j * 4)).block, (ad.add (j * 4)).off + 1, none⟩ = some (.int .i64 x.f1) ∧ w'.cell? ⟨(ad.add (j * 4)).block, (ad.add (j * 4)).off + 2, none⟩ = some (.bool x.f2) ∧ w'.cell? ⟨(ad.add (j * 4)).block, (ad.add (j * 4)).off + 3, none⟩ = some (.slice X3 x.f3.length c3) ∧ w'.cell? (ad.add (j1 * 4)) = some (.slice Y0 u.f0.length d0) ∧ w'.cell? ⟨(ad.add (j1 * 4)).block, (ad.add (j1 * 4)).off + 1, none⟩ = some (.int .i64 u.f1) ∧ w'.cell? ⟨(ad.add (j1 * 4)).block, (ad.add (j1 * 4)).off + 2, none⟩ = some (.bool u.f2) ∧ w'.cell? ⟨(ad.add (j1 * 4)).block, (ad.add (j1 * 4)).off + 3, none⟩ = some (.slice Y3 u.f3.length d3)) (hS := ⟨hx0, hx1, hx2, hx3, hy0, hy1, hy2, hy3⟩) (h := fun hHeld => ?_)
      refine p_ 0 37 (bb 18 1) (h := ?_)
      refine p_ 1 38 (bb 18 3) (h := ?_)
      refine p_ 2 39 (bb 18 7) (h := ?_)
      refine p_ 3 40 (bb 18 15) (h := ?_)
      refine p_ 4 41 (bb 18 31) (h := ?_)
      refine p_ 5 42 (bb 18 63) (h := ?_)
      refine p_ 6 43 (bb 18 127) (h := ?_)
      refine p_ 7 44 (bb 18 255) (h := ?_)
      refine p_ 8 45 (bb 18 511) (h := ?_)
      refine t_ 9 46 (bb 18 1023) hHeld (h := ?_)
      refine p_ 10 47 (bb 18 2047) (h := ?_)
      refine p_ 11 48 (bb 18 4095) (h := ?_)
      refine p_ 12 49 (bb 18 8191) (h := ?_)
      refine t_ 13 50 (bb 18 16383) hHeld (h := ?_)
      refine p_ 14 51 (bb 18 32767) (h := ?_)
      refine lN_ 15 (bb 18 65535) 36 (.tmp 51) (.tmp 46) (j) HAD.out (Kd.N_drew HNs3.out) (by have h1 := HJ.out; omega) (Kd.FK_below HFY.out (below_drew (Below.refl _ _))) (fun k hk => ⟨hk.1, by have h2 := hk.2; rw [HAD.out] at h2; exact h2⟩) ht_E (one_E u Y0 d0 Y3 d3) (by rfl) (by rfl) (by kernel_rfl) (by decide) (by rfl) rfl (by first | rfl | (simp only [AtIdx]; rfl)) rfl (fun w5 hn5 hg5 => ?_)
      refine p_ 16 52 (bb 18 131071) (h := ?_)
      refine lN_ 17 (bb 18 262143) 36 (.tmp 52) (.tmp 50) (j1) HAD.out hn5 (by have h1 := HJ.out; omega) (Kd.FK_grown (Kd.FK_below HFX.out (below_drew (Below.refl _ _))) hg5 (fun k hk he => hk.2 (by rw [HAD.out]; injection he))) (fun k hk => ⟨hk.1, by have h2 := hk.2; rw [HAD.out] at h2; exact h2⟩) ht_E (one_E x X0 c0 X3 c3) (by rfl) (by rfl) (by kernel_rfl) (by decide) (by rfl) rfl (by first | rfl | (simp only [AtIdx]; rfl)) rfl (fun w6 hn6 hg6 => ?_)
      refine d_ (h := ?_)
      have HVV := Aside0.mk (show ∀ v ∈ u :: V, q x v < 0 from List.forall_mem_cons.2 ⟨HQU.out, HU.out.2.2⟩)
      have HN6 := Aside0.mk hn6
      have HC6 := Aside0.mk (((HCH3.out.drew).grown hg5 (fun k hk => .inl (by rw [HAD.out]; exact hk.symm))).grown hg6 (fun k hk => .inl (by rw [HAD.out]; exact hk.symm)))
      clear hn5 hg5 hn6 hg6 hHeld
      go_wp2
      go_roundg k2
      case measure => exact Nat.lt_succ_self _
      case rel => exact ⟨j1, U', u :: V, by rw [hjm], ⟨HJ.out.2.2.2.2.1⟩, ⟨HJ.out.2.2.2.2.2, by rw [HU.out.2.1]; simp, HVV.out⟩, ⟨HSET.out ▸ HN6.out⟩, HC6⟩
     ·
      have hqt : (q x u < 0) = False := eq_false hqu
      have HQU := Aside0.mk hqu
      clear hqu
      go_wp2
      refine s_ 17 [14] (fun w' => w'.cell? (ad.add (j * 4)) = some (.slice X0 x.f0.length c0) ∧ w'.cell? ⟨(ad.add (j * 4)).block, (ad.add (j * 4)).off + 1, none⟩ = some (.int .i64 x.f1) ∧ w'.cell? ⟨(ad.add (j * 4)).block, (ad.add (j * 4)).off + 2, none⟩ = some (.bool x.f2) ∧ w'.cell? ⟨(ad.add (j * 4)).block, (ad.add (j * 4)).off + 3, none⟩ = some (.slice X3 x.f3.length c3) ∧ w'.cell? (ad.add (j1 * 4)) = some (.slice Y0 u.f0.length d0) ∧ w'.cell? ⟨(ad.add (j1 * 4)).block, (ad.add (j1 * 4)).off + 1, none⟩ = some (.int .i64 u.f1) ∧ w'.cell? ⟨(ad.add (j1 * 4)).block, (ad.add (j1 * 4)).off + 2, none⟩ = some (.bool u.f2) ∧ w'.cell? ⟨(ad.add (j1 * 4)).block, (ad.add (j1 * 4)).off + 3, none⟩ = some (.slice Y3 u.f3.length d3)) (hS := ⟨hx0, hx1, hx2, hx3, hy0, hy1, hy2, hy3⟩) (h := fun hHeld => ?_)
      refine p_ 0 18 (bb 17 1) (h := ?_)
      refine p_ 1 19 (bb 17 3) (h := ?_)
      refine p_ 2 20 (bb 17 7) (h := ?_)
      refine p_ 3 21 (bb 17 15) (h := ?_)
      refine p_ 4 22 (bb 17 31) (h := ?_)
      refine p_ 5 23 (bb 17 63) (h := ?_)
      refine p_ 6 24 (bb 17 127) (h := ?_)
      refine p_ 7 25 (bb 17 255) (h := ?_)
      refine t_ 8 26 (bb 17 511) hHeld (h := ?_)
      refine p_ 9 27 (bb 17 1023) (h := ?_)
      refine p_ 10 28 (bb 17 2047) (h := ?_)
      refine p_ 11 29 (bb 17 4095) (h := ?_)
      refine p_ 12 30 (bb 17 8191) (h := ?_)
      refine t_ 13 31 (bb 17 16383) hHeld (h := ?_)
      refine lcv_ 14 32 (bb 17 32767) #[] caps (#[.agg #[.slice X0 x.f0.length c0, .int .i64 x.f1, .bool x.f2, .slice X3 x.f3.length c3], .agg #[.slice Y0 u.f0.length d0, .int .i64 u.f1, .bool u.f2, .slice Y3 u.f3.length d3]] ++ caps) hf hfn hfb rfl rfl (by kernel_rfl) (by decide) (by rfl) rfl rfl (by (try simp only [List.map_toArray, List.map_cons, List.map_nil]); first | done | rfl) ?_
      refine (HSAY.out x u X0 c0 X3 c3 Y0 d0 Y3 d3 _ (HGX.out) (HGU.out) (HCH2.out.drew).kept (k36_C (Kd.FK_now (Kd.FK_below HFX.out (below_drew (Below.refl _ _))))).1 (k36_C (Kd.FK_now (Kd.FK_below HFX.out (below_drew (Below.refl _ _))))).2.1 (k36_C (Kd.FK_now (Kd.FK_below HFX.out (below_drew (Below.refl _ _))))).2.2.1 (k36_C (Kd.FK_now (Kd.FK_below HFX.out (below_drew (Below.refl _ _))))).2.2.2 (k36_C (Kd.FK_now (Kd.FK_below HFY.out (below_drew (Below.refl _ _))))).1 (k36_C (Kd.FK_now (Kd.FK_below HFY.out (below_drew (Below.refl _ _))))).2.1 (k36_C (Kd.FK_now (Kd.FK_below HFY.out (below_drew (Below.refl _ _))))).2.2.1 (k36_C (Kd.FK_now (Kd.FK_below HFY.out (below_drew (Below.refl _ _))))).2.2.2).mono ?_
      rintro ex w3 ⟨rfl, hb3⟩
      refine ⟨_, rfl, ?_⟩
      have HB3 := Aside0.mk hb3
      clear hb3
      refine m_ 32 (h := ?_)
      refine p_ 15 33 (bb 17 65535) (h := ?_)
      refine p_ 16 34 (bb 17 131071) (h := ?_)
      refine d_ (h := ?_)
      have HNs3 := Aside0.mk (Kd.N_below (Kd.N_drew HNs.out) HB3.out)
      have HCH3 := Aside0.mk (HCH2.out.drew.below_step HB3.out)
      go_wp2
      go_roundg k1
      case measure => exact Nat.lt_succ_self _
      refine ⟨i + 1, U' ++ [u] ++ x :: V, R', by rw [HWI.out], ⟨HI.out.2.2.2⟩, ⟨by have h := HI.out.2.2.1; have h2 := congrArg List.length HU.out.2.1; simp only [List.length_append, List.length_cons, List.length_nil] at h2 ⊢; omega, ?_, HPM.out (U' ++ [u] ++ x :: V) (by rw [HU.out.2.1]; exact Stb.ins HQ.out HGX.out (fun z hz => HGT.out z (by rw [HU.out.2.1]; exact hz)) HU.out.2.2)⟩, ⟨by simpa using HNs3.out⟩, HCH3⟩
      have hs := HST.out
      rw [HU.out.2.1] at hs
      have hgu : ∀ z ∈ U' ++ [u], G z := fun z hz => HGT.out z (by rw [HU.out.2.1]; exact List.mem_append_left _ hz)
      exact Srt.insert HQ.out hs (Srt.last_le HQ.out (Srt.append_iff.1 hs).1 hgu HGX.out (by have h := HQU.out; omega)) (fun v hv => HQ.out.as x v HGX.out (HGT.out v (by rw [HU.out.2.1]; exact List.mem_append_right _ hv)) (HU.out.2.2 v hv))
end Go.Proofs.Ytobjkjmmkbhecaa.Sk
