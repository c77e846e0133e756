/- Two neighbouring pieces of a row in order, the first one element, are merged. Conditions: those of each theorem. -/
import Derived.Test.YtobjkjmmkbhecaaCore
import Derived.Test.YtobjkjmmkbhecaaME
import Derived.Test.YtobjkjmmkbhecaaHso
import Derived.Test.YtobjkjmmkbhecaaPx0
import Derived.Test.YtobjkjmmkbhecaaSpecA
import Derived.Test.YtobjkjmmkbhecaaHis
namespace Go.Proofs.Ytobjkjmmkbhecaa.Sk
open Go.RowKit Go.Proofs.YtobjkjmmkbhecaaW.PrintWords Go.Proofs.YtobjkjmmkbhecaaW.PrintLast Go.Proofs.YtobjkjmmkbhecaaW.PrintMore Go.Proofs.Ytobjkjmmkbhecaa.Px Go.Proofs.Ytobjkjmmkbhecaa.Sw
set_option linter.unusedVariables false
set_option linter.unusedSimpArgs false
set_option maxHeartbeats 4000000 in
set_option maxRecDepth 100000 in
theorem sym1_calls {w : World} {base n cap : Nat} {ok : Nat → Prop} {ad : Addr} {P A B S : List S36} (hn : Kd.N k36 36 w base ok (.slice (some ad) n cap) (P ++ (A ++ (B ++ S)))) {a m b : Nat} (ha : a = P.length) (hm : m = P.length + A.length) (hb : b = P.length + (A.length + B.length)) (hsz : n ≤ 1000000000000) {G : S36 → Prop} {q : S36 → S36 → Int} (hq : POrd G q) (hGA : ∀ z ∈ A, G z) (hGB : ∀ z ∈ B, G z) (hsA : Srt q A) (hsB : Srt q B) (fid : Nat) (fn : Func) (caps : Array Value) (hf : Try.prog.funcs[fid]? = some fn) (hfn : (fn.name == "runtime.NumGoroutine") = false) (hfb : fn.body.isSome = true) (hsay : Says2 w (fun k => some k = (Value.slice (some ad) n cap).ownBlock) G fid caps q) (hA : A.length = 1) (hB : 0 < B.length) :
  Calls Try.prog 57 #[.slice (some ad) n cap, .int .i64 (a : Int), .int .i64 (m : Int), .int .i64 (b : Int), .func (.func fid) #[] caps] w fun ex w' => ex = .returned (.tuple #[]) ∧ (∃ M', Stb G q M' (A ++ B) ∧ Srt q M' ∧ Kd.N k36 36 w' base ok (.slice (some ad) n cap) (P ++ (M' ++ S))) ∧ Chg w w' (fun k => some k = (Value.slice (some ad) n cap).ownBlock) := by
 have huE := Try.underlying36
 have HN := Aside0.mk hn
 have HMAX := Aside0.mk hsz
 have HLEN := Aside0.mk (show n = P.length + (A.length + (B.length + S.length)) by have := (Kd.N_reads' hn).1; simpa using this)
 obtain ⟨gv, hgv⟩ := N_head hn
 have HAD := Aside0.mk hgv
 have HM := Aside0.mk (show a = P.length ∧ m = P.length + A.length ∧ b = P.length + (A.length + B.length) from ⟨ha, hm, hb⟩)
 have HQ := Aside0.mk hq
 have HGA := Aside0.mk hGA
 have HGB := Aside0.mk hGB
 have HSA := Aside0.mk hsA
 have HSB := Aside0.mk hsB
 have HSAY := Aside0.mk hsay
 have hw1 : wrap64 ((m : Int) - (a : Int)) = 1 := by rw [wrap_in (by omega) (by omega)]; omega
 obtain ⟨x, rfl⟩ : ∃ x, A = [x] := List.length_eq_one_iff.1 hA
 have HMM := Aside0.mk (show m = a + 1 ∧ b = m + B.length ∧ b ≤ n ∧ a = P.length by have h1 := HLEN.out; simp only [List.length_cons, List.length_nil] at h1 hm hb; omega)
 have HGX := Aside0.mk (hGA x (by simp))
 clear hn hgv ha hm hb hsz hGA hGB hsA hsB hsay hq
 clear hA
 go_enter Try.func57, Try.ntmps57
 go_wp2
 go_loopg [10, 11] B.length (fun kq v10 v11 w' => ∃ (i j : Nat) (B1 B2 B3 : List S36), v10 = .int .i64 (i : Int) ∧ v11 = .int .i64 (j : Int) ∧ Aside0 (kq = B2.length) ∧ Aside0 (i = m + B1.length ∧ j = i + B2.length ∧ B = B1 ++ (B2 ++ B3)) ∧ Aside0 ((∀ l z, B1 = l ++ [z] → q z x < 0) ∧ ∀ z l, B3 = z :: l → ¬ q z x < 0) ∧ Aside0 (Kd.N k36 36 w' base ok (.slice (some ad) n cap) (P ++ (x :: (B ++ S)))) ∧ Aside0 (Chg w w' (fun k => some k = (Value.slice (some ad) n cap).ownBlock)))
 case atStart => exact ⟨m, b, [], B, [], rfl, rfl, ⟨rfl⟩, ⟨rfl, HMM.out.2.1, by simp⟩, ⟨fun l z h => by simp at h, fun z l h => by cases h⟩, HN, ⟨Chg.refl _ _⟩⟩
 case round =>
  clear hw1
  obtain ⟨i, j, B1, B2, B3, rfl, rfl, HK, HI, HE, HNr, HCH⟩ := hrel
  cases gk with
  | zero =>
   have hlt : (i < j) = False := eq_false (by have h1 := HI.out; have h2 := HK.out; omega)
   obtain ⟨e, he⟩ : ∃ e, e = a + B1.length := ⟨_, rfl⟩
   have HE0 := Aside0.mk he
   have HB2 := Aside0.mk (show B = B1 ++ B3 by have h1 := HI.out.2.2; rw [List.length_eq_zero_iff.1 HK.out.symm, List.nil_append] at h1; exact h1)
   have HLB := Aside0.mk (show i = e + 1 ∧ e < n by have h1 := HI.out; have h2 := HMM.out; have h4 := congrArg List.length HB2.out; rw [List.length_append] at h4; omega)
   have hw2 : wrap64 ((i : Int) - 1) = (e : Int) := by have h1 := HLB.out; rw [wrap_in (by omega) (by have h3 := HMAX.out; omega)]; omega
   clear he
   go_wp2
   go_loopg [13] B1.length (fun kq v13 w' => ∃ (k : Nat) (L1 L2 : List S36), v13 = .int .i64 (k : Int) ∧ Aside0 (kq = L2.length) ∧ Aside0 (k = a + L1.length ∧ B1 = L1 ++ L2) ∧ Aside0 (Kd.N k36 36 w' base ok (.slice (some ad) n cap) (P ++ (L1 ++ (x :: (L2 ++ (B3 ++ S)))))) ∧ Aside0 (Chg w w' (fun k => some k = (Value.slice (some ad) n cap).ownBlock)))
   case atStart => exact ⟨a, [], B1, rfl, ⟨rfl⟩, ⟨rfl, rfl⟩, ⟨by have h1 := HNr.out; rw [HB2.out] at h1; simpa using h1⟩, HCH⟩
   case round =>
    clear HNr HCH HK
    obtain ⟨k, L1, L2, rfl, HK2, HL, HNs, HCH2⟩ := hrel
    cases gk with
    | zero =>
     have hlt2 : (k < e) = False := eq_false (by have h1 := HL.out; have h2 := HE0.out; have h3 := HK2.out; have h4 := congrArg List.length h1.2; rw [List.length_append] at h4; omega)
     have HL2 := Aside0.mk (show B1 = L1 ∧ L2 = [] by have h3 := List.length_eq_zero_iff.1 HK2.out.symm; exact ⟨by rw [HL.out.2, h3, List.append_nil], h3⟩)
     go_wp2
     refine bodyPost_ret (results_none (by rfl) _ _ _) rfl ?_
     refine ⟨rfl, ⟨B1 ++ x :: B3, ?_, ?_, ?_⟩, HCH2.out⟩
     ·
      rw [HB2.out]
      exact Stb.sym1 HQ.out (by have h := HSB.out; rw [HB2.out] at h; exact h) HGX.out (by have h := HGB.out; rw [HB2.out] at h; exact h) HE.out.1
     ·
      have hs := HSB.out
      rw [HB2.out] at hs
      have hg1 : ∀ z ∈ B1, G z := fun z hz => HGB.out z (by rw [HB2.out]; exact List.mem_append_left _ hz)
      have hg2 : ∀ z ∈ B3, G z := fun z hz => HGB.out z (by rw [HB2.out]; exact List.mem_append_right _ hz)
      have hs2 := Srt.append_iff.1 hs
      refine Srt.insert HQ.out hs ?_ ?_
      ·
       rcases ends B1 with h0 | ⟨l, z, h0⟩
       ·
        intro u hu; rw [h0] at hu; cases hu
       ·
        have h1 := HE.out.1 l z h0
        rw [h0] at hg1 hs2 ⊢
        exact lt_of_last HQ.out hs2.1 hg1 HGX.out h1
      ·
       cases h0 : B3 with
       | nil => intro u hu; cases hu
       | cons z l =>
        have h1 := HE.out.2 z l h0
        rw [h0] at hg2 hs2
        exact Srt.first_le HQ.out hs2.2.1 hg2 HGX.out (by omega)
     ·
      have h1 := HNs.out
      rw [HL2.out.2, ← HL2.out.1] at h1
      simpa using h1
    | succ k2 =>
     obtain ⟨u, L2', rfl⟩ : ∃ u L', L2 = u :: L' := by
      cases L2 with
      | nil => exact absurd HK2.out (by simp)
      | cons u L' => exact ⟨u, L', rfl⟩
     obtain ⟨k1, hk1⟩ : ∃ k1, k1 = k + 1 := ⟨_, rfl⟩
     have Hk36 := Aside0.mk (show k1 = k + 1 ∧ k < e ∧ k < n ∧ k1 < n ∧ k = P.length + L1.length ∧ k2 = L2'.length by have h1 := HL.out; have h2 := HE0.out; have h3 := HK2.out; have h4 := congrArg List.length h1.2; simp only [List.length_append, List.length_cons] at h3 h4; have h5 := HLB.out; have h6 := HMM.out; have h7 := HI.out; omega)
     clear hk1
     have hlt2 : (k < e) = True := eq_true Hk36.out.2.1
     have hkn : (k < n) = True := eq_true Hk36.out.2.2.1
     have hkn1 : (k1 < n) = True := eq_true Hk36.out.2.2.2.1
     have hkw : wrap64 ((k : Int) + 1) = (k1 : Int) := by have h := Hk36.out; rw [wrap_in (by omega) (by have h1 := HMAX.out; omega)]; omega
     have HIX := Aside0.mk (show (P ++ (L1 ++ (x :: (u :: L2' ++ (B3 ++ S)))))[k]? = some x by rw [← List.append_assoc]; exact get_app' (by rw [Hk36.out.2.2.2.2.1, List.length_append]))
     have HIU := Aside0.mk (show (P ++ (L1 ++ (x :: (u :: L2' ++ (B3 ++ S)))))[k1]? = some u by
      have e : P ++ (L1 ++ (x :: (u :: L2' ++ (B3 ++ S)))) = (P ++ (L1 ++ [x])) ++ u :: (L2' ++ (B3 ++ S)) := by simp
      rw [e]; exact get_app' (by rw [Hk36.out.1, Hk36.out.2.2.2.2.1]; simp only [List.length_append, List.length_cons, List.length_nil]; omega))
     have HSET := Aside0.mk (show ((P ++ (L1 ++ (x :: (u :: L2' ++ (B3 ++ S))))).set k u).set k1 x = P ++ (L1 ++ [u] ++ (x :: (L2' ++ (B3 ++ S)))) by
      have e : P ++ (L1 ++ (x :: (u :: L2' ++ (B3 ++ S)))) = (P ++ L1) ++ x :: ([] ++ u :: (L2' ++ (B3 ++ S))) := by simp
      rw [e, swap_app (by rw [Hk36.out.2.2.2.2.1, List.length_append]) (by rw [Hk36.out.1, Hk36.out.2.2.2.2.1, List.length_append]; rfl)]
      simp)
     obtain ⟨X0, c0, X3, c3, hx0, hx1, hx2, hx3, hF_⟩ := at_NE HNs.out k x HIX.out
     have HFX := Aside0.mk hF_
     clear hF_
     obtain ⟨Y0, d0, Y3, d3, hy0, hy1, hy2, hy3, hF_⟩ := at_NE HNs.out k1 u HIU.out
     have HFY := Aside0.mk hF_
     clear hF_
     go_wp2
     refine s_ 18 [15, 17] (fun w' => w'.cell? (ad.add (k * 4)) = some (.slice X0 x.f0.length c0) ∧ w'.cell? ⟨(ad.add (k * 4)).block, (ad.add (k * 4)).off + 1, none⟩ = some (.int .i64 x.f1) ∧ w'.cell? ⟨(ad.add (k * 4)).block, (ad.add (k * 4)).off + 2, none⟩ = some (.bool x.f2) ∧ w'.cell? ⟨(ad.add (k * 4)).block, (ad.add (k * 4)).off + 3, none⟩ = some (.slice X3 x.f3.length c3) ∧ w'.cell? (ad.add (k1 * 4)) = some (.slice Y0 u.f0.length d0) ∧ w'.cell? ⟨(ad.add (k1 * 4)).block, (ad.add (k1 * 4)).off + 1, none⟩ = some (.int .i64 u.f1) ∧ w'.cell? ⟨(ad.add (k1 * 4)).block, (ad.add (k1 * 4)).off + 2, none⟩ = some (.bool u.f2) ∧ w'.cell? ⟨(ad.add (k1 * 4)).block, (ad.add (k1 * 4)).off + 3, none⟩ = some (.slice Y3 u.f3.length d3)) (hS := ⟨hx0, hx1, hx2, hx3, hy0, hy1, hy2, hy3⟩) (h := fun hHeld => ?_)
     refine p_ 0 61 (bb 18 1) (h := ?_)
     refine p_ 1 62 (bb 18 3) (h := ?_)
     refine p_ 2 63 (bb 18 7) (h := ?_)
     refine p_ 3 64 (bb 18 15) (h := ?_)
     refine p_ 4 65 (bb 18 31) (h := ?_)
     refine p_ 5 66 (bb 18 63) (h := ?_)
     refine p_ 6 67 (bb 18 127) (h := ?_)
     refine p_ 7 68 (bb 18 255) (h := ?_)
     refine p_ 8 69 (bb 18 511) (h := ?_)
     refine t_ 9 70 (bb 18 1023) hHeld (h := ?_)
     refine p_ 10 71 (bb 18 2047) (h := ?_)
     refine p_ 11 72 (bb 18 4095) (h := ?_)
     refine p_ 12 73 (bb 18 8191) (h := ?_)
     refine t_ 13 74 (bb 18 16383) hHeld (h := ?_)
     refine p_ 14 75 (bb 18 32767) (h := ?_)
     refine lN_ 15 (bb 18 65535) 36 (.tmp 75) (.tmp 70) (k) HAD.out (Kd.N_drew HNs.out) (by have h1 := Hk36.out; omega) (Kd.FK_below HFY.out (below_drew (Below.refl _ _))) (fun k hk => ⟨hk.1, by have h2 := hk.2; rw [HAD.out] at h2; exact h2⟩) ht_E (one_E u Y0 d0 Y3 d3) (by rfl) (by rfl) (by kernel_rfl) (by decide) (by rfl) rfl (by first | rfl | (simp only [AtIdx]; rfl)) rfl (fun w5 hn5 hg5 => ?_)
     refine p_ 16 76 (bb 18 131071) (h := ?_)
     refine lN_ 17 (bb 18 262143) 36 (.tmp 76) (.tmp 74) (k1) HAD.out hn5 (by have h1 := Hk36.out; omega) (Kd.FK_grown (Kd.FK_below HFX.out (below_drew (Below.refl _ _))) hg5 (fun k hk he => hk.2 (by rw [HAD.out]; injection he))) (fun k hk => ⟨hk.1, by have h2 := hk.2; rw [HAD.out] at h2; exact h2⟩) ht_E (one_E x X0 c0 X3 c3) (by rfl) (by rfl) (by kernel_rfl) (by decide) (by rfl) rfl (by first | rfl | (simp only [AtIdx]; rfl)) rfl (fun w6 hn6 hg6 => ?_)
     refine d_ (h := ?_)
     have HN6 := Aside0.mk hn6
     have HC6 := Aside0.mk (((HCH2.out.drew).grown hg5 (fun k hk => .inl (by rw [HAD.out]; exact hk.symm))).grown hg6 (fun k hk => .inl (by rw [HAD.out]; exact hk.symm)))
     clear hn5 hg5 hn6 hg6 hHeld
     go_wp2
     go_roundg k2
     case measure => exact Nat.lt_succ_self _
     case rel => exact ⟨k1, L1 ++ [u], L2', by rw [hkw], ⟨Hk36.out.2.2.2.2.2⟩, ⟨by have h1 := HL.out.1; have h2 := Hk36.out.1; rw [List.length_append, List.length_cons, List.length_nil]; omega, by rw [HL.out.2]; simp⟩, ⟨HSET.out ▸ HN6.out⟩, HC6⟩
  | succ k1 =>
   obtain ⟨h, hh⟩ : ∃ h, h = (i + j) / 2 := ⟨_, rfl⟩
   have HH := Aside0.mk (show i ≤ h ∧ h < j ∧ i < j ∧ j ≤ n by have h1 := HI.out; have h2 := HK.out; have h3 := congrArg List.length h1.2.2; simp only [List.length_append] at h3; have h4 := HMM.out; omega)
   have hlt : (i < j) = True := eq_true HH.out.2.2.1
   obtain ⟨C1, z, C2, hC, hCl⟩ : ∃ C1 z C2, B2 = C1 ++ z :: C2 ∧ C1.length = h - i := by
    have hl : h - i < B2.length := by have h1 := HI.out; have h2 := HH.out; omega
    exact ⟨B2.take (h - i), B2[h - i], B2.drop (h - i + 1), by rw [List.getElem_cons_drop]; exact (List.take_append_drop _ _).symm, by rw [List.length_take]; omega⟩
   have HC := Aside0.mk hC
   have HCL := Aside0.mk hCl
   have hmid := mid_eq hh (by have h1 := HH.out; have h2 := HMAX.out; omega)
   clear hC hCl hh
   have HHE := Aside0.mk (show h = P.length + 1 + B1.length + C1.length ∧ h < n ∧ a < n ∧ B = B1 ++ (C1 ++ z :: C2 ++ B3) by have h1 := HH.out; have h2 := HI.out; have h3 := HMM.out; have h4 := HCL.out; rw [HC.out] at h2; exact ⟨by omega, by omega, by omega, h2.2.2⟩)
   have HGZ := Aside0.mk (HGB.out z (by rw [HHE.out.2.2.2]; simp))
   have hhn : (h < n) = True := eq_true HHE.out.2.1
   have han : (a < n) = True := eq_true HHE.out.2.2.1
   have HIX := Aside0.mk (show (P ++ (x :: (B ++ S)))[a]? = some x from get_app' HMM.out.2.2.2)
   have HIZ := Aside0.mk (show (P ++ (x :: (B ++ S)))[h]? = some z by
    have e : P ++ (x :: (B ++ S)) = (P ++ x :: (B1 ++ C1)) ++ z :: (C2 ++ (B3 ++ S)) := by rw [HHE.out.2.2.2]; simp
    rw [e]; exact get_app' (by rw [HHE.out.1]; simp only [List.length_append, List.length_cons]; omega))
   have HWH := Aside0.mk (show wrap64 ((h : Int) + 1) = ((h + 1 : Nat) : Int) by have h1 := HHE.out; rw [wrap_in (by omega) (by have h1 := HMAX.out; omega)]; rfl)
   obtain ⟨X0, c0, X3, c3, hx0, hx1, hx2, hx3, hF_⟩ := at_NE HNr.out a x HIX.out
   have HFX := Aside0.mk hF_
   clear hF_
   obtain ⟨Y0, d0, Y3, d3, hy0, hy1, hy2, hy3, hF_⟩ := at_NE HNr.out h z HIZ.out
   have HFY := Aside0.mk hF_
   clear hF_
   by_cases hqz : q z x < 0
   ·
    have hqt : (q z x < 0) = True := eq_true hqz
    have HQZ := Aside0.mk hqz
    clear hqz
    go_wp2
    refine s_ 11 [9] (fun w' => w'.cell? (ad.add (h * 4)) = some (.slice Y0 z.f0.length d0) ∧ w'.cell? ⟨(ad.add (h * 4)).block, (ad.add (h * 4)).off + 1, none⟩ = some (.int .i64 z.f1) ∧ w'.cell? ⟨(ad.add (h * 4)).block, (ad.add (h * 4)).off + 2, none⟩ = some (.bool z.f2) ∧ w'.cell? ⟨(ad.add (h * 4)).block, (ad.add (h * 4)).off + 3, none⟩ = some (.slice Y3 z.f3.length d3) ∧ w'.cell? (ad.add (a * 4)) = some (.slice X0 x.f0.length c0) ∧ w'.cell? ⟨(ad.add (a * 4)).block, (ad.add (a * 4)).off + 1, none⟩ = some (.int .i64 x.f1) ∧ w'.cell? ⟨(ad.add (a * 4)).block, (ad.add (a * 4)).off + 2, none⟩ = some (.bool x.f2) ∧ w'.cell? ⟨(ad.add (a * 4)).block, (ad.add (a * 4)).off + 3, none⟩ = some (.slice X3 x.f3.length c3)) (hS := ⟨hy0, hy1, hy2, hy3, hx0, hx1, hx2, hx3⟩) (h := fun hHeld => ?_)
    refine p_ 0 40 (bb 11 1) (h := ?_)
    refine p_ 1 41 (bb 11 3) (h := ?_)
    refine p_ 2 42 (bb 11 7) (h := ?_)
    refine p_ 3 43 (bb 11 15) (h := ?_)
    refine t_ 4 44 (bb 11 31) hHeld (h := ?_)
    refine p_ 5 45 (bb 11 63) (h := ?_)
    refine p_ 6 46 (bb 11 127) (h := ?_)
    refine p_ 7 47 (bb 11 255) (h := ?_)
    refine t_ 8 48 (bb 11 511) hHeld (h := ?_)
    refine lcv_ 9 49 (bb 11 1023) #[] caps (#[.agg #[.slice Y0 z.f0.length d0, .int .i64 z.f1, .bool z.f2, .slice Y3 z.f3.length d3], .agg #[.slice X0 x.f0.length c0, .int .i64 x.f1, .bool x.f2, .slice X3 x.f3.length c3]] ++ caps) hf hfn hfb rfl rfl (by kernel_rfl) (by decide) (by rfl) rfl rfl (by (try simp only [List.map_toArray, List.map_cons, List.map_nil]); first | done | rfl) ?_
    refine (HSAY.out z x Y0 d0 Y3 d3 X0 c0 X3 c3 _ (HGZ.out) (HGX.out) (HCH.out.drew).kept (k36_C (Kd.FK_now (Kd.FK_below HFY.out (below_drew (Below.refl _ _))))).1 (k36_C (Kd.FK_now (Kd.FK_below HFY.out (below_drew (Below.refl _ _))))).2.1 (k36_C (Kd.FK_now (Kd.FK_below HFY.out (below_drew (Below.refl _ _))))).2.2.1 (k36_C (Kd.FK_now (Kd.FK_below HFY.out (below_drew (Below.refl _ _))))).2.2.2 (k36_C (Kd.FK_now (Kd.FK_below HFX.out (below_drew (Below.refl _ _))))).1 (k36_C (Kd.FK_now (Kd.FK_below HFX.out (below_drew (Below.refl _ _))))).2.1 (k36_C (Kd.FK_now (Kd.FK_below HFX.out (below_drew (Below.refl _ _))))).2.2.1 (k36_C (Kd.FK_now (Kd.FK_below HFX.out (below_drew (Below.refl _ _))))).2.2.2).mono ?_
    rintro ex w3 ⟨rfl, hb3⟩
    refine ⟨_, rfl, ?_⟩
    have HB3 := Aside0.mk hb3
    clear hb3
    refine m_ 49 (h := ?_)
    refine p_ 10 50 (bb 11 2047) (h := ?_)
    refine d_ (h := ?_)
    have HNs3 := Aside0.mk (Kd.N_below (Kd.N_drew HNr.out) HB3.out)
    have HCH3 := Aside0.mk (HCH.out.drew.below_step HB3.out)
    go_wp2
    go_roundg C2.length
    case measure => have h1 := HK.out; rw [HC.out, List.length_append, List.length_cons] at h1; omega
    case rel => exact ⟨h + 1, j, B1 ++ C1 ++ [z], C2, B3, by first | rfl | rw [HWH.out] | rw [hmid, HWH.out], rfl, ⟨rfl⟩, ⟨by have h1 := HHE.out.1; have h2 := HMM.out; simp only [List.length_append, List.length_cons, List.length_nil]; omega, by have h1 := HI.out.2.1; have h2 := HHE.out.1; have h3 := HI.out.1; have h4 := HMM.out; rw [HC.out, List.length_append, List.length_cons] at h1; omega, by rw [HHE.out.2.2.2]; simp⟩, ⟨fun l z' h' => by obtain ⟨_, h2⟩ := List.append_inj' h' rfl; injection h2 with h2; rw [← h2]; exact HQZ.out, HE.out.2⟩, HNs3, HCH3⟩
   ·
    have hqt : (q z x < 0) = False := eq_false hqz
    have HQZ := Aside0.mk (show 0 ≤ q z x by omega)
    clear hqz
    go_wp2
    refine s_ 11 [9] (fun w' => w'.cell? (ad.add (h * 4)) = some (.slice Y0 z.f0.length d0) ∧ w'.cell? ⟨(ad.add (h * 4)).block, (ad.add (h * 4)).off + 1, none⟩ = some (.int .i64 z.f1) ∧ w'.cell? ⟨(ad.add (h * 4)).block, (ad.add (h * 4)).off + 2, none⟩ = some (.bool z.f2) ∧ w'.cell? ⟨(ad.add (h * 4)).block, (ad.add (h * 4)).off + 3, none⟩ = some (.slice Y3 z.f3.length d3) ∧ w'.cell? (ad.add (a * 4)) = some (.slice X0 x.f0.length c0) ∧ w'.cell? ⟨(ad.add (a * 4)).block, (ad.add (a * 4)).off + 1, none⟩ = some (.int .i64 x.f1) ∧ w'.cell? ⟨(ad.add (a * 4)).block, (ad.add (a * 4)).off + 2, none⟩ = some (.bool x.f2) ∧ w'.cell? ⟨(ad.add (a * 4)).block, (ad.add (a * 4)).off + 3, none⟩ = some (.slice X3 x.f3.length c3)) (hS := ⟨hy0, hy1, hy2, hy3, hx0, hx1, hx2, hx3⟩) (h := fun hHeld => ?_)
    refine p_ 0 40 (bb 11 1) (h := ?_)
    refine p_ 1 41 (bb 11 3) (h := ?_)
    refine p_ 2 42 (bb 11 7) (h := ?_)
    refine p_ 3 43 (bb 11 15) (h := ?_)
    refine t_ 4 44 (bb 11 31) hHeld (h := ?_)
    refine p_ 5 45 (bb 11 63) (h := ?_)
    refine p_ 6 46 (bb 11 127) (h := ?_)
    refine p_ 7 47 (bb 11 255) (h := ?_)
    refine t_ 8 48 (bb 11 511) hHeld (h := ?_)
    refine lcv_ 9 49 (bb 11 1023) #[] caps (#[.agg #[.slice Y0 z.f0.length d0, .int .i64 z.f1, .bool z.f2, .slice Y3 z.f3.length d3], .agg #[.slice X0 x.f0.length c0, .int .i64 x.f1, .bool x.f2, .slice X3 x.f3.length c3]] ++ caps) hf hfn hfb rfl rfl (by kernel_rfl) (by decide) (by rfl) rfl rfl (by (try simp only [List.map_toArray, List.map_cons, List.map_nil]); first | done | rfl) ?_
    refine (HSAY.out z x Y0 d0 Y3 d3 X0 c0 X3 c3 _ (HGZ.out) (HGX.out) (HCH.out.drew).kept (k36_C (Kd.FK_now (Kd.FK_below HFY.out (below_drew (Below.refl _ _))))).1 (k36_C (Kd.FK_now (Kd.FK_below HFY.out (below_drew (Below.refl _ _))))).2.1 (k36_C (Kd.FK_now (Kd.FK_below HFY.out (below_drew (Below.refl _ _))))).2.2.1 (k36_C (Kd.FK_now (Kd.FK_below HFY.out (below_drew (Below.refl _ _))))).2.2.2 (k36_C (Kd.FK_now (Kd.FK_below HFX.out (below_drew (Below.refl _ _))))).1 (k36_C (Kd.FK_now (Kd.FK_below HFX.out (below_drew (Below.refl _ _))))).2.1 (k36_C (Kd.FK_now (Kd.FK_below HFX.out (below_drew (Below.refl _ _))))).2.2.1 (k36_C (Kd.FK_now (Kd.FK_below HFX.out (below_drew (Below.refl _ _))))).2.2.2).mono ?_
    rintro ex w3 ⟨rfl, hb3⟩
    refine ⟨_, rfl, ?_⟩
    have HB3 := Aside0.mk hb3
    clear hb3
    refine m_ 49 (h := ?_)
    refine p_ 10 50 (bb 11 2047) (h := ?_)
    refine d_ (h := ?_)
    have HNs3 := Aside0.mk (Kd.N_below (Kd.N_drew HNr.out) HB3.out)
    have HCH3 := Aside0.mk (HCH.out.drew.below_step HB3.out)
    go_wp2
    go_roundg C1.length
    case measure => have h1 := HK.out; rw [HC.out, List.length_append, List.length_cons] at h1; omega
    case rel => exact ⟨i, h, B1, C1, z :: (C2 ++ B3), rfl, by first | rfl | rw [hmid], ⟨rfl⟩, ⟨HI.out.1, by have h1 := HCL.out; have h2 := HH.out; omega, by rw [HHE.out.2.2.2]; simp⟩, ⟨HE.out.1, fun z' l h' => by injection h' with h2; rw [← h2]; have h3 := HQZ.out; omega⟩, HNs3, HCH3⟩
end Go.Proofs.Ytobjkjmmkbhecaa.Sk
