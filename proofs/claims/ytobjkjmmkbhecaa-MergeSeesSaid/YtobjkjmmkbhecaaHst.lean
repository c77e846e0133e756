/- A row is put in order. Conditions: those of each theorem. -/
import Derived.Test.YtobjkjmmkbhecaaCore
import Derived.Test.YtobjkjmmkbhecaaME
import Derived.Test.YtobjkjmmkbhecaaHis
import Derived.Test.YtobjkjmmkbhecaaHso
import Derived.Test.YtobjkjmmkbhecaaHy5
import Derived.Test.YtobjkjmmkbhecaaPx0
import Derived.Test.YtobjkjmmkbhecaaSpecA
namespace Go.Proofs.Ytobjkjmmkbhecaa.Sk
open Go.RowKit Go.Proofs.YtobjkjmmkbhecaaW.PrintWords Go.Proofs.YtobjkjmmkbhecaaW.PrintLast Go.Proofs.YtobjkjmmkbhecaaW.PrintMore Go.Proofs.Ytobjkjmmkbhecaa.Px Go.Proofs.Ytobjkjmmkbhecaa.Sw
set_option linter.unusedVariables false
set_option linter.unusedSimpArgs false
set_option maxHeartbeats 4000000 in
set_option maxRecDepth 100000 in
theorem insert0_calls (w : World) (v fv : Value) : Calls Try.prog 56 #[v, .int .i64 0, .int .i64 0, fv] w fun ex w' => ex = .returned (.tuple #[]) ∧ Below w.heap.size w w' := by
 go_enter Try.func56, Try.ntmps56
 go_wp2
 go_loopg [8] 0 (fun kq v8 w' => v8 = .int .i64 1 ∧ Aside0 (Below w.heap.size w w'))
 case atStart => exact ⟨rfl, ⟨Below.refl _ _⟩⟩
 case round =>
  obtain ⟨rfl, HB⟩ := hrel
  go_wp2
  go_end0
  exact ⟨rfl, HB.out⟩
set_option maxHeartbeats 4000000 in
set_option maxRecDepth 100000 in
theorem stable0_calls (w : World) (v fv : Value) : Calls Try.prog 43 #[v, .int .i64 0, fv] w fun ex w' => ex = .returned (.tuple #[]) ∧ Below w.heap.size w w' := by
 go_enter Try.func43, Try.ntmps43
 go_wp2
 go_loopg [7, 8] 0 (fun kq v7 v8 w' => v7 = .int .i64 0 ∧ v8 = .int .i64 20 ∧ Aside0 (Below w.heap.size w w'))
 case atStart => exact ⟨rfl, rfl, ⟨Below.refl _ _⟩⟩
 case round =>
  obtain ⟨rfl, rfl, HB⟩ := hrel
  go_wp2_with ((with_reducible refine gate_callee (f := 56) rfl ?_); (try (refine gate_guard (by rfl) ?_; dsimp only)); refine goesL_ (some 27) rfl rfl Try.func56 (by kernel_rfl) rfl #[v, .int .i64 0, .int .i64 0, fv] rfl (by (try simp only [List.map_toArray, List.map_cons, List.map_nil]); first | done | rfl) ?_; refine (insert0_calls _ v fv).mono ?_; rintro ex w2 ⟨rfl, hb2⟩; refine ⟨_, rfl, ?_⟩; have n_ := Aside0.mk hb2; clear hb2; have hb2 := n_; clear n_)
  simp only [Act.put, List.setIfInBounds_toArray, List.set_cons_succ, List.set_cons_zero]
  go_loopg [6] 0 (fun kq v6 w' => v6 = .int .i64 20 ∧ Aside0 (Below w.heap.size w w'))
  case atStart => exact ⟨rfl, ⟨below_step HB.out hb2.out⟩⟩
  case round =>
   clear HB hb2
   obtain ⟨rfl, HB⟩ := hrel
   go_wp2
   go_end0
   exact ⟨rfl, HB.out⟩
set_option maxHeartbeats 4000000 in
set_option maxRecDepth 100000 in
theorem stable_calls {w : World} {base n cap : Nat} {ok : Nat → Prop} {ad : Addr} {xs : List S36} (hn : Kd.N k36 36 w base ok (.slice (some ad) n cap) xs) (hsz : n ≤ 1000000000) {G : S36 → Prop} {q : S36 → S36 → Int} (hq : POrd G q) (hG : ∀ z ∈ xs, G z) (fid : Nat) (fn : Func) (caps : Array Value) (hf : Try.prog.funcs[fid]? = some fn) (hfn : (fn.name == "runtime.NumGoroutine") = false) (hfb : fn.body.isSome = true) (hsay : Says2 w (fun k => some k = (Value.slice (some ad) n cap).ownBlock) G fid caps q) :
  Calls Try.prog 43 #[.slice (some ad) n cap, .int .i64 (n : Int), .func (.func fid) #[] caps] w fun ex w' => ex = .returned (.tuple #[]) ∧ (∃ ys, Stb G q ys xs ∧ Srt q ys ∧ Kd.N k36 36 w' base ok (.slice (some ad) n cap) ys) ∧ Chg w w' (fun k => some k = (Value.slice (some ad) n cap).ownBlock) := by
 have HN := Aside0.mk hn
 have HMAX := Aside0.mk hsz
 have HLEN := Aside0.mk (show n = xs.length from (Kd.N_reads' hn).1)
 have HQ := Aside0.mk hq
 have HG := Aside0.mk hG
 have HSAY := Aside0.mk hsay
 clear hn hsz hq hG hsay
 go_enter Try.func43, Try.ntmps43
 go_wp2
 go_loopg [7, 8] n (fun kq v7 v8 w' => ∃ (a b : Nat) (ys : List S36), v7 = .int .i64 (a : Int) ∧ v8 = .int .i64 (b : Int) ∧ Aside0 (kq + a = n) ∧ Aside0 (20 ∣ a ∧ b = a + 20 ∧ Stb G q ys xs ∧ Blk q 20 0 a ys) ∧ Aside0 (Kd.N k36 36 w' base ok (.slice (some ad) n cap) ys) ∧ Aside0 (Chg w w' (fun k => some k = (Value.slice (some ad) n cap).ownBlock)))
 case atStart => exact ⟨0, 20, xs, rfl, rfl, ⟨rfl⟩, ⟨⟨0, rfl⟩, rfl, Stb.refl _, Blk.empty _ _ _⟩, HN, ⟨Chg.refl _ _⟩⟩
 case round =>
  obtain ⟨a, b, ys, rfl, rfl, HK, HI, HNr, HCH⟩ := hrel
  have HLY := Aside0.mk (show ys.length = n by rw [HI.out.2.2.1.length_eq, HLEN.out])
  have HGY := Aside0.mk (stb_good HI.out.2.2.1 HG.out)
  by_cases hbn : b ≤ n
  ·
   have hbt : (b ≤ n) = True := eq_true hbn
   obtain ⟨P, M, S, hys, hP, hM⟩ := parts (l := ys) (a := a) (b := b) (by have h := HI.out.2.1; omega) (by rw [HLY.out]; exact hbn)
   have HP := Aside0.mk (show a = P.length ∧ b = P.length + M.length ∧ M.length = 20 ∧ b ≤ n by have h := HI.out.2.1; omega)
   subst hys
   have HWB := Aside0.mk (wadd (x := b) (y := 20) (z := b + 20) rfl (by have h := HMAX.out; omega))
   have HN1 := Aside0.mk (show Kd.N k36 36 wr base ok (.slice (some ad) n cap) (P ++ (M ++ S)) by have h := HNr.out; rw [List.append_assoc] at h; exact h)
   have HGM := Aside0.mk (show ∀ z ∈ M, G z from fun z hz => HGY.out z (List.mem_append_left _ (List.mem_append_right _ hz)))
   clear hbn hP hM
   go_wp2_with ((with_reducible refine gate_callee (f := 56) rfl ?_); (try (refine gate_guard (by rfl) ?_; dsimp only)); refine goesL_ (some 18) rfl rfl Try.func56 (by kernel_rfl) rfl #[.slice (some ad) n cap, .int .i64 ((a : Int)), .int .i64 ((b : Int)), .func (.func fid) #[] caps] rfl (by (try simp only [List.map_toArray, List.map_cons, List.map_nil]); first | done | rfl) ?_; refine (insert_calls (P := P) (M := M) (S := S) HN1.out HP.out.1 HP.out.2.1 (by have h := HMAX.out; omega) HQ.out HGM.out fid fn caps hf hfn hfb (HSAY.out.kept HCH.out.kept)).mono ?_; rintro ex w2 ⟨rfl, ⟨M2, hp2, hs2, hn2⟩, hc2⟩; refine ⟨_, rfl, ?_⟩; have n_ := Aside0.mk hp2; clear hp2; have hp2 := n_; clear n_; have n_ := Aside0.mk hs2; clear hs2; have hs2 := n_; clear n_; have n_ := Aside0.mk hn2; clear hn2; have hn2 := n_; clear n_; have n_ := Aside0.mk hc2; clear hc2; have hc2 := n_; clear n_)
   go_roundg (n - b)
   case measure => have h1 := HK.out; have h2 := HP.out; omega
   case rel => exact ⟨b, b + 20, P ++ M2 ++ S, rfl, by first | rfl | (rw [← HWB.out]; rfl), ⟨by have h1 := HP.out; omega⟩, ⟨by rw [HI.out.2.1]; exact Nat.dvd_add HI.out.1 (Nat.dvd_refl 20), rfl, stb_mid HI.out.2.2.1 hp2.out, by have h := Blk.more HI.out.2.2.2 HP.out.1.symm HI.out.1 (by omega) hp2.out.length_eq (by rw [HP.out.2.2.1]; exact Nat.le_refl _) hs2.out; rw [HP.out.2.2.1, ← HI.out.2.1] at h; exact h⟩, ⟨by have h := hn2.out; rw [List.append_assoc]; exact h⟩, ⟨HCH.out.trans hc2.out (fun k hk => .inl hk)⟩⟩
  ·
   have hbt : (b ≤ n) = False := eq_false hbn
   obtain ⟨P, M, S, hys, hP, hM⟩ := parts (l := ys) (a := a) (b := n) (by have h := HK.out; omega) (Nat.le_of_eq HLY.out.symm)
   have HP := Aside0.mk (show a = P.length ∧ n = P.length + M.length ∧ M.length ≤ 20 ∧ S = [] by
    have h := HI.out.2.1; have h2 := HK.out; have h3 := HLY.out
    rw [hys] at h3; simp only [List.length_append] at h3
    exact ⟨by omega, by omega, by omega, List.length_eq_zero_iff.1 (by omega)⟩)
   subst hys
   have HN1 := Aside0.mk (show Kd.N k36 36 wr base ok (.slice (some ad) n cap) (P ++ (M ++ S)) by have h := HNr.out; rw [List.append_assoc] at h; exact h)
   have HGM := Aside0.mk (show ∀ z ∈ M, G z from fun z hz => HGY.out z (List.mem_append_left _ (List.mem_append_right _ hz)))
   clear hbn hP hM
   go_wp2_with ((with_reducible refine gate_callee (f := 56) rfl ?_); (try (refine gate_guard (by rfl) ?_; dsimp only)); refine goesL_ (some 27) rfl rfl Try.func56 (by kernel_rfl) rfl #[.slice (some ad) n cap, .int .i64 ((a : Int)), .int .i64 ((n : Int)), .func (.func fid) #[] caps] rfl (by (try simp only [List.map_toArray, List.map_cons, List.map_nil]); first | done | rfl) ?_; refine (insert_calls (P := P) (M := M) (S := S) HN1.out HP.out.1 HP.out.2.1 (by have h := HMAX.out; omega) HQ.out HGM.out fid fn caps hf hfn hfb (HSAY.out.kept HCH.out.kept)).mono ?_; rintro ex w2 ⟨rfl, ⟨M2, hp2, hs2, hn2⟩, hc2⟩; refine ⟨_, rfl, ?_⟩; have n_ := Aside0.mk hp2; clear hp2; have hp2 := n_; clear n_; have n_ := Aside0.mk hs2; clear hs2; have hs2 := n_; clear n_; have n_ := Aside0.mk hn2; clear hn2; have hn2 := n_; clear n_; have n_ := Aside0.mk hc2; clear hc2; have hc2 := n_; clear n_)
   have HST := Aside0.mk (show Stb G q (P ++ M2 ++ S) xs ∧ Blk q 20 0 n (P ++ M2 ++ S) from ⟨stb_mid HI.out.2.2.1 hp2.out, by have h := Blk.more HI.out.2.2.2 HP.out.1.symm HI.out.1 (by omega) hp2.out.length_eq HP.out.2.2.1 hs2.out; rw [HP.out.1, ← HP.out.2.1] at h; exact h⟩)
   have HN2 := Aside0.mk (show Kd.N k36 36 w2 base ok (.slice (some ad) n cap) (P ++ M2 ++ S) by have h := hn2.out; rw [List.append_assoc]; exact h)
   have HCH2 := Aside0.mk (HCH.out.trans hc2.out (fun k hk => .inl hk))
   generalize P ++ M2 ++ S = ys at HST HN2
   clear HN1 HNr HCH hn2 hc2 hp2 hs2 HP HGM HGY HLY HI HK
   simp only [Act.put, List.setIfInBounds_toArray, List.set_cons_succ, List.set_cons_zero]
   go_loopg [6] (n - 20) (fun kq v6 w' => ∃ (s : Nat) (ys : List S36), v6 = .int .i64 (s : Int) ∧ Aside0 (kq = n - s) ∧ Aside0 (0 < s ∧ s ≤ 4000000000 ∧ Stb G q ys xs ∧ Blk q s 0 n ys) ∧ Aside0 (Kd.N k36 36 w' base ok (.slice (some ad) n cap) ys) ∧ Aside0 (Chg w w' (fun k => some k = (Value.slice (some ad) n cap).ownBlock)))
   case atStart => exact ⟨20, ys, rfl, ⟨rfl⟩, ⟨by omega, by omega, HST.out.1, HST.out.2⟩, HN2, HCH2⟩
   case round =>
    clear HST HN2 HCH2
    obtain ⟨s, ys, rfl, HK, HI, HNr, HCH⟩ := hrel
    have HLY := Aside0.mk (show ys.length = n by rw [HI.out.2.2.1.length_eq, HLEN.out])
    by_cases hsn : s < n
    ·
     have hst : (s < n) = True := eq_true hsn
     obtain ⟨s2, hs2⟩ : ∃ s2, s2 = 2 * s := ⟨_, rfl⟩
     have HS2 := Aside0.mk (show s2 = 2 * s ∧ s < n ∧ 0 < s2 ∧ n ≤ 1000000000 by have h1 := HI.out; have h2 := HMAX.out; omega)
     have hm2 : wrap64 (2 * (s : Int)) = (s2 : Int) := by have h := HS2.out; rw [wrap_in (by omega) (by omega)]; omega
     have hm3 : wrap64 ((s : Int) * 2) = (s2 : Int) := by have h := HS2.out; rw [wrap_in (by omega) (by omega)]; omega
     clear hsn hs2
     go_wp2
     simp only [hm2]
     go_loopg [7, 8] n (fun kq v7 v8 w' => ∃ (a b : Nat) (zs : List S36), v7 = .int .i64 (a : Int) ∧ v8 = .int .i64 (b : Int) ∧ Aside0 (kq + a = n) ∧ Aside0 (s2 ∣ a ∧ b = a + s2 ∧ Stb G q zs xs ∧ Blk q s2 0 a zs ∧ Blk q s a n zs) ∧ Aside0 (Kd.N k36 36 w' base ok (.slice (some ad) n cap) zs) ∧ Aside0 (Chg w w' (fun k => some k = (Value.slice (some ad) n cap).ownBlock)))
     case atStart => exact ⟨0, s2, ys, rfl, rfl, ⟨rfl⟩, ⟨⟨0, rfl⟩, by omega, HI.out.2.2.1, Blk.empty _ _ _, HI.out.2.2.2⟩, HNr, HCH⟩
     case round =>
      clear HNr HCH HLY
      obtain ⟨a, b, zs, rfl, rfl, HK2, HJ, HNr, HCH⟩ := hrel
      have HLY := Aside0.mk (show zs.length = n by rw [HJ.out.2.2.1.length_eq, HLEN.out])
      have HGY := Aside0.mk (stb_good HJ.out.2.2.1 HG.out)
      obtain ⟨c, hc⟩ := HJ.out.1
      have HC := Aside0.mk (show a = s * (2 * c) by have h := HS2.out.1; rw [hc, h, Nat.mul_assoc, Nat.mul_left_comm])
      have HDV := Aside0.mk (show (∀ i, a ≤ i → i < a + s → i / s = 2 * c) ∧ (∀ i, a + s ≤ i → i < a + s2 → i / s = 2 * c + 1) by
       have h0 := HI.out.1; have h1 := HC.out; have h2 := HS2.out.1
       refine ⟨fun i hi hi2 => ?_, fun i hi hi2 => ?_⟩
       ·
        rw [Nat.div_eq_iff h0]; rw [Nat.mul_comm] at h1; omega
       ·
        rw [Nat.div_eq_iff h0]; rw [Nat.mul_comm] at h1; rw [Nat.add_mul]; omega)
      clear hc
      obtain ⟨m, hm⟩ : ∃ m, a + s = m := ⟨_, rfl⟩
      have HM := Aside0.mk hm
      have HMW := Aside0.mk (wadd hm (by have h := HK2.out; have h2 := HS2.out; omega))
      clear hm
      by_cases hbn : b ≤ n
      ·
       have hbt : (b ≤ n) = True := eq_true hbn
       obtain ⟨P, M, S, hys, hP, hM⟩ := parts (l := zs) (a := a) (b := b) (by have h := HJ.out.2.1; omega) (by rw [HLY.out]; exact hbn)
       obtain ⟨A, B, hAB, hA⟩ : ∃ A B, M = A ++ B ∧ A.length = s := ⟨M.take s, M.drop s, (List.take_append_drop _ _).symm, by rw [List.length_take]; have h := HJ.out.2.1; have h2 := HS2.out; omega⟩
       have HP := Aside0.mk (show a = P.length ∧ m = P.length + A.length ∧ b = P.length + (A.length + B.length) ∧ A.length = s ∧ B.length = s ∧ b ≤ n ∧ M.length = s2 ∧ M = A ++ B by
        have h := HJ.out.2.1; have h2 := HS2.out; have h3 := HM.out; have h4 := congrArg List.length hAB; rw [List.length_append] at h4; refine ⟨by omega, by omega, by omega, by omega, by omega, hbn, by omega, hAB⟩)
       have HYS := Aside0.mk (show zs = P ++ M ++ S from hys)
       have HN1 := Aside0.mk (show Kd.N k36 36 wr base ok (.slice (some ad) n cap) (P ++ (A ++ (B ++ S))) by have h := HNr.out; rw [hys, hAB] at h; simp only [List.append_assoc] at h; exact h)
       have HGA := Aside0.mk (show (∀ z ∈ A, G z) ∧ ∀ z ∈ B, G z from ⟨fun z hz => HGY.out z (by rw [hys, hAB]; simp [hz]), fun z hz => HGY.out z (by rw [hys, hAB]; simp [hz])⟩)
       have HSS := Aside0.mk (show Srt q A ∧ Srt q B by
        have h := HJ.out.2.2.2.2; have h2 := HP.out; have h3 := HDV.out; have h4 := HS2.out.1
        rw [hys, hAB] at h
        refine ⟨Blk.seg (P := P) (M := A) (S := B ++ S) (by simpa using h) (by omega) (by omega) (2 * c) (fun i h5 h6 => h3.1 i (by omega) (by omega)), Blk.seg (P := P ++ A) (M := B) (S := S) (by simpa using h) (by rw [List.length_append]; omega) (by rw [List.length_append]; omega) (2 * c + 1) (fun i h5 h6 => h3.2 i (by rw [List.length_append] at h5; omega) (by rw [List.length_append] at h6; omega))⟩)
       clear hys hP hM hAB hA hbn
       have hmw := HMW.out
       have HWB := Aside0.mk (wadd (x := b) (y := s2) (z := b + s2) rfl (by have h := HP.out; have h2 := HS2.out; omega))
       go_wp2_with ((with_reducible refine gate_callee (f := 57) rfl ?_); (try (refine gate_guard (by rfl) ?_; dsimp only)); refine goesL_ (some 43) rfl rfl Try.func57 (by kernel_rfl) rfl #[.slice (some ad) n cap, .int .i64 ((a : Int)), .int .i64 (wrap64 ((a : Int) + (s : Int))), .int .i64 ((b : Int)), .func (.func fid) #[] caps] rfl (by (try simp only [List.map_toArray, List.map_cons, List.map_nil]); first | done | rfl) ?_; rw [hmw]; refine (sym_calls (by have h := HMAX.out; omega) HQ.out fid fn caps hf hfn hfb _ _ P A B S a m b (Nat.le_refl _) (by have h := HP.out; have h2 := HI.out.1; omega) (by have h := HP.out; have h2 := HI.out.1; omega) HN1.out HP.out.1 HP.out.2.1 HP.out.2.2.1 HGA.out.1 HGA.out.2 HSS.out.1 HSS.out.2 (HSAY.out.kept HCH.out.kept)).mono ?_; rintro ex w2 ⟨rfl, ⟨M2, hp2, hs2, hn2⟩, hc2⟩; refine ⟨_, rfl, ?_⟩; have n_ := Aside0.mk hp2; clear hp2; have hp2 := n_; clear n_; have n_ := Aside0.mk hs2; clear hs2; have hs2 := n_; clear n_; have n_ := Aside0.mk hn2; clear hn2; have hn2 := n_; clear n_; have n_ := Aside0.mk hc2; clear hc2; have hc2 := n_; clear n_)
       go_roundg (n - b)
       case measure => have h1 := HK2.out; have h2 := HP.out; have h3 := HS2.out; have h4 := HJ.out.2.1; omega
       case rel => exact ⟨b, b + s2, P ++ M2 ++ S, rfl, by first | rfl | rw [hm2, HWB.out] | rw [HWB.out], ⟨by have h1 := HP.out; omega⟩, ⟨by rw [HJ.out.2.1]; exact Nat.dvd_add HJ.out.1 (Nat.dvd_refl s2), rfl, stb_mid (M := M) (by rw [← HYS.out]; exact HJ.out.2.2.1) (by rw [HP.out.2.2.2.2.2.2.2]; exact hp2.out), by
        have h := Blk.more (P := P) (M := M) (M' := M2) (S := S) (by rw [← HYS.out]; exact HJ.out.2.2.2.1) HP.out.1.symm HJ.out.1 HS2.out.2.2.1 (by rw [hp2.out.length_eq, HP.out.2.2.2.2.2.2.2]) (by rw [HP.out.2.2.2.2.2.2.1]; exact Nat.le_refl _) hs2.out
        rw [HP.out.2.2.2.2.2.2.1, ← HJ.out.2.1] at h; exact h, (Blk.rest (P := P) (M := M) (M' := M2) (S := S) (lo := b) (by rw [← HYS.out]; exact Blk.weak HJ.out.2.2.2.2 (by have h := HJ.out.2.1; omega) (Nat.le_refl _)) (by rw [hp2.out.length_eq, HP.out.2.2.2.2.2.2.2]) (by have h := HP.out; have h2 := HJ.out.2.1; omega))⟩, ⟨by have h := hn2.out; rw [List.append_assoc]; exact h⟩, ⟨HCH.out.trans hc2.out (fun k hk => .inl hk)⟩⟩
      ·
       have hbt : (b ≤ n) = False := eq_false hbn
       by_cases hmn : m < n
       ·
        have hmt : (m < n) = True := eq_true hmn
        have hmw := HMW.out
        obtain ⟨P, M, S, hys, hP, hM⟩ := parts (l := zs) (a := a) (b := n) (by have h := HK2.out; omega) (Nat.le_of_eq HLY.out.symm)
        obtain ⟨A, B, hAB, hA⟩ : ∃ A B, M = A ++ B ∧ A.length = s := ⟨M.take s, M.drop s, (List.take_append_drop _ _).symm, by rw [List.length_take]; have h := HM.out; omega⟩
        have HP := Aside0.mk (show a = P.length ∧ m = P.length + A.length ∧ n = P.length + (A.length + B.length) ∧ A.length = s ∧ 0 < B.length ∧ B.length ≤ s ∧ M = A ++ B ∧ S = [] ∧ M.length = n - a ∧ a ≤ n ∧ M.length ≤ s2 by
         have h := HJ.out.2.1; have h2 := HS2.out; have h3 := HM.out; have h4 := congrArg List.length hAB; have h5 := HLY.out; have h6 := HK2.out; rw [hys] at h5; simp only [List.length_append] at h4 h5; refine ⟨by omega, by omega, by omega, by omega, by omega, by omega, hAB, List.length_eq_zero_iff.1 (by omega), by omega, by omega, by omega⟩)
        have HYS := Aside0.mk (show zs = P ++ M ++ S from hys)
        have HN1 := Aside0.mk (show Kd.N k36 36 wr base ok (.slice (some ad) n cap) (P ++ (A ++ (B ++ S))) by have h := HNr.out; rw [hys, hAB] at h; simp only [List.append_assoc] at h; exact h)
        have HGA := Aside0.mk (show (∀ z ∈ A, G z) ∧ ∀ z ∈ B, G z from ⟨fun z hz => HGY.out z (by rw [hys, hAB]; simp [hz]), fun z hz => HGY.out z (by rw [hys, hAB]; simp [hz])⟩)
        have HSS := Aside0.mk (show Srt q A ∧ Srt q B by
         have h := HJ.out.2.2.2.2; have h2 := HP.out; have h3 := HDV.out; have h4 := HS2.out.1
         rw [hys, hAB] at h
         refine ⟨Blk.seg (P := P) (M := A) (S := B ++ S) (by simpa using h) (by omega) (by omega) (2 * c) (fun i h5 h6 => h3.1 i (by omega) (by omega)), Blk.seg (P := P ++ A) (M := B) (S := S) (by simpa using h) (by rw [List.length_append]; omega) (by rw [List.length_append]; omega) (2 * c + 1) (fun i h5 h6 => h3.2 i (by rw [List.length_append] at h5; omega) (by rw [List.length_append] at h6; omega))⟩)
        clear hys hP hM hAB hA hbn hmn
        go_wp2_with (first
         | ((with_reducible refine gate_callee (f := 57) rfl ?_); (try (refine gate_guard (by rfl) ?_; dsimp only)); refine goesL_ (some 60) rfl rfl Try.func57 (by kernel_rfl) rfl #[.slice (some ad) n cap, .int .i64 ((a : Int)), .int .i64 ((m : Int)), .int .i64 ((n : Int)), .func (.func fid) #[] caps] rfl (by (try simp only [List.map_toArray, List.map_cons, List.map_nil]); first | done | rfl) ?_; refine (sym_calls (by have h := HMAX.out; omega) HQ.out fid fn caps hf hfn hfb _ _ P A B S a m n (Nat.le_refl _) (by have h := HP.out; have h2 := HI.out.1; omega) (by have h := HP.out; have h2 := HI.out.1; omega) HN1.out HP.out.1 HP.out.2.1 HP.out.2.2.1 HGA.out.1 HGA.out.2 HSS.out.1 HSS.out.2 (HSAY.out.kept HCH.out.kept)).mono ?_; rintro ex w2 ⟨rfl, ⟨M2, hp2, hs2, hn2⟩, hc2⟩; refine ⟨_, rfl, ?_⟩; have n_ := Aside0.mk hp2; clear hp2; have hp2 := n_; clear n_; have n_ := Aside0.mk hs2; clear hs2; have hs2 := n_; clear n_; have n_ := Aside0.mk hn2; clear hn2; have hn2 := n_; clear n_; have n_ := Aside0.mk hc2; clear hc2; have hc2 := n_; clear n_)
         | ((with_reducible refine gate_callee (f := 57) rfl ?_); (try (refine gate_guard (by rfl) ?_; dsimp only)); refine goesL_ (some 60) rfl rfl Try.func57 (by kernel_rfl) rfl #[.slice (some ad) n cap, .int .i64 ((a : Int)), .int .i64 (wrap64 ((a : Int) + (s : Int))), .int .i64 ((n : Int)), .func (.func fid) #[] caps] rfl (by (try simp only [List.map_toArray, List.map_cons, List.map_nil]); first | done | rfl) ?_; rw [hmw]; refine (sym_calls (by have h := HMAX.out; omega) HQ.out fid fn caps hf hfn hfb _ _ P A B S a m n (Nat.le_refl _) (by have h := HP.out; have h2 := HI.out.1; omega) (by have h := HP.out; have h2 := HI.out.1; omega) HN1.out HP.out.1 HP.out.2.1 HP.out.2.2.1 HGA.out.1 HGA.out.2 HSS.out.1 HSS.out.2 (HSAY.out.kept HCH.out.kept)).mono ?_; rintro ex w2 ⟨rfl, ⟨M2, hp2, hs2, hn2⟩, hc2⟩; refine ⟨_, rfl, ?_⟩; have n_ := Aside0.mk hp2; clear hp2; have hp2 := n_; clear n_; have n_ := Aside0.mk hs2; clear hs2; have hs2 := n_; clear n_; have n_ := Aside0.mk hn2; clear hn2; have hn2 := n_; clear n_; have n_ := Aside0.mk hc2; clear hc2; have hc2 := n_; clear n_))
        go_roundg (n - s2)
        case measure => have h1 := HK.out; have h2 := HS2.out; have h3 := HI.out.1; omega
        case rel => exact ⟨s2, P ++ M2 ++ S, by first | rfl | rw [hm3], ⟨rfl⟩, ⟨HS2.out.2.2.1, by have h := HS2.out; omega, stb_mid (M := M) (by rw [← HYS.out]; exact HJ.out.2.2.1) (by rw [HP.out.2.2.2.2.2.2.1]; exact hp2.out), by
         have h := Blk.more (P := P) (M := M) (M' := M2) (S := S) (by rw [← HYS.out]; exact HJ.out.2.2.2.1) HP.out.1.symm HJ.out.1 HS2.out.2.2.1 (by rw [hp2.out.length_eq, HP.out.2.2.2.2.2.2.1]) HP.out.2.2.2.2.2.2.2.2.2.2 hs2.out
         have e : a + M.length = n := by have h2 := HP.out; omega
         rw [e] at h; exact h⟩, ⟨by have h := hn2.out; rw [List.append_assoc]; exact h⟩, ⟨HCH.out.trans hc2.out (fun k hk => .inl hk)⟩⟩
       ·
        have hmt : (m < n) = False := eq_false hmn
        have hmw := HMW.out
        obtain ⟨P, M, S, hys, hP, hM⟩ := parts (l := zs) (a := a) (b := n) (by have h := HK2.out; omega) (Nat.le_of_eq HLY.out.symm)
        have HP := Aside0.mk (show a = P.length ∧ a + M.length = n ∧ M.length ≤ s by have h3 := HM.out; have h6 := HK2.out; omega)
        have HYS := Aside0.mk (show zs = P ++ M ++ S from hys)
        have HSS := Aside0.mk (show Srt q M by
         have h := HJ.out.2.2.2.2; have h2 := HP.out; have h3 := HDV.out
         rw [hys] at h
         exact Blk.seg (P := P) (M := M) (S := S) h (by omega) (by omega) (2 * c) (fun i h5 h6 => h3.1 i (by omega) (by omega)))
        clear hys hP hM hbn hmn
        go_wp2
        go_roundg (n - s2)
        case measure => have h1 := HK.out; have h2 := HS2.out; have h3 := HI.out.1; omega
        case rel => exact ⟨s2, zs, by first | rfl | rw [hm3], ⟨rfl⟩, ⟨HS2.out.2.2.1, by have h := HS2.out; omega, HJ.out.2.2.1, by
         have h := Blk.more (P := P) (M := M) (M' := M) (S := S) (by rw [← HYS.out]; exact HJ.out.2.2.2.1) HP.out.1.symm HJ.out.1 HS2.out.2.2.1 rfl (by have h1 := HP.out; have h2 := HS2.out; omega) HSS.out
         rw [HP.out.2.1, ← HYS.out] at h; exact h⟩, HNr, HCH⟩
    ·
     have hst : (s < n) = False := eq_false hsn
     have hse : n ≤ s := by omega
     have HSE := Aside0.mk hse
     clear hsn hse
     go_wp2
     go_end0
     exact ⟨rfl, ⟨ys, HI.out.2.2.1, Blk.all (by rw [HLY.out]; exact HI.out.2.2.2) (by rw [HLY.out]; exact HSE.out), HNr.out⟩, HCH.out⟩
set_option maxHeartbeats 4000000 in
set_option maxRecDepth 100000 in
theorem sort_calls {w : World} {base : Nat} {ok : Nat → Prop} {v : Value} {xs : List S36} (hn : Kd.N k36 36 w base ok v xs) (hsz : xs.length ≤ 1000000000) {G : S36 → Prop} {q : S36 → S36 → Int} (hq : POrd G q) (hG : ∀ z ∈ xs, G z) (fid : Nat) (fn : Func) (caps : Array Value) (hf : Try.prog.funcs[fid]? = some fn) (hfn : (fn.name == "runtime.NumGoroutine") = false) (hfb : fn.body.isSome = true) (hsay : Says2 w (fun k => some k = v.ownBlock) G fid caps q) :
  Calls Try.prog 27 #[v, .func (.func fid) #[] caps] w fun ex w' => ex = .returned (.tuple #[]) ∧ (∃ ys, Stb G q ys xs ∧ Srt q ys ∧ Kd.N k36 36 w' base ok v ys) ∧ Chg w w' (fun k => some k = v.ownBlock) := by
 obtain ⟨A, c, rfl⟩ := Kd.N_slice hn
 cases A with
 | none =>
  have he : xs = [] := by
   have h2 := (Kd.N_reads' hn).2.2
   rcases Nat.eq_zero_or_pos xs.length with h3 | h3
   ·
    exact List.eq_nil_of_length_eq_zero h3
   ·
    obtain ⟨a, ha, _⟩ := h2.2.2 h3
    cases ha
  subst he
  have HN := Aside0.mk hn
  clear hn hG hsay
  go_enter Try.func27, Try.ntmps27
  go_wp2_with ((with_reducible refine gate_callee (f := 43) rfl ?_); (try (refine gate_guard (by rfl) ?_; dsimp only)); refine goesL_ (some 8) rfl rfl Try.func43 (by kernel_rfl) rfl #[.slice none ([] : List S36).length c, .int .i64 0, .func (.func fid) #[] caps] rfl (by (try simp only [List.map_toArray, List.map_cons, List.map_nil]); first | done | rfl) ?_; refine (stable0_calls _ _ _).mono ?_; rintro ex w2 ⟨rfl, hb2⟩; refine ⟨_, rfl, ?_⟩; have n_ := Aside0.mk hb2; clear hb2; have hb2 := n_; clear n_)
  go_end0
  exact ⟨rfl, ⟨[], Stb.refl _, Srt.nil, Kd.N_below HN.out hb2.out⟩, Chg.of_below hb2.out _⟩
 | some ad =>
  have HN := Aside0.mk hn
  have HG := Aside0.mk hG
  have HSAY := Aside0.mk hsay
  have HQ := Aside0.mk hq
  clear hn hG hsay hq
  go_enter Try.func27, Try.ntmps27
  go_wp2_with ((with_reducible refine gate_callee (f := 43) rfl ?_); (try (refine gate_guard (by rfl) ?_; dsimp only)); refine goesL_ (some 8) rfl rfl Try.func43 (by kernel_rfl) rfl #[.slice (some ad) xs.length c, .int .i64 (xs.length : Int), .func (.func fid) #[] caps] rfl (by (try simp only [List.map_toArray, List.map_cons, List.map_nil]); first | done | rfl) ?_; refine (stable_calls HN.out hsz HQ.out HG.out fid fn caps hf hfn hfb HSAY.out).mono ?_; rintro ex w2 ⟨rfl, hy2, hc2⟩; refine ⟨_, rfl, ?_⟩; have n_ := Aside0.mk hy2; clear hy2; have hy2 := n_; clear n_; have n_ := Aside0.mk hc2; clear hc2; have hc2 := n_; clear n_)
  go_end0
  exact ⟨rfl, hy2.out, hc2.out⟩
end Go.Proofs.Ytobjkjmmkbhecaa.Sk
