/- Two pieces of a row of the same length change places. Conditions: those of each theorem. -/
import Derived.Test.YthpklhkibcenoaaCore
import Derived.Test.YthpklhkibcenoaaHe
import Derived.Test.YthpklhkibcenoaaHso
import Derived.Test.YthpklhkibcenoaaHw
import Derived.Test.YthpklhkibcenoaaHz
import Derived.Test.YthpklhkibcenoaaPx0
namespace Go.Proofs.Ythpklhkibcenoaa.Sk
open Go.RowKit Go.Proofs.YthpklhkibcenoaaW.PrintWords Go.Proofs.YthpklhkibcenoaaW.PrintLast Go.Proofs.YthpklhkibcenoaaW.PrintMore Go.Proofs.Ythpklhkibcenoaa.Px Go.Proofs.Ythpklhkibcenoaa.Sw
set_option linter.unusedVariables false
set_option linter.unusedSimpArgs false
set_option maxHeartbeats 4000000 in
set_option maxRecDepth 100000 in
theorem swapR_calls {w : World} {base n cap : Nat} {ok : Nat → Prop} {ad : Addr} {P A M B S : List S57} (hn : Kd.N k57 57 w base ok (.slice (some ad) n cap) (P ++ (A ++ (M ++ (B ++ S))))) {a b m : Nat} (ha : a = P.length) (hb : b = P.length + (A.length + M.length)) (hm : m = A.length) (hm2 : m = B.length) (fv : Value) :
  Calls Try.prog 73 #[.slice (some ad) n cap, .int .i64 (a : Int), .int .i64 (b : Int), .int .i64 (m : Int), fv] w fun ex w' => ex = .returned (.tuple #[]) ∧ Kd.N k57 57 w' base ok (.slice (some ad) n cap) (P ++ (B ++ (M ++ (A ++ S)))) ∧ Chg w w' (fun k => some k = (Value.slice (some ad) n cap).ownBlock) := by
 have huE := Try.underlying57
 have HN := Aside0.mk hn
 have HMAX := Aside0.mk (show n ≤ 9223372036854775807 by rw [(Kd.N_reads' hn).1]; exact Kd.C_max (Kd.N_reads' hn).2.2)
 have HLEN := Aside0.mk (show n = P.length + (A.length + (M.length + (B.length + S.length))) by have := (Kd.N_reads' hn).1; simpa using this)
 obtain ⟨gv, hgv⟩ := N_head hn
 have HAD := Aside0.mk hgv
 have HA := Aside0.mk ha
 have HB := Aside0.mk hb
 have HM := Aside0.mk hm
 have HM2 := Aside0.mk hm2
 clear hn hgv ha hb hm hm2
 go_enter Try.func73, Try.ntmps73
 go_wp2
 go_loopg [10] m (fun kq v10 w' => ∃ A1 A2 B1 B2 : List S57, v10 = .int .i64 (A1.length : Int) ∧ Aside0 (kq = A2.length) ∧ Aside0 (A = A1 ++ A2 ∧ B = B1 ++ B2 ∧ B1.length = A1.length ∧ B2.length = A2.length) ∧ Aside0 (Kd.N k57 57 w' base ok (.slice (some ad) n cap) (P ++ (B1 ++ (A2 ++ (M ++ (A1 ++ (B2 ++ S))))))) ∧ Aside0 (Chg w w' (fun k => some k = (Value.slice (some ad) n cap).ownBlock)))
 case atStart => exact ⟨[], A, [], B, rfl, HM, ⟨rfl, rfl, rfl, HM2.out.symm.trans HM.out⟩, ⟨HN.out⟩, ⟨Chg.refl _ _⟩⟩
 case round =>
  obtain ⟨A1, A2, B1, B2, rfl, HK, HP, HNr, HCH⟩ := hrel
  cases gk with
  | zero =>
   have hlt : (A1.length < m) = False := eq_false (by have h1 := HK.out; have h2 := HM.out; rw [HP.out.1] at h2; simp only [List.length_append] at h2; omega)
   have HE := Aside0.mk (show P ++ (B1 ++ (A2 ++ (M ++ (A1 ++ (B2 ++ S))))) = P ++ (B ++ (M ++ (A ++ S))) by
    obtain ⟨h1, h2, h3, h4⟩ := HP.out
    have h5 : A2 = [] := List.length_eq_zero_iff.1 HK.out.symm
    have h6 : B2 = [] := List.length_eq_zero_iff.1 (by rw [h4]; exact HK.out.symm)
    rw [h1, h2, h5, h6]; simp)
   go_wp2
   go_end0
   exact ⟨rfl, HE.out ▸ HNr.out, HCH.out⟩
  | succ k1 =>
   obtain ⟨x, A2', rfl⟩ : ∃ x A', A2 = x :: A' := by
    cases A2 with
    | nil => exact absurd HK.out (by simp)
    | cons x A' => exact ⟨x, A', rfl⟩
   obtain ⟨y, B2', rfl⟩ : ∃ y B', B2 = y :: B' := by
    cases B2 with
    | nil => exact absurd HP.out.2.2.2 (by simp)
    | cons y B' => exact ⟨y, B', rfl⟩
   have HQ := Aside0.mk (show A.length = A1.length + (A2'.length + 1) ∧ B.length = A1.length + (A2'.length + 1) ∧ B1.length = A1.length ∧ B2'.length = A2'.length by
    obtain ⟨h1, h2, h3, h4⟩ := HP.out
    rw [h1, h2]; simp only [List.length_append, List.length_cons] at h4 ⊢; exact ⟨trivial, by omega, h3, by omega⟩)
   have hlt : (A1.length < m) = True := eq_true (by have h1 := HM.out; have h2 := HQ.out.1; omega)
   obtain ⟨ia, hia⟩ : ∃ i, i = a + A1.length := ⟨_, rfl⟩
   obtain ⟨ib, hib⟩ : ∃ i, i = b + A1.length := ⟨_, rfl⟩
   have HIA := Aside0.mk hia
   have HIB := Aside0.mk hib
   clear hia hib
   have HIX := Aside0.mk (show (P ++ (B1 ++ (x :: A2' ++ (M ++ (A1 ++ (y :: B2' ++ S))))))[ia]? = some x by
    have e : P ++ (B1 ++ (x :: A2' ++ (M ++ (A1 ++ (y :: B2' ++ S))))) = (P ++ B1) ++ x :: (A2' ++ (M ++ (A1 ++ (y :: B2' ++ S)))) := by simp
    rw [e]; exact get_app' (by rw [HIA.out, HA.out, List.length_append, HQ.out.2.2.1]))
   have HIY := Aside0.mk (show (P ++ (B1 ++ (x :: A2' ++ (M ++ (A1 ++ (y :: B2' ++ S))))))[ib]? = some y by
    have e : P ++ (B1 ++ (x :: A2' ++ (M ++ (A1 ++ (y :: B2' ++ S))))) = (P ++ (B1 ++ (x :: A2' ++ (M ++ A1)))) ++ y :: (B2' ++ S) := by simp
    rw [e]; exact get_app' (by rw [HIB.out, HB.out]; simp only [List.length_append, List.length_cons]; have := HQ.out; omega))
   have HWA := Aside0.mk (show ia < n ∧ ib < n by have h1 := HQ.out; have h2 := HLEN.out; have h3 := HA.out; have h4 := HB.out; have h5 := HIA.out; have h6 := HIB.out; omega)
   have hwa : wrap64 ((a : Int) + (A1.length : Int)) = (ia : Int) := by rw [wrap_in (by omega) (by have h1 := HMAX.out; have h2 := HWA.out; have h3 := HIA.out; omega)]; have h3 := HIA.out; omega
   have hwb : wrap64 ((b : Int) + (A1.length : Int)) = (ib : Int) := by rw [wrap_in (by omega) (by have h1 := HMAX.out; have h2 := HWA.out; have h3 := HIB.out; omega)]; have h3 := HIB.out; omega
   have HWI := Aside0.mk (show wrap64 ((A1.length : Int) + 1) = ((A1.length + 1 : Nat) : Int) by rw [wrap_in (by omega) (by have h1 := HMAX.out; have h2 := HWA.out; have h3 := HIA.out; omega)]; rfl)
   obtain ⟨X3, c3, X4, c4, hx0, hx1, hx2, hx3, hx4, hFX⟩ := at_NE HNr.out ia x HIX.out
   obtain ⟨Y3, d3, Y4, d4, hy0, hy1, hy2, hy3, hy4, hFY⟩ := at_NE HNr.out ib y HIY.out
   have HFX := Aside0.mk hFX
   have HFY := Aside0.mk hFY
   clear hFX hFY
   have hila : (ia < n) = True := eq_true HWA.out.1
   have hilb : (ib < n) = True := eq_true HWA.out.2
   have HSET := Aside0.mk (show ((P ++ (B1 ++ (x :: A2' ++ (M ++ (A1 ++ (y :: B2' ++ S)))))).set ia y).set ib x = P ++ (B1 ++ [y] ++ (A2' ++ (M ++ (A1 ++ [x] ++ (B2' ++ S))))) by
    have e : P ++ (B1 ++ (x :: A2' ++ (M ++ (A1 ++ (y :: B2' ++ S))))) = (P ++ B1) ++ x :: ((A2' ++ (M ++ A1)) ++ y :: (B2' ++ S)) := by simp
    rw [e, swap_app (by rw [HIA.out, HA.out, List.length_append, HQ.out.2.2.1]) (by rw [HIB.out, HB.out]; simp only [List.length_append]; have := HQ.out; omega)]
    simp)
   go_wp2
   refine s_ 24 [21, 23] (fun w' => w'.cell? (ad.add (ia * 5)) = some (.int .i64 x.f0) ∧ w'.cell? ⟨(ad.add (ia * 5)).block, (ad.add (ia * 5)).off + 1, none⟩ = some (.int .i64 x.f1) ∧ w'.cell? ⟨(ad.add (ia * 5)).block, (ad.add (ia * 5)).off + 2, none⟩ = some (.int .i64 x.f2) ∧ w'.cell? ⟨(ad.add (ia * 5)).block, (ad.add (ia * 5)).off + 3, none⟩ = some (.slice X3 x.f3.length c3) ∧ w'.cell? ⟨(ad.add (ia * 5)).block, (ad.add (ia * 5)).off + 4, none⟩ = some (.slice X4 x.f4.length c4) ∧ w'.cell? (ad.add (ib * 5)) = some (.int .i64 y.f0) ∧ w'.cell? ⟨(ad.add (ib * 5)).block, (ad.add (ib * 5)).off + 1, none⟩ = some (.int .i64 y.f1) ∧ w'.cell? ⟨(ad.add (ib * 5)).block, (ad.add (ib * 5)).off + 2, none⟩ = some (.int .i64 y.f2) ∧ w'.cell? ⟨(ad.add (ib * 5)).block, (ad.add (ib * 5)).off + 3, none⟩ = some (.slice Y3 y.f3.length d3) ∧ w'.cell? ⟨(ad.add (ib * 5)).block, (ad.add (ib * 5)).off + 4, none⟩ = some (.slice Y4 y.f4.length d4)) (hS := ⟨hx0, hx1, hx2, hx3, hx4, hy0, hy1, hy2, hy3, hy4⟩) (h := fun hHeld => ?_)
   refine p_ 0 16 (bb 24 1) (h := ?_)
   refine p_ 1 17 (bb 24 3) (h := ?_)
   refine p_ 2 18 (bb 24 7) (h := ?_)
   refine p_ 3 19 (bb 24 15) (h := ?_)
   refine p_ 4 20 (bb 24 31) (h := ?_)
   refine p_ 5 21 (bb 24 63) (h := ?_)
   refine p_ 6 22 (bb 24 127) (h := ?_)
   refine p_ 7 23 (bb 24 255) (h := ?_)
   refine p_ 8 24 (bb 24 511) (h := ?_)
   refine p_ 9 25 (bb 24 1023) (h := ?_)
   refine p_ 10 26 (bb 24 2047) (h := ?_)
   refine p_ 11 27 (bb 24 4095) (h := ?_)
   refine p_ 12 28 (bb 24 8191) (h := ?_)
   refine t_ 13 29 (bb 24 16383) hHeld (h := ?_)
   refine p_ 14 30 (bb 24 32767) (h := ?_)
   refine p_ 15 31 (bb 24 65535) (h := ?_)
   refine p_ 16 32 (bb 24 131071) (h := ?_)
   refine p_ 17 33 (bb 24 262143) (h := ?_)
   refine p_ 18 34 (bb 24 524287) (h := ?_)
   refine t_ 19 35 (bb 24 1048575) hHeld (h := ?_)
   refine p_ 20 36 (bb 24 2097151) (h := ?_)
   refine lN_ 21 (bb 24 4194303) 57 (.tmp 36) (.tmp 29) (ia) HAD.out (Kd.N_drew HNr.out) (by have h1 := HWA.out; omega) (Kd.FK_below HFY.out (below_drew (Below.refl _ _))) (fun k hk => ⟨hk.1, by have h2 := hk.2; rw [HAD.out] at h2; exact h2⟩) ht_E (one_E y Y3 d3 Y4 d4) (by rfl) (by rfl) (by kernel_rfl) (by decide) (by rfl) rfl (by first | rfl | (simp only [AtIdx]; rfl)) rfl (fun w4 hn4 hg4 => ?_)
   refine p_ 22 37 (bb 24 8388607) (h := ?_)
   refine lN_ 23 (bb 24 16777215) 57 (.tmp 37) (.tmp 35) (ib) HAD.out hn4 (by have h1 := HWA.out; omega) (Kd.FK_grown (Kd.FK_below HFX.out (below_drew (Below.refl _ _))) hg4 (fun k hk he => hk.2 (by rw [HAD.out]; injection he))) (fun k hk => ⟨hk.1, by have h2 := hk.2; rw [HAD.out] at h2; exact h2⟩) ht_E (one_E x X3 c3 X4 c4) (by rfl) (by rfl) (by kernel_rfl) (by decide) (by rfl) rfl (by first | rfl | (simp only [AtIdx]; rfl)) rfl (fun w5 hn5 hg5 => ?_)
   refine d_ (h := ?_)
   have HN5 := Aside0.mk hn5
   have HC5 := Aside0.mk (((HCH.out.drew).grown hg4 (fun k hk => .inl (by rw [HAD.out]; exact hk.symm))).grown hg5 (fun k hk => .inl (by rw [HAD.out]; exact hk.symm)))
   clear hn4 hg4 hn5 hg5 hHeld
   go_wp2
   go_roundg k1
   case measure => exact Nat.lt_succ_self _
   case rel => exact ⟨A1 ++ [x], A2', B1 ++ [y], B2', by rw [HWI.out, List.length_append]; rfl, ⟨by have h1 := HK.out; simp only [List.length_cons] at h1; omega⟩, ⟨by rw [HP.out.1]; simp, by rw [HP.out.2.1]; simp, by simp [HP.out.2.2.1], HQ.out.2.2.2⟩, ⟨HSET.out ▸ HN5.out⟩, HC5⟩
end Go.Proofs.Ythpklhkibcenoaa.Sk
