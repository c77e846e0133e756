/- Two neighbouring pieces of a row change places. Conditions: those of each theorem. -/
import Derived.Test.YthpklhkibcenoaaCore
import Derived.Test.YthpklhkibcenoaaHsw
import Derived.Test.YthpklhkibcenoaaHw
import Derived.Test.YthpklhkibcenoaaHz
import Derived.Test.YthpklhkibcenoaaPx0
namespace Go.Proofs.Ythpklhkibcenoaa.Sk
open Go.RowKit Go.Proofs.YthpklhkibcenoaaW.PrintWords Go.Proofs.YthpklhkibcenoaaW.PrintLast Go.Proofs.YthpklhkibcenoaaW.PrintMore Go.Proofs.Ythpklhkibcenoaa.Px Go.Proofs.Ythpklhkibcenoaa.Sw
set_option linter.unusedVariables false
set_option linter.unusedSimpArgs false
set_option maxHeartbeats 4000000 in
set_option maxRecDepth 100000 in
theorem rotate_calls {w : World} {base n cap : Nat} {ok : Nat → Prop} {ad : Addr} {P A B S : List S57} (hn : Kd.N k57 57 w base ok (.slice (some ad) n cap) (P ++ (A ++ (B ++ S)))) {a m b : Nat} (ha : a = P.length) (hm : m = P.length + A.length) (hb : b = P.length + (A.length + B.length)) (hA : 0 < A.length) (hB : 0 < B.length) (fv : Value) :
  Calls Try.prog 72 #[.slice (some ad) n cap, .int .i64 (a : Int), .int .i64 (m : Int), .int .i64 (b : Int), fv] w fun ex w' => ex = .returned (.tuple #[]) ∧ Kd.N k57 57 w' base ok (.slice (some ad) n cap) (P ++ (B ++ (A ++ S))) ∧ Chg w w' (fun k => some k = (Value.slice (some ad) n cap).ownBlock) := by
 have HN := Aside0.mk hn
 have HMAX := Aside0.mk (show n ≤ 9223372036854775807 by rw [(Kd.N_reads' hn).1]; exact Kd.C_max (Kd.N_reads' hn).2.2)
 have HLEN := Aside0.mk (show n = P.length + (A.length + (B.length + S.length)) by have := (Kd.N_reads' hn).1; simpa using this)
 have HM := Aside0.mk hm
 have HZ := Aside0.mk (show 0 < A.length ∧ 0 < B.length from ⟨hA, hB⟩)
 have hw1 : wrap64 ((m : Int) - (a : Int)) = ((A.length : Nat) : Int) := by rw [wrap_in (by omega) (by have h1 := HMAX.out; have h2 := HLEN.out; omega)]; omega
 have hw2 : wrap64 ((b : Int) - (m : Int)) = ((B.length : Nat) : Int) := by rw [wrap_in (by omega) (by have h1 := HMAX.out; have h2 := HLEN.out; omega)]; omega
 clear hn ha hm hb hA hB
 go_enter Try.func72, Try.ntmps72
 go_wp2
 go_loopg [10, 11] (A.length + B.length) (fun kq v10 v11 w' => ∃ P' A' B' S' : List S57, v10 = .int .i64 (A'.length : Int) ∧ v11 = .int .i64 (B'.length : Int) ∧ Aside0 (kq = A'.length + B'.length) ∧ Aside0 (0 < A'.length ∧ 0 < B'.length ∧ m = P'.length + A'.length ∧ n = P'.length + (A'.length + (B'.length + S'.length)) ∧ P' ++ (B' ++ (A' ++ S')) = P ++ (B ++ (A ++ S))) ∧ Aside0 (Kd.N k57 57 w' base ok (.slice (some ad) n cap) (P' ++ (A' ++ (B' ++ S')))) ∧ Aside0 (Chg w w' (fun k => some k = (Value.slice (some ad) n cap).ownBlock)))
 case atStart => exact ⟨P, A, B, S, by rw [hw1], by rw [hw2], ⟨rfl⟩, ⟨HZ.out.1, HZ.out.2, HM.out, HLEN.out, rfl⟩, HN, ⟨Chg.refl _ _⟩⟩
 case round =>
  clear hw1 hw2
  obtain ⟨P', A', B', S', rfl, rfl, HK, HP, HNr, HCH⟩ := hrel
  have hmi : wrap64 ((m : Int) - (A'.length : Int)) = ((P'.length : Nat) : Int) := by
   have h1 := HP.out.2.2.1
   rw [wrap_in (by omega) (by have h1 := HMAX.out; have h2 := HLEN.out; have h3 := HM.out; omega)]; omega
  by_cases heq : A'.length = B'.length
  ·
   have hne : ((A'.length : Int) != (B'.length : Int)) = false := by simp [heq]
   have HEQ := Aside0.mk heq
   clear heq
   go_wp2_with (first
    | ((with_reducible refine gate_callee (f := 73) rfl ?_); (try (refine gate_guard (by rfl) ?_; dsimp only)); refine goesL_ (some 57) rfl rfl Try.func73 (by kernel_rfl) rfl #[.slice (some ad) n cap, .int .i64 (wrap64 ((m : Int) - (A'.length : Int))), .int .i64 ((m : Int)), .int .i64 ((A'.length : Int)), fv] rfl (by (try simp only [List.map_toArray, List.map_cons, List.map_nil]); first | done | rfl) ?_; rw [hmi]; refine (swapR_calls (P := P') (A := A') (M := []) (B := B') (S := S') (by simpa using HNr.out) rfl (by simpa using HP.out.2.2.1) rfl HEQ.out fv).mono ?_; rintro ex w2 ⟨rfl, hn2, hc2⟩; refine ⟨_, rfl, ?_⟩; have n_ := Aside0.mk hn2; clear hn2; have hn2 := n_; clear n_; have n_ := Aside0.mk hc2; clear hc2; have hc2 := n_; clear n_))
   go_end0
   exact ⟨rfl, by rw [← HP.out.2.2.2.2]; exact hn2.out, HCH.out.trans hc2.out (fun k hk => .inl hk)⟩
  ·
   have hne : ((A'.length : Int) != (B'.length : Int)) = true := by simp only [bne_iff_ne, ne_eq]; omega
   by_cases hgt : B'.length < A'.length
   ·
    have hgt' : (B'.length < A'.length) = True := eq_true hgt
    obtain ⟨A1, A2, hA12, hl1⟩ : ∃ A1 A2, A' = A1 ++ A2 ∧ A1.length = B'.length := ⟨A'.take B'.length, A'.drop B'.length, (List.take_append_drop _ _).symm, by rw [List.length_take]; omega⟩
    have HL := Aside0.mk (show A'.length = B'.length + A2.length ∧ 0 < A2.length by rw [hA12, List.length_append] at hgt ⊢; omega)
    have HN1 := Aside0.mk (show Kd.N k57 57 wr base ok (.slice (some ad) n cap) (P' ++ (A1 ++ (A2 ++ (B' ++ S')))) by have h := HNr.out; rw [hA12] at h; simpa using h)
    have hws : wrap64 ((A'.length : Int) - (B'.length : Int)) = ((A2.length : Nat) : Int) := by rw [wrap_in (by omega) (by have h1 := HMAX.out; have h2 := HLEN.out; have h3 := HP.out.2.2.2.1; omega)]; have h1 := HL.out.1; omega
    have HL1 := Aside0.mk hl1
    have HA12 := Aside0.mk hA12
    clear heq hgt hA12 hl1
    go_wp2_with (first
     | ((with_reducible refine gate_callee (f := 73) rfl ?_); (try (refine gate_guard (by rfl) ?_; dsimp only)); refine goesL_ (some 31) rfl rfl Try.func73 (by kernel_rfl) rfl #[.slice (some ad) n cap, .int .i64 (wrap64 ((m : Int) - (A'.length : Int))), .int .i64 ((m : Int)), .int .i64 ((B'.length : Int)), fv] rfl (by (try simp only [List.map_toArray, List.map_cons, List.map_nil]); first | done | rfl) ?_; rw [hmi]; refine (swapR_calls (P := P') (A := A1) (M := A2) (B := B') (S := S') HN1.out rfl (by have h1 := HP.out.2.2.1; have h2 := HL.out.1; have h3 := HL1.out; omega) HL1.out.symm rfl fv).mono ?_; rintro ex w2 ⟨rfl, hn2, hc2⟩; refine ⟨_, rfl, ?_⟩; have n_ := Aside0.mk hn2; clear hn2; have hn2 := n_; clear n_; have n_ := Aside0.mk hc2; clear hc2; have hc2 := n_; clear n_))
    go_roundg (A2.length + B'.length)
    case measure => have h1 := HK.out; have h2 := HL.out; have h3 := HP.out.2.1; omega
    case rel => exact ⟨P' ++ B', A2, A1, S', by rw [hws], by rw [HL1.out], ⟨by rw [HL1.out]⟩, ⟨HL.out.2, by rw [HL1.out]; exact HP.out.2.1, by rw [List.length_append]; have h1 := HP.out.2.2.1; have h2 := HL.out.1; omega, by rw [List.length_append]; have h1 := HP.out.2.2.2.1; have h2 := HL.out.1; have h3 := HL1.out; omega, by rw [← HP.out.2.2.2.2, HA12.out]; simp⟩, ⟨by simpa using hn2.out⟩, ⟨HCH.out.trans hc2.out (fun k hk => .inl hk)⟩⟩
   ·
    have hgt' : (B'.length < A'.length) = False := eq_false hgt
    obtain ⟨B1, B2, hB12, hl1⟩ : ∃ B1 B2, B' = B1 ++ B2 ∧ B2.length = A'.length := ⟨B'.take (B'.length - A'.length), B'.drop (B'.length - A'.length), (List.take_append_drop _ _).symm, by rw [List.length_drop]; omega⟩
    have HL := Aside0.mk (show B'.length = B1.length + A'.length ∧ 0 < B1.length by have h := congrArg List.length hB12; rw [List.length_append] at h; omega)
    have HN1 := Aside0.mk (show Kd.N k57 57 wr base ok (.slice (some ad) n cap) (P' ++ (A' ++ (B1 ++ (B2 ++ S')))) by have h := HNr.out; rw [hB12] at h; simpa using h)
    have hws : wrap64 ((B'.length : Int) - (A'.length : Int)) = ((B1.length : Nat) : Int) := by rw [wrap_in (by omega) (by have h1 := HMAX.out; have h2 := HLEN.out; have h3 := HP.out.2.2.2.1; omega)]; have h1 := HL.out.1; omega
    have HBD := Aside0.mk (show m + B'.length ≤ n by have h1 := HP.out.2.2.1; have h2 := HP.out.2.2.2.1; omega)
    obtain ⟨j, hj⟩ : ∃ j, j = m + B1.length := ⟨_, rfl⟩
    have hmj : wrap64 ((m : Int) + (B'.length : Int)) = ((m + B'.length : Nat) : Int) := by rw [wrap_in (by omega) (by have h1 := HMAX.out; have h2 := HBD.out; omega)]; rfl
    have hmj2 : wrap64 ((m : Int) + (B'.length : Int) - (A'.length : Int)) = (j : Int) := by rw [wrap_in (by omega) (by have h1 := HMAX.out; have h2 := HBD.out; omega)]; have h1 := HL.out.1; omega
    have HJ := Aside0.mk hj
    have HL1 := Aside0.mk hl1
    have HB12 := Aside0.mk hB12
    clear heq hgt hB12 hl1 hj
    go_wp2_with (first
     | ((with_reducible refine gate_callee (f := 73) rfl ?_); (try (refine gate_guard (by rfl) ?_; dsimp only)); refine goesL_ (some 46) rfl rfl Try.func73 (by kernel_rfl) rfl #[.slice (some ad) n cap, .int .i64 (wrap64 ((m : Int) - (A'.length : Int))), .int .i64 (wrap64 ((m : Int) + (B'.length : Int) - (A'.length : Int))), .int .i64 ((A'.length : Int)), fv] rfl (by (try simp only [List.map_toArray, List.map_cons, List.map_nil]); first | done | rfl) ?_; rw [hmi, hmj2]; refine (swapR_calls (P := P') (A := A') (M := B1) (B := B2) (S := S') HN1.out rfl (by have h1 := HP.out.2.2.1; have h2 := HJ.out; omega) rfl HL1.out.symm fv).mono ?_; rintro ex w2 ⟨rfl, hn2, hc2⟩; refine ⟨_, rfl, ?_⟩; have n_ := Aside0.mk hn2; clear hn2; have hn2 := n_; clear n_; have n_ := Aside0.mk hc2; clear hc2; have hc2 := n_; clear n_))
    go_roundg (A'.length + B1.length)
    case measure => have h1 := HK.out; have h2 := HL.out; have h3 := HP.out.1; omega
    case rel => exact ⟨P', B2, B1, A' ++ S', by rw [HL1.out], by rw [hws], ⟨by rw [HL1.out]⟩, ⟨by rw [HL1.out]; exact HP.out.1, HL.out.2, by rw [HL1.out]; exact HP.out.2.2.1, by rw [List.length_append, HL1.out]; have h1 := HP.out.2.2.2.1; have h2 := HL.out.1; omega, by rw [← HP.out.2.2.2.2, HB12.out]; simp⟩, ⟨by simpa using hn2.out⟩, ⟨HCH.out.trans hc2.out (fun k hk => .inl hk)⟩⟩
end Go.Proofs.Ythpklhkibcenoaa.Sk
