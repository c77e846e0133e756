/- The law SkipCounts as a contract of its function. Conditions: those of each theorem. -/
import Derived.Test.YtjlkcidohabcfaaPx4
import Derived.Test.YtjlkcidohabcfaaPx5
import Derived.Test.YtjlkcidohabcfaaPx13
import Derived.Test.YtjlkcidohabcfaaPx20
import Derived.Test.YtjlkcidohabcfaaPx21
import Derived.Test.YtjlkcidohabcfaaPx22
import Derived.Test.YtjlkcidohabcfaaPx23
import Derived.Test.YtjlkcidohabcfaaPx24
import Derived.Test.YtjlkcidohabcfaaPx25
import Derived.Test.YtjlkcidohabcfaaPx27
import Derived.Test.YtjlkcidohabcfaaPx29
import Derived.Test.YtjlkcidohabcfaaH0
import Derived.Test.YtjlkcidohabcfaaHp
import Derived.Test.YtjlkcidohabcfaaHq
import Derived.Test.YtjlkcidohabcfaaHr
import Derived.Test.YtjlkcidohabcfaaHu
import Derived.Test.YtjlkcidohabcfaaHv
import Derived.Test.YtjlkcidohabcfaaHg
import Derived.Test.YtjlkcidohabcfaaHh
import Derived.Test.YtjlkcidohabcfaaHi
import Derived.Test.YtjlkcidohabcfaaHk
import Derived.Test.YtjlkcidohabcfaaHy
import Derived.Test.YtjlkcidohabcfaaHj
import Derived.Test.YtjlkcidohabcfaaHl
import Derived.Test.YtjlkcidohabcfaaHaa
import Derived.Test.YtjlkcidohabcfaaHab
import Derived.Test.YtjlkcidohabcfaaHac
import Derived.Test.YtjlkcidohabcfaaHad
namespace Go.Proofs.Ytjlkcidohabcfaa.Sk
open Go.RowKit Go.Proofs.YtjlkcidohabcfaaW.PrintWords Go.Proofs.YtjlkcidohabcfaaW.PrintLast Go.Proofs.YtjlkcidohabcfaaW.PrintMore Go.Proofs.Ytjlkcidohabcfaa.Px
set_option linter.unusedVariables false
set_option linter.unusedSimpArgs false
open Go.Proofs.Ytjlkcidohabcfaa.Sw
set_option maxHeartbeats 4000000 in
set_option maxRecDepth 100000 in
theorem counts_calls {w : World} (A : Option Addr) (c : Nat) (l : List SOp) (hr : Kd.C kOp w A l.length l) (hc : l.length ≤ c) (hg : ∀ o, o ∈ l → GoodO o)  :
    Calls Try.prog 9 #[.slice A l.length c] w fun ex w' => ex = .returned (.bool true) ∧ Below w.heap.size w w' := by
  have hu34 := Try.underlying34
  have hu36 := Try.underlying36
  have hu30 := Try.underlying30
  have HR := Aside0.mk hr
  have HG := Aside0.mk hg
  have HMAX := Aside0.mk (Kd.C_max hr)
  clear hr hg
  have HC := Aside0.mk hc
  clear hc
  have HT := Aside0.mk (runT_fit HG.out 60)
  have HTL := Aside0.mk (runT_len HG.out 60)
  obtain ⟨T, hTT⟩ : ∃ T, T = runT 60 l := ⟨_, rfl⟩
  rw [← hTT] at HT HTL
  have HTT := Aside0.mk hTT
  clear hTT
  go_enter Try.func9, Try.ntmps9
  go_wp2_with (first
    | ((with_reducible refine gate_callee (f := 10) rfl ?_); (try (refine gate_guard (by rfl) ?_; dsimp only)); refine goesL_ (some 8) rfl rfl Try.func10 (by kernel_rfl) rfl #[] rfl (by (try simp only [List.map_toArray, List.map_cons, List.map_nil]); first | done | rfl) ?_; refine (awake_calls w).mono ?_; rintro ex w1 ⟨rfl, hb1⟩; refine ⟨_, rfl, ?_⟩; have n_ := Aside0.mk hb1; clear hb1; have hb1 := n_; clear n_)
    | ((with_reducible refine gate_callee (f := 28) rfl ?_); (try (refine gate_guard (by rfl) ?_; dsimp only)); refine goesL_ (some 10) rfl rfl Try.func28 (by kernel_rfl) rfl #[.slice A l.length c] rfl (by (try simp only [List.map_toArray, List.map_cons, List.map_nil]); first | done | rfl) ?_; refine (filled_calls A c l (Kd.C_below HR.out hb1.out) HC.out HG.out).mono ?_; rintro ex w2 ⟨g, gr, rfl, hst2, hb2⟩; rw [← HTT.out] at hst2; refine ⟨_, rfl, ?_⟩; have n_ := Aside0.mk hst2; clear hst2; have hst2 := n_; clear n_; have n_ := Aside0.mk hb2; clear hb2; have hb2 := n_; clear n_; have HS1 := Aside0.mk (hst2.out.one); have B2 := Aside0.mk (below_step hb1.out hb2.out))
    | ((with_reducible refine gate_callee (f := 19) rfl ?_); (try (refine gate_guard (by rfl) ?_; dsimp only)); refine goesL_ (some 18) rfl rfl Try.func19 (by kernel_rfl) rfl #[.pointer (some ⟨g, 0, none⟩)] rfl (by (try simp only [List.map_toArray, List.map_cons, List.map_nil]); first | done | rfl) ?_; refine (s1_all HS1.out HT.out (by have := HTL.out; omega)).mono ?_; rintro ex w3 ⟨v3, rfl, hn3, hb3⟩; refine ⟨_, rfl, ?_⟩; obtain ⟨A3, c3, rfl⟩ := Kd.N_slice hn3; rw [List.length_map]; have n_ := Aside0.mk hn3; clear hn3; have hn3 := n_; clear n_; have n_ := Aside0.mk hb3; clear hb3; have hb3 := n_; clear n_; have B3 := Aside0.mk (below_step B2.out hb3.out); have HS3 := Aside0.mk (HS1.out.below hb3.out)))
  go_loopg [5, 7] T.length (fun kq v5 v7 w' => ∃ (n : Nat) (s : Int), v5 = .int .i64 s ∧ v7 = .int .i64 (n : Int) ∧ Aside0 (kq + n = T.length) ∧ Aside0 (s = sizeT (T.take n)) ∧ Aside0 (Below w3.heap.size w3 w'))
  case atStart => exact ⟨0, 0, rfl, rfl, ⟨rfl⟩, ⟨rfl⟩, ⟨Below.refl _ _⟩⟩
  case round =>
    obtain ⟨n, s, rfl, rfl, HK, HS, HBr⟩ := hrel
    have HSr := Aside0.mk (HS3.out.below HBr.out)
    have HNr := Aside0.mk (Kd.N_below hn3.out HBr.out)
    have HB := Aside0.mk (below_step B3.out HBr.out)
    cases gk with
    | zero =>
      have hn : n = T.length := by have h1 := HK.out; omega
      have HE := Aside0.mk (show s = sizeT T by have h1 := HS.out; rwa [hn, List.take_length] at h1)
      have hlt : (n < T.length) = False := eq_false (by omega)
      clear hn
      go_wp2_with (first
        | ((with_reducible refine gate_callee (f := 15) rfl ?_); (try (refine gate_guard (by rfl) ?_; dsimp only)); refine goesL_ (some 42) rfl rfl Try.func15 (by kernel_rfl) rfl #[.pointer (some ⟨g, 0, none⟩)] rfl (by (try simp only [List.map_toArray, List.map_cons, List.map_nil]); first | done | rfl) ?_; refine (s1_count HSr.out).mono ?_; rintro ex w5 ⟨rfl, hb5⟩; refine ⟨_, rfl, ?_⟩; have n_ := Aside0.mk hb5; clear hb5; have hb5 := n_; clear n_; have HS5 := Aside0.mk (HSr.out.below hb5.out))
        | ((with_reducible refine gate_callee (f := 16) rfl ?_); (try (refine gate_guard (by rfl) ?_; dsimp only)); refine goesL_ (some 48) rfl rfl Try.func16 (by kernel_rfl) rfl #[.pointer (some ⟨g, 0, none⟩)] rfl (by (try simp only [List.map_toArray, List.map_cons, List.map_nil]); first | done | rfl) ?_; refine (s1_size HS5.out).mono ?_; rintro ex w6 ⟨rfl, hb6⟩; refine ⟨_, rfl, ?_⟩; rw [← HE.out]; have n_ := Aside0.mk hb6; clear hb6; have hb6 := n_; clear n_))
      go_ret
      exact ⟨rfl, below_step HB.out (below_step hb5.out hb6.out)⟩
    | succ k1 =>
      have hnl : n < T.length := by have h1 := HK.out; omega
      have hlt : (n < T.length) = True := eq_true hnl
      obtain ⟨z, hz⟩ : ∃ z, T[n]? = some z := ⟨_, List.getElem?_eq_getElem hnl⟩
      have hze : (T.map (fun t => t.e))[n]? = some z.e := by rw [List.getElem?_map, hz]; rfl
      obtain ⟨ad, hA⟩ := N_addr HNr.out (by rw [List.length_map]; omega)
      subst hA
      obtain ⟨B0, b0, B3, b3, hd0, hd1, hd2, hd3, hFK⟩ := at_N34 HNr.out n z.e hze
      have HSN := Aside0.mk (show sizeT (T.take (n + 1)) = s + ((z.e.f0.length : Int) + z.e.f3.length + 8) by
        rw [HS.out, take_snoc' hz]
        unfold sizeT
        rw [List.map_append, List.sum_append]
        simp)
      have hzo := okE_iff.1 (HT.out.ok z (List.mem_of_getElem? hz)).1
      have h64 : z.e.f0.length ≤ 64 := hzo.2.1
      have h1024 : z.e.f3.length ≤ 1024 := hzo.2.2.2.2.1
      have hsb := sizeT_bd (T := T.take n) (fun t ht => (HT.out.ok t (List.mem_of_mem_take ht)).1)
      have hln : (T.take n).length ≤ 1000000 := by rw [List.length_take]; have := HTL.out; omega
      rw [← HS.out] at hsb
      have hw1 : wrap64 (s + (z.e.f0.length : Int)) = s + (z.e.f0.length : Int) := wrap_in (by omega) (by omega)
      have hw2 : wrap64 (s + (z.e.f0.length : Int) + (z.e.f3.length : Int)) = s + (z.e.f0.length : Int) + (z.e.f3.length : Int) := wrap_in (by omega) (by omega)
      have hw3 : wrap64 (s + (z.e.f0.length : Int) + (z.e.f3.length : Int) + 8) = s + (z.e.f0.length : Int) + (z.e.f3.length : Int) + 8 := wrap_in (by omega) (by omega)
      have HW := Aside0.mk (show wrap64 ((n : Int) + 1) = ((n + 1 : Nat) : Int) by rw [wrap_in (by omega) (by have := HTL.out; omega)]; rfl)
      have HE := Aside0.mk (show s + (z.e.f0.length : Int) + (z.e.f3.length : Int) + 8 = sizeT (T.take (n + 1)) by have h1 := HSN.out; omega)
      clear hFK hz hze hzo h64 h1024 hsb hln hnl hd1 hd2
      go_wp2
      refine s_ 17 [] (fun w' => w'.cell? (ad.add (n * 4)) = some (.slice B0 z.e.f0.length b0) ∧ w'.cell? ⟨(ad.add (n * 4)).block, (ad.add (n * 4)).off + 3, none⟩ = some (.slice B3 z.e.f3.length b3)) (hS := ⟨(show wr.drew.cell? _ = _ from hd0), (show wr.drew.cell? _ = _ from hd3)⟩) (h := fun hHeld => ?_)
      refine p_ 0 25 (bb 17 1) (h := ?_)
      refine p_ 1 26 (bb 17 3) (h := ?_)
      refine p_ 2 27 (bb 17 7) (h := ?_)
      refine p_ 3 28 (bb 17 15) (h := ?_)
      refine p_ 4 29 (bb 17 31) (h := ?_)
      refine t_ 5 30 (bb 17 63) hHeld (h := ?_)
      refine p_ 6 31 (bb 17 127) (h := ?_)
      refine p_ 7 32 (bb 17 255) (h := ?_)
      refine p_ 8 33 (bb 17 511) (h := ?_)
      refine p_ 9 34 (bb 17 1023) (h := ?_)
      refine p_ 10 35 (bb 17 2047) (h := ?_)
      refine p_ 11 36 (bb 17 4095) (h := ?_)
      refine t_ 12 37 (bb 17 8191) hHeld (h := ?_)
      refine p_ 13 38 (bb 17 16383) (h := ?_)
      refine p_ 14 39 (bb 17 32767) (h := ?_)
      refine p_ 15 40 (bb 17 65535) (h := ?_)
      refine p_ 16 5 (bb 17 131071) (h := ?_)
      refine d_ (h := ?_)

      clear hw1 hw2 hw3
      go_wp2
      go_roundg k1
      case measure => exact Nat.lt_succ_self _
      case rel => exact ⟨n + 1, _, rfl, by first | rfl | rw [HW.out], ⟨by have h1 := HK.out; omega⟩, HE, ⟨below_drew HBr.out⟩⟩
end Go.Proofs.Ytjlkcidohabcfaa.Sk
