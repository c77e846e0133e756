/- The document's Merge. Conditions: those of each theorem. -/
import Derived.Test.YtobjkjmmkbhecaaCore
import Derived.Test.YtobjkjmmkbhecaaME
import Derived.Test.YtobjkjmmkbhecaaHlt
import Derived.Test.YtobjkjmmkbhecaaHpl
import Derived.Test.YtobjkjmmkbhecaaHpu
import Derived.Test.YtobjkjmmkbhecaaHrw
import Derived.Test.YtobjkjmmkbhecaaHso
import Derived.Test.YtobjkjmmkbhecaaHvi
import Derived.Test.YtobjkjmmkbhecaaPx0
import Derived.Test.YtobjkjmmkbhecaaHod
import Derived.Test.YtobjkjmmkbhecaaHmo
import Derived.Test.YtobjkjmmkbhecaaHcu
namespace Go.Proofs.Ytobjkjmmkbhecaa.Sk
open Go.RowKit Go.Proofs.YtobjkjmmkbhecaaW.PrintWords Go.Proofs.YtobjkjmmkbhecaaW.PrintLast Go.Proofs.YtobjkjmmkbhecaaW.PrintMore Go.Proofs.Ytobjkjmmkbhecaa.Px Go.Proofs.Ytobjkjmmkbhecaa.Sw
set_option linter.unusedVariables false
set_option linter.unusedSimpArgs false

theorem goodL_put {L m : List S36} (h : goodL L = true) (hs : ∀ e ∈ m, e ∈ L) (hl : m.length ≤ L.length) : goodL (putAll cmpE m) = true ∧ (putAll cmpE m).length ≤ L.length :=
 ⟨goodL_sub h (fun e he => hs e (putAll_sub m e he)) (Nat.le_trans (putAll_len _ m) hl), Nat.le_trans (putAll_len _ m) hl⟩
theorem take_flat {L : List (List S36)} {i : Nat} {x : List S36} (h : L[i]? = some x) : (L.take (i + 1)).flatten = (L.take i).flatten ++ x := by
 rw [List.take_add_one, h]
 simp
theorem flat_take {L : List (List S36)} {i : Nat} {x : List S36} (h : L[i]? = some x) (j : Nat) : (∀ e ∈ (L.take i).flatten ++ x.take j, e ∈ L.flatten) ∧ ((L.take i).flatten ++ x.take j).length ≤ L.flatten.length := by
 have h2 : L = L.take i ++ x :: L.drop (i + 1) := by
  obtain ⟨hl, he⟩ := List.getElem?_eq_some_iff.1 h
  conv => lhs; rw [← List.take_append_drop i L]
  rw [List.drop_eq_getElem_cons hl, he]
 have h3 : L.flatten = (L.take i).flatten ++ (x ++ (L.drop (i + 1)).flatten) := by conv => lhs; rw [h2]; simp
 constructor
 ·
  intro e he
  rw [h3]
  rcases List.mem_append.1 he with h | h
  ·
   exact List.mem_append.2 (.inl h)
  ·
   exact List.mem_append.2 (.inr (List.mem_append.2 (.inl (List.mem_of_mem_take h))))
 ·
  rw [h3]
  simp only [List.length_append]
  have : (x.take j).length ≤ x.length := by rw [List.length_take]; omega
  omega
set_option maxHeartbeats 40000000 in
set_option maxRecDepth 100000 in
theorem rmerge_calls {w : World} {A : Option Addr} {c : Nat} {L : List (List S36)} (hC : Kd.C (Kd.slice 36 k36) w A L.length L) (hg : goodL L.flatten = true) (hl : L.flatten.length ≤ 100000000) (hl2 : L.length ≤ 1000000000) :
  Calls Try.prog 14 #[.slice A L.length c] w fun ex w' => ∃ B d, ex = .returned (.slice B (putAll cmpE L.flatten).length d) ∧ (putAll cmpE L.flatten).length ≤ d ∧ Kd.C k36 w' B (putAll cmpE L.flatten).length (putAll cmpE L.flatten) ∧ Below w.heap.size w w' := by
 have HC := Aside0.mk hC
 have HGD := Aside0.mk hg
 have HLF := Aside0.mk hl
 have HLN := Aside0.mk hl2
 clear hC hg hl hl2
 go_enter Try.func14, Try.ntmps14
 go_wp2
 go_loopg [3, 4] L.length (fun kq v3 v4 w' => ∃ (i : Nat) (acc : List S36) (Av : Option Addr) (cv : Nat), v3 = .slice Av acc.length cv ∧ v4 = .int .i64 (i : Int) ∧ Aside0 (kq + i = L.length) ∧ Aside0 (acc = putAll cmpE (L.take i).flatten) ∧ Aside0 (acc.length ≤ cv) ∧ Aside0 (Kd.C k36 w' Av acc.length acc) ∧ Aside0 (Below w.heap.size w w'))
 case atStart => exact ⟨0, [], none, 0, rfl, rfl, ⟨rfl⟩, ⟨rfl⟩, ⟨Nat.le_refl _⟩, ⟨Kd.C_nil _ _⟩, ⟨Below.refl _ _⟩⟩
 case round =>
  obtain ⟨i, acc, Av, cv, rfl, rfl, HK, HA, HAL, HAC, HB⟩ := hrel
  cases gk with
  | zero =>
   as_aux_lemma =>
   have hlt : ((i : Int) < (L.length : Int)) = False := eq_false (by have h := HK.out; omega)
   go_wp2
   go_ret
   have e := HA.out
   rw [List.take_of_length_le (by have h := HK.out; omega)] at e
   have h1 := HAL.out
   have h2 := HAC.out
   rw [e] at h1 h2 ⊢
   exact ⟨_, _, rfl, h1, h2, HB.out⟩
  | succ k1 =>
   as_aux_lemma =>
   have hil : i < L.length := by have h := HK.out; omega
   have hlt : ((i : Int) < (L.length : Int)) = True := eq_true (by omega)
   obtain ⟨x, hx⟩ : ∃ x, L[i]? = some x := ⟨_, List.getElem?_eq_getElem hil⟩
   have HXI := Aside0.mk hx
   have HA0 := Aside0.mk (show acc = putAll cmpE ((L.take i).flatten ++ x.take 0) by rw [HA.out]; simp)
   have HFT := Aside0.mk (flat_take hx)
   have HTF := Aside0.mk (take_flat hx)
   have HWK := Aside0.mk (wadd1 (x := i) (z := i + 1) rfl (by have h := HLN.out; omega))
   have HXL := Aside0.mk (show x.length ≤ 100000000 by have h := (flat_take hx x.length).2; rw [List.take_length, List.length_append] at h; have h2 := HLF.out; omega)
   have HIN := Aside0.mk hil
   clear hx hil HA
   go_wp2
   clear hlt
   generalize wr = wo at HAC HB ⊢
   go_loopg [3, 5] x.length (fun kq v3 v5 w' => ∃ (j : Nat) (acc : List S36) (Av : Option Addr) (cv : Nat), v3 = .slice Av acc.length cv ∧ v5 = .int .i64 (j : Int) ∧ Aside0 (kq + j = x.length) ∧ Aside0 (acc = putAll cmpE ((L.take i).flatten ++ x.take j)) ∧ Aside0 (acc.length ≤ cv) ∧ Aside0 (Kd.C k36 w' Av acc.length acc) ∧ Aside0 (Below w.heap.size w w'))
   case atStart => exact ⟨0, acc, Av, cv, rfl, rfl, ⟨rfl⟩, HA0, HAL, HAC, HB⟩
   case round =>
    clear HA0 HAL HAC HB
    obtain ⟨j, acc, Av, cv, rfl, rfl, HKJ, HA, HAL, HAC, HB⟩ := hrel
    have hlt : ((i : Int) < (L.length : Int)) = True := eq_true (by have h := HIN.out; omega)
    obtain ⟨al, B, d, ea, hcx, hlx, hfx⟩ := at_rows (Kd.C_below HC.out HB.out) HXI.out
    subst ea
    have HFX := Aside0.mk hfx
    clear hlx hfx
    cases gk with
    | zero =>
     have hlt2 : ((j : Int) < (x.length : Int)) = False := eq_false (by have h := HKJ.out; omega)
     go_wp2
     go_roundg k1
     case measure => exact Nat.lt_succ_self _
     case rel =>
      refine ⟨i + 1, acc, Av, cv, rfl, by first | rfl | rw [HWK.out], ⟨by have h := HK.out; omega⟩, ⟨?_⟩, HAL, HAC, HB⟩
      have e := HA.out
      rw [List.take_of_length_le (l := x) (by have h := HKJ.out; omega)] at e
      rw [HTF.out]; exact e
    | succ k2 =>
     have hjl : j < x.length := by have h := HKJ.out; omega
     have hlt2 : ((j : Int) < (x.length : Int)) = True := eq_true (by omega)
     obtain ⟨z, hz⟩ : ∃ z, x[j]? = some z := ⟨_, List.getElem?_eq_getElem hjl⟩
     obtain ⟨bd, M0, m0, M3, m3, ea, hz0, hz1, hz2, hz3, hKz⟩ := at_CE (Kd.F_now HFX.out) j z hz
     subst ea
     have HKZ := Aside0.mk hKz
     have HZI := Aside0.mk hz
     have HZG := Aside0.mk ((goodL_iff.1 HGD.out).1 z ((HFT.out x.length).1 z (List.mem_append.2 (.inr (by rw [List.take_length]; exact List.mem_of_getElem? hz)))))
     have hgp := goodL_put HGD.out (HFT.out j).1 (HFT.out j).2
     rw [← HA.out] at hgp
     have HAG := Aside0.mk hgp.1
     have HAN := Aside0.mk (Nat.le_trans hgp.2 HLF.out)
     have HWJ := Aside0.mk (wadd1 (x := j) (z := j + 1) rfl (by have h := HXL.out; omega))
     clear hz hKz hjl hgp
     go_wp2_with ((with_reducible refine gate_dst (N := 29) rfl ?_); (try (refine gate_guard (by rfl) ?_; dsimp only)); refine goesL_ (some 29) rfl rfl Try.func31 (by kernel_rfl) rfl #[.slice Av acc.length cv, .agg #[.slice M0 z.f0.length m0, .int .i64 z.f1, .bool z.f2, .slice M3 z.f3.length m3]] rfl (by (try simp only [List.map_toArray, List.map_cons, List.map_nil]); first | done | rfl) ?_; refine (put_calls (Kd.C_F k36_heap HAC.out) HAL.out HAG.out HAN.out HZG.out.1 HZG.out.2 HKZ.out.2.1 HKZ.out.1 HKZ.out.2.2.2 HKZ.out.2.2.1).mono ?_; rintro ex w3 ⟨v_, rfl, hv_, hb_⟩; refine ⟨_, rfl, ?_⟩; obtain ⟨A3, c3, rfl, l_, f_⟩ := hv_; have HB3 := Aside0.mk (hb_); have HL3 := Aside0.mk (l_); have HC3 := Aside0.mk (Kd.F_now f_); clear l_ f_ hb_)
     go_roundg k2
     case measure => exact Nat.lt_succ_self _
     case rel =>
      refine ⟨j + 1, putE cmpE z acc, A3, c3, rfl, by first | rfl | rw [HWJ.out], ⟨by have h := HKJ.out; omega⟩, ⟨?_⟩, HL3, HC3, ⟨below_step HB.out HB3.out⟩⟩
      have e : (L.take i).flatten ++ x.take (j + 1) = ((L.take i).flatten ++ x.take j) ++ [z] := by
       rw [List.take_add_one, HZI.out]; simp
      rw [e, putAll_snoc, HA.out]
end Go.Proofs.Ytobjkjmmkbhecaa.Sk
