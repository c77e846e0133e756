/- The law MergeMerges as a contract of its function. Conditions: those of each theorem. -/
import Derived.Test.YtobjkjmmkbhecaaCore
import Derived.Test.YtobjkjmmkbhecaaHaw
import Derived.Test.YtobjkjmmkbhecaaHlt
import Derived.Test.YtobjkjmmkbhecaaHmr
import Derived.Test.YtobjkjmmkbhecaaHod
import Derived.Test.YtobjkjmmkbhecaaHpl
import Derived.Test.YtobjkjmmkbhecaaHrm
import Derived.Test.YtobjkjmmkbhecaaHrw
import Derived.Test.YtobjkjmmkbhecaaHso
import Derived.Test.YtobjkjmmkbhecaaME
import Derived.Test.YtobjkjmmkbhecaaPx0
import Derived.Test.YtobjkjmmkbhecaaHmo
import Derived.Test.YtobjkjmmkbhecaaHps
import Derived.Test.YtobjkjmmkbhecaaHsp
namespace Go.Proofs.Ytobjkjmmkbhecaa.Sk
open Go.RowKit Go.Proofs.YtobjkjmmkbhecaaW.PrintWords Go.Proofs.YtobjkjmmkbhecaaW.PrintLast Go.Proofs.YtobjkjmmkbhecaaW.PrintMore Go.Proofs.Ytobjkjmmkbhecaa.Px Go.Proofs.Ytobjkjmmkbhecaa.Sw
set_option linter.unusedVariables false
set_option linter.unusedSimpArgs false
set_option maxHeartbeats 40000000 in
set_option maxRecDepth 100000 in
theorem merges_calls {w : World} {A : Option Addr} {c : Nat} {L : List (List S36)} (hC : Kd.C (Kd.slice 36 k36) w A L.length L) (hlc : L.length ≤ c) (hG : ∀ l ∈ L, l.length ≤ 2199023255488 ∧ ∀ e ∈ l, EB e ∧ e.f0.length < 140737488355328 ∧ e.f3.length < 140737488355328) (hln : L.length ≤ 6000000000000) :
  Calls Try.prog 3 #[.slice A L.length c] w fun ex w' => ex = .returned (.bool true) ∧ Below w.heap.size w w' := by
 have HC := Aside0.mk hC
 have HLC := Aside0.mk hlc
 have HG := Aside0.mk hG
 have HLN := Aside0.mk hln
 clear hC hlc hG hln
 go_enter Try.func3, Try.ntmps3
 go_wp2_with (first
  | ((with_reducible refine gate_dst (N := 6) rfl ?_); (try (refine gate_guard (by rfl) ?_; dsimp only)); refine goesL_ (some 6) rfl rfl Try.func11 (by kernel_rfl) rfl #[] rfl (by (try simp only [List.map_toArray, List.map_cons, List.map_nil]); first | done | rfl) ?_; refine (awake_calls w).mono ?_; rintro ex w1 ⟨rfl, hb1⟩; refine ⟨_, rfl, ?_⟩; have n_ := Aside0.mk hb1; clear hb1; have hb1 := n_; clear n_))
 go_loopg [4, 5] L.length (fun kq v4 v5 w' => ∃ i : Nat, v4 = .int .i64 (sumL (L.take i) : Int) ∧ v5 = .int .i64 (i : Int) ∧ Aside0 (kq + i = L.length) ∧ Aside0 (∀ x ∈ L.take i, x.length ≤ 400) ∧ Aside0 (sumL (L.take i) ≤ 801) ∧ Aside0 (Below w1.heap.size w1 w'))
 case atStart => exact ⟨0, rfl, rfl, ⟨rfl⟩, ⟨fun x hx => by cases hx⟩, ⟨by show 0 ≤ _; omega⟩, ⟨Below.refl _ _⟩⟩
 case round =>
  obtain ⟨i, rfl, rfl, HK, HLL, HSM, HB⟩ := hrel
  cases gk with
  | zero =>
   as_aux_lemma =>
   have hie : L.length ≤ i := by have h := HK.out; omega
   have hlt : ((i : Int) < (L.length : Int)) = False := eq_false (by omega)
   have HLL := Aside0.mk (show ∀ x ∈ L, x.length ≤ 400 by have h := HLL.out; rwa [List.take_of_length_le hie] at h)
   have HSM := Aside0.mk (show sumL L ≤ 801 by have h := HSM.out; rwa [List.take_of_length_le hie] at h)
   have HFL := Aside0.mk (show L.flatten.length ≤ 801 ∧ L.length ≤ 801 by have h1 := sumL_flat L; have h2 := HSM.out; omega)
   clear hie
   have HGD := Aside0.mk (show goodL L.flatten = true from goodL_iff.2 ⟨fun e he => by obtain ⟨x, hx, hex⟩ := List.mem_flatten.1 he; exact (HG.out x hx).2 e hex, by have h := HFL.out; omega⟩)
   have HML := Aside0.mk (show (putAll cmpE L.flatten).length ≤ 1000000000 by have h := HFL.out; have h2 := putAll_len cmpE L.flatten; omega)
   have HGE := Aside0.mk (show ∀ e ∈ putAll cmpE L.flatten, GE e from fun e he => by have h := (goodL_iff.1 HGD.out).1 e (putAll_sub _ e he); exact ⟨h.1.1, h.1.2.1⟩)
   go_wp2_with (first
    | ((with_reducible refine gate_dst (N := 35) rfl ?_); (try (refine gate_guard (by rfl) ?_; dsimp only)); refine goesL_ (some 35) rfl rfl Try.func13 (by kernel_rfl) rfl #[.slice A L.length c] rfl (by (try simp only [List.map_toArray, List.map_cons, List.map_nil]); first | done | rfl) ?_; refine (merge_calls (rows_of_F (Kd.C_F (Kd.heap_slice 36 k36_heap) (Kd.C_below (Kd.C_below HC.out hb1.out) HB.out))) (goodL_iff.1 HGD.out).2 (by have h := HFL.out; omega) (fun e he => ((goodL_iff.1 HGD.out).1 e he).2) (fun e he => ((goodL_iff.1 HGD.out).1 e he).1)).mono ?_; rintro ex w2 ⟨v_, rfl, hn_, hb_⟩; refine ⟨_, rfl, ?_⟩; obtain ⟨A35, c35, e_⟩ := Kd.N_slice hn_; subst e_; have C35 := Aside0.mk ((Kd.N_reads' hn_).2.2); have L35 := Aside0.mk ((Kd.N_reads' hn_).2.1); have Bw2 := Aside0.mk (hb_); clear hn_ hb_)
    | ((with_reducible refine gate_dst (N := 37) rfl ?_); (try (refine gate_guard (by rfl) ?_; dsimp only)); refine goesL_ (some 37) rfl rfl Try.func14 (by kernel_rfl) rfl #[.slice A L.length c] rfl (by (try simp only [List.map_toArray, List.map_cons, List.map_nil]); first | done | rfl) ?_; refine (rmerge_calls (c := c) (Kd.C_below (Kd.C_below (Kd.C_below HC.out hb1.out) HB.out) Bw2.out) HGD.out (by have h := HFL.out; omega) (by have h := HFL.out; omega)).mono ?_; rintro ex w3 ⟨A37, c37, rfl, l_, c_, hb_⟩; refine ⟨_, rfl, ?_⟩; have L37 := Aside0.mk (l_); have C37 := Aside0.mk (c_); have Bw3 := Aside0.mk (hb_); clear l_ c_ hb_)
    | ((with_reducible refine gate_dst (N := 38) rfl ?_); (try (refine gate_guard (by rfl) ?_; dsimp only)); refine goesL_ (some 38) rfl rfl Try.func12 (by kernel_rfl) rfl #[.slice A35 (putAll cmpE L.flatten).length c35, .slice A37 (putAll cmpE L.flatten).length c37] rfl (by (try simp only [List.map_toArray, List.map_cons, List.map_nil]); first | done | rfl) ?_; refine (same_calls (Kd.C_below C35.out Bw3.out) L35.out C37.out L37.out HGE.out HML.out).mono ?_; rintro ex w4 ⟨rfl, hb_⟩; refine ⟨_, rfl, ?_⟩; have Bw4 := Aside0.mk (hb_); clear hb_))
   go_ret
   exact ⟨rfl, below_step (below_step (below_step (below_step hb1.out HB.out) Bw2.out) Bw3.out) Bw4.out⟩
  | succ k1 =>
   as_aux_lemma =>
   have hil : i < L.length := by have h := HK.out; omega
   have hlt : ((i : Int) < (L.length : Int)) = True := eq_true (by omega)
   obtain ⟨x, hx⟩ : ∃ x, L[i]? = some x := ⟨_, List.getElem?_eq_getElem hil⟩
   have HCW := Aside0.mk (Kd.C_below (Kd.C_below HC.out hb1.out) HB.out)
   obtain ⟨al, B, d, ea, hcx, hlx, hfx⟩ := at_rows HCW.out hx
   subst ea
   have HXI := Aside0.mk hx
   have HXM := Aside0.mk (List.mem_of_getElem? hx)
   have HXB := Aside0.mk (HG.out x HXM.out).1
   have HTK := Aside0.mk (sumL_take hx)
   have HWK := Aside0.mk (wadd1 (x := i) (z := i + 1) rfl (by have h := HLN.out; omega))
   skip
   clear hx hil
   by_cases hl : x.length ≤ 400
   case neg =>
    have hd1 : ((400 : Int) < (x.length : Int)) = True := eq_true (by omega)
    clear hl
    go_wp2
    go_ret
    exact ⟨rfl, below_step hb1.out HB.out⟩
   have hd1 : ((400 : Int) < (x.length : Int)) = False := eq_false (by omega)
   by_cases hn : sumL (L.take i) ≤ 400
   case neg =>
    have hd2 : ((400 : Int) < (sumL (L.take i) : Int)) = True := eq_true (by omega)
    clear hl hn
    go_wp2
    go_ret
    exact ⟨rfl, below_step hb1.out HB.out⟩
   have hd2 : ((400 : Int) < (sumL (L.take i) : Int)) = False := eq_false (by omega)
   have hwa : wrap64 ((sumL (L.take i) : Int) + (x.length : Int)) = (sumL (L.take i) : Int) + (x.length : Int) := wrap_in (by omega) (by omega)
   have hwb : wrap64 ((sumL (L.take i) : Int) + (x.length : Int) + 1) = (sumL (L.take i) : Int) + (x.length : Int) + 1 := wrap_in (by omega) (by omega)
   have HNL := Aside0.mk (show sumL (L.take i) + x.length + 1 ≤ 801 by omega)
   have HXL := Aside0.mk hl
   clear hl hn
   skip
   go_wp2
   go_roundg k1
   case measure => exact Nat.lt_succ_self _
   case rel =>
    refine ⟨i + 1, ?_, ?_, ⟨by have h := HK.out; omega⟩, ⟨fun y hy => ?_⟩, ⟨by rw [HTK.out]; exact HNL.out⟩, ⟨HB.out⟩⟩
    ·
     first | rfl | rw [HWK.out] | (rw [HTK.out]; first | rfl | (congr 1; done) | (congr 1; omega))
    ·
     first | rfl | rw [HWK.out] | (rw [HTK.out]; first | rfl | (congr 1; done) | (congr 1; omega))
    ·
     rw [List.take_add_one, HXI.out] at hy
     rcases List.mem_append.1 hy with e | e
     ·
      exact HLL.out y e
     ·
      have e2 : y = x := by simpa using e
      rw [e2]; exact HXL.out
end Go.Proofs.Ytobjkjmmkbhecaa.Sk
