/- The law MergeRow as a contract of its function. Conditions: those of each theorem. -/
import Derived.Test.YtobjkjmmkbhecaaCore
import Derived.Test.YtobjkjmmkbhecaaHaw
import Derived.Test.YtobjkjmmkbhecaaME
import Derived.Test.YtobjkjmmkbhecaaHlt
import Derived.Test.YtobjkjmmkbhecaaHmo
import Derived.Test.YtobjkjmmkbhecaaHmr
import Derived.Test.YtobjkjmmkbhecaaHod
import Derived.Test.YtobjkjmmkbhecaaHpl
import Derived.Test.YtobjkjmmkbhecaaHrw
import Derived.Test.YtobjkjmmkbhecaaHso
import Derived.Test.YtobjkjmmkbhecaaPx0
import Derived.Test.YtobjkjmmkbhecaaMB
import Derived.Test.YtobjkjmmkbhecaaHps
import Derived.Test.YtobjkjmmkbhecaaHsp
namespace Go.Proofs.Ytobjkjmmkbhecaa.Sk
open Go.RowKit Go.Proofs.YtobjkjmmkbhecaaW.PrintWords Go.Proofs.YtobjkjmmkbhecaaW.PrintLast Go.Proofs.YtobjkjmmkbhecaaW.PrintMore Go.Proofs.Ytobjkjmmkbhecaa.Px Go.Proofs.Ytobjkjmmkbhecaa.Sw
set_option linter.unusedVariables false
set_option linter.unusedSimpArgs false

theorem verF_calls {w : World} {A : Option Addr} {c : Nat} {B : Option Addr} {d : Nat} {xs : List S36} {key : List Int} (seq : Int) (hC : Kd.C k36 w A xs.length xs) (hlc : xs.length ≤ c) (hK : Kd.C (Kd.int .u8) w B key.length key) (hd : key.length ≤ d) (hk : Byts key) (hg : goodL xs = true) {e : S36} (he : verM xs key seq = some e) :
  Calls Try.prog 22 #[.slice A xs.length c, .slice B key.length d, .int .i64 seq] w fun ex w' => ∃ M0 m0 M3 m3, ex = .returned (.tuple #[.agg #[.slice M0 e.f0.length m0, .int .i64 e.f1, .bool e.f2, .slice M3 e.f3.length m3], .bool true]) ∧ e.f0.length ≤ m0 ∧ e.f3.length ≤ m3 ∧ Kd.F (Kd.int .u8) w' (fun k => w.heap.size ≤ k) M0 e.f0.length e.f0 ∧ Kd.F (Kd.int .u8) w' (fun k => w.heap.size ≤ k) M3 e.f3.length e.f3 ∧ Below w.heap.size w w' := by
 have h2 := goodL_iff.1 hg
 have h := version_loop xs key seq hk (fun e he => ⟨⟨(h2.1 e he).1.1, (h2.1 e he).1.2.1⟩, (h2.1 e he).2⟩) h2.2 xs.length 0 (by omega) (by omega)
 rw [List.drop_zero, he] at h
 obtain ⟨K, hK2⟩ := h
 refine (sawyerref06_Version.calls K A c xs B d key seq _ _ _ _ _ w hC hlc hK hd (hK2 K (Nat.le_refl _))).mono ?_
 rintro ex w' ⟨v0, v3, rfl, h0, h3, hb⟩
 obtain ⟨M0, m0, rfl⟩ := Kd.R_slice h0
 obtain ⟨M3, m3, rfl⟩ := Kd.R_slice h3
 exact ⟨M0, m0, M3, m3, rfl, (Kd.R_reads' h0).2.1, (Kd.R_reads' h3).2.1, Kd.F_mono (Kd.R_F (Kd.R_bound h0)) (fun k hk => hk.2.1), Kd.F_mono (Kd.R_F (Kd.R_bound h3)) (fun k hk => hk.2.1), hb⟩
theorem alloc_step {P : Program} {ops : Array Oper} {o : Oper} {a : Act} {Q : Exit → Act → World → Prop} {Kc : Act → World → Prop} {W : World} (hw : Region.wanted o (yielded ops a.tmps) = true) {N : Tmp} (_hd : o.dst = some N) {cs : Array Value} {t : TypeId}
  (hrun : (execOp a.eval o).run P W = .ok (.value (.pointer (some ⟨W.heap.size, 0, none⟩))) (W.alloc (.cells cs t (0, 0))))
  (h : ∀ g, g = W.heap.size → ∀ w1, w1.heap[g]? = some (.cells cs t (0, 0)) → Below W.heap.size W w1 → Kc (a.put o.dst (.pointer (some ⟨g, 0, none⟩))) w1) : if Region.wanted o (yielded ops a.tmps) = true then Oper.wp P o a W Kc Q else Kc (a.put o.dst undef) W := by
 rw [if_pos hw]
 unfold Oper.wp
 rw [hrun]
 exact h _ rfl _ (blk_new W _) (below_alloc (Below.refl _ _) _)
theorem f_far4 {w : World} {ok : Nat → Prop} {A : Option Addr} {n : Nat} {xs : List Int} {g : Nat} (h : Kd.F (Kd.int .u8) w ok A n xs) (hok : ∀ k, ok k → k ≠ g) (a b c d : Value) : Kd.F (Kd.int .u8) ((((w.setCell ⟨g, 0, none⟩ a).setCell ⟨g, 1, none⟩ b).setCell ⟨g, 2, none⟩ c).setCell ⟨g, 3, none⟩ d) ok A n xs :=
 Kd.F_far (p := ⟨g, 3, none⟩) (Kd.F_far (p := ⟨g, 2, none⟩) (Kd.F_far (p := ⟨g, 1, none⟩) (Kd.F_far (p := ⟨g, 0, none⟩) h hok a) hok b) hok c) hok d
theorem set_four {w : World} {g9 : Nat} {c0 c1 c2 c3 a b c d : Value} {t : TypeId} (h : w.heap[g9]? = some (.cells #[c0, c1, c2, c3] t (0, 0))) : ((((w.setCell ⟨g9, 0, none⟩ a).setCell ⟨g9, 1, none⟩ b).setCell ⟨g9, 2, none⟩ c).setCell ⟨g9, 3, none⟩ d).heap[g9]? = some (.cells #[a, b, c, d] t (0, 0)) :=
 blk_put (cs := #[a, b, c, c3]) (blk_put (cs := #[a, b, c2, c3]) (blk_put (cs := #[a, c1, c2, c3]) (blk_put (cs := #[c0, c1, c2, c3]) h 0 a rfl) 1 b rfl) 2 c rfl) 3 d rfl
set_option maxHeartbeats 40000000 in
set_option maxRecDepth 100000 in
theorem row_calls {w : World} {A : Option Addr} {c : Nat} {L : List (List S36)} (hC : Kd.C (Kd.slice 36 k36) w A L.length L) (hlc : L.length ≤ c) (hG : ∀ l ∈ L, l.length ≤ 2199023255488 ∧ ∀ e ∈ l, EB e ∧ e.f0.length < 140737488355328 ∧ e.f3.length < 140737488355328) (hln : L.length ≤ 6000000000000) :
  Calls Try.prog 5 #[.slice A L.length c] w fun ex w' => ex = .returned (.bool true) ∧ Below w.heap.size w w' := by
 have HC := Aside0.mk hC
 have HLC := Aside0.mk hlc
 have HG := Aside0.mk hG
 have HLN := Aside0.mk hln
 clear hC hlc hG hln
 go_enter Try.func5, Try.ntmps5
 go_wp2_with (first
  | ((with_reducible refine gate_dst (N := 11) rfl ?_); (try (refine gate_guard (by rfl) ?_; dsimp only)); refine goesL_ (some 11) rfl rfl Try.func11 (by kernel_rfl) rfl #[] rfl (by (try simp only [List.map_toArray, List.map_cons, List.map_nil]); first | done | rfl) ?_; refine (awake_calls w).mono ?_; rintro ex w1 ⟨rfl, hb1⟩; refine ⟨_, rfl, ?_⟩; have n_ := Aside0.mk hb1; clear hb1; have hb1 := n_; clear n_))
 go_loopg [4, 5] L.length (fun kq v4 v5 w' => ∃ i : Nat, v4 = .int .i64 (sumL (L.take i) : Int) ∧ v5 = .int .i64 (i : Int) ∧ Aside0 (kq + i = L.length) ∧ Aside0 (∀ x ∈ L.take i, x.length ≤ 300 ∧ rowOk none x = true) ∧ Aside0 (sumL (L.take i) ≤ 601) ∧ Aside0 (Below w1.heap.size w1 w'))
 case atStart => exact ⟨0, rfl, rfl, ⟨rfl⟩, ⟨fun x hx => by cases hx⟩, ⟨by show 0 ≤ _; omega⟩, ⟨Below.refl _ _⟩⟩
 case round =>
  obtain ⟨i, rfl, rfl, HK, HLL, HSM, HB⟩ := hrel
  cases gk with
  | zero =>
   as_aux_lemma =>
   have hie : L.length ≤ i := by have h := HK.out; omega
   have hlt : ((i : Int) < (L.length : Int)) = False := eq_false (by omega)
   have HLL := Aside0.mk (show ∀ x ∈ L, x.length ≤ 300 ∧ rowOk none x = true by have h := HLL.out; rwa [List.take_of_length_le hie] at h)
   have HSM := Aside0.mk (show sumL L ≤ 601 by have h := HSM.out; rwa [List.take_of_length_le hie] at h)
   have HFL := Aside0.mk (show L.flatten.length ≤ 601 ∧ L.length ≤ 601 by have h1 := sumL_flat L; have h2 := HSM.out; omega)
   clear hie
   obtain ⟨M, hM⟩ : ∃ M, M = putAll cmpE L.flatten := ⟨_, rfl⟩
   have HGD := Aside0.mk (show goodL L.flatten = true from goodL_iff.2 ⟨fun e he => by obtain ⟨x, hx, hex⟩ := List.mem_flatten.1 he; exact (HG.out x hx).2 e hex, by have h := HFL.out; omega⟩)
   have HEA := Aside0.mk (fun e he => ((goodL_iff.1 HGD.out).1 e he).1)
   have hsub : (∀ e ∈ M, e ∈ L.flatten) ∧ M.length ≤ L.flatten.length := by rw [hM]; exact ⟨putAll_sub _, putAll_len _ _⟩
   have HML := Aside0.mk (show M.length ≤ 601 by have h := HFL.out; have h2 := hsub.2; omega)
   have HEM := Aside0.mk (show ∀ e ∈ M, EB e from fun e he => HEA.out e (hsub.1 e he))
   have HGM := Aside0.mk (show goodL M = true from goodL_iff.2 ⟨fun e he => (goodL_iff.1 HGD.out).1 e (hsub.1 e he), by have h := HML.out; omega⟩)
   have hstr : Str cmpE M := by rw [hM]; exact (putAll_ok cmpE_ord _ HEA.out).1
   have hck : ∀ e ∈ L.flatten, ckE e = true := fun e he => by
    obtain ⟨x, hx, hex⟩ := List.mem_flatten.1 he
    exact (rowOk_str (fun e he => ((HG.out x hx).2 e he).1) (fun q hq => by cases hq) (HLL.out x hx).2).2.1 e hex
   have HOM := Aside0.mk (show rowOk none M = true from str_rowOk HEM.out (fun q hq => by cases hq) hstr (fun e he => hck e (hsub.1 e he)))
   have HM := Aside0.mk hM
   clear hM hsub hstr hck
   go_wp2_with (first
    | ((with_reducible refine gate_dst (N := 46) rfl ?_); (try (refine gate_guard (by rfl) ?_; dsimp only)); refine goesL_ (some 46) rfl rfl Try.func13 (by kernel_rfl) rfl #[.slice A L.length c] rfl (by (try simp only [List.map_toArray, List.map_cons, List.map_nil]); first | done | rfl) ?_; refine (merge_calls (c := c) (rows_of_F (Kd.C_F (Kd.heap_slice 36 k36_heap) (Kd.C_below (Kd.C_below HC.out hb1.out) HB.out))) (goodL_iff.1 HGD.out).2 (by have h := HFL.out; omega) (fun e he => ((goodL_iff.1 HGD.out).1 e he).2) (fun e he => ((goodL_iff.1 HGD.out).1 e he).1)).mono ?_; rintro ex w2 ⟨v_, rfl, hn_, hb_⟩; refine ⟨_, rfl, ?_⟩; rw [HM.out.symm] at hn_; obtain ⟨A46, c46, e_⟩ := Kd.N_slice hn_; subst e_; have C46 := Aside0.mk ((Kd.N_reads' hn_).2.2); have L46 := Aside0.mk ((Kd.N_reads' hn_).2.1); have Bw2 := Aside0.mk (hb_); clear hn_ hb_)
    | ((with_reducible refine gate_dst (N := 51) rfl ?_); (try (refine gate_guard (by rfl) ?_; dsimp only)); refine goesL_ (some 51) rfl rfl Try.func21 (by kernel_rfl) rfl #[.slice A46 M.length c46] rfl (by (try simp only [List.map_toArray, List.map_cons, List.map_nil]); first | done | rfl) ?_; refine (ordered_calls C46.out L46.out (fun e he => (HEM.out e he).1) (by have h := HML.out; omega)).mono ?_; rintro ex w3 ⟨rfl, hb_⟩; refine ⟨_, rfl, ?_⟩; rw [HOM.out]; have Bw3 := Aside0.mk (hb_); clear hb_))
   clear HSM
   have HCW := Aside0.mk (Kd.C_below (Kd.C_below (Kd.C_below (Kd.C_below HC.out hb1.out) HB.out) Bw2.out) Bw3.out)
   have HMX := Aside0.mk (Kd.C_below C46.out Bw3.out)
   go_loopg [7] L.length (fun kq v7 w' => ∃ i : Nat, v7 = .int .i64 (i : Int) ∧ Aside0 (kq + i = L.length) ∧ Aside0 (Below w3.heap.size w3 w'))
   case atStart => exact ⟨0, rfl, ⟨rfl⟩, ⟨Below.refl _ _⟩⟩
   case round =>
    obtain ⟨i, rfl, HKI, HBB⟩ := hrel
    cases gk with
    | zero =>
     as_aux_lemma =>
     have hlt : ((i : Int) < (L.length : Int)) = False := eq_false (by have h := HKI.out; omega)
     go_wp2
     go_ret
     exact ⟨rfl, below_step (below_step (below_step (below_step hb1.out HB.out) Bw2.out) Bw3.out) HBB.out⟩
    | succ k1 =>
     as_aux_lemma =>
     have hil : i < L.length := by have h := HKI.out; omega
     have hlt : ((i : Int) < (L.length : Int)) = True := eq_true (by omega)
     obtain ⟨x, hx⟩ : ∃ x, L[i]? = some x := ⟨_, List.getElem?_eq_getElem hil⟩
     have HXI := Aside0.mk hx
     have HXM := Aside0.mk (List.mem_of_getElem? hx)
     have HXL := Aside0.mk (HLL.out x HXM.out).1
     have HIN := Aside0.mk hil
     have HWK := Aside0.mk (wadd1 (x := i) (z := i + 1) rfl (by have h := HLN.out; omega))
     clear hx hil
     go_wp2
     clear hlt
     generalize wr = wo at HBB ⊢
     go_loopg [8] x.length (fun kq v8 w' => ∃ k : Nat, v8 = .int .i64 (k : Int) ∧ Aside0 (kq + k = x.length) ∧ Aside0 (Below wo.heap.size wo w'))
     case atStart => exact ⟨0, rfl, ⟨rfl⟩, ⟨Below.refl _ _⟩⟩
     case round =>
      obtain ⟨k, rfl, Hk36, HBI⟩ := hrel
      have HBW := Aside0.mk (below_step HBB.out HBI.out)
      have hlt : ((i : Int) < (L.length : Int)) = True := eq_true (by have h := HIN.out; omega)
      obtain ⟨ad, B, d, ea, hrow, hlr, hfr⟩ := at_rows (Kd.C_below HCW.out HBW.out) HXI.out
      subst ea
      have HFR := Aside0.mk (Kd.F_now hfr)
      clear hlr hfr
      cases gk with
      | zero =>
       as_aux_lemma =>
       have hlt2 : ((k : Int) < (x.length : Int)) = False := eq_false (by have h := Hk36.out; omega)
       go_wp2
       go_roundg k1
       case measure => exact Nat.lt_succ_self _
       case rel => exact ⟨i + 1, by first | rfl | rw [HWK.out], ⟨by have h := HKI.out; omega⟩, HBW⟩
      | succ k2 =>
       as_aux_lemma =>
       have hkl : k < x.length := by have h := Hk36.out; omega
       have hlt2 : ((k : Int) < (x.length : Int)) = True := eq_true (by omega)
       have HWI := Aside0.mk (wadd1 (x := k) (z := k + 1) rfl (by have h := HXL.out; omega))
       obtain ⟨z, hz⟩ : ∃ z, x[k]? = some z := ⟨_, List.getElem?_eq_getElem hkl⟩
       obtain ⟨bd, M0, m0, M3, m3, ea, hz0, hz1, hz2, hz3, hKz⟩ := at_CE HFR.out k z hz
       subst ea
       have HKZ := Aside0.mk hKz
       have HZM := Aside0.mk (List.mem_flatten.2 ⟨x, HXM.out, List.mem_of_getElem? hz⟩)
       have HZB := Aside0.mk ((HG.out x HXM.out).2 z (List.mem_of_getElem? hz))
       have hve : ∃ e, verM M z.f0 z.f1 = some e ∧ e.f1 = z.f1 ∧ (i = 0 → z = e) := by
        by_cases hi : i = 0
        ·
         refine ⟨z, ?_, rfl, fun _ => rfl⟩
         have hx0 := HXI.out
         rw [hi] at hx0
         cases hLL : L with
         | nil => rw [hLL] at hx0; cases hx0
         | cons y L2 =>
          rw [hLL] at hx0
          have hxy : y = x := Option.some.inj hx0
          have hf : L.flatten = x ++ L2.flatten := by rw [hLL, hxy]; rfl
          rw [HM.out, hf]
          exact merged_first (fun e he => HEA.out e (by rw [hf]; exact he)) (rowOk_str (fun e he => ((HG.out x HXM.out).2 e he).1) (fun q hq => by cases hq) (HLL.out x HXM.out).2).1 (List.mem_of_getElem? hz)
        ·
         obtain ⟨e, h1, _, h2⟩ := merged_ver HEA.out HZM.out
         exact ⟨e, by rw [HM.out]; exact h1, h2, fun h => absurd h hi⟩
       obtain ⟨e, he, he1, hez⟩ := hve
       have HVE := Aside0.mk he
       have HE1 := Aside0.mk he1
       have HEZ := Aside0.mk hez
       have HMW := Aside0.mk (Kd.C_below HMX.out HBW.out)
       have HROW := Aside0.mk hrow
       have HZ0 := Aside0.mk hz0
       have HZ1 := Aside0.mk hz1
       have HZ2 := Aside0.mk hz2
       have HZ3 := Aside0.mk hz3
       clear he he1 hez hz hkl hKz hz2 hz3
       go_upto_region 18 with (fail)
       refine s_ 24 [22] (fun w' => w'.cell? (ad.add i) = some (.slice (some bd) x.length d) ∧ w'.cell? (bd.add (k * 4)) = some (.slice M0 z.f0.length m0) ∧ w'.cell? ⟨(bd.add (k * 4)).block, (bd.add (k * 4)).off + 1, none⟩ = some (.int .i64 z.f1)) (hS := ⟨hrow, hz0, hz1⟩) (h := fun hHeld => ?_)
       have HDW := Aside0.mk (show Below wr.heap.size wr wr.drew from below_drew (Below.refl _ _))
       clear hrow hz0 hz1
       generalize wr.drew = w5 at hHeld HDW ⊢
       refine p_ 0 70 (bb 24 1) (h := ?_)
       refine p_ 1 71 (bb 24 3) (h := ?_)
       refine p_ 2 72 (bb 24 7) (h := ?_)
       refine p_ 3 73 (bb 24 15) (h := ?_)
       refine t_ 4 74 (bb 24 31) hHeld (h := ?_)
       refine p_ 5 75 (bb 24 63) (h := ?_)
       refine p_ 6 76 (bb 24 127) (h := ?_)
       refine p_ 7 77 (bb 24 255) (h := ?_)
       refine t_ 8 78 (bb 24 511) hHeld (h := ?_)
       refine p_ 9 79 (bb 24 1023) (h := ?_)
       refine p_ 10 80 (bb 24 2047) (h := ?_)
       refine p_ 11 81 (bb 24 4095) (h := ?_)
       refine t_ 12 82 (bb 24 8191) hHeld (h := ?_)
       refine p_ 13 83 (bb 24 16383) (h := ?_)
       refine p_ 14 84 (bb 24 32767) (h := ?_)
       refine p_ 15 85 (bb 24 65535) (h := ?_)
       refine t_ 16 86 (bb 24 131071) hHeld (h := ?_)
       refine join_ (σ := Option Addr × Nat × Option Addr × Nat × Nat) 2 (bb 24 4194303) (fun s => [(87, .tuple #[.agg #[.slice s.1 e.f0.length s.2.1, .int .i64 e.f1, .bool e.f2, .slice s.2.2.1 e.f3.length s.2.2.2.1], .bool true]), (69, .tuple #[.agg #[.slice s.1 e.f0.length s.2.1, .int .i64 e.f1, .bool e.f2, .slice s.2.2.1 e.f3.length s.2.2.2.1], .bool true]), (88, .agg #[.slice s.1 e.f0.length s.2.1, .int .i64 e.f1, .bool e.f2, .slice s.2.2.1 e.f3.length s.2.2.2.1]), (89, .bool true), (9, .pointer (some ⟨s.2.2.2.2, 0, none⟩))]) (fun (s : Option Addr × Nat × Option Addr × Nat × Nat) (w' : World) => (e.f0.length ≤ s.2.1 ∧ Kd.F (Kd.int .u8) w' (fun k => k ≠ s.2.2.2.2) s.1 e.f0.length e.f0 ∧ e.f3.length ≤ s.2.2.2.1 ∧ Kd.F (Kd.int .u8) w' (fun k => k ≠ s.2.2.2.2) s.2.2.1 e.f3.length e.f3) ∧ w'.heap[s.2.2.2.2]? = some (.cells #[.slice none 0 0, .int .i64 0, .bool false, .slice none 0 0] 36 (0, 0)) ∧ w5.heap.size ≤ s.2.2.2.2 ∧ Below w5.heap.size w5 w') ?_ (fun hcont => ?_)
       rotate_left
       ·
        refine two_ (i := 17) (j := 21) (Ni := some 87) (Nj := some 9) (bb 24 262143) (bb 24 2228223) rfl rfl rfl rfl (by kernel_rfl) (by decide) (by decide) (fun K hK => ?_) (fun K hK => ?_)
        ·
         refine goes_ Try.func22 (by kernel_rfl) rfl #[.slice A46 M.length c46, .slice M0 z.f0.length m0, .int .i64 z.f1] (by rfl) rfl rfl (by (try simp only [List.map_toArray, List.map_cons, List.map_nil]); first | done | rfl) ?_
         refine (verF_calls z.f1 (Kd.C_below HMW.out (below_step HDW.out (Below.refl _ _))) L46.out (Kd.C_below HKZ.out.2.1 (below_step HDW.out (Below.refl _ _))) HKZ.out.1 HZB.out.1.1 HGM.out HVE.out).mono ?_
         rintro ex wc ⟨P0, p0, P3, p3, rfl, hl0, hl3, hF0, hF3, hbc⟩
         refine ⟨_, rfl, ?_⟩
         have hl0 := Aside0.mk hl0
         have hF0 := Aside0.mk hF0
         have hl3 := Aside0.mk hl3
         have hF3 := Aside0.mk hF3
         have hbc := Aside0.mk hbc
         refine hK.out _ _ ⟨pw_cell_below (hbc.out) hHeld.1, pw_cell_below (hbc.out) hHeld.2.1, pw_cell_below (hbc.out) hHeld.2.2⟩ (fun hHeld => ?_)
         clear hK K
         refine m_ 87 (h := ?_)
         refine p_ 18 69 (bb 24 524287) (h := ?_)
         refine p_ 19 88 (bb 24 1048575) (h := ?_)
         refine p_ 20 89 (bb 24 2097151) (h := ?_)
         refine n_ 21 9 (bb 24 4194303) (h := fun K hK => ?_)
         refine alloc_step (N := 9) (cs := #[.slice none 0 0, .int .i64 0, .bool false, .slice none 0 0]) (t := 36) (by rfl) rfl ?hr ?_
         case hr => first | (go_simp; done) | (go_simp; rfl)
         intro ga hqa wa hxa hba
         have hqa := Aside0.mk hqa
         have hxa := Aside0.mk hxa
         have hba := Aside0.mk hba
         refine hK.out _ _ ⟨pw_cell_below (hba.out) hHeld.1, pw_cell_below (hba.out) hHeld.2.1, pw_cell_below (hba.out) hHeld.2.2⟩ (fun hHeld => ?_)
         clear hK K
         refine m_ 9 (h := ?_)
         refine norm_ ?_ (hcont (P0, p0, P3, p3, ga) _ ⟨⟨hl0.out, Kd.F_mono (Kd.F_below (Kd.F_bound hF0.out) hba.out) (fun k hk => by have := hqa.out; have := hk.2; show k ≠ ga; omega), hl3.out, Kd.F_mono (Kd.F_below (Kd.F_bound hF3.out) hba.out) (fun k hk => by have := hqa.out; have := hk.2; show k ≠ ga; omega)⟩, hxa.out, by have := hqa.out; have := hbc.out.size; show _ ≤ ga; omega, below_step hbc.out hba.out⟩)
         show _ = Go.Proofs.YtobjkjmmkbhecaaW.PrintLast.putAll _ [(87, .tuple #[.agg #[.slice P0 e.f0.length p0, .int .i64 e.f1, .bool e.f2, .slice P3 e.f3.length p3], .bool true]), (69, .tuple #[.agg #[.slice P0 e.f0.length p0, .int .i64 e.f1, .bool e.f2, .slice P3 e.f3.length p3], .bool true]), (88, .agg #[.slice P0 e.f0.length p0, .int .i64 e.f1, .bool e.f2, .slice P3 e.f3.length p3]), (89, .bool true), (9, .pointer (some ⟨ga, 0, none⟩))]
         simp only [Go.Proofs.YtobjkjmmkbhecaaW.PrintLast.putAll, Act.put, List.setIfInBounds_toArray, List.set_cons_zero, List.set_cons_succ]

        ·
         refine alloc_step (N := 9) (cs := #[.slice none 0 0, .int .i64 0, .bool false, .slice none 0 0]) (t := 36) (by rfl) rfl ?hr ?_
         case hr => first | (go_simp; done) | (go_simp; rfl)
         intro ga hqa wa hxa hba
         have hqa := Aside0.mk hqa
         have hxa := Aside0.mk hxa
         have hba := Aside0.mk hba
         refine hK.out _ _ ⟨pw_cell_below (hba.out) hHeld.1, pw_cell_below (hba.out) hHeld.2.1, pw_cell_below (hba.out) hHeld.2.2⟩ (fun hHeld => ?_)
         clear hK K
         refine m_ 9 (h := ?_)
         refine n_ 17 87 (bb 24 2359295) (h := fun K hK => ?_)
         refine goes_ Try.func22 (by kernel_rfl) rfl #[.slice A46 M.length c46, .slice M0 z.f0.length m0, .int .i64 z.f1] (by rfl) rfl rfl (by (try simp only [List.map_toArray, List.map_cons, List.map_nil]); first | done | rfl) ?_
         refine (verF_calls z.f1 (Kd.C_below HMW.out (below_step HDW.out hba.out)) L46.out (Kd.C_below HKZ.out.2.1 (below_step HDW.out hba.out)) HKZ.out.1 HZB.out.1.1 HGM.out HVE.out).mono ?_
         rintro ex wc ⟨P0, p0, P3, p3, rfl, hl0, hl3, hF0, hF3, hbc⟩
         refine ⟨_, rfl, ?_⟩
         have hl0 := Aside0.mk hl0
         have hF0 := Aside0.mk hF0
         have hl3 := Aside0.mk hl3
         have hF3 := Aside0.mk hF3
         have hbc := Aside0.mk hbc
         refine hK.out _ _ ⟨pw_cell_below (hbc.out) hHeld.1, pw_cell_below (hbc.out) hHeld.2.1, pw_cell_below (hbc.out) hHeld.2.2⟩ (fun hHeld => ?_)
         clear hK K
         refine m_ 87 (h := ?_)
         refine p_ 18 69 (bb 24 2621439) (h := ?_)
         refine p_ 19 88 (bb 24 3145727) (h := ?_)
         refine p_ 20 89 (bb 24 4194303) (h := ?_)
         refine norm_ ?_ (hcont (P0, p0, P3, p3, ga) _ ⟨⟨hl0.out, Kd.F_mono hF0.out (fun k hk => by have := blk_lt hxa.out; have h2 : wa.heap.size ≤ k := hk; show k ≠ ga; omega), hl3.out, Kd.F_mono hF3.out (fun k hk => by have := blk_lt hxa.out; have h2 : wa.heap.size ≤ k := hk; show k ≠ ga; omega)⟩, blk_below hxa.out hbc.out, by have := hqa.out; show _ ≤ ga; omega, below_step hba.out hbc.out⟩)
         show _ = Go.Proofs.YtobjkjmmkbhecaaW.PrintLast.putAll _ [(87, .tuple #[.agg #[.slice P0 e.f0.length p0, .int .i64 e.f1, .bool e.f2, .slice P3 e.f3.length p3], .bool true]), (69, .tuple #[.agg #[.slice P0 e.f0.length p0, .int .i64 e.f1, .bool e.f2, .slice P3 e.f3.length p3], .bool true]), (88, .agg #[.slice P0 e.f0.length p0, .int .i64 e.f1, .bool e.f2, .slice P3 e.f3.length p3]), (89, .bool true), (9, .pointer (some ⟨ga, 0, none⟩))]
         simp only [Go.Proofs.YtobjkjmmkbhecaaW.PrintLast.putAll, Act.put, List.setIfInBounds_toArray, List.set_cons_zero, List.set_cons_succ]

       rintro ⟨P0, p0, P3, p3, ga⟩ wc ⟨⟨hl0, hF0, hl3, hF3⟩, hxa, hga, hbc⟩
       have HL0 := Aside0.mk (show e.f0.length ≤ p0 from hl0)
       have HF0 := Aside0.mk (show Kd.F (Kd.int .u8) wc (fun k => k ≠ ga) P0 e.f0.length e.f0 from hF0)
       have HL3 := Aside0.mk (show e.f3.length ≤ p3 from hl3)
       have HF3 := Aside0.mk (show Kd.F (Kd.int .u8) wc (fun k => k ≠ ga) P3 e.f3.length e.f3 from hF3)
       have HXA := Aside0.mk (show wc.heap[ga]? = _ from hxa)
       have HGA := Aside0.mk (show w5.heap.size ≤ ga from hga)
       have HBC := Aside0.mk hbc
       clear hl0 hF0 hl3 hF3 hxa hga hbc
       have hHeld := Aside0.mk (show (wc.cell? (ad.add i) = some (.slice (some bd) x.length d) ∧ wc.cell? (bd.add (k * 4)) = some (.slice M0 z.f0.length m0) ∧ wc.cell? ⟨(bd.add (k * 4)).block, (bd.add (k * 4)).off + 1, none⟩ = some (.int .i64 z.f1)) ∧ True from ⟨⟨pw_cell_below (HBC.out) hHeld.1, pw_cell_below (HBC.out) hHeld.2.1, pw_cell_below (HBC.out) hHeld.2.2⟩, trivial⟩)
       replace hHeld := hHeld.out.1
       refine norm_ (a' := ?_) ?_ ?_
       rotate_left
       ·
        show Go.Proofs.YtobjkjmmkbhecaaW.PrintLast.putAll _ [(87, .tuple #[.agg #[.slice P0 e.f0.length p0, .int .i64 e.f1, .bool e.f2, .slice P3 e.f3.length p3], .bool true]), (69, .tuple #[.agg #[.slice P0 e.f0.length p0, .int .i64 e.f1, .bool e.f2, .slice P3 e.f3.length p3], .bool true]), (88, .agg #[.slice P0 e.f0.length p0, .int .i64 e.f1, .bool e.f2, .slice P3 e.f3.length p3]), (89, .bool true), (9, .pointer (some ⟨ga, 0, none⟩))] = _
        simp only [Go.Proofs.YtobjkjmmkbhecaaW.PrintLast.putAll, Act.put, List.setIfInBounds_toArray, List.set_cons_zero, List.set_cons_succ]
        rfl
       have hcy0 : wc.cell? ⟨ga, 0, none⟩ = some (.slice none 0 0) := (blk_cell HXA.out 0).trans rfl
       have hcy1 : wc.cell? ⟨ga, 1, none⟩ = some (.int .i64 0) := (blk_cell HXA.out 1).trans rfl
       have hcy2 : wc.cell? ⟨ga, 2, none⟩ = some (.bool false) := (blk_cell HXA.out 2).trans rfl
       have hcy3 : wc.cell? ⟨ga, 3, none⟩ = some (.slice none 0 0) := (blk_cell HXA.out 3).trans rfl
       have hfy0 : wc.frozen? ⟨ga, 0, none⟩ = false := blk_frozen HXA.out 0
       have hfy1 : wc.frozen? ⟨ga, 1, none⟩ = false := blk_frozen HXA.out 1
       have hfy2 : wc.frozen? ⟨ga, 2, none⟩ = false := blk_frozen HXA.out 2
       have hfy3 : wc.frozen? ⟨ga, 3, none⟩ = false := blk_frozen HXA.out 3
       refine l_ 22 (bb 24 8388607) (h := ?_)
       clear hcy0 hcy1 hcy2 hcy3 hfy0 hfy1 hfy2 hfy3 hHeld
       have X6 := Aside0.mk (set_four (a := .slice P0 e.f0.length p0) (b := .int .i64 e.f1) (c := .bool e.f2) (d := .slice P3 e.f3.length p3) HXA.out)
       have B6 := Aside0.mk (show Below w5.heap.size w5 ((((wc.setCell ⟨ga, 0, none⟩ (.slice P0 e.f0.length p0)).setCell ⟨ga, 1, none⟩ (.int .i64 e.f1)).setCell ⟨ga, 2, none⟩ (.bool e.f2)).setCell ⟨ga, 3, none⟩ (.slice P3 e.f3.length p3)) from below_set (below_set (below_set (below_set HBC.out HGA.out) HGA.out) HGA.out) HGA.out)
       have HH0 := Aside0.mk (f_far4 HF0.out (fun k hk => hk) (.slice P0 e.f0.length p0) (.int .i64 e.f1) (.bool e.f2) (.slice P3 e.f3.length p3))
       have HH3 := Aside0.mk (f_far4 HF3.out (fun k hk => hk) (.slice P0 e.f0.length p0) (.int .i64 e.f1) (.bool e.f2) (.slice P3 e.f3.length p3))
       generalize ((((wc.setCell ⟨ga, 0, none⟩ (.slice P0 e.f0.length p0)).setCell ⟨ga, 1, none⟩ (.int .i64 e.f1)).setCell ⟨ga, 2, none⟩ (.bool e.f2)).setCell ⟨ga, 3, none⟩ (.slice P3 e.f3.length p3)) = w6 at X6 B6 HH0 HH3 ⊢
       clear HF0 HF3 HXA HGA HBC
       refine p_ 23 10 (bb 24 16777215) (h := ?_)
       refine d_ (h := ?_)
       clear hHeld
       go_upto_region 19 with (fail)
       have X6d := Aside0.mk (blk_drew X6.out)
       have B7 := Aside0.mk (below_drew (below_step HDW.out B6.out))
       by_cases hi : i = 0
       ·
        have hez := HEZ.out hi
        subst hez
        have hi0 : ((i : Int) == 0) = true := by rw [hi]; rfl
        have hi1 : (i = 0) = True := eq_true hi
        clear hi
        refine s_ 31 [] (fun w' => w'.cell? ⟨ga, 0, none⟩ = some (.slice P0 z.f0.length p0) ∧ w'.cell? ⟨ga, 1, none⟩ = some (.int .i64 z.f1) ∧ w'.cell? ⟨ga, 2, none⟩ = some (.bool z.f2) ∧ w'.cell? ⟨ga, 3, none⟩ = some (.slice P3 z.f3.length p3) ∧ w'.cell? (ad.add i) = some (.slice (some bd) x.length d) ∧ w'.cell? (bd.add (k * 4)) = some (.slice M0 z.f0.length m0) ∧ w'.cell? ⟨(bd.add (k * 4)).block, (bd.add (k * 4)).off + 1, none⟩ = some (.int .i64 z.f1) ∧ w'.cell? ⟨(bd.add (k * 4)).block, (bd.add (k * 4)).off + 2, none⟩ = some (.bool z.f2) ∧ w'.cell? ⟨(bd.add (k * 4)).block, (bd.add (k * 4)).off + 3, none⟩ = some (.slice M3 z.f3.length m3)) (hS := ⟨(blk_cell X6d.out 0).trans rfl, (blk_cell X6d.out 1).trans rfl, (blk_cell X6d.out 2).trans rfl, (blk_cell X6d.out 3).trans rfl, pw_cell_below B7.out HROW.out, pw_cell_below B7.out HZ0.out, pw_cell_below B7.out HZ1.out, pw_cell_below B7.out HZ2.out, pw_cell_below B7.out HZ3.out⟩) (h := fun hHeld => ?_)
        refine p_ 0 90 (bb 31 1) (h := ?_)
        refine p_ 1 91 (bb 31 3) (h := ?_)
        refine p_ 2 92 (bb 31 7) (h := ?_)
        refine p_ 3 93 (bb 31 15) (h := ?_)
        refine t_ 4 94 (bb 31 31) hHeld (h := ?_)
        refine p_ 5 95 (bb 31 63) (h := ?_)
        refine p_ 6 96 (bb 31 127) (h := ?_)
        refine p_ 7 97 (bb 31 255) (h := ?_)
        refine t_ 8 98 (bb 31 511) hHeld (h := ?_)
        refine p_ 9 99 (bb 31 1023) (h := ?_)
        refine p_ 10 100 (bb 31 2047) (h := ?_)
        refine p_ 11 101 (bb 31 4095) (h := ?_)
        refine t_ 12 102 (bb 31 8191) hHeld (h := ?_)
        refine p_ 13 103 (bb 31 16383) (h := ?_)
        refine p_ 14 104 (bb 31 32767) (h := ?_)
        refine p_ 15 105 (bb 31 65535) (h := ?_)
        refine p_ 16 106 (bb 31 131071) (h := ?_)
        refine p_ 17 107 (bb 31 262143) (h := ?_)
        refine p_ 18 108 (bb 31 524287) (h := ?_)
        refine t_ 19 109 (bb 31 1048575) hHeld (h := ?_)
        refine p_ 20 110 (bb 31 2097151) (h := ?_)
        refine p_ 21 111 (bb 31 4194303) (h := ?_)
        refine p_ 22 112 (bb 31 8388607) (h := ?_)
        refine t_ 23 113 (bb 31 16777215) hHeld (h := ?_)
        refine p_ 24 114 (bb 31 33554431) (h := ?_)
        refine p_ 25 115 (bb 31 67108863) (h := ?_)
        refine t_ 26 116 (bb 31 134217727) hHeld (h := ?_)
        refine n_ 27 117 (bb 31 268435455) (h := fun K hK => ?_)
        refine goes_ Try.func23 (by kernel_rfl) rfl #[.agg #[.slice P0 z.f0.length p0, .int .i64 z.f1, .bool z.f2, .slice P3 z.f3.length p3], .agg #[.slice M0 z.f0.length m0, .int .i64 z.f1, .bool z.f2, .slice M3 z.f3.length m3]] (by rfl) rfl rfl (by (try simp only [List.map_toArray, List.map_cons, List.map_nil]); first | done | rfl) ?_
        refine (sameOne_calls (Kd.C_drew (Kd.F_now HH0.out)) HL0.out (Kd.C_drew (Kd.F_now HH3.out)) HL3.out (Kd.C_below HKZ.out.2.1 B7.out) HKZ.out.1 (Kd.C_below HKZ.out.2.2.2 B7.out) HKZ.out.2.2.1 ⟨HZB.out.1.1, HZB.out.1.2.1⟩).mono ?_
        rintro ex w8 ⟨rfl, hb8⟩
        refine ⟨_, rfl, ?_⟩
        have hb8 := Aside0.mk hb8
        refine hK.out _ _ ⟨pw_cell_below hb8.out hHeld.1, pw_cell_below hb8.out hHeld.2.1, pw_cell_below hb8.out hHeld.2.2.1, pw_cell_below hb8.out hHeld.2.2.2.1, pw_cell_below hb8.out hHeld.2.2.2.2.1, pw_cell_below hb8.out hHeld.2.2.2.2.2.1, pw_cell_below hb8.out hHeld.2.2.2.2.2.2.1, pw_cell_below hb8.out hHeld.2.2.2.2.2.2.2.1, pw_cell_below hb8.out hHeld.2.2.2.2.2.2.2.2⟩ (fun hHeld => ?_)
        clear hK K
        refine m_ 117 (h := ?_)
        refine p_ 28 118 (bb 31 536870911) (h := ?_)
        refine p_ 29 119 (bb 31 1073741823) (h := ?_)
        refine p_ 30 120 (bb 31 2147483647) (h := ?_)
        refine d_ (h := ?_)
        clear hHeld
        go_wp2
        go_roundg k2
        case measure => exact Nat.lt_succ_self _
        case rel => exact ⟨k + 1, by first | rfl | rw [HWI.out], ⟨by have h := Hk36.out; omega⟩, ⟨below_step (below_step HBI.out B7.out) hb8.out⟩⟩
       ·
        have hi0 : ((i : Int) == 0) = false := beq_eq_false_iff_ne.mpr (by omega)
        have hi1 : (i = 0) = False := eq_false hi
        clear hi
        have X6d := Aside0.mk (show w6.drew.heap[ga]? = some (.cells #[.slice P0 e.f0.length p0, .int .i64 z.f1, .bool e.f2, .slice P3 e.f3.length p3] 36 (0, 0)) by have h := X6d.out; rw [HE1.out] at h; exact h)
        refine s_ 31 [] (fun w' => w'.cell? ⟨ga, 1, none⟩ = some (.int .i64 z.f1) ∧ w'.cell? (ad.add i) = some (.slice (some bd) x.length d) ∧ w'.cell? ⟨(bd.add (k * 4)).block, (bd.add (k * 4)).off + 1, none⟩ = some (.int .i64 z.f1)) (hS := ⟨(blk_cell X6d.out 1).trans rfl, pw_cell_below B7.out HROW.out, pw_cell_below B7.out HZ1.out⟩) (h := fun hHeld => ?_)
        refine p_ 0 90 (bb 31 1) (h := ?_)
        refine p_ 1 91 (bb 31 3) (h := ?_)
        refine p_ 2 92 (bb 31 7) (h := ?_)
        refine p_ 3 93 (bb 31 15) (h := ?_)
        refine t_ 4 94 (bb 31 31) hHeld (h := ?_)
        refine p_ 5 95 (bb 31 63) (h := ?_)
        refine p_ 6 96 (bb 31 127) (h := ?_)
        refine p_ 7 97 (bb 31 255) (h := ?_)
        refine t_ 8 98 (bb 31 511) hHeld (h := ?_)
        refine p_ 9 99 (bb 31 1023) (h := ?_)
        refine p_ 10 100 (bb 31 2047) (h := ?_)
        refine p_ 11 101 (bb 31 4095) (h := ?_)
        refine t_ 12 102 (bb 31 8191) hHeld (h := ?_)
        refine p_ 13 103 (bb 31 16383) (h := ?_)
        refine p_ 14 104 (bb 31 32767) (h := ?_)
        refine p_ 15 105 (bb 31 65535) (h := ?_)
        refine p_ 16 106 (bb 31 131071) (h := ?_)
        refine p_ 17 107 (bb 31 262143) (h := ?_)
        refine p_ 18 108 (bb 31 524287) (h := ?_)
        refine o_ 19 109 (bb 31 1048575) (h := ?_)
        refine o_ 20 110 (bb 31 2097151) (h := ?_)
        refine o_ 21 111 (bb 31 4194303) (h := ?_)
        refine o_ 22 112 (bb 31 8388607) (h := ?_)
        refine o_ 23 113 (bb 31 16777215) (h := ?_)
        refine o_ 24 114 (bb 31 33554431) (h := ?_)
        refine o_ 25 115 (bb 31 67108863) (h := ?_)
        refine o_ 26 116 (bb 31 134217727) (h := ?_)
        refine n_ 27 117 (bb 31 268435455) (h := fun K hK => ?_)
        refine off_ (by rfl) ?_
        refine hK.out _ _ hHeld (fun hHeld => ?_)
        clear hK K
        refine m_ 117 (h := ?_)
        refine o_ 28 118 (bb 31 536870911) (h := ?_)
        refine p_ 29 119 (bb 31 1073741823) (h := ?_)
        refine p_ 30 120 (bb 31 2147483647) (h := ?_)
        refine d_ (h := ?_)
        clear hHeld
        go_wp2
        go_roundg k2
        case measure => exact Nat.lt_succ_self _
        case rel => exact ⟨k + 1, by first | rfl | rw [HWI.out], ⟨by have h := Hk36.out; omega⟩, ⟨below_step HBI.out B7.out⟩⟩
  | succ k1 =>
   as_aux_lemma =>
   have hil : i < L.length := by have h := HK.out; omega
   have hlt : ((i : Int) < (L.length : Int)) = True := eq_true (by omega)
   obtain ⟨x, hx⟩ : ∃ x, L[i]? = some x := ⟨_, List.getElem?_eq_getElem hil⟩
   have HCW := Aside0.mk (Kd.C_below (Kd.C_below HC.out hb1.out) HB.out)
   obtain ⟨al, B, d, ea, hcx, hlx, hfx⟩ := at_rows HCW.out hx
   subst ea
   have HXI := Aside0.mk hx
   have HXM := Aside0.mk (List.mem_of_getElem? hx)
   have HXB := Aside0.mk (HG.out x HXM.out).1
   have HTK := Aside0.mk (sumL_take hx)
   have HWK := Aside0.mk (wadd1 (x := i) (z := i + 1) rfl (by have h := HLN.out; omega))
   skip
   clear hx hil
   by_cases hl : x.length ≤ 300
   case neg =>
    have hd1 : ((300 : Int) < (x.length : Int)) = True := eq_true (by omega)
    clear hl
    go_wp2
    go_ret
    exact ⟨rfl, below_step hb1.out HB.out⟩
   have hd1 : ((300 : Int) < (x.length : Int)) = False := eq_false (by omega)
   by_cases hn : sumL (L.take i) ≤ 300
   case neg =>
    have hd2 : ((300 : Int) < (sumL (L.take i) : Int)) = True := eq_true (by omega)
    clear hl hn
    go_wp2
    go_ret
    exact ⟨rfl, below_step hb1.out HB.out⟩
   have hd2 : ((300 : Int) < (sumL (L.take i) : Int)) = False := eq_false (by omega)
   have hwa : wrap64 ((sumL (L.take i) : Int) + (x.length : Int)) = (sumL (L.take i) : Int) + (x.length : Int) := wrap_in (by omega) (by omega)
   have hwb : wrap64 ((sumL (L.take i) : Int) + (x.length : Int) + 1) = (sumL (L.take i) : Int) + (x.length : Int) + 1 := wrap_in (by omega) (by omega)
   have HNL := Aside0.mk (show sumL (L.take i) + x.length + 1 ≤ 601 by omega)
   have HXL := Aside0.mk hl
   clear hl hn
   obtain ⟨ob, hob⟩ : ∃ ob, ob = rowOk none x := ⟨_, rfl⟩
   have HOB := Aside0.mk hob
   have HFX := Aside0.mk hfx
   have HLX := Aside0.mk hlx
   clear hob
   cases ob with
   | false =>
    go_wp2_with (first
     | ((with_reducible refine gate_dst (N := 33) rfl ?_); (try (refine gate_guard (by rfl) ?_; dsimp only)); refine goesL_ (some 33) rfl rfl Try.func21 (by kernel_rfl) rfl #[.slice B x.length d] rfl (by (try simp only [List.map_toArray, List.map_cons, List.map_nil]); first | done | rfl) ?_; refine (ordered_calls (Kd.F_now HFX.out) HLX.out (fun e he => ((HG.out x HXM.out).2 e he).1.1) (by have h := HXL.out; omega)).mono ?_; rintro ex w2 ⟨rfl, hb2⟩; refine ⟨_, rfl, ?_⟩; rw [← HOB.out]; have n_ := Aside0.mk hb2; clear hb2; have hb2 := n_; clear n_; have hcx2 := pw_cell_below hb2.out hcx))
    go_ret
    exact ⟨rfl, below_step (below_step hb1.out HB.out) hb2.out⟩
   | true =>
   have HRO := Aside0.mk HOB.out.symm
   go_wp2_with (first
    | ((with_reducible refine gate_dst (N := 33) rfl ?_); (try (refine gate_guard (by rfl) ?_; dsimp only)); refine goesL_ (some 33) rfl rfl Try.func21 (by kernel_rfl) rfl #[.slice B x.length d] rfl (by (try simp only [List.map_toArray, List.map_cons, List.map_nil]); first | done | rfl) ?_; refine (ordered_calls (Kd.F_now HFX.out) HLX.out (fun e he => ((HG.out x HXM.out).2 e he).1.1) (by have h := HXL.out; omega)).mono ?_; rintro ex w2 ⟨rfl, hb2⟩; refine ⟨_, rfl, ?_⟩; rw [← HOB.out]; have n_ := Aside0.mk hb2; clear hb2; have hb2 := n_; clear n_; have hcx2 := pw_cell_below hb2.out hcx))
   go_roundg k1
   case measure => exact Nat.lt_succ_self _
   case rel =>
    refine ⟨i + 1, ?_, ?_, ⟨by have h := HK.out; omega⟩, ⟨fun y hy => ?_⟩, ⟨by rw [HTK.out]; exact HNL.out⟩, ⟨below_step HB.out hb2.out⟩⟩
    ·
     first | rfl | rw [HWK.out] | (rw [HTK.out]; first | rfl | (congr 1; done) | (congr 1; omega))
    ·
     first | rfl | rw [HWK.out] | (rw [HTK.out]; first | rfl | (congr 1; done) | (congr 1; omega))
    ·
     rw [List.take_add_one, HXI.out] at hy
     rcases List.mem_append.1 hy with e | e
     ·
      exact HLL.out y e
     ·
      have e2 : y = x := by simpa using e
      rw [e2]; exact ⟨HXL.out, HRO.out⟩
end Go.Proofs.Ytobjkjmmkbhecaa.Sk
