/- The law SkipScans as a contract of its function. Conditions: those of each theorem. -/
import Derived.Test.YtjlkcidohabcfaaPx4
import Derived.Test.YtjlkcidohabcfaaPx5
import Derived.Test.YtjlkcidohabcfaaPx13
import Derived.Test.YtjlkcidohabcfaaPx20
import Derived.Test.YtjlkcidohabcfaaPx21
import Derived.Test.YtjlkcidohabcfaaPx22
import Derived.Test.YtjlkcidohabcfaaPx23
import Derived.Test.YtjlkcidohabcfaaPx24
import Derived.Test.YtjlkcidohabcfaaPx25
import Derived.Test.YtjlkcidohabcfaaPx27
import Derived.Test.YtjlkcidohabcfaaPx29
import Derived.Test.YtjlkcidohabcfaaH0
import Derived.Test.YtjlkcidohabcfaaHp
import Derived.Test.YtjlkcidohabcfaaHq
import Derived.Test.YtjlkcidohabcfaaHr
import Derived.Test.YtjlkcidohabcfaaHu
import Derived.Test.YtjlkcidohabcfaaHv
import Derived.Test.YtjlkcidohabcfaaHw
import Derived.Test.YtjlkcidohabcfaaHg
import Derived.Test.YtjlkcidohabcfaaHh
import Derived.Test.YtjlkcidohabcfaaHi
import Derived.Test.YtjlkcidohabcfaaHk
import Derived.Test.YtjlkcidohabcfaaHy
import Derived.Test.YtjlkcidohabcfaaHj
import Derived.Test.YtjlkcidohabcfaaHl
import Derived.Test.YtjlkcidohabcfaaHn
import Derived.Test.YtjlkcidohabcfaaHaa
import Derived.Test.YtjlkcidohabcfaaHab
import Derived.Test.YtjlkcidohabcfaaHac
import Derived.Test.YtjlkcidohabcfaaHad
import Derived.Test.YtjlkcidohabcfaaHbs
namespace Go.Proofs.Ytjlkcidohabcfaa.Sk
open Go.RowKit Go.Proofs.YtjlkcidohabcfaaW.PrintWords Go.Proofs.YtjlkcidohabcfaaW.PrintLast Go.Proofs.YtjlkcidohabcfaaW.PrintMore Go.Proofs.Ytjlkcidohabcfaa.Px
set_option linter.unusedVariables false
set_option linter.unusedSimpArgs false
open Go.Proofs.Ytjlkcidohabcfaa.Sw
theorem rlessC {w : World} {A0 A1 : Option Addr} {c0 c1 : Nat} {l0 l1 : List Int} (hr0 : Kd.C (Kd.int .u8) w A0 l0.length l0) (hc0 : l0.length ≤ c0) (hr1 : Kd.C (Kd.int .u8) w A1 l1.length l1) (hc1 : l1.length ≤ c1) (hl : l0.length ≤ 140737488355328) :
    Calls Try.prog 25 #[.slice A0 l0.length c0, .slice A1 l1.length c1] w fun ex w' => ex = .returned (.bool (less l0 l1)) ∧ Below w.heap.size w w' := by
  obtain ⟨K, hf⟩ := refLess_f l0 l1 hl
  exact (sawyerref03_Less.calls K A0 c0 l0 A1 c1 l1 _ w hr0 hc0 hr1 hc1 (hf K (Nat.le_refl _))).mono (fun ex w' h => ⟨h.1, h.2.below⟩)

theorem ks_le (K : List (List Int)) (c : List Int → Bool) : ∀ n, (ksK K c n).length ≤ n
  | 0 => Nat.le_refl _
  | n + 1 => by
    have ih := ks_le K c n
    show (ksK K c n ++ _).length ≤ _
    rw [List.length_append]
    split
    · split
      · simp only [List.length_singleton]; omega
      · simp only [List.length_nil]; omega
    · simp only [List.length_nil]; omega
set_option maxHeartbeats 400000000 in
set_option maxRecDepth 100000 in
theorem scans_calls {w : World} (A : Option Addr) (c : Nat) (l : List SOp) (hr : Kd.C kOp w A l.length l) (hc : l.length ≤ c) (hg : ∀ o, o ∈ l → GoodO o) (Af : Option Addr) (cf : Nat) (ka : List Int) (hrf : Kd.C (Kd.int .u8) w Af ka.length ka) (hcf : ka.length ≤ cf) (hwf : ∀ n ∈ ka, (Lit.int .u8 n).wf = true) (At_ : Option Addr) (ct : Nat) (kb : List Int) (hrt : Kd.C (Kd.int .u8) w At_ kb.length kb) (hct : kb.length ≤ ct) (hwt : ∀ n ∈ kb, (Lit.int .u8 n).wf = true) (sq : Int) (hwq : (Lit.int .i64 sq).wf = true) :
  Calls Try.prog 6 #[.slice A l.length c, .slice Af ka.length cf, .slice At_ kb.length ct, .int .i64 sq] w fun ex w' => ex = .returned (.bool true) ∧ Below w.heap.size w w' := by
 have hu34 := Try.underlying34
 have hu36 := Try.underlying36
 have hu30 := Try.underlying30
 have HR := Aside0.mk hr
 have HG := Aside0.mk hg
 have HMAX := Aside0.mk (Kd.C_max hr)
 clear hr hg
 have HC := Aside0.mk hc
 have HRF := Aside0.mk hrf
 have HCF := Aside0.mk hcf
 have HFB := Aside0.mk (byts_of_wf hwf)
 have HRT := Aside0.mk hrt
 have HCT := Aside0.mk hct
 have HTB := Aside0.mk (byts_of_wf hwt)
 clear hc hrf hcf hwf hrt hct hwt hwq
 go_enter Try.func6, Try.ntmps6
 go_wp2_with (first
  | ((with_reducible refine gate_callee (f := 10) rfl ?_); (try (refine gate_guard (by rfl) ?_; dsimp only)); refine goesL_ (some 23) rfl rfl Try.func10 (by kernel_rfl) rfl #[] rfl (by (try simp only [List.map_toArray, List.map_cons, List.map_nil]); first | done | rfl) ?_; refine (awake_calls w).mono ?_; rintro ex w1 ⟨rfl, hb1⟩; refine ⟨_, rfl, ?_⟩; have n_ := Aside0.mk hb1; clear hb1; have hb1 := n_; clear n_)
  | ((with_reducible refine gate_callee (f := 11) rfl ?_); (try (refine gate_guard (by rfl) ?_; dsimp only)); refine goesL_ (some 24) rfl rfl Try.func11 (by kernel_rfl) rfl #[] rfl (by (try simp only [List.map_toArray, List.map_cons, List.map_nil]); first | done | rfl) ?_; refine (s1_new w1).mono ?_; rintro ex w2 ⟨g, rfl, hs1, hb2⟩; refine ⟨_, rfl, ?_⟩; have n_ := Aside0.mk hs1; clear hs1; have hs1 := n_; clear n_; have n_ := Aside0.mk hb2; clear hb2; have hb2 := n_; clear n_)
  | ((with_reducible refine gate_dst (N := 26) rfl ?_); (try (refine gate_guard (by rfl) ?_; dsimp only)); refine box_event ?hg (N := 26) ?hd (cs := #[.slice none 0 0, .slice none 0 0]) (t := 30) ?hr ?_; (case hd => rfl); (case hg => rfl); (case hr => first | (go_simp; done) | (go_simp; rfl)); intro gr hqgr w3 hxgr hbgr; have n_ := Aside0.mk hqgr; clear hqgr; have hqgr := n_; clear n_; have n_ := Aside0.mk hxgr; clear hxgr; have hxgr := n_; clear n_; have n_ := Aside0.mk hbgr; clear hbgr; have hbgr := n_; clear n_; have ST3 := Aside0.mk (St.fresh hs1.out hb2.out hqgr.out hxgr.out hbgr.out); have B3 := Aside0.mk (below_step hb2.out hbgr.out)))
 go_loopg [12] (min l.length 60) (fun kq v12 w' => ∃ n : Nat, v12 = .int .i64 (n : Int) ∧ Aside0 (kq + n = min l.length 60) ∧ Aside0 (St w' w1.heap.size g gr (runT n l) (runT n l)) ∧ Aside0 (Below w1.heap.size w1 w'))
 case atStart => exact ⟨0, rfl, ⟨rfl⟩, ⟨by rw [runT_zero]; exact ST3.out⟩, B3⟩
 case round =>
  obtain ⟨n, rfl, HK, HST, HB⟩ := hrel
  cases gk with
  | zero =>
   have HE := Aside0.mk (show runT n l = runT 60 l by rw [← runT_min l 60]; congr 1; have h1 := HK.out; omega)
   rw [HE.out] at HST
   have HT := Aside0.mk (runT_fit HG.out 60)
   have HTL := Aside0.mk (runT_len HG.out 60)
   generalize runT 60 l = T at HST HT HTL
   have HS1 := Aside0.mk HST.out.one
   clear HE
   by_cases hnl : n < l.length
   ·
    have hlt : (n < l.length) = True := eq_true hnl
    have h60 : decide ((n : Int) < 60) = false := decide_eq_false (by have h1 := HK.out; omega)
    clear hnl HK
    clear HST
    have HBW := Aside0.mk (hb1.out.trans (below_weakB hb1.out.size HB.out))
    obtain ⟨S, hS⟩ : ∃ S, S = scanT T ka kb sq := ⟨_, rfl⟩
    have HSL := Aside0.mk (show S.length ≤ T.length by rw [hS]; exact scan_len T ka kb sq)
    have HSG := Aside0.mk (show ∀ e ∈ S, Sw.Good e ∧ e.f0.length ≤ 140737488351232 ∧ e.f3.length ≤ 140737488351232 by rw [hS]; exact scan_sub ka kb sq HT.out.lens)
    have HSE := Aside0.mk hS
    clear hS
    go_wp2_with ((with_reducible refine gate_callee (f := 22) rfl ?_); (try (refine gate_guard (by rfl) ?_; dsimp only)); refine goesL_ (some 54) rfl rfl Try.func22 (by kernel_rfl) rfl #[.pointer (some ⟨g, 0, none⟩), .slice Af ka.length cf, .slice At_ kb.length ct, .int .i64 sq] rfl (by (try simp only [List.map_toArray, List.map_cons, List.map_nil]); first | done | rfl) ?_; refine (s1_scan HS1.out HT.out (by have := HTL.out; omega) Af cf ka At_ ct kb sq (Kd.C_below HRF.out HBW.out) HCF.out HFB.out (Kd.C_below HRT.out HBW.out) HCT.out HTB.out).mono ?_; rintro ex w4 ⟨v4, rfl, hn4, hb4⟩; refine ⟨_, rfl, ?_⟩; rw [← HSE.out] at hn4; obtain ⟨A4, c4, rfl⟩ := Kd.N_slice hn4; have n_ := Aside0.mk hn4; clear hn4; have hn4 := n_; clear n_; have n_ := Aside0.mk hb4; clear hb4; have hb4 := n_; clear n_; have HS4 := Aside0.mk (HS1.out.below hb4.out); have BW := Aside0.mk (below_step HBW.out hb4.out))
    clear hlt
    go_loopg [14] S.length (fun kq v14 w' => ∃ n : Nat, v14 = .int .i64 (n : Int) ∧ Aside0 (kq + n = S.length) ∧ Aside0 (Below w4.heap.size w4 w'))
    case atStart => exact ⟨0, rfl, ⟨rfl⟩, ⟨Below.refl _ _⟩⟩
    case round =>
     obtain ⟨n, rfl, HK, HBr⟩ := hrel
     have HSr := Aside0.mk (HS4.out.below HBr.out)
     have HNr := Aside0.mk (Kd.N_below hn4.out HBr.out)
     have BWr := Aside0.mk (below_step BW.out HBr.out)
     cases gk with
     | zero =>
      have hlt : (n < S.length) = False := eq_false (by have := HK.out; omega)
      go_wp2_with ((with_reducible refine gate_callee (f := 19) rfl ?_); (try (refine gate_guard (by rfl) ?_; dsimp only)); refine goesL_ (some 127) rfl rfl Try.func19 (by kernel_rfl) rfl #[.pointer (some ⟨g, 0, none⟩)] rfl (by (try simp only [List.map_toArray, List.map_cons, List.map_nil]); first | done | rfl) ?_; refine (s1_all HSr.out HT.out (by have := HTL.out; omega)).mono ?_; rintro ex w5 ⟨v5, rfl, hn5, hb5⟩; refine ⟨_, rfl, ?_⟩; obtain ⟨A5, c5, rfl⟩ := Kd.N_slice hn5; rw [List.length_map]; have n_ := Aside0.mk hn5; clear hn5; have hn5 := n_; clear n_; have n_ := Aside0.mk hb5; clear hb5; have hb5 := n_; clear n_; have HS5 := Aside0.mk (HSr.out.below hb5.out); have BW5 := Aside0.mk (below_step BWr.out hb5.out))
      clear hlt
      go_loopg [18, 19] T.length (fun kq v18 v19 w' => ∃ (n cn : Nat), v18 = .int .i64 (cn : Int) ∧ v19 = .int .i64 (n : Int) ∧ Aside0 (kq + n = T.length) ∧ Aside0 (cn = (ksK (T.map (fun t => t.e.f0)) (okK T ka kb sq) n).length) ∧ Aside0 (Below w5.heap.size w5 w'))
      case atStart => exact ⟨0, 0, rfl, rfl, ⟨rfl⟩, ⟨rfl⟩, ⟨Below.refl _ _⟩⟩
      case round =>
       obtain ⟨n, cn, rfl, rfl, HK2, HCN, HBq⟩ := hrel
       have HSq := Aside0.mk (HS5.out.below HBq.out)
       have HNq := Aside0.mk (Kd.N_below hn5.out HBq.out)
       have BWq := Aside0.mk (below_step BW5.out HBq.out)
       cases gk with
       | zero =>
        have hlt : (n < T.length) = False := eq_false (by have := HK2.out; omega)
        have hcs : cn = S.length := by
         have h1 := HCN.out
         rw [show n = T.length by have := HK2.out; omega, scan_count HT.out, ← HSE.out] at h1
         exact h1
        subst hcs
        go_wp2
        go_ret
        exact ⟨rfl, BWq.out⟩
       | succ k1 =>
        have hnl : n < T.length := by have h1 := HK2.out; omega
        have hlt : (n < T.length) = True := eq_true hnl
        have HW := Aside0.mk (show wrap64 ((n : Int) + 1) = ((n + 1 : Nat) : Int) by rw [wrap_in (by omega) (by have := HTL.out; omega)]; rfl)
        have HWC := Aside0.mk (show wrap64 ((cn : Int) + 1) = ((cn + 1 : Nat) : Int) by
         have h1 := ks_le (T.map (fun t => t.e.f0)) (okK T ka kb sq) n
         rw [← HCN.out] at h1
         rw [wrap_in (by omega) (by have := HTL.out; omega)]
         rfl)
        obtain ⟨z, hz⟩ : ∃ z, T[n]? = some z := ⟨_, List.getElem?_eq_getElem hnl⟩
        have hze : (T.map (fun t => t.e))[n]? = some z.e := by rw [List.getElem?_map, hz]; rfl
        obtain ⟨ad, hA⟩ := N_addr HNq.out (by rw [List.length_map]; omega)
        subst hA
        obtain ⟨B0, b0, B3, b3, hd0, hd1, hd2, hd3, hFZ⟩ := at_N34 HNq.out n z.e hze
        have HD := Aside0.mk (And.intro hd0 (And.intro hd1 (And.intro hd2 hd3)))
        have HFZ := Aside0.mk hFZ
        have HZ := Aside0.mk hz
        have HZG := Aside0.mk (HT.out.ok z (List.mem_of_getElem? hz)).2.1
        have HZL := Aside0.mk (okE_len (HT.out.ok z (List.mem_of_getElem? hz)).1).1
        have HKN := Aside0.mk (show (T.map (fun t => t.e.f0))[n]? = some z.e.f0 by rw [List.getElem?_map, hz]; rfl)
        have HST := Aside0.mk (show (ksK (T.map (fun t => t.e.f0)) (okK T ka kb sq) (n + 1)).length = cn + (if (fstK (T.map (fun t => t.e.f0)) n && okK T ka kb sq z.e.f0) = true then 1 else 0) by rw [HCN.out]; exact ksK_step HKN.out)
        obtain ⟨e, ok, hge⟩ : ∃ e ok, getN T z.e.f0 sq = (e, ok) := ⟨_, _, rfl⟩
        have hcl := s1_get HSq.out HT.out B0 b0 z.e.f0 sq (K34_C (Kd.FK_now HFZ.out)).2.1 (K34_C (Kd.FK_now HFZ.out)).1 HZG.out.1
        rw [hge] at hcl
        dsimp only at hcl
        have HCL := Aside0.mk hcl
        have HOK0 := Aside0.mk (show okK T ka kb sq z.e.f0 = (ok && (!less z.e.f0 ka && (decide (kb.length = 0) || less z.e.f0 kb))) by unfold okK; rw [hge])
        have HNL := Aside0.mk hnl
        clear hFZ hz hze hcl hge hnl
        go_wp2_with (first
         | ((with_reducible refine gate_callee (f := 20) rfl ?_); (try (refine gate_guard (by rfl) ?_; dsimp only)); refine goesL_ (some 142) rfl rfl Try.func20 (by kernel_rfl) rfl #[.pointer (some ⟨g, 0, none⟩), .slice B0 z.e.f0.length b0, .int .i64 sq] rfl (by (try simp only [List.map_toArray, List.map_cons, List.map_nil]); first | done | rfl) ?_; refine (HCL.out).mono ?_; rintro ex y2 ⟨v0, v3, rfl, hv2, hy2⟩; refine ⟨_, rfl, ?_⟩; obtain ⟨⟨P0, p0, rfl, hl0, hF0⟩, ⟨P3, p3, rfl, hl3, hF3⟩⟩ := hv2; have n_ := Aside0.mk hl0; clear hl0; have hl0 := n_; clear n_; have n_ := Aside0.mk hF0; clear hF0; have hF0 := n_; clear n_; have n_ := Aside0.mk hl3; clear hl3; have hl3 := n_; clear n_; have n_ := Aside0.mk hF3; clear hF3; have hF3 := n_; clear n_; have n_ := Aside0.mk hy2; clear hy2; have hy2 := n_; clear n_)
         | ((with_reducible refine gate_dst (N := 20) rfl ?_); (try (refine gate_guard (by rfl) ?_; dsimp only)); refine box_event ?hg (N := 20) ?hd (cs := #[.slice none 0 0, .int .i64 0, .bool false, .slice none 0 0]) (t := 34) ?hr ?_; (case hd => rfl); (case hg => rfl); (case hr => first | (go_simp; done) | (go_simp; rfl)); intro ga hqga y3 hxga hbga; have n_ := Aside0.mk hqga; clear hqga; have hqga := n_; clear n_; have n_ := Aside0.mk hxga; clear hxga; have hxga := n_; clear n_; have n_ := Aside0.mk hbga; clear hbga; have hbga := n_; clear n_; have hcy0 : y3.cell? ⟨ga, 0, none⟩ = some (.slice none 0 0) := (blk_cell hxga.out 0).trans rfl; have hcy1 : y3.cell? ⟨ga, 1, none⟩ = some (.int .i64 0) := (blk_cell hxga.out 1).trans rfl; have hcy2 : y3.cell? ⟨ga, 2, none⟩ = some (.bool false) := (blk_cell hxga.out 2).trans rfl; have hcy3 : y3.cell? ⟨ga, 3, none⟩ = some (.slice none 0 0) := (blk_cell hxga.out 3).trans rfl; have hfy0 : y3.frozen? ⟨ga, 0, none⟩ = false := blk_frozen hxga.out 0; have hfy1 : y3.frozen? ⟨ga, 1, none⟩ = false := blk_frozen hxga.out 1; have hfy2 : y3.frozen? ⟨ga, 2, none⟩ = false := blk_frozen hxga.out 2; have hfy3 : y3.frozen? ⟨ga, 3, none⟩ = false := blk_frozen hxga.out 3))
        have X4 := Aside0.mk (sets4 (a := .slice P0 e.f0.length p0) (b := .int .i64 e.f1) (c := .bool e.f2) (d := .slice P3 e.f3.length p3) hxga.out)
        have Y34 := Aside0.mk (show Below y2.heap.size y2 ((((y3.setCell ⟨ga, 0, none⟩ (.slice P0 e.f0.length p0)).setCell ⟨ga, 1, none⟩ (.int .i64 e.f1)).setCell ⟨ga, 2, none⟩ (.bool e.f2)).setCell ⟨ga, 3, none⟩ (.slice P3 e.f3.length p3)) from below_set (below_set (below_set (below_set hbga.out (Nat.le_of_eq hqga.out.symm)) (Nat.le_of_eq hqga.out.symm)) (Nat.le_of_eq hqga.out.symm)) (Nat.le_of_eq hqga.out.symm))
        clear hcy0 hcy1 hcy2 hcy3 hfy0 hfy1 hfy2 hfy3
        generalize ((((y3.setCell ⟨ga, 0, none⟩ (.slice P0 e.f0.length p0)).setCell ⟨ga, 1, none⟩ (.int .i64 e.f1)).setCell ⟨ga, 2, none⟩ (.bool e.f2)).setCell ⟨ga, 3, none⟩ (.slice P3 e.f3.length p3)) = y4 at X4 Y34 ⊢
        have B5 := Aside0.mk (below_drew (below_step hy2.out Y34.out))
        by_cases hn0 : n = 0
        ·
         have hz1 : ((n : Int) == 0) = true := beq_iff_eq.2 (by omega)
         have hz2 : ((n : Int) = 0) = True := eq_true (by omega)
         have hz3 : (n = 0) = True := eq_true (by omega)
         have hz4 : decide ((n : Int) = 0) = true := decide_eq_true (by omega)
         have HFS := Aside0.mk (show fstK (T.map (fun t => t.e.f0)) n = true by rw [hn0]; rfl)
         clear hn0
         as_aux_lemma =>
         go_wp2
         refine s_ 19 [] (fun w' => w'.heap.size = w'.heap.size) (hS := (rfl)) (h := fun hHeld => ?_)
         refine p_ 0 145 (bb 19 1) (h := ?_)
         refine p_ 1 146 (bb 19 3) (h := ?_)
         refine p_ 2 147 (bb 19 7) (h := ?_)
         refine o_ 3 148 (bb 19 15) (h := ?_)
         refine o_ 4 149 (bb 19 31) (h := ?_)
         refine o_ 5 150 (bb 19 63) (h := ?_)
         refine o_ 6 151 (bb 19 127) (h := ?_)
         refine o_ 7 152 (bb 19 255) (h := ?_)
         refine o_ 8 153 (bb 19 511) (h := ?_)
         refine o_ 9 154 (bb 19 1023) (h := ?_)
         refine o_ 10 155 (bb 19 2047) (h := ?_)
         refine o_ 11 156 (bb 19 4095) (h := ?_)
         refine o_ 12 157 (bb 19 8191) (h := ?_)
         refine o_ 13 158 (bb 19 16383) (h := ?_)
         refine o_ 14 159 (bb 19 32767) (h := ?_)
         refine o_ 15 160 (bb 19 65535) (h := ?_)
         refine o_ 16 161 (bb 19 131071) (h := ?_)
         refine p_ 17 162 (bb 19 262143) (h := ?_)
         refine p_ 18 22 (bb 19 524287) (h := ?_)
         refine d_ (h := ?_)
         clear hHeld
         generalize hw8 : y4.drew = w8 at B5 ⊢
         clear hw8
         have hcell := pw_cell_below B5.out HD.out.1
         cases ok with
         | false =>
          have HOK := Aside0.mk (show okK T ka kb sq z.e.f0 = false by rw [HOK0.out]; rfl)
          have HNC := Aside0.mk (show cn = (ksK (T.map (fun t => t.e.f0)) (okK T ka kb sq) (n + 1)).length by rw [HST.out, HFS.out, HOK.out]; simp)
          go_wp2
          go_roundg k1
          case measure => exact Nat.lt_succ_self _
          case rel => exact ⟨n + 1, cn, rfl, by first | rfl | rw [HW.out], ⟨by have h1 := HK2.out; omega⟩, HNC, ⟨below_step HBq.out B5.out⟩⟩
         | true =>
          by_cases hl1 : less z.e.f0 ka = true
          ·
           have HL1 := Aside0.mk hl1
           have HOK := Aside0.mk (show okK T ka kb sq z.e.f0 = false by rw [HOK0.out, HL1.out]; rfl)
           clear hl1
           have HNC := Aside0.mk (show cn = (ksK (T.map (fun t => t.e.f0)) (okK T ka kb sq) (n + 1)).length by rw [HST.out, HFS.out, HOK.out]; simp)
           go_wp2_with (first | ((with_reducible refine gate_callee (f := 25) rfl ?_); (try (refine gate_guard (by rfl) ?_; dsimp only)); refine goesL_ (some 174) rfl rfl Try.func25 (by kernel_rfl) rfl #[.slice B0 z.e.f0.length b0, .slice Af ka.length cf] rfl (by (try simp only [List.map_toArray, List.map_cons, List.map_nil]); first | done | rfl) ?_; refine (rlessC (Kd.C_below (K34_C (Kd.FK_now HFZ.out)).2.1 B5.out) (K34_C (Kd.FK_now HFZ.out)).1 (Kd.C_below HRF.out (below_step BWq.out B5.out)) HCF.out (Nat.le_trans HZL.out (by decide))).mono ?_; rintro ex w9 ⟨rfl, hb9⟩; refine ⟨_, rfl, ?_⟩; rw [HL1.out]; have n_ := Aside0.mk hb9; clear hb9; have hb9 := n_; clear n_; have B9 := Aside0.mk (below_step B5.out hb9.out)))
           go_roundg k1
           case measure => exact Nat.lt_succ_self _
           case rel => exact ⟨n + 1, cn, rfl, by first | rfl | rw [HW.out], ⟨by have h1 := HK2.out; omega⟩, HNC, ⟨below_step HBq.out B9.out⟩⟩
          ·
           have HL1 := Aside0.mk (Bool.eq_false_iff.2 hl1)
           clear hl1
           by_cases hkb : kb.length = 0
           ·
            have hk1 : ((kb.length : Int) == 0) = true := beq_iff_eq.2 (by omega)
            have hk2 : ((kb.length : Int) = 0) = True := eq_true (by omega)
            have hk3 : (kb.length = 0) = True := eq_true (by omega)
            have hk4 : decide ((kb.length : Int) = 0) = true := decide_eq_true (by omega)
            have HOK := Aside0.mk (show okK T ka kb sq z.e.f0 = true by rw [HOK0.out, HL1.out, decide_eq_true hkb]; rfl)
            clear hkb hk3
            have HNC := Aside0.mk (show cn + 1 = (ksK (T.map (fun t => t.e.f0)) (okK T ka kb sq) (n + 1)).length by rw [HST.out, HFS.out, HOK.out]; simp)
            go_wp2_with (first | ((with_reducible refine gate_callee (f := 25) rfl ?_); (try (refine gate_guard (by rfl) ?_; dsimp only)); refine goesL_ (some 174) rfl rfl Try.func25 (by kernel_rfl) rfl #[.slice B0 z.e.f0.length b0, .slice Af ka.length cf] rfl (by (try simp only [List.map_toArray, List.map_cons, List.map_nil]); first | done | rfl) ?_; refine (rlessC (Kd.C_below (K34_C (Kd.FK_now HFZ.out)).2.1 B5.out) (K34_C (Kd.FK_now HFZ.out)).1 (Kd.C_below HRF.out (below_step BWq.out B5.out)) HCF.out (Nat.le_trans HZL.out (by decide))).mono ?_; rintro ex w9 ⟨rfl, hb9⟩; refine ⟨_, rfl, ?_⟩; rw [HL1.out]; have n_ := Aside0.mk hb9; clear hb9; have hb9 := n_; clear n_; have B9 := Aside0.mk (below_step B5.out hb9.out)))
            go_roundg k1
            case measure => exact Nat.lt_succ_self _
            case rel => exact ⟨n + 1, cn + 1, by first | rfl | rw [HWC.out], by first | rfl | rw [HW.out], ⟨by have h1 := HK2.out; omega⟩, HNC, ⟨below_step HBq.out B9.out⟩⟩
           ·
            have hk1 : ((kb.length : Int) == 0) = false := beq_eq_false_iff_ne.2 (by omega)
            have hk2 : ((kb.length : Int) = 0) = False := eq_false (by omega)
            have hk4 : decide ((kb.length : Int) = 0) = false := decide_eq_false (by omega)
            have hk5 : (kb.length = 0) = False := eq_false hkb
            by_cases hl2 : less z.e.f0 kb = true
            ·
             have HL2 := Aside0.mk hl2
             have HOK := Aside0.mk (show okK T ka kb sq z.e.f0 = true by rw [HOK0.out, HL1.out, HL2.out, decide_eq_false hkb]; rfl)
             clear hl2 hkb hk5
             have HNC := Aside0.mk (show cn + 1 = (ksK (T.map (fun t => t.e.f0)) (okK T ka kb sq) (n + 1)).length by rw [HST.out, HFS.out, HOK.out]; simp)
             go_wp2_with (first | ((with_reducible refine gate_callee (f := 25) rfl ?_); (try (refine gate_guard (by rfl) ?_; dsimp only)); refine goesL_ (some 174) rfl rfl Try.func25 (by kernel_rfl) rfl #[.slice B0 z.e.f0.length b0, .slice Af ka.length cf] rfl (by (try simp only [List.map_toArray, List.map_cons, List.map_nil]); first | done | rfl) ?_; refine (rlessC (Kd.C_below (K34_C (Kd.FK_now HFZ.out)).2.1 B5.out) (K34_C (Kd.FK_now HFZ.out)).1 (Kd.C_below HRF.out (below_step BWq.out B5.out)) HCF.out (Nat.le_trans HZL.out (by decide))).mono ?_; rintro ex w9 ⟨rfl, hb9⟩; refine ⟨_, rfl, ?_⟩; rw [HL1.out]; have n_ := Aside0.mk hb9; clear hb9; have hb9 := n_; clear n_; have B9 := Aside0.mk (below_step B5.out hb9.out); have hcell9 := pw_cell_below hb9.out hcell) | ((with_reducible refine gate_callee (f := 25) rfl ?_); (try (refine gate_guard (by rfl) ?_; dsimp only)); refine goesL_ (some 188) rfl rfl Try.func25 (by kernel_rfl) rfl #[.slice B0 z.e.f0.length b0, .slice At_ kb.length ct] rfl (by (try simp only [List.map_toArray, List.map_cons, List.map_nil]); first | done | rfl) ?_; refine (rlessC (Kd.C_below (K34_C (Kd.FK_now HFZ.out)).2.1 B9.out) (K34_C (Kd.FK_now HFZ.out)).1 (Kd.C_below HRT.out (below_step BWq.out B9.out)) HCT.out (Nat.le_trans HZL.out (by decide))).mono ?_; rintro ex w10 ⟨rfl, hb10⟩; refine ⟨_, rfl, ?_⟩; rw [HL2.out]; have n_ := Aside0.mk hb10; clear hb10; have hb10 := n_; clear n_; have B10 := Aside0.mk (below_step B9.out hb10.out)))
             go_roundg k1
             case measure => exact Nat.lt_succ_self _
             case rel => exact ⟨n + 1, cn + 1, by first | rfl | rw [HWC.out], by first | rfl | rw [HW.out], ⟨by have h1 := HK2.out; omega⟩, HNC, ⟨below_step HBq.out B10.out⟩⟩
            ·
             have HL2 := Aside0.mk (Bool.eq_false_iff.2 hl2)
             have HOK := Aside0.mk (show okK T ka kb sq z.e.f0 = false by rw [HOK0.out, HL1.out, HL2.out, decide_eq_false hkb]; rfl)
             clear hl2 hkb hk5
             have HNC := Aside0.mk (show cn = (ksK (T.map (fun t => t.e.f0)) (okK T ka kb sq) (n + 1)).length by rw [HST.out, HFS.out, HOK.out]; simp)
             go_wp2_with (first | ((with_reducible refine gate_callee (f := 25) rfl ?_); (try (refine gate_guard (by rfl) ?_; dsimp only)); refine goesL_ (some 174) rfl rfl Try.func25 (by kernel_rfl) rfl #[.slice B0 z.e.f0.length b0, .slice Af ka.length cf] rfl (by (try simp only [List.map_toArray, List.map_cons, List.map_nil]); first | done | rfl) ?_; refine (rlessC (Kd.C_below (K34_C (Kd.FK_now HFZ.out)).2.1 B5.out) (K34_C (Kd.FK_now HFZ.out)).1 (Kd.C_below HRF.out (below_step BWq.out B5.out)) HCF.out (Nat.le_trans HZL.out (by decide))).mono ?_; rintro ex w9 ⟨rfl, hb9⟩; refine ⟨_, rfl, ?_⟩; rw [HL1.out]; have n_ := Aside0.mk hb9; clear hb9; have hb9 := n_; clear n_; have B9 := Aside0.mk (below_step B5.out hb9.out); have hcell9 := pw_cell_below hb9.out hcell) | ((with_reducible refine gate_callee (f := 25) rfl ?_); (try (refine gate_guard (by rfl) ?_; dsimp only)); refine goesL_ (some 188) rfl rfl Try.func25 (by kernel_rfl) rfl #[.slice B0 z.e.f0.length b0, .slice At_ kb.length ct] rfl (by (try simp only [List.map_toArray, List.map_cons, List.map_nil]); first | done | rfl) ?_; refine (rlessC (Kd.C_below (K34_C (Kd.FK_now HFZ.out)).2.1 B9.out) (K34_C (Kd.FK_now HFZ.out)).1 (Kd.C_below HRT.out (below_step BWq.out B9.out)) HCT.out (Nat.le_trans HZL.out (by decide))).mono ?_; rintro ex w10 ⟨rfl, hb10⟩; refine ⟨_, rfl, ?_⟩; rw [HL2.out]; have n_ := Aside0.mk hb10; clear hb10; have hb10 := n_; clear n_; have B10 := Aside0.mk (below_step B9.out hb10.out)))
             go_roundg k1
             case measure => exact Nat.lt_succ_self _
             case rel => exact ⟨n + 1, cn, rfl, by first | rfl | rw [HW.out], ⟨by have h1 := HK2.out; omega⟩, HNC, ⟨below_step HBq.out B10.out⟩⟩
        ·
         obtain ⟨m, hm⟩ : ∃ m, n = m + 1 := ⟨n - 1, by omega⟩
         have hml : m < T.length := by have := HNL.out; omega
         obtain ⟨u, hu⟩ : ∃ u, T[m]? = some u := ⟨_, List.getElem?_eq_getElem hml⟩
         have hue : (T.map (fun t => t.e))[m]? = some u.e := by rw [List.getElem?_map, hu]; rfl
         obtain ⟨C0, c0, C3, c3, hc0_, hc1_, hc2_, hc3_, hFU⟩ := at_N34 HNq.out m u.e hue
         have HU := Aside0.mk (And.intro hc0_ hc1_)
         have HFU := Aside0.mk hFU
         have HUG := Aside0.mk (HT.out.ok u (List.mem_of_getElem? hu)).2.1
         have hmt : (m < T.length) = True := eq_true hml
         have hwm : wrap64 ((n : Int) - 1) = (m : Int) := by rw [wrap_in (by omega) (by have := HTL.out; have := HNL.out; omega)]; omega
         have hz1 : ((n : Int) == 0) = false := beq_eq_false_iff_ne.2 (by omega)
         have hz2 : ((n : Int) = 0) = False := eq_false (by omega)
         have hz3 : (n = 0) = False := eq_false (by omega)
         have hz4 : decide ((n : Int) = 0) = false := decide_eq_false (by omega)
         have hse := str_eq HUG.out.1 HZG.out.1
         have HFS0 := Aside0.mk (show fstK (T.map (fun t => t.e.f0)) n = decide (u.e.f0 ≠ z.e.f0) by
          have h1 := HZ.out
          rw [hm] at h1 ⊢
          show decide ((T.map (fun t => t.e.f0))[m]? ≠ (T.map (fun t => t.e.f0))[m + 1]?) = _
          rw [List.getElem?_map, List.getElem?_map, hu, h1]
          simp)
         clear hc0_ hc1_ hc2_ hc3_ hFU hu hue hm hml hn0
         by_cases hke : u.e.f0 = z.e.f0
         ·
          have HFS := Aside0.mk (show fstK (T.map (fun t => t.e.f0)) n = false by rw [HFS0.out]; simp [hke])
          have hkd : decide (u.e.f0 = z.e.f0) = true := decide_eq_true hke
          rw [hkd] at hse
          clear hke hkd
          as_aux_lemma =>
          go_wp2
          refine s_ 19 [] (fun w' => w'.cell? (ad.add (m * 4)) = some (.slice C0 u.e.f0.length c0) ∧ w'.cell? (ad.add (n * 4)) = some (.slice B0 z.e.f0.length b0) ∧ Kd.C (Kd.int .u8) w' C0 u.e.f0.length u.e.f0 ∧ Kd.C (Kd.int .u8) w' B0 z.e.f0.length z.e.f0) (hS := ⟨pw_cell_below B5.out HU.out.1, pw_cell_below B5.out HD.out.1, Kd.C_below (K34_C (Kd.FK_now HFU.out)).2.1 B5.out, Kd.C_below (K34_C (Kd.FK_now HFZ.out)).2.1 B5.out⟩) (h := fun hHeld => ?_)
          refine p_ 0 145 (bb 19 1) (h := ?_)
          refine p_ 1 146 (bb 19 3) (h := ?_)
          refine p_ 2 147 (bb 19 7) (h := ?_)
          refine p_ 3 148 (bb 19 15) (h := ?_)
          refine p_ 4 149 (bb 19 31) (h := ?_)
          refine p_ 5 150 (bb 19 63) (h := ?_)
          refine p_ 6 151 (bb 19 127) (h := ?_)
          refine p_ 7 152 (bb 19 255) (h := ?_)
          refine t_ 8 153 (bb 19 511) hHeld (h := ?_)
          refine t_ 9 154 (bb 19 1023) hHeld (hy := by (rintro w' ⟨s0, s1, s2, s3⟩; have hcv := Kd.C_string (P := Try.prog) (A := C0) (c := c0) Try.underlying32 Try.underlying5 Try.underlying9 s2; go_simp; with_reducible rfl)) (h := ?_)
          refine p_ 10 155 (bb 19 2047) (h := ?_)
          refine p_ 11 156 (bb 19 4095) (h := ?_)
          refine p_ 12 157 (bb 19 8191) (h := ?_)
          refine p_ 13 158 (bb 19 16383) (h := ?_)
          refine t_ 14 159 (bb 19 32767) hHeld (h := ?_)
          refine t_ 15 160 (bb 19 65535) hHeld (hy := by (rintro w' ⟨s0, s1, s2, s3⟩; have hcv := Kd.C_string (P := Try.prog) (A := B0) (c := b0) Try.underlying32 Try.underlying5 Try.underlying9 s3; go_simp; with_reducible rfl)) (h := ?_)
          refine p_ 16 161 (bb 19 131071) (h := ?_)
          refine p_ 17 162 (bb 19 262143) (h := ?_)
          refine p_ 18 22 (bb 19 524287) (h := ?_)
          refine d_ (h := ?_)
          clear hHeld
          generalize hw8 : y4.drew = w8 at B5 ⊢
          clear hw8
          have hcell := pw_cell_below B5.out HD.out.1
          clear hse
          generalize hoo : okK T ka kb sq z.e.f0 = oo at HST HOK0
          have HOK := Aside0.mk hoo
          have HNC := Aside0.mk (show cn = (ksK (T.map (fun t => t.e.f0)) (okK T ka kb sq) (n + 1)).length by rw [HST.out, HFS.out]; simp)
          go_wp2
          go_roundg k1
          case measure => exact Nat.lt_succ_self _
          case rel => exact ⟨n + 1, cn, rfl, by first | rfl | rw [HW.out], ⟨by have h1 := HK2.out; omega⟩, HNC, ⟨below_step HBq.out B5.out⟩⟩
         ·
          have HFS := Aside0.mk (show fstK (T.map (fun t => t.e.f0)) n = true by rw [HFS0.out]; simp [hke])
          have hkd : decide (u.e.f0 = z.e.f0) = false := decide_eq_false hke
          rw [hkd] at hse
          clear hke hkd
          as_aux_lemma =>
          go_wp2
          refine s_ 19 [] (fun w' => w'.cell? (ad.add (m * 4)) = some (.slice C0 u.e.f0.length c0) ∧ w'.cell? (ad.add (n * 4)) = some (.slice B0 z.e.f0.length b0) ∧ Kd.C (Kd.int .u8) w' C0 u.e.f0.length u.e.f0 ∧ Kd.C (Kd.int .u8) w' B0 z.e.f0.length z.e.f0) (hS := ⟨pw_cell_below B5.out HU.out.1, pw_cell_below B5.out HD.out.1, Kd.C_below (K34_C (Kd.FK_now HFU.out)).2.1 B5.out, Kd.C_below (K34_C (Kd.FK_now HFZ.out)).2.1 B5.out⟩) (h := fun hHeld => ?_)
          refine p_ 0 145 (bb 19 1) (h := ?_)
          refine p_ 1 146 (bb 19 3) (h := ?_)
          refine p_ 2 147 (bb 19 7) (h := ?_)
          refine p_ 3 148 (bb 19 15) (h := ?_)
          refine p_ 4 149 (bb 19 31) (h := ?_)
          refine p_ 5 150 (bb 19 63) (h := ?_)
          refine p_ 6 151 (bb 19 127) (h := ?_)
          refine p_ 7 152 (bb 19 255) (h := ?_)
          refine t_ 8 153 (bb 19 511) hHeld (h := ?_)
          refine t_ 9 154 (bb 19 1023) hHeld (hy := by (rintro w' ⟨s0, s1, s2, s3⟩; have hcv := Kd.C_string (P := Try.prog) (A := C0) (c := c0) Try.underlying32 Try.underlying5 Try.underlying9 s2; go_simp; with_reducible rfl)) (h := ?_)
          refine p_ 10 155 (bb 19 2047) (h := ?_)
          refine p_ 11 156 (bb 19 4095) (h := ?_)
          refine p_ 12 157 (bb 19 8191) (h := ?_)
          refine p_ 13 158 (bb 19 16383) (h := ?_)
          refine t_ 14 159 (bb 19 32767) hHeld (h := ?_)
          refine t_ 15 160 (bb 19 65535) hHeld (hy := by (rintro w' ⟨s0, s1, s2, s3⟩; have hcv := Kd.C_string (P := Try.prog) (A := B0) (c := b0) Try.underlying32 Try.underlying5 Try.underlying9 s3; go_simp; with_reducible rfl)) (h := ?_)
          refine p_ 16 161 (bb 19 131071) (h := ?_)
          refine p_ 17 162 (bb 19 262143) (h := ?_)
          refine p_ 18 22 (bb 19 524287) (h := ?_)
          refine d_ (h := ?_)
          clear hHeld
          generalize hw8 : y4.drew = w8 at B5 ⊢
          clear hw8
          have hcell := pw_cell_below B5.out HD.out.1
          clear hse
          cases ok with
          | false =>
           have HOK := Aside0.mk (show okK T ka kb sq z.e.f0 = false by rw [HOK0.out]; rfl)
           have HNC := Aside0.mk (show cn = (ksK (T.map (fun t => t.e.f0)) (okK T ka kb sq) (n + 1)).length by rw [HST.out, HFS.out, HOK.out]; simp)
           go_wp2
           go_roundg k1
           case measure => exact Nat.lt_succ_self _
           case rel => exact ⟨n + 1, cn, rfl, by first | rfl | rw [HW.out], ⟨by have h1 := HK2.out; omega⟩, HNC, ⟨below_step HBq.out B5.out⟩⟩
          | true =>
           by_cases hl1 : less z.e.f0 ka = true
           ·
            have HL1 := Aside0.mk hl1
            have HOK := Aside0.mk (show okK T ka kb sq z.e.f0 = false by rw [HOK0.out, HL1.out]; rfl)
            clear hl1
            have HNC := Aside0.mk (show cn = (ksK (T.map (fun t => t.e.f0)) (okK T ka kb sq) (n + 1)).length by rw [HST.out, HFS.out, HOK.out]; simp)
            go_wp2_with (first | ((with_reducible refine gate_callee (f := 25) rfl ?_); (try (refine gate_guard (by rfl) ?_; dsimp only)); refine goesL_ (some 174) rfl rfl Try.func25 (by kernel_rfl) rfl #[.slice B0 z.e.f0.length b0, .slice Af ka.length cf] rfl (by (try simp only [List.map_toArray, List.map_cons, List.map_nil]); first | done | rfl) ?_; refine (rlessC (Kd.C_below (K34_C (Kd.FK_now HFZ.out)).2.1 B5.out) (K34_C (Kd.FK_now HFZ.out)).1 (Kd.C_below HRF.out (below_step BWq.out B5.out)) HCF.out (Nat.le_trans HZL.out (by decide))).mono ?_; rintro ex w9 ⟨rfl, hb9⟩; refine ⟨_, rfl, ?_⟩; rw [HL1.out]; have n_ := Aside0.mk hb9; clear hb9; have hb9 := n_; clear n_; have B9 := Aside0.mk (below_step B5.out hb9.out)))
            go_roundg k1
            case measure => exact Nat.lt_succ_self _
            case rel => exact ⟨n + 1, cn, rfl, by first | rfl | rw [HW.out], ⟨by have h1 := HK2.out; omega⟩, HNC, ⟨below_step HBq.out B9.out⟩⟩
           ·
            have HL1 := Aside0.mk (Bool.eq_false_iff.2 hl1)
            clear hl1
            by_cases hkb : kb.length = 0
            ·
             have hk1 : ((kb.length : Int) == 0) = true := beq_iff_eq.2 (by omega)
             have hk2 : ((kb.length : Int) = 0) = True := eq_true (by omega)
             have hk3 : (kb.length = 0) = True := eq_true (by omega)
             have hk4 : decide ((kb.length : Int) = 0) = true := decide_eq_true (by omega)
             have HOK := Aside0.mk (show okK T ka kb sq z.e.f0 = true by rw [HOK0.out, HL1.out, decide_eq_true hkb]; rfl)
             clear hkb hk3
             have HNC := Aside0.mk (show cn + 1 = (ksK (T.map (fun t => t.e.f0)) (okK T ka kb sq) (n + 1)).length by rw [HST.out, HFS.out, HOK.out]; simp)
             go_wp2_with (first | ((with_reducible refine gate_callee (f := 25) rfl ?_); (try (refine gate_guard (by rfl) ?_; dsimp only)); refine goesL_ (some 174) rfl rfl Try.func25 (by kernel_rfl) rfl #[.slice B0 z.e.f0.length b0, .slice Af ka.length cf] rfl (by (try simp only [List.map_toArray, List.map_cons, List.map_nil]); first | done | rfl) ?_; refine (rlessC (Kd.C_below (K34_C (Kd.FK_now HFZ.out)).2.1 B5.out) (K34_C (Kd.FK_now HFZ.out)).1 (Kd.C_below HRF.out (below_step BWq.out B5.out)) HCF.out (Nat.le_trans HZL.out (by decide))).mono ?_; rintro ex w9 ⟨rfl, hb9⟩; refine ⟨_, rfl, ?_⟩; rw [HL1.out]; have n_ := Aside0.mk hb9; clear hb9; have hb9 := n_; clear n_; have B9 := Aside0.mk (below_step B5.out hb9.out)))
             go_roundg k1
             case measure => exact Nat.lt_succ_self _
             case rel => exact ⟨n + 1, cn + 1, by first | rfl | rw [HWC.out], by first | rfl | rw [HW.out], ⟨by have h1 := HK2.out; omega⟩, HNC, ⟨below_step HBq.out B9.out⟩⟩
            ·
             have hk1 : ((kb.length : Int) == 0) = false := beq_eq_false_iff_ne.2 (by omega)
             have hk2 : ((kb.length : Int) = 0) = False := eq_false (by omega)
             have hk4 : decide ((kb.length : Int) = 0) = false := decide_eq_false (by omega)
             have hk5 : (kb.length = 0) = False := eq_false hkb
             by_cases hl2 : less z.e.f0 kb = true
             ·
              have HL2 := Aside0.mk hl2
              have HOK := Aside0.mk (show okK T ka kb sq z.e.f0 = true by rw [HOK0.out, HL1.out, HL2.out, decide_eq_false hkb]; rfl)
              clear hl2 hkb hk5
              have HNC := Aside0.mk (show cn + 1 = (ksK (T.map (fun t => t.e.f0)) (okK T ka kb sq) (n + 1)).length by rw [HST.out, HFS.out, HOK.out]; simp)
              go_wp2_with (first | ((with_reducible refine gate_callee (f := 25) rfl ?_); (try (refine gate_guard (by rfl) ?_; dsimp only)); refine goesL_ (some 174) rfl rfl Try.func25 (by kernel_rfl) rfl #[.slice B0 z.e.f0.length b0, .slice Af ka.length cf] rfl (by (try simp only [List.map_toArray, List.map_cons, List.map_nil]); first | done | rfl) ?_; refine (rlessC (Kd.C_below (K34_C (Kd.FK_now HFZ.out)).2.1 B5.out) (K34_C (Kd.FK_now HFZ.out)).1 (Kd.C_below HRF.out (below_step BWq.out B5.out)) HCF.out (Nat.le_trans HZL.out (by decide))).mono ?_; rintro ex w9 ⟨rfl, hb9⟩; refine ⟨_, rfl, ?_⟩; rw [HL1.out]; have n_ := Aside0.mk hb9; clear hb9; have hb9 := n_; clear n_; have B9 := Aside0.mk (below_step B5.out hb9.out); have hcell9 := pw_cell_below hb9.out hcell) | ((with_reducible refine gate_callee (f := 25) rfl ?_); (try (refine gate_guard (by rfl) ?_; dsimp only)); refine goesL_ (some 188) rfl rfl Try.func25 (by kernel_rfl) rfl #[.slice B0 z.e.f0.length b0, .slice At_ kb.length ct] rfl (by (try simp only [List.map_toArray, List.map_cons, List.map_nil]); first | done | rfl) ?_; refine (rlessC (Kd.C_below (K34_C (Kd.FK_now HFZ.out)).2.1 B9.out) (K34_C (Kd.FK_now HFZ.out)).1 (Kd.C_below HRT.out (below_step BWq.out B9.out)) HCT.out (Nat.le_trans HZL.out (by decide))).mono ?_; rintro ex w10 ⟨rfl, hb10⟩; refine ⟨_, rfl, ?_⟩; rw [HL2.out]; have n_ := Aside0.mk hb10; clear hb10; have hb10 := n_; clear n_; have B10 := Aside0.mk (below_step B9.out hb10.out)))
              go_roundg k1
              case measure => exact Nat.lt_succ_self _
              case rel => exact ⟨n + 1, cn + 1, by first | rfl | rw [HWC.out], by first | rfl | rw [HW.out], ⟨by have h1 := HK2.out; omega⟩, HNC, ⟨below_step HBq.out B10.out⟩⟩
             ·
              have HL2 := Aside0.mk (Bool.eq_false_iff.2 hl2)
              have HOK := Aside0.mk (show okK T ka kb sq z.e.f0 = false by rw [HOK0.out, HL1.out, HL2.out, decide_eq_false hkb]; rfl)
              clear hl2 hkb hk5
              have HNC := Aside0.mk (show cn = (ksK (T.map (fun t => t.e.f0)) (okK T ka kb sq) (n + 1)).length by rw [HST.out, HFS.out, HOK.out]; simp)
              go_wp2_with (first | ((with_reducible refine gate_callee (f := 25) rfl ?_); (try (refine gate_guard (by rfl) ?_; dsimp only)); refine goesL_ (some 174) rfl rfl Try.func25 (by kernel_rfl) rfl #[.slice B0 z.e.f0.length b0, .slice Af ka.length cf] rfl (by (try simp only [List.map_toArray, List.map_cons, List.map_nil]); first | done | rfl) ?_; refine (rlessC (Kd.C_below (K34_C (Kd.FK_now HFZ.out)).2.1 B5.out) (K34_C (Kd.FK_now HFZ.out)).1 (Kd.C_below HRF.out (below_step BWq.out B5.out)) HCF.out (Nat.le_trans HZL.out (by decide))).mono ?_; rintro ex w9 ⟨rfl, hb9⟩; refine ⟨_, rfl, ?_⟩; rw [HL1.out]; have n_ := Aside0.mk hb9; clear hb9; have hb9 := n_; clear n_; have B9 := Aside0.mk (below_step B5.out hb9.out); have hcell9 := pw_cell_below hb9.out hcell) | ((with_reducible refine gate_callee (f := 25) rfl ?_); (try (refine gate_guard (by rfl) ?_; dsimp only)); refine goesL_ (some 188) rfl rfl Try.func25 (by kernel_rfl) rfl #[.slice B0 z.e.f0.length b0, .slice At_ kb.length ct] rfl (by (try simp only [List.map_toArray, List.map_cons, List.map_nil]); first | done | rfl) ?_; refine (rlessC (Kd.C_below (K34_C (Kd.FK_now HFZ.out)).2.1 B9.out) (K34_C (Kd.FK_now HFZ.out)).1 (Kd.C_below HRT.out (below_step BWq.out B9.out)) HCT.out (Nat.le_trans HZL.out (by decide))).mono ?_; rintro ex w10 ⟨rfl, hb10⟩; refine ⟨_, rfl, ?_⟩; rw [HL2.out]; have n_ := Aside0.mk hb10; clear hb10; have hb10 := n_; clear n_; have B10 := Aside0.mk (below_step B9.out hb10.out)))
              go_roundg k1
              case measure => exact Nat.lt_succ_self _
              case rel => exact ⟨n + 1, cn, rfl, by first | rfl | rw [HW.out], ⟨by have h1 := HK2.out; omega⟩, HNC, ⟨below_step HBq.out B10.out⟩⟩
     | succ k1 =>
      have hnl : n < S.length := by have h1 := HK.out; omega
      have hlt : (n < S.length) = True := eq_true hnl
      have HW := Aside0.mk (show wrap64 ((n : Int) + 1) = ((n + 1 : Nat) : Int) by rw [wrap_in (by omega) (by have := HTL.out; have := HSL.out; omega)]; rfl)
      obtain ⟨z, hz⟩ : ∃ z, S[n]? = some z := ⟨_, List.getElem?_eq_getElem hnl⟩
      obtain ⟨ad, hA⟩ := N_addr HNr.out (by omega)
      subst hA
      obtain ⟨B0, b0, B3, b3, hd0, hd1, hd2, hd3, hFZ⟩ := at_N34 HNr.out n z hz
      have HD := Aside0.mk (And.intro hd0 (And.intro hd1 (And.intro hd2 hd3)))
      have HFZ := Aside0.mk hFZ
      have HZ := Aside0.mk hz
      have HZM := Aside0.mk (show z ∈ scanT T ka kb sq from HSE.out ▸ List.mem_of_getElem? hz)
      have HZG := Aside0.mk (HSG.out z (List.mem_of_getElem? hz))
      have HIN := Aside0.mk (inS_iff.1 (scan_in HT.out HZM.out).2)
      have HNA := Aside0.mk HIN.out.1
      have hcl := s1_get HSr.out HT.out B0 b0 z.f0 sq (K34_C (Kd.FK_now HFZ.out)).2.1 (K34_C (Kd.FK_now HFZ.out)).1 HZG.out.1.1
      rw [scan_get HT.out HZM.out] at hcl
      dsimp only at hcl
      have HCL := Aside0.mk hcl
      have HNL := Aside0.mk hnl
      clear hFZ hz hcl hnl
      go_wp2_with (first
       | ((with_reducible refine gate_callee (f := 20) rfl ?_); (try (refine gate_guard (by rfl) ?_; dsimp only)); refine goesL_ (some 69) rfl rfl Try.func20 (by kernel_rfl) rfl #[.pointer (some ⟨g, 0, none⟩), .slice B0 z.f0.length b0, .int .i64 sq] rfl (by (try simp only [List.map_toArray, List.map_cons, List.map_nil]); first | done | rfl) ?_; refine (HCL.out).mono ?_; rintro ex y2 ⟨v0, v3, rfl, hv2, hy2⟩; refine ⟨_, rfl, ?_⟩; obtain ⟨⟨P0, p0, rfl, hl0, hF0⟩, ⟨P3, p3, rfl, hl3, hF3⟩⟩ := hv2; have n_ := Aside0.mk hl0; clear hl0; have hl0 := n_; clear n_; have n_ := Aside0.mk hF0; clear hF0; have hF0 := n_; clear n_; have n_ := Aside0.mk hl3; clear hl3; have hl3 := n_; clear n_; have n_ := Aside0.mk hF3; clear hF3; have hF3 := n_; clear n_; have n_ := Aside0.mk hy2; clear hy2; have hy2 := n_; clear n_)
       | ((with_reducible refine gate_dst (N := 15) rfl ?_); (try (refine gate_guard (by rfl) ?_; dsimp only)); refine box_event ?hg (N := 15) ?hd (cs := #[.slice none 0 0, .int .i64 0, .bool false, .slice none 0 0]) (t := 34) ?hr ?_; (case hd => rfl); (case hg => rfl); (case hr => first | (go_simp; done) | (go_simp; rfl)); intro ga hqga y3 hxga hbga; have n_ := Aside0.mk hqga; clear hqga; have hqga := n_; clear n_; have n_ := Aside0.mk hxga; clear hxga; have hxga := n_; clear n_; have n_ := Aside0.mk hbga; clear hbga; have hbga := n_; clear n_; have hcy0 : y3.cell? ⟨ga, 0, none⟩ = some (.slice none 0 0) := (blk_cell hxga.out 0).trans rfl; have hcy1 : y3.cell? ⟨ga, 1, none⟩ = some (.int .i64 0) := (blk_cell hxga.out 1).trans rfl; have hcy2 : y3.cell? ⟨ga, 2, none⟩ = some (.bool false) := (blk_cell hxga.out 2).trans rfl; have hcy3 : y3.cell? ⟨ga, 3, none⟩ = some (.slice none 0 0) := (blk_cell hxga.out 3).trans rfl; have hfy0 : y3.frozen? ⟨ga, 0, none⟩ = false := blk_frozen hxga.out 0; have hfy1 : y3.frozen? ⟨ga, 1, none⟩ = false := blk_frozen hxga.out 1; have hfy2 : y3.frozen? ⟨ga, 2, none⟩ = false := blk_frozen hxga.out 2; have hfy3 : y3.frozen? ⟨ga, 3, none⟩ = false := blk_frozen hxga.out 3))
      have X4 := Aside0.mk (sets4 (a := .slice P0 z.f0.length p0) (b := .int .i64 z.f1) (c := .bool z.f2) (d := .slice P3 z.f3.length p3) hxga.out)
      have Y34 := Aside0.mk (show Below y2.heap.size y2 ((((y3.setCell ⟨ga, 0, none⟩ (.slice P0 z.f0.length p0)).setCell ⟨ga, 1, none⟩ (.int .i64 z.f1)).setCell ⟨ga, 2, none⟩ (.bool z.f2)).setCell ⟨ga, 3, none⟩ (.slice P3 z.f3.length p3)) from below_set (below_set (below_set (below_set hbga.out (Nat.le_of_eq hqga.out.symm)) (Nat.le_of_eq hqga.out.symm)) (Nat.le_of_eq hqga.out.symm)) (Nat.le_of_eq hqga.out.symm))
      clear hcy0 hcy1 hcy2 hcy3 hfy0 hfy1 hfy2 hfy3
      generalize ((((y3.setCell ⟨ga, 0, none⟩ (.slice P0 z.f0.length p0)).setCell ⟨ga, 1, none⟩ (.int .i64 z.f1)).setCell ⟨ga, 2, none⟩ (.bool z.f2)).setCell ⟨ga, 3, none⟩ (.slice P3 z.f3.length p3)) = y4 at X4 Y34 ⊢
      have B5 := Aside0.mk (below_drew (below_step hy2.out Y34.out))
      by_cases hkb : kb.length = 0
      ·
       have hk1 : decide ((kb.length : Int) > 0) = false := decide_eq_false (by omega)
       have hk2 : (0 < kb.length) = False := eq_false (by omega)
       clear hkb
       by_cases hn0 : n = 0
       ·
        have hg1 : decide ((n : Int) > 0) = false := decide_eq_false (by omega)
        have hg2 : (0 < n) = False := eq_false (by omega)
        clear hn0
        as_aux_lemma =>
        go_wp2
        refine s_ 54 [] (fun w' => w'.cell? ⟨ga, 0, none⟩ = some (.slice P0 z.f0.length p0) ∧ w'.cell? ⟨ga, 1, none⟩ = some (.int .i64 z.f1) ∧ w'.cell? ⟨ga, 2, none⟩ = some (.bool z.f2) ∧ w'.cell? ⟨ga, 3, none⟩ = some (.slice P3 z.f3.length p3) ∧ w'.cell? (ad.add (n * 4)) = some (.slice B0 z.f0.length b0) ∧ w'.cell? ⟨(ad.add (n * 4)).block, (ad.add (n * 4)).off + 1, none⟩ = some (.int .i64 z.f1) ∧ w'.cell? ⟨(ad.add (n * 4)).block, (ad.add (n * 4)).off + 2, none⟩ = some (.bool z.f2) ∧ w'.cell? ⟨(ad.add (n * 4)).block, (ad.add (n * 4)).off + 3, none⟩ = some (.slice B3 z.f3.length b3)) (hS := ⟨(blk_cell (blk_drew X4.out) 0).trans rfl, (blk_cell (blk_drew X4.out) 1).trans rfl, (blk_cell (blk_drew X4.out) 2).trans rfl, (blk_cell (blk_drew X4.out) 3).trans rfl, pw_cell_below B5.out HD.out.1, pw_cell_below B5.out HD.out.2.1, pw_cell_below B5.out HD.out.2.2.1, pw_cell_below B5.out HD.out.2.2.2⟩) (h := fun hHeld => ?_)
        refine p_ 0 72 (bb 54 1) (h := ?_)
        refine p_ 1 73 (bb 54 3) (h := ?_)
        refine p_ 2 74 (bb 54 7) (h := ?_)
        refine t_ 3 75 (bb 54 15) hHeld (h := ?_)
        refine p_ 4 76 (bb 54 31) (h := ?_)
        refine p_ 5 77 (bb 54 63) (h := ?_)
        refine p_ 6 78 (bb 54 127) (h := ?_)
        refine t_ 7 79 (bb 54 255) hHeld (h := ?_)
        refine n_ 8 80 (bb 54 511) (h := fun K hK => ?_)
        refine goes_ Try.func24 (by kernel_rfl) rfl #[.agg #[.slice P0 z.f0.length p0, .int .i64 z.f1, .bool z.f2, .slice P3 z.f3.length p3], .agg #[.slice B0 z.f0.length b0, .int .i64 z.f1, .bool z.f2, .slice B3 z.f3.length b3]] (by rfl) rfl rfl (by (try simp only [List.map_toArray, List.map_cons, List.map_nil]); first | done | rfl) ?_
        refine (sameOneC HZG.out.1 HZG.out.1 (Kd.C_drew (Kd.C_below (Kd.F_now hF0.out) Y34.out)) hl0.out (Kd.C_drew (Kd.C_below (Kd.F_now hF3.out) Y34.out)) hl3.out (Kd.C_below (K34_C (Kd.FK_now HFZ.out)).2.1 B5.out) (K34_C (Kd.FK_now HFZ.out)).1 (Kd.C_below (K34_C (Kd.FK_now HFZ.out)).2.2.2 B5.out) (K34_C (Kd.FK_now HFZ.out)).2.2.1).mono ?_
        rintro ex w6 ⟨rfl, hb6⟩
        refine ⟨_, rfl, ?_⟩
        rw [show decide (z.f0 = z.f0 ∧ z.f1 = z.f1 ∧ z.f2 = z.f2 ∧ z.f3 = z.f3) = true from decide_eq_true ⟨rfl, rfl, rfl, rfl⟩]
        have hb6 := Aside0.mk hb6
        have B6 := Aside0.mk (below_step B5.out hb6.out)
        refine hK.out _ _ ⟨pw_cell_below hb6.out hHeld.1, pw_cell_below hb6.out hHeld.2.1, pw_cell_below hb6.out hHeld.2.2.1, pw_cell_below hb6.out hHeld.2.2.2.1, pw_cell_below hb6.out hHeld.2.2.2.2.1, pw_cell_below hb6.out hHeld.2.2.2.2.2.1, pw_cell_below hb6.out hHeld.2.2.2.2.2.2.1, pw_cell_below hb6.out hHeld.2.2.2.2.2.2.2⟩ (fun hHeld => ?_)
        clear hK K
        refine m_ 80 (h := ?_)
        refine p_ 9 81 (bb 54 1023) (h := ?_)
        refine p_ 10 82 (bb 54 2047) (h := ?_)
        refine p_ 11 83 (bb 54 4095) (h := ?_)
        refine p_ 12 84 (bb 54 8191) (h := ?_)
        refine p_ 13 85 (bb 54 16383) (h := ?_)
        refine p_ 14 86 (bb 54 32767) (h := ?_)
        refine p_ 15 87 (bb 54 65535) (h := ?_)
        refine t_ 16 88 (bb 54 131071) hHeld (h := ?_)
        refine p_ 17 89 (bb 54 262143) (h := ?_)
        refine n_ 18 90 (bb 54 524287) (h := fun K hK => ?_)
        refine goes_ Try.func25 (by kernel_rfl) rfl #[.slice B0 z.f0.length b0, .slice Af ka.length cf] (by rfl) rfl rfl (by (try simp only [List.map_toArray, List.map_cons, List.map_nil]); first | done | rfl) ?_
        refine (rlessC (Kd.C_below (K34_C (Kd.FK_now HFZ.out)).2.1 B6.out) (K34_C (Kd.FK_now HFZ.out)).1 (Kd.C_below HRF.out (below_step BWr.out B6.out)) HCF.out (Nat.le_trans HZG.out.2.1 (by decide))).mono ?_
        rintro ex w7 ⟨rfl, hb7⟩
        refine ⟨_, rfl, ?_⟩
        rw [HNA.out]
        have hb7 := Aside0.mk hb7
        have B7 := Aside0.mk (below_step B6.out hb7.out)
        refine hK.out _ _ ⟨pw_cell_below hb7.out hHeld.1, pw_cell_below hb7.out hHeld.2.1, pw_cell_below hb7.out hHeld.2.2.1, pw_cell_below hb7.out hHeld.2.2.2.1, pw_cell_below hb7.out hHeld.2.2.2.2.1, pw_cell_below hb7.out hHeld.2.2.2.2.2.1, pw_cell_below hb7.out hHeld.2.2.2.2.2.2.1, pw_cell_below hb7.out hHeld.2.2.2.2.2.2.2⟩ (fun hHeld => ?_)
        clear hK K
        refine m_ 90 (h := ?_)
        refine p_ 19 91 (bb 54 1048575) (h := ?_)
        refine p_ 20 92 (bb 54 2097151) (h := ?_)
        refine p_ 21 93 (bb 54 4194303) (h := ?_)
        refine p_ 22 94 (bb 54 8388607) (h := ?_)
        refine p_ 23 95 (bb 54 16777215) (h := ?_)
        refine p_ 24 96 (bb 54 33554431) (h := ?_)
        refine o_ 25 97 (bb 54 67108863) (h := ?_)
        refine o_ 26 98 (bb 54 134217727) (h := ?_)
        refine o_ 27 99 (bb 54 268435455) (h := ?_)
        refine o_ 28 100 (bb 54 536870911) (h := ?_)
        refine o_ 29 101 (bb 54 1073741823) (h := ?_)
        refine o_ 30 102 (bb 54 2147483647) (h := ?_)
        refine n_ 31 103 (bb 54 4294967295) (h := fun K hK => ?_)
        refine off_ (by rfl) ?_
        refine hK.out _ _ hHeld (fun hHeld => ?_)
        clear hK K
        refine m_ 103 (h := ?_)
        refine o_ 32 104 (bb 54 8589934591) (h := ?_)
        refine p_ 33 105 (bb 54 17179869183) (h := ?_)
        refine p_ 34 106 (bb 54 34359738367) (h := ?_)
        refine p_ 35 107 (bb 54 68719476735) (h := ?_)
        refine p_ 36 108 (bb 54 137438953471) (h := ?_)
        refine p_ 37 109 (bb 54 274877906943) (h := ?_)
        refine p_ 38 110 (bb 54 549755813887) (h := ?_)
        refine o_ 39 111 (bb 54 1099511627775) (h := ?_)
        refine o_ 40 112 (bb 54 2199023255551) (h := ?_)
        refine o_ 41 113 (bb 54 4398046511103) (h := ?_)
        refine o_ 42 114 (bb 54 8796093022207) (h := ?_)
        refine o_ 43 115 (bb 54 17592186044415) (h := ?_)
        refine o_ 44 116 (bb 54 35184372088831) (h := ?_)
        refine o_ 45 117 (bb 54 70368744177663) (h := ?_)
        refine o_ 46 118 (bb 54 140737488355327) (h := ?_)
        refine o_ 47 119 (bb 54 281474976710655) (h := ?_)
        refine o_ 48 120 (bb 54 562949953421311) (h := ?_)
        refine o_ 49 121 (bb 54 1125899906842623) (h := ?_)
        refine n_ 50 122 (bb 54 2251799813685247) (h := fun K hK => ?_)
        refine off_ (by rfl) ?_
        refine hK.out _ _ hHeld (fun hHeld => ?_)
        clear hK K
        refine m_ 122 (h := ?_)
        refine o_ 51 123 (bb 54 4503599627370495) (h := ?_)
        refine p_ 52 124 (bb 54 9007199254740991) (h := ?_)
        refine p_ 53 125 (bb 54 18014398509481983) (h := ?_)
        refine d_ (h := ?_)
        clear hHeld
        go_wp2
        go_roundg k1
        case measure => exact Nat.lt_succ_self _
        case rel => exact ⟨n + 1, by first | rfl | rw [HW.out], ⟨by have h1 := HK.out; omega⟩, ⟨below_step HBr.out B7.out⟩⟩
       ·
        obtain ⟨m, hm⟩ : ∃ m, n = m + 1 := ⟨n - 1, by omega⟩
        have hml : m < S.length := by have := HNL.out; omega
        obtain ⟨u, hu⟩ : ∃ u, S[m]? = some u := ⟨_, List.getElem?_eq_getElem hml⟩
        obtain ⟨C0, c0, C3, c3, hc0_, hc1_, hc2_, hc3_, hFU⟩ := at_N34 HNr.out m u hu
        have HU := Aside0.mk hc0_
        have HFU := Aside0.mk hFU
        have HUG := Aside0.mk (HSG.out u (List.mem_of_getElem? hu))
        have HLU := Aside0.mk (show less u.f0 z.f0 = true by
         have h1 := hu
         have h2 := HZ.out
         rw [hm] at h2
         rw [HSE.out] at h1 h2
         exact scan_next HT.out h1 h2)
        have hmt : (m < S.length) = True := eq_true hml
        have hwm : wrap64 ((n : Int) - 1) = (m : Int) := by rw [wrap_in (by omega) (by have := HTL.out; have := HSL.out; have := HNL.out; omega)]; omega
        have hg1 : decide ((n : Int) > 0) = true := decide_eq_true (by omega)
        have hg2 : (0 < n) = True := eq_true (by omega)
        clear hc0_ hc1_ hc2_ hc3_ hFU hu hm hml hn0
        as_aux_lemma =>
        go_wp2
        refine s_ 54 [] (fun w' => w'.cell? ⟨ga, 0, none⟩ = some (.slice P0 z.f0.length p0) ∧ w'.cell? ⟨ga, 1, none⟩ = some (.int .i64 z.f1) ∧ w'.cell? ⟨ga, 2, none⟩ = some (.bool z.f2) ∧ w'.cell? ⟨ga, 3, none⟩ = some (.slice P3 z.f3.length p3) ∧ w'.cell? (ad.add (n * 4)) = some (.slice B0 z.f0.length b0) ∧ w'.cell? ⟨(ad.add (n * 4)).block, (ad.add (n * 4)).off + 1, none⟩ = some (.int .i64 z.f1) ∧ w'.cell? ⟨(ad.add (n * 4)).block, (ad.add (n * 4)).off + 2, none⟩ = some (.bool z.f2) ∧ w'.cell? ⟨(ad.add (n * 4)).block, (ad.add (n * 4)).off + 3, none⟩ = some (.slice B3 z.f3.length b3) ∧ w'.cell? (ad.add (m * 4)) = some (.slice C0 u.f0.length c0)) (hS := ⟨(blk_cell (blk_drew X4.out) 0).trans rfl, (blk_cell (blk_drew X4.out) 1).trans rfl, (blk_cell (blk_drew X4.out) 2).trans rfl, (blk_cell (blk_drew X4.out) 3).trans rfl, pw_cell_below B5.out HD.out.1, pw_cell_below B5.out HD.out.2.1, pw_cell_below B5.out HD.out.2.2.1, pw_cell_below B5.out HD.out.2.2.2, pw_cell_below B5.out HU.out⟩) (h := fun hHeld => ?_)
        refine p_ 0 72 (bb 54 1) (h := ?_)
        refine p_ 1 73 (bb 54 3) (h := ?_)
        refine p_ 2 74 (bb 54 7) (h := ?_)
        refine t_ 3 75 (bb 54 15) hHeld (h := ?_)
        refine p_ 4 76 (bb 54 31) (h := ?_)
        refine p_ 5 77 (bb 54 63) (h := ?_)
        refine p_ 6 78 (bb 54 127) (h := ?_)
        refine t_ 7 79 (bb 54 255) hHeld (h := ?_)
        refine n_ 8 80 (bb 54 511) (h := fun K hK => ?_)
        refine goes_ Try.func24 (by kernel_rfl) rfl #[.agg #[.slice P0 z.f0.length p0, .int .i64 z.f1, .bool z.f2, .slice P3 z.f3.length p3], .agg #[.slice B0 z.f0.length b0, .int .i64 z.f1, .bool z.f2, .slice B3 z.f3.length b3]] (by rfl) rfl rfl (by (try simp only [List.map_toArray, List.map_cons, List.map_nil]); first | done | rfl) ?_
        refine (sameOneC HZG.out.1 HZG.out.1 (Kd.C_drew (Kd.C_below (Kd.F_now hF0.out) Y34.out)) hl0.out (Kd.C_drew (Kd.C_below (Kd.F_now hF3.out) Y34.out)) hl3.out (Kd.C_below (K34_C (Kd.FK_now HFZ.out)).2.1 B5.out) (K34_C (Kd.FK_now HFZ.out)).1 (Kd.C_below (K34_C (Kd.FK_now HFZ.out)).2.2.2 B5.out) (K34_C (Kd.FK_now HFZ.out)).2.2.1).mono ?_
        rintro ex w6 ⟨rfl, hb6⟩
        refine ⟨_, rfl, ?_⟩
        rw [show decide (z.f0 = z.f0 ∧ z.f1 = z.f1 ∧ z.f2 = z.f2 ∧ z.f3 = z.f3) = true from decide_eq_true ⟨rfl, rfl, rfl, rfl⟩]
        have hb6 := Aside0.mk hb6
        have B6 := Aside0.mk (below_step B5.out hb6.out)
        refine hK.out _ _ ⟨pw_cell_below hb6.out hHeld.1, pw_cell_below hb6.out hHeld.2.1, pw_cell_below hb6.out hHeld.2.2.1, pw_cell_below hb6.out hHeld.2.2.2.1, pw_cell_below hb6.out hHeld.2.2.2.2.1, pw_cell_below hb6.out hHeld.2.2.2.2.2.1, pw_cell_below hb6.out hHeld.2.2.2.2.2.2.1, pw_cell_below hb6.out hHeld.2.2.2.2.2.2.2.1, pw_cell_below hb6.out hHeld.2.2.2.2.2.2.2.2⟩ (fun hHeld => ?_)
        clear hK K
        refine m_ 80 (h := ?_)
        refine p_ 9 81 (bb 54 1023) (h := ?_)
        refine p_ 10 82 (bb 54 2047) (h := ?_)
        refine p_ 11 83 (bb 54 4095) (h := ?_)
        refine p_ 12 84 (bb 54 8191) (h := ?_)
        refine p_ 13 85 (bb 54 16383) (h := ?_)
        refine p_ 14 86 (bb 54 32767) (h := ?_)
        refine p_ 15 87 (bb 54 65535) (h := ?_)
        refine t_ 16 88 (bb 54 131071) hHeld (h := ?_)
        refine p_ 17 89 (bb 54 262143) (h := ?_)
        refine n_ 18 90 (bb 54 524287) (h := fun K hK => ?_)
        refine goes_ Try.func25 (by kernel_rfl) rfl #[.slice B0 z.f0.length b0, .slice Af ka.length cf] (by rfl) rfl rfl (by (try simp only [List.map_toArray, List.map_cons, List.map_nil]); first | done | rfl) ?_
        refine (rlessC (Kd.C_below (K34_C (Kd.FK_now HFZ.out)).2.1 B6.out) (K34_C (Kd.FK_now HFZ.out)).1 (Kd.C_below HRF.out (below_step BWr.out B6.out)) HCF.out (Nat.le_trans HZG.out.2.1 (by decide))).mono ?_
        rintro ex w7 ⟨rfl, hb7⟩
        refine ⟨_, rfl, ?_⟩
        rw [HNA.out]
        have hb7 := Aside0.mk hb7
        have B7 := Aside0.mk (below_step B6.out hb7.out)
        refine hK.out _ _ ⟨pw_cell_below hb7.out hHeld.1, pw_cell_below hb7.out hHeld.2.1, pw_cell_below hb7.out hHeld.2.2.1, pw_cell_below hb7.out hHeld.2.2.2.1, pw_cell_below hb7.out hHeld.2.2.2.2.1, pw_cell_below hb7.out hHeld.2.2.2.2.2.1, pw_cell_below hb7.out hHeld.2.2.2.2.2.2.1, pw_cell_below hb7.out hHeld.2.2.2.2.2.2.2.1, pw_cell_below hb7.out hHeld.2.2.2.2.2.2.2.2⟩ (fun hHeld => ?_)
        clear hK K
        refine m_ 90 (h := ?_)
        refine p_ 19 91 (bb 54 1048575) (h := ?_)
        refine p_ 20 92 (bb 54 2097151) (h := ?_)
        refine p_ 21 93 (bb 54 4194303) (h := ?_)
        refine p_ 22 94 (bb 54 8388607) (h := ?_)
        refine p_ 23 95 (bb 54 16777215) (h := ?_)
        refine p_ 24 96 (bb 54 33554431) (h := ?_)
        refine o_ 25 97 (bb 54 67108863) (h := ?_)
        refine o_ 26 98 (bb 54 134217727) (h := ?_)
        refine o_ 27 99 (bb 54 268435455) (h := ?_)
        refine o_ 28 100 (bb 54 536870911) (h := ?_)
        refine o_ 29 101 (bb 54 1073741823) (h := ?_)
        refine o_ 30 102 (bb 54 2147483647) (h := ?_)
        refine n_ 31 103 (bb 54 4294967295) (h := fun K hK => ?_)
        refine off_ (by rfl) ?_
        refine hK.out _ _ hHeld (fun hHeld => ?_)
        clear hK K
        refine m_ 103 (h := ?_)
        refine o_ 32 104 (bb 54 8589934591) (h := ?_)
        refine p_ 33 105 (bb 54 17179869183) (h := ?_)
        refine p_ 34 106 (bb 54 34359738367) (h := ?_)
        refine p_ 35 107 (bb 54 68719476735) (h := ?_)
        refine p_ 36 108 (bb 54 137438953471) (h := ?_)
        refine p_ 37 109 (bb 54 274877906943) (h := ?_)
        refine p_ 38 110 (bb 54 549755813887) (h := ?_)
        refine p_ 39 111 (bb 54 1099511627775) (h := ?_)
        refine p_ 40 112 (bb 54 2199023255551) (h := ?_)
        refine p_ 41 113 (bb 54 4398046511103) (h := ?_)
        refine p_ 42 114 (bb 54 8796093022207) (h := ?_)
        refine p_ 43 115 (bb 54 17592186044415) (h := ?_)
        refine t_ 44 116 (bb 54 35184372088831) hHeld (h := ?_)
        refine p_ 45 117 (bb 54 70368744177663) (h := ?_)
        refine p_ 46 118 (bb 54 140737488355327) (h := ?_)
        refine p_ 47 119 (bb 54 281474976710655) (h := ?_)
        refine p_ 48 120 (bb 54 562949953421311) (h := ?_)
        refine t_ 49 121 (bb 54 1125899906842623) hHeld (h := ?_)
        refine n_ 50 122 (bb 54 2251799813685247) (h := fun K hK => ?_)
        refine goes_ Try.func25 (by kernel_rfl) rfl #[.slice C0 u.f0.length c0, .slice B0 z.f0.length b0] (by rfl) rfl rfl (by (try simp only [List.map_toArray, List.map_cons, List.map_nil]); first | done | rfl) ?_
        refine (rlessC (Kd.C_below (K34_C (Kd.FK_now HFU.out)).2.1 B7.out) (K34_C (Kd.FK_now HFU.out)).1 (Kd.C_below (K34_C (Kd.FK_now HFZ.out)).2.1 B7.out) (K34_C (Kd.FK_now HFZ.out)).1 (Nat.le_trans HUG.out.2.1 (by decide))).mono ?_
        rintro ex w9 ⟨rfl, hb9⟩
        refine ⟨_, rfl, ?_⟩
        rw [HLU.out]
        have hb9 := Aside0.mk hb9
        have B9 := Aside0.mk (below_step B7.out hb9.out)
        refine hK.out _ _ ⟨pw_cell_below hb9.out hHeld.1, pw_cell_below hb9.out hHeld.2.1, pw_cell_below hb9.out hHeld.2.2.1, pw_cell_below hb9.out hHeld.2.2.2.1, pw_cell_below hb9.out hHeld.2.2.2.2.1, pw_cell_below hb9.out hHeld.2.2.2.2.2.1, pw_cell_below hb9.out hHeld.2.2.2.2.2.2.1, pw_cell_below hb9.out hHeld.2.2.2.2.2.2.2.1, pw_cell_below hb9.out hHeld.2.2.2.2.2.2.2.2⟩ (fun hHeld => ?_)
        clear hK K
        refine m_ 122 (h := ?_)
        refine p_ 51 123 (bb 54 4503599627370495) (h := ?_)
        refine p_ 52 124 (bb 54 9007199254740991) (h := ?_)
        refine p_ 53 125 (bb 54 18014398509481983) (h := ?_)
        refine d_ (h := ?_)
        clear hHeld
        go_wp2
        go_roundg k1
        case measure => exact Nat.lt_succ_self _
        case rel => exact ⟨n + 1, by first | rfl | rw [HW.out], ⟨by have h1 := HK.out; omega⟩, ⟨below_step HBr.out B9.out⟩⟩
      ·
       have hk1 : decide ((kb.length : Int) > 0) = true := decide_eq_true (by omega)
       have hk2 : (0 < kb.length) = True := eq_true (by omega)
       have HLB := Aside0.mk (show less z.f0 kb = true by
        rcases HIN.out.2.1 with h1 | h1
        ·
         exact absurd h1 hkb
        ·
         exact h1)
       clear hkb
       by_cases hn0 : n = 0
       ·
        have hg1 : decide ((n : Int) > 0) = false := decide_eq_false (by omega)
        have hg2 : (0 < n) = False := eq_false (by omega)
        clear hn0
        as_aux_lemma =>
        go_wp2
        refine s_ 54 [] (fun w' => w'.cell? ⟨ga, 0, none⟩ = some (.slice P0 z.f0.length p0) ∧ w'.cell? ⟨ga, 1, none⟩ = some (.int .i64 z.f1) ∧ w'.cell? ⟨ga, 2, none⟩ = some (.bool z.f2) ∧ w'.cell? ⟨ga, 3, none⟩ = some (.slice P3 z.f3.length p3) ∧ w'.cell? (ad.add (n * 4)) = some (.slice B0 z.f0.length b0) ∧ w'.cell? ⟨(ad.add (n * 4)).block, (ad.add (n * 4)).off + 1, none⟩ = some (.int .i64 z.f1) ∧ w'.cell? ⟨(ad.add (n * 4)).block, (ad.add (n * 4)).off + 2, none⟩ = some (.bool z.f2) ∧ w'.cell? ⟨(ad.add (n * 4)).block, (ad.add (n * 4)).off + 3, none⟩ = some (.slice B3 z.f3.length b3)) (hS := ⟨(blk_cell (blk_drew X4.out) 0).trans rfl, (blk_cell (blk_drew X4.out) 1).trans rfl, (blk_cell (blk_drew X4.out) 2).trans rfl, (blk_cell (blk_drew X4.out) 3).trans rfl, pw_cell_below B5.out HD.out.1, pw_cell_below B5.out HD.out.2.1, pw_cell_below B5.out HD.out.2.2.1, pw_cell_below B5.out HD.out.2.2.2⟩) (h := fun hHeld => ?_)
        refine p_ 0 72 (bb 54 1) (h := ?_)
        refine p_ 1 73 (bb 54 3) (h := ?_)
        refine p_ 2 74 (bb 54 7) (h := ?_)
        refine t_ 3 75 (bb 54 15) hHeld (h := ?_)
        refine p_ 4 76 (bb 54 31) (h := ?_)
        refine p_ 5 77 (bb 54 63) (h := ?_)
        refine p_ 6 78 (bb 54 127) (h := ?_)
        refine t_ 7 79 (bb 54 255) hHeld (h := ?_)
        refine n_ 8 80 (bb 54 511) (h := fun K hK => ?_)
        refine goes_ Try.func24 (by kernel_rfl) rfl #[.agg #[.slice P0 z.f0.length p0, .int .i64 z.f1, .bool z.f2, .slice P3 z.f3.length p3], .agg #[.slice B0 z.f0.length b0, .int .i64 z.f1, .bool z.f2, .slice B3 z.f3.length b3]] (by rfl) rfl rfl (by (try simp only [List.map_toArray, List.map_cons, List.map_nil]); first | done | rfl) ?_
        refine (sameOneC HZG.out.1 HZG.out.1 (Kd.C_drew (Kd.C_below (Kd.F_now hF0.out) Y34.out)) hl0.out (Kd.C_drew (Kd.C_below (Kd.F_now hF3.out) Y34.out)) hl3.out (Kd.C_below (K34_C (Kd.FK_now HFZ.out)).2.1 B5.out) (K34_C (Kd.FK_now HFZ.out)).1 (Kd.C_below (K34_C (Kd.FK_now HFZ.out)).2.2.2 B5.out) (K34_C (Kd.FK_now HFZ.out)).2.2.1).mono ?_
        rintro ex w6 ⟨rfl, hb6⟩
        refine ⟨_, rfl, ?_⟩
        rw [show decide (z.f0 = z.f0 ∧ z.f1 = z.f1 ∧ z.f2 = z.f2 ∧ z.f3 = z.f3) = true from decide_eq_true ⟨rfl, rfl, rfl, rfl⟩]
        have hb6 := Aside0.mk hb6
        have B6 := Aside0.mk (below_step B5.out hb6.out)
        refine hK.out _ _ ⟨pw_cell_below hb6.out hHeld.1, pw_cell_below hb6.out hHeld.2.1, pw_cell_below hb6.out hHeld.2.2.1, pw_cell_below hb6.out hHeld.2.2.2.1, pw_cell_below hb6.out hHeld.2.2.2.2.1, pw_cell_below hb6.out hHeld.2.2.2.2.2.1, pw_cell_below hb6.out hHeld.2.2.2.2.2.2.1, pw_cell_below hb6.out hHeld.2.2.2.2.2.2.2⟩ (fun hHeld => ?_)
        clear hK K
        refine m_ 80 (h := ?_)
        refine p_ 9 81 (bb 54 1023) (h := ?_)
        refine p_ 10 82 (bb 54 2047) (h := ?_)
        refine p_ 11 83 (bb 54 4095) (h := ?_)
        refine p_ 12 84 (bb 54 8191) (h := ?_)
        refine p_ 13 85 (bb 54 16383) (h := ?_)
        refine p_ 14 86 (bb 54 32767) (h := ?_)
        refine p_ 15 87 (bb 54 65535) (h := ?_)
        refine t_ 16 88 (bb 54 131071) hHeld (h := ?_)
        refine p_ 17 89 (bb 54 262143) (h := ?_)
        refine n_ 18 90 (bb 54 524287) (h := fun K hK => ?_)
        refine goes_ Try.func25 (by kernel_rfl) rfl #[.slice B0 z.f0.length b0, .slice Af ka.length cf] (by rfl) rfl rfl (by (try simp only [List.map_toArray, List.map_cons, List.map_nil]); first | done | rfl) ?_
        refine (rlessC (Kd.C_below (K34_C (Kd.FK_now HFZ.out)).2.1 B6.out) (K34_C (Kd.FK_now HFZ.out)).1 (Kd.C_below HRF.out (below_step BWr.out B6.out)) HCF.out (Nat.le_trans HZG.out.2.1 (by decide))).mono ?_
        rintro ex w7 ⟨rfl, hb7⟩
        refine ⟨_, rfl, ?_⟩
        rw [HNA.out]
        have hb7 := Aside0.mk hb7
        have B7 := Aside0.mk (below_step B6.out hb7.out)
        refine hK.out _ _ ⟨pw_cell_below hb7.out hHeld.1, pw_cell_below hb7.out hHeld.2.1, pw_cell_below hb7.out hHeld.2.2.1, pw_cell_below hb7.out hHeld.2.2.2.1, pw_cell_below hb7.out hHeld.2.2.2.2.1, pw_cell_below hb7.out hHeld.2.2.2.2.2.1, pw_cell_below hb7.out hHeld.2.2.2.2.2.2.1, pw_cell_below hb7.out hHeld.2.2.2.2.2.2.2⟩ (fun hHeld => ?_)
        clear hK K
        refine m_ 90 (h := ?_)
        refine p_ 19 91 (bb 54 1048575) (h := ?_)
        refine p_ 20 92 (bb 54 2097151) (h := ?_)
        refine p_ 21 93 (bb 54 4194303) (h := ?_)
        refine p_ 22 94 (bb 54 8388607) (h := ?_)
        refine p_ 23 95 (bb 54 16777215) (h := ?_)
        refine p_ 24 96 (bb 54 33554431) (h := ?_)
        refine p_ 25 97 (bb 54 67108863) (h := ?_)
        refine p_ 26 98 (bb 54 134217727) (h := ?_)
        refine p_ 27 99 (bb 54 268435455) (h := ?_)
        refine p_ 28 100 (bb 54 536870911) (h := ?_)
        refine t_ 29 101 (bb 54 1073741823) hHeld (h := ?_)
        refine p_ 30 102 (bb 54 2147483647) (h := ?_)
        refine n_ 31 103 (bb 54 4294967295) (h := fun K hK => ?_)
        refine goes_ Try.func25 (by kernel_rfl) rfl #[.slice B0 z.f0.length b0, .slice At_ kb.length ct] (by rfl) rfl rfl (by (try simp only [List.map_toArray, List.map_cons, List.map_nil]); first | done | rfl) ?_
        refine (rlessC (Kd.C_below (K34_C (Kd.FK_now HFZ.out)).2.1 B7.out) (K34_C (Kd.FK_now HFZ.out)).1 (Kd.C_below HRT.out (below_step BWr.out B7.out)) HCT.out (Nat.le_trans HZG.out.2.1 (by decide))).mono ?_
        rintro ex w8 ⟨rfl, hb8⟩
        refine ⟨_, rfl, ?_⟩
        rw [HLB.out]
        have hb8 := Aside0.mk hb8
        have B8 := Aside0.mk (below_step B7.out hb8.out)
        refine hK.out _ _ ⟨pw_cell_below hb8.out hHeld.1, pw_cell_below hb8.out hHeld.2.1, pw_cell_below hb8.out hHeld.2.2.1, pw_cell_below hb8.out hHeld.2.2.2.1, pw_cell_below hb8.out hHeld.2.2.2.2.1, pw_cell_below hb8.out hHeld.2.2.2.2.2.1, pw_cell_below hb8.out hHeld.2.2.2.2.2.2.1, pw_cell_below hb8.out hHeld.2.2.2.2.2.2.2⟩ (fun hHeld => ?_)
        clear hK K
        refine m_ 103 (h := ?_)
        refine p_ 32 104 (bb 54 8589934591) (h := ?_)
        refine p_ 33 105 (bb 54 17179869183) (h := ?_)
        refine p_ 34 106 (bb 54 34359738367) (h := ?_)
        refine p_ 35 107 (bb 54 68719476735) (h := ?_)
        refine p_ 36 108 (bb 54 137438953471) (h := ?_)
        refine p_ 37 109 (bb 54 274877906943) (h := ?_)
        refine p_ 38 110 (bb 54 549755813887) (h := ?_)
        refine o_ 39 111 (bb 54 1099511627775) (h := ?_)
        refine o_ 40 112 (bb 54 2199023255551) (h := ?_)
        refine o_ 41 113 (bb 54 4398046511103) (h := ?_)
        refine o_ 42 114 (bb 54 8796093022207) (h := ?_)
        refine o_ 43 115 (bb 54 17592186044415) (h := ?_)
        refine o_ 44 116 (bb 54 35184372088831) (h := ?_)
        refine o_ 45 117 (bb 54 70368744177663) (h := ?_)
        refine o_ 46 118 (bb 54 140737488355327) (h := ?_)
        refine o_ 47 119 (bb 54 281474976710655) (h := ?_)
        refine o_ 48 120 (bb 54 562949953421311) (h := ?_)
        refine o_ 49 121 (bb 54 1125899906842623) (h := ?_)
        refine n_ 50 122 (bb 54 2251799813685247) (h := fun K hK => ?_)
        refine off_ (by rfl) ?_
        refine hK.out _ _ hHeld (fun hHeld => ?_)
        clear hK K
        refine m_ 122 (h := ?_)
        refine o_ 51 123 (bb 54 4503599627370495) (h := ?_)
        refine p_ 52 124 (bb 54 9007199254740991) (h := ?_)
        refine p_ 53 125 (bb 54 18014398509481983) (h := ?_)
        refine d_ (h := ?_)
        clear hHeld
        go_wp2
        go_roundg k1
        case measure => exact Nat.lt_succ_self _
        case rel => exact ⟨n + 1, by first | rfl | rw [HW.out], ⟨by have h1 := HK.out; omega⟩, ⟨below_step HBr.out B8.out⟩⟩
       ·
        obtain ⟨m, hm⟩ : ∃ m, n = m + 1 := ⟨n - 1, by omega⟩
        have hml : m < S.length := by have := HNL.out; omega
        obtain ⟨u, hu⟩ : ∃ u, S[m]? = some u := ⟨_, List.getElem?_eq_getElem hml⟩
        obtain ⟨C0, c0, C3, c3, hc0_, hc1_, hc2_, hc3_, hFU⟩ := at_N34 HNr.out m u hu
        have HU := Aside0.mk hc0_
        have HFU := Aside0.mk hFU
        have HUG := Aside0.mk (HSG.out u (List.mem_of_getElem? hu))
        have HLU := Aside0.mk (show less u.f0 z.f0 = true by
         have h1 := hu
         have h2 := HZ.out
         rw [hm] at h2
         rw [HSE.out] at h1 h2
         exact scan_next HT.out h1 h2)
        have hmt : (m < S.length) = True := eq_true hml
        have hwm : wrap64 ((n : Int) - 1) = (m : Int) := by rw [wrap_in (by omega) (by have := HTL.out; have := HSL.out; have := HNL.out; omega)]; omega
        have hg1 : decide ((n : Int) > 0) = true := decide_eq_true (by omega)
        have hg2 : (0 < n) = True := eq_true (by omega)
        clear hc0_ hc1_ hc2_ hc3_ hFU hu hm hml hn0
        as_aux_lemma =>
        go_wp2
        refine s_ 54 [] (fun w' => w'.cell? ⟨ga, 0, none⟩ = some (.slice P0 z.f0.length p0) ∧ w'.cell? ⟨ga, 1, none⟩ = some (.int .i64 z.f1) ∧ w'.cell? ⟨ga, 2, none⟩ = some (.bool z.f2) ∧ w'.cell? ⟨ga, 3, none⟩ = some (.slice P3 z.f3.length p3) ∧ w'.cell? (ad.add (n * 4)) = some (.slice B0 z.f0.length b0) ∧ w'.cell? ⟨(ad.add (n * 4)).block, (ad.add (n * 4)).off + 1, none⟩ = some (.int .i64 z.f1) ∧ w'.cell? ⟨(ad.add (n * 4)).block, (ad.add (n * 4)).off + 2, none⟩ = some (.bool z.f2) ∧ w'.cell? ⟨(ad.add (n * 4)).block, (ad.add (n * 4)).off + 3, none⟩ = some (.slice B3 z.f3.length b3) ∧ w'.cell? (ad.add (m * 4)) = some (.slice C0 u.f0.length c0)) (hS := ⟨(blk_cell (blk_drew X4.out) 0).trans rfl, (blk_cell (blk_drew X4.out) 1).trans rfl, (blk_cell (blk_drew X4.out) 2).trans rfl, (blk_cell (blk_drew X4.out) 3).trans rfl, pw_cell_below B5.out HD.out.1, pw_cell_below B5.out HD.out.2.1, pw_cell_below B5.out HD.out.2.2.1, pw_cell_below B5.out HD.out.2.2.2, pw_cell_below B5.out HU.out⟩) (h := fun hHeld => ?_)
        refine p_ 0 72 (bb 54 1) (h := ?_)
        refine p_ 1 73 (bb 54 3) (h := ?_)
        refine p_ 2 74 (bb 54 7) (h := ?_)
        refine t_ 3 75 (bb 54 15) hHeld (h := ?_)
        refine p_ 4 76 (bb 54 31) (h := ?_)
        refine p_ 5 77 (bb 54 63) (h := ?_)
        refine p_ 6 78 (bb 54 127) (h := ?_)
        refine t_ 7 79 (bb 54 255) hHeld (h := ?_)
        refine n_ 8 80 (bb 54 511) (h := fun K hK => ?_)
        refine goes_ Try.func24 (by kernel_rfl) rfl #[.agg #[.slice P0 z.f0.length p0, .int .i64 z.f1, .bool z.f2, .slice P3 z.f3.length p3], .agg #[.slice B0 z.f0.length b0, .int .i64 z.f1, .bool z.f2, .slice B3 z.f3.length b3]] (by rfl) rfl rfl (by (try simp only [List.map_toArray, List.map_cons, List.map_nil]); first | done | rfl) ?_
        refine (sameOneC HZG.out.1 HZG.out.1 (Kd.C_drew (Kd.C_below (Kd.F_now hF0.out) Y34.out)) hl0.out (Kd.C_drew (Kd.C_below (Kd.F_now hF3.out) Y34.out)) hl3.out (Kd.C_below (K34_C (Kd.FK_now HFZ.out)).2.1 B5.out) (K34_C (Kd.FK_now HFZ.out)).1 (Kd.C_below (K34_C (Kd.FK_now HFZ.out)).2.2.2 B5.out) (K34_C (Kd.FK_now HFZ.out)).2.2.1).mono ?_
        rintro ex w6 ⟨rfl, hb6⟩
        refine ⟨_, rfl, ?_⟩
        rw [show decide (z.f0 = z.f0 ∧ z.f1 = z.f1 ∧ z.f2 = z.f2 ∧ z.f3 = z.f3) = true from decide_eq_true ⟨rfl, rfl, rfl, rfl⟩]
        have hb6 := Aside0.mk hb6
        have B6 := Aside0.mk (below_step B5.out hb6.out)
        refine hK.out _ _ ⟨pw_cell_below hb6.out hHeld.1, pw_cell_below hb6.out hHeld.2.1, pw_cell_below hb6.out hHeld.2.2.1, pw_cell_below hb6.out hHeld.2.2.2.1, pw_cell_below hb6.out hHeld.2.2.2.2.1, pw_cell_below hb6.out hHeld.2.2.2.2.2.1, pw_cell_below hb6.out hHeld.2.2.2.2.2.2.1, pw_cell_below hb6.out hHeld.2.2.2.2.2.2.2.1, pw_cell_below hb6.out hHeld.2.2.2.2.2.2.2.2⟩ (fun hHeld => ?_)
        clear hK K
        refine m_ 80 (h := ?_)
        refine p_ 9 81 (bb 54 1023) (h := ?_)
        refine p_ 10 82 (bb 54 2047) (h := ?_)
        refine p_ 11 83 (bb 54 4095) (h := ?_)
        refine p_ 12 84 (bb 54 8191) (h := ?_)
        refine p_ 13 85 (bb 54 16383) (h := ?_)
        refine p_ 14 86 (bb 54 32767) (h := ?_)
        refine p_ 15 87 (bb 54 65535) (h := ?_)
        refine t_ 16 88 (bb 54 131071) hHeld (h := ?_)
        refine p_ 17 89 (bb 54 262143) (h := ?_)
        refine n_ 18 90 (bb 54 524287) (h := fun K hK => ?_)
        refine goes_ Try.func25 (by kernel_rfl) rfl #[.slice B0 z.f0.length b0, .slice Af ka.length cf] (by rfl) rfl rfl (by (try simp only [List.map_toArray, List.map_cons, List.map_nil]); first | done | rfl) ?_
        refine (rlessC (Kd.C_below (K34_C (Kd.FK_now HFZ.out)).2.1 B6.out) (K34_C (Kd.FK_now HFZ.out)).1 (Kd.C_below HRF.out (below_step BWr.out B6.out)) HCF.out (Nat.le_trans HZG.out.2.1 (by decide))).mono ?_
        rintro ex w7 ⟨rfl, hb7⟩
        refine ⟨_, rfl, ?_⟩
        rw [HNA.out]
        have hb7 := Aside0.mk hb7
        have B7 := Aside0.mk (below_step B6.out hb7.out)
        refine hK.out _ _ ⟨pw_cell_below hb7.out hHeld.1, pw_cell_below hb7.out hHeld.2.1, pw_cell_below hb7.out hHeld.2.2.1, pw_cell_below hb7.out hHeld.2.2.2.1, pw_cell_below hb7.out hHeld.2.2.2.2.1, pw_cell_below hb7.out hHeld.2.2.2.2.2.1, pw_cell_below hb7.out hHeld.2.2.2.2.2.2.1, pw_cell_below hb7.out hHeld.2.2.2.2.2.2.2.1, pw_cell_below hb7.out hHeld.2.2.2.2.2.2.2.2⟩ (fun hHeld => ?_)
        clear hK K
        refine m_ 90 (h := ?_)
        refine p_ 19 91 (bb 54 1048575) (h := ?_)
        refine p_ 20 92 (bb 54 2097151) (h := ?_)
        refine p_ 21 93 (bb 54 4194303) (h := ?_)
        refine p_ 22 94 (bb 54 8388607) (h := ?_)
        refine p_ 23 95 (bb 54 16777215) (h := ?_)
        refine p_ 24 96 (bb 54 33554431) (h := ?_)
        refine p_ 25 97 (bb 54 67108863) (h := ?_)
        refine p_ 26 98 (bb 54 134217727) (h := ?_)
        refine p_ 27 99 (bb 54 268435455) (h := ?_)
        refine p_ 28 100 (bb 54 536870911) (h := ?_)
        refine t_ 29 101 (bb 54 1073741823) hHeld (h := ?_)
        refine p_ 30 102 (bb 54 2147483647) (h := ?_)
        refine n_ 31 103 (bb 54 4294967295) (h := fun K hK => ?_)
        refine goes_ Try.func25 (by kernel_rfl) rfl #[.slice B0 z.f0.length b0, .slice At_ kb.length ct] (by rfl) rfl rfl (by (try simp only [List.map_toArray, List.map_cons, List.map_nil]); first | done | rfl) ?_
        refine (rlessC (Kd.C_below (K34_C (Kd.FK_now HFZ.out)).2.1 B7.out) (K34_C (Kd.FK_now HFZ.out)).1 (Kd.C_below HRT.out (below_step BWr.out B7.out)) HCT.out (Nat.le_trans HZG.out.2.1 (by decide))).mono ?_
        rintro ex w8 ⟨rfl, hb8⟩
        refine ⟨_, rfl, ?_⟩
        rw [HLB.out]
        have hb8 := Aside0.mk hb8
        have B8 := Aside0.mk (below_step B7.out hb8.out)
        refine hK.out _ _ ⟨pw_cell_below hb8.out hHeld.1, pw_cell_below hb8.out hHeld.2.1, pw_cell_below hb8.out hHeld.2.2.1, pw_cell_below hb8.out hHeld.2.2.2.1, pw_cell_below hb8.out hHeld.2.2.2.2.1, pw_cell_below hb8.out hHeld.2.2.2.2.2.1, pw_cell_below hb8.out hHeld.2.2.2.2.2.2.1, pw_cell_below hb8.out hHeld.2.2.2.2.2.2.2.1, pw_cell_below hb8.out hHeld.2.2.2.2.2.2.2.2⟩ (fun hHeld => ?_)
        clear hK K
        refine m_ 103 (h := ?_)
        refine p_ 32 104 (bb 54 8589934591) (h := ?_)
        refine p_ 33 105 (bb 54 17179869183) (h := ?_)
        refine p_ 34 106 (bb 54 34359738367) (h := ?_)
        refine p_ 35 107 (bb 54 68719476735) (h := ?_)
        refine p_ 36 108 (bb 54 137438953471) (h := ?_)
        refine p_ 37 109 (bb 54 274877906943) (h := ?_)
        refine p_ 38 110 (bb 54 549755813887) (h := ?_)
        refine p_ 39 111 (bb 54 1099511627775) (h := ?_)
        refine p_ 40 112 (bb 54 2199023255551) (h := ?_)
        refine p_ 41 113 (bb 54 4398046511103) (h := ?_)
        refine p_ 42 114 (bb 54 8796093022207) (h := ?_)
        refine p_ 43 115 (bb 54 17592186044415) (h := ?_)
        refine t_ 44 116 (bb 54 35184372088831) hHeld (h := ?_)
        refine p_ 45 117 (bb 54 70368744177663) (h := ?_)
        refine p_ 46 118 (bb 54 140737488355327) (h := ?_)
        refine p_ 47 119 (bb 54 281474976710655) (h := ?_)
        refine p_ 48 120 (bb 54 562949953421311) (h := ?_)
        refine t_ 49 121 (bb 54 1125899906842623) hHeld (h := ?_)
        refine n_ 50 122 (bb 54 2251799813685247) (h := fun K hK => ?_)
        refine goes_ Try.func25 (by kernel_rfl) rfl #[.slice C0 u.f0.length c0, .slice B0 z.f0.length b0] (by rfl) rfl rfl (by (try simp only [List.map_toArray, List.map_cons, List.map_nil]); first | done | rfl) ?_
        refine (rlessC (Kd.C_below (K34_C (Kd.FK_now HFU.out)).2.1 B8.out) (K34_C (Kd.FK_now HFU.out)).1 (Kd.C_below (K34_C (Kd.FK_now HFZ.out)).2.1 B8.out) (K34_C (Kd.FK_now HFZ.out)).1 (Nat.le_trans HUG.out.2.1 (by decide))).mono ?_
        rintro ex w9 ⟨rfl, hb9⟩
        refine ⟨_, rfl, ?_⟩
        rw [HLU.out]
        have hb9 := Aside0.mk hb9
        have B9 := Aside0.mk (below_step B8.out hb9.out)
        refine hK.out _ _ ⟨pw_cell_below hb9.out hHeld.1, pw_cell_below hb9.out hHeld.2.1, pw_cell_below hb9.out hHeld.2.2.1, pw_cell_below hb9.out hHeld.2.2.2.1, pw_cell_below hb9.out hHeld.2.2.2.2.1, pw_cell_below hb9.out hHeld.2.2.2.2.2.1, pw_cell_below hb9.out hHeld.2.2.2.2.2.2.1, pw_cell_below hb9.out hHeld.2.2.2.2.2.2.2.1, pw_cell_below hb9.out hHeld.2.2.2.2.2.2.2.2⟩ (fun hHeld => ?_)
        clear hK K
        refine m_ 122 (h := ?_)
        refine p_ 51 123 (bb 54 4503599627370495) (h := ?_)
        refine p_ 52 124 (bb 54 9007199254740991) (h := ?_)
        refine p_ 53 125 (bb 54 18014398509481983) (h := ?_)
        refine d_ (h := ?_)
        clear hHeld
        go_wp2
        go_roundg k1
        case measure => exact Nat.lt_succ_self _
        case rel => exact ⟨n + 1, by first | rfl | rw [HW.out], ⟨by have h1 := HK.out; omega⟩, ⟨below_step HBr.out B9.out⟩⟩
   ·
    have hlt : (n < l.length) = False := eq_false hnl
    clear hnl HK
    clear HST
    have HBW := Aside0.mk (hb1.out.trans (below_weakB hb1.out.size HB.out))
    obtain ⟨S, hS⟩ : ∃ S, S = scanT T ka kb sq := ⟨_, rfl⟩
    have HSL := Aside0.mk (show S.length ≤ T.length by rw [hS]; exact scan_len T ka kb sq)
    have HSG := Aside0.mk (show ∀ e ∈ S, Sw.Good e ∧ e.f0.length ≤ 140737488351232 ∧ e.f3.length ≤ 140737488351232 by rw [hS]; exact scan_sub ka kb sq HT.out.lens)
    have HSE := Aside0.mk hS
    clear hS
    go_wp2_with ((with_reducible refine gate_callee (f := 22) rfl ?_); (try (refine gate_guard (by rfl) ?_; dsimp only)); refine goesL_ (some 54) rfl rfl Try.func22 (by kernel_rfl) rfl #[.pointer (some ⟨g, 0, none⟩), .slice Af ka.length cf, .slice At_ kb.length ct, .int .i64 sq] rfl (by (try simp only [List.map_toArray, List.map_cons, List.map_nil]); first | done | rfl) ?_; refine (s1_scan HS1.out HT.out (by have := HTL.out; omega) Af cf ka At_ ct kb sq (Kd.C_below HRF.out HBW.out) HCF.out HFB.out (Kd.C_below HRT.out HBW.out) HCT.out HTB.out).mono ?_; rintro ex w4 ⟨v4, rfl, hn4, hb4⟩; refine ⟨_, rfl, ?_⟩; rw [← HSE.out] at hn4; obtain ⟨A4, c4, rfl⟩ := Kd.N_slice hn4; have n_ := Aside0.mk hn4; clear hn4; have hn4 := n_; clear n_; have n_ := Aside0.mk hb4; clear hb4; have hb4 := n_; clear n_; have HS4 := Aside0.mk (HS1.out.below hb4.out); have BW := Aside0.mk (below_step HBW.out hb4.out))
    clear hlt
    go_loopg [14] S.length (fun kq v14 w' => ∃ n : Nat, v14 = .int .i64 (n : Int) ∧ Aside0 (kq + n = S.length) ∧ Aside0 (Below w4.heap.size w4 w'))
    case atStart => exact ⟨0, rfl, ⟨rfl⟩, ⟨Below.refl _ _⟩⟩
    case round =>
     obtain ⟨n, rfl, HK, HBr⟩ := hrel
     have HSr := Aside0.mk (HS4.out.below HBr.out)
     have HNr := Aside0.mk (Kd.N_below hn4.out HBr.out)
     have BWr := Aside0.mk (below_step BW.out HBr.out)
     cases gk with
     | zero =>
      have hlt : (n < S.length) = False := eq_false (by have := HK.out; omega)
      go_wp2_with ((with_reducible refine gate_callee (f := 19) rfl ?_); (try (refine gate_guard (by rfl) ?_; dsimp only)); refine goesL_ (some 127) rfl rfl Try.func19 (by kernel_rfl) rfl #[.pointer (some ⟨g, 0, none⟩)] rfl (by (try simp only [List.map_toArray, List.map_cons, List.map_nil]); first | done | rfl) ?_; refine (s1_all HSr.out HT.out (by have := HTL.out; omega)).mono ?_; rintro ex w5 ⟨v5, rfl, hn5, hb5⟩; refine ⟨_, rfl, ?_⟩; obtain ⟨A5, c5, rfl⟩ := Kd.N_slice hn5; rw [List.length_map]; have n_ := Aside0.mk hn5; clear hn5; have hn5 := n_; clear n_; have n_ := Aside0.mk hb5; clear hb5; have hb5 := n_; clear n_; have HS5 := Aside0.mk (HSr.out.below hb5.out); have BW5 := Aside0.mk (below_step BWr.out hb5.out))
      clear hlt
      go_loopg [18, 19] T.length (fun kq v18 v19 w' => ∃ (n cn : Nat), v18 = .int .i64 (cn : Int) ∧ v19 = .int .i64 (n : Int) ∧ Aside0 (kq + n = T.length) ∧ Aside0 (cn = (ksK (T.map (fun t => t.e.f0)) (okK T ka kb sq) n).length) ∧ Aside0 (Below w5.heap.size w5 w'))
      case atStart => exact ⟨0, 0, rfl, rfl, ⟨rfl⟩, ⟨rfl⟩, ⟨Below.refl _ _⟩⟩
      case round =>
       obtain ⟨n, cn, rfl, rfl, HK2, HCN, HBq⟩ := hrel
       have HSq := Aside0.mk (HS5.out.below HBq.out)
       have HNq := Aside0.mk (Kd.N_below hn5.out HBq.out)
       have BWq := Aside0.mk (below_step BW5.out HBq.out)
       cases gk with
       | zero =>
        have hlt : (n < T.length) = False := eq_false (by have := HK2.out; omega)
        have hcs : cn = S.length := by
         have h1 := HCN.out
         rw [show n = T.length by have := HK2.out; omega, scan_count HT.out, ← HSE.out] at h1
         exact h1
        subst hcs
        go_wp2
        go_ret
        exact ⟨rfl, BWq.out⟩
       | succ k1 =>
        have hnl : n < T.length := by have h1 := HK2.out; omega
        have hlt : (n < T.length) = True := eq_true hnl
        have HW := Aside0.mk (show wrap64 ((n : Int) + 1) = ((n + 1 : Nat) : Int) by rw [wrap_in (by omega) (by have := HTL.out; omega)]; rfl)
        have HWC := Aside0.mk (show wrap64 ((cn : Int) + 1) = ((cn + 1 : Nat) : Int) by
         have h1 := ks_le (T.map (fun t => t.e.f0)) (okK T ka kb sq) n
         rw [← HCN.out] at h1
         rw [wrap_in (by omega) (by have := HTL.out; omega)]
         rfl)
        obtain ⟨z, hz⟩ : ∃ z, T[n]? = some z := ⟨_, List.getElem?_eq_getElem hnl⟩
        have hze : (T.map (fun t => t.e))[n]? = some z.e := by rw [List.getElem?_map, hz]; rfl
        obtain ⟨ad, hA⟩ := N_addr HNq.out (by rw [List.length_map]; omega)
        subst hA
        obtain ⟨B0, b0, B3, b3, hd0, hd1, hd2, hd3, hFZ⟩ := at_N34 HNq.out n z.e hze
        have HD := Aside0.mk (And.intro hd0 (And.intro hd1 (And.intro hd2 hd3)))
        have HFZ := Aside0.mk hFZ
        have HZ := Aside0.mk hz
        have HZG := Aside0.mk (HT.out.ok z (List.mem_of_getElem? hz)).2.1
        have HZL := Aside0.mk (okE_len (HT.out.ok z (List.mem_of_getElem? hz)).1).1
        have HKN := Aside0.mk (show (T.map (fun t => t.e.f0))[n]? = some z.e.f0 by rw [List.getElem?_map, hz]; rfl)
        have HST := Aside0.mk (show (ksK (T.map (fun t => t.e.f0)) (okK T ka kb sq) (n + 1)).length = cn + (if (fstK (T.map (fun t => t.e.f0)) n && okK T ka kb sq z.e.f0) = true then 1 else 0) by rw [HCN.out]; exact ksK_step HKN.out)
        obtain ⟨e, ok, hge⟩ : ∃ e ok, getN T z.e.f0 sq = (e, ok) := ⟨_, _, rfl⟩
        have hcl := s1_get HSq.out HT.out B0 b0 z.e.f0 sq (K34_C (Kd.FK_now HFZ.out)).2.1 (K34_C (Kd.FK_now HFZ.out)).1 HZG.out.1
        rw [hge] at hcl
        dsimp only at hcl
        have HCL := Aside0.mk hcl
        have HOK0 := Aside0.mk (show okK T ka kb sq z.e.f0 = (ok && (!less z.e.f0 ka && (decide (kb.length = 0) || less z.e.f0 kb))) by unfold okK; rw [hge])
        have HNL := Aside0.mk hnl
        clear hFZ hz hze hcl hge hnl
        go_wp2_with (first
         | ((with_reducible refine gate_callee (f := 20) rfl ?_); (try (refine gate_guard (by rfl) ?_; dsimp only)); refine goesL_ (some 142) rfl rfl Try.func20 (by kernel_rfl) rfl #[.pointer (some ⟨g, 0, none⟩), .slice B0 z.e.f0.length b0, .int .i64 sq] rfl (by (try simp only [List.map_toArray, List.map_cons, List.map_nil]); first | done | rfl) ?_; refine (HCL.out).mono ?_; rintro ex y2 ⟨v0, v3, rfl, hv2, hy2⟩; refine ⟨_, rfl, ?_⟩; obtain ⟨⟨P0, p0, rfl, hl0, hF0⟩, ⟨P3, p3, rfl, hl3, hF3⟩⟩ := hv2; have n_ := Aside0.mk hl0; clear hl0; have hl0 := n_; clear n_; have n_ := Aside0.mk hF0; clear hF0; have hF0 := n_; clear n_; have n_ := Aside0.mk hl3; clear hl3; have hl3 := n_; clear n_; have n_ := Aside0.mk hF3; clear hF3; have hF3 := n_; clear n_; have n_ := Aside0.mk hy2; clear hy2; have hy2 := n_; clear n_)
         | ((with_reducible refine gate_dst (N := 20) rfl ?_); (try (refine gate_guard (by rfl) ?_; dsimp only)); refine box_event ?hg (N := 20) ?hd (cs := #[.slice none 0 0, .int .i64 0, .bool false, .slice none 0 0]) (t := 34) ?hr ?_; (case hd => rfl); (case hg => rfl); (case hr => first | (go_simp; done) | (go_simp; rfl)); intro ga hqga y3 hxga hbga; have n_ := Aside0.mk hqga; clear hqga; have hqga := n_; clear n_; have n_ := Aside0.mk hxga; clear hxga; have hxga := n_; clear n_; have n_ := Aside0.mk hbga; clear hbga; have hbga := n_; clear n_; have hcy0 : y3.cell? ⟨ga, 0, none⟩ = some (.slice none 0 0) := (blk_cell hxga.out 0).trans rfl; have hcy1 : y3.cell? ⟨ga, 1, none⟩ = some (.int .i64 0) := (blk_cell hxga.out 1).trans rfl; have hcy2 : y3.cell? ⟨ga, 2, none⟩ = some (.bool false) := (blk_cell hxga.out 2).trans rfl; have hcy3 : y3.cell? ⟨ga, 3, none⟩ = some (.slice none 0 0) := (blk_cell hxga.out 3).trans rfl; have hfy0 : y3.frozen? ⟨ga, 0, none⟩ = false := blk_frozen hxga.out 0; have hfy1 : y3.frozen? ⟨ga, 1, none⟩ = false := blk_frozen hxga.out 1; have hfy2 : y3.frozen? ⟨ga, 2, none⟩ = false := blk_frozen hxga.out 2; have hfy3 : y3.frozen? ⟨ga, 3, none⟩ = false := blk_frozen hxga.out 3))
        have X4 := Aside0.mk (sets4 (a := .slice P0 e.f0.length p0) (b := .int .i64 e.f1) (c := .bool e.f2) (d := .slice P3 e.f3.length p3) hxga.out)
        have Y34 := Aside0.mk (show Below y2.heap.size y2 ((((y3.setCell ⟨ga, 0, none⟩ (.slice P0 e.f0.length p0)).setCell ⟨ga, 1, none⟩ (.int .i64 e.f1)).setCell ⟨ga, 2, none⟩ (.bool e.f2)).setCell ⟨ga, 3, none⟩ (.slice P3 e.f3.length p3)) from below_set (below_set (below_set (below_set hbga.out (Nat.le_of_eq hqga.out.symm)) (Nat.le_of_eq hqga.out.symm)) (Nat.le_of_eq hqga.out.symm)) (Nat.le_of_eq hqga.out.symm))
        clear hcy0 hcy1 hcy2 hcy3 hfy0 hfy1 hfy2 hfy3
        generalize ((((y3.setCell ⟨ga, 0, none⟩ (.slice P0 e.f0.length p0)).setCell ⟨ga, 1, none⟩ (.int .i64 e.f1)).setCell ⟨ga, 2, none⟩ (.bool e.f2)).setCell ⟨ga, 3, none⟩ (.slice P3 e.f3.length p3)) = y4 at X4 Y34 ⊢
        have B5 := Aside0.mk (below_drew (below_step hy2.out Y34.out))
        by_cases hn0 : n = 0
        ·
         have hz1 : ((n : Int) == 0) = true := beq_iff_eq.2 (by omega)
         have hz2 : ((n : Int) = 0) = True := eq_true (by omega)
         have hz3 : (n = 0) = True := eq_true (by omega)
         have hz4 : decide ((n : Int) = 0) = true := decide_eq_true (by omega)
         have HFS := Aside0.mk (show fstK (T.map (fun t => t.e.f0)) n = true by rw [hn0]; rfl)
         clear hn0
         as_aux_lemma =>
         go_wp2
         refine s_ 19 [] (fun w' => w'.heap.size = w'.heap.size) (hS := (rfl)) (h := fun hHeld => ?_)
         refine p_ 0 145 (bb 19 1) (h := ?_)
         refine p_ 1 146 (bb 19 3) (h := ?_)
         refine p_ 2 147 (bb 19 7) (h := ?_)
         refine o_ 3 148 (bb 19 15) (h := ?_)
         refine o_ 4 149 (bb 19 31) (h := ?_)
         refine o_ 5 150 (bb 19 63) (h := ?_)
         refine o_ 6 151 (bb 19 127) (h := ?_)
         refine o_ 7 152 (bb 19 255) (h := ?_)
         refine o_ 8 153 (bb 19 511) (h := ?_)
         refine o_ 9 154 (bb 19 1023) (h := ?_)
         refine o_ 10 155 (bb 19 2047) (h := ?_)
         refine o_ 11 156 (bb 19 4095) (h := ?_)
         refine o_ 12 157 (bb 19 8191) (h := ?_)
         refine o_ 13 158 (bb 19 16383) (h := ?_)
         refine o_ 14 159 (bb 19 32767) (h := ?_)
         refine o_ 15 160 (bb 19 65535) (h := ?_)
         refine o_ 16 161 (bb 19 131071) (h := ?_)
         refine p_ 17 162 (bb 19 262143) (h := ?_)
         refine p_ 18 22 (bb 19 524287) (h := ?_)
         refine d_ (h := ?_)
         clear hHeld
         generalize hw8 : y4.drew = w8 at B5 ⊢
         clear hw8
         have hcell := pw_cell_below B5.out HD.out.1
         cases ok with
         | false =>
          have HOK := Aside0.mk (show okK T ka kb sq z.e.f0 = false by rw [HOK0.out]; rfl)
          have HNC := Aside0.mk (show cn = (ksK (T.map (fun t => t.e.f0)) (okK T ka kb sq) (n + 1)).length by rw [HST.out, HFS.out, HOK.out]; simp)
          go_wp2
          go_roundg k1
          case measure => exact Nat.lt_succ_self _
          case rel => exact ⟨n + 1, cn, rfl, by first | rfl | rw [HW.out], ⟨by have h1 := HK2.out; omega⟩, HNC, ⟨below_step HBq.out B5.out⟩⟩
         | true =>
          by_cases hl1 : less z.e.f0 ka = true
          ·
           have HL1 := Aside0.mk hl1
           have HOK := Aside0.mk (show okK T ka kb sq z.e.f0 = false by rw [HOK0.out, HL1.out]; rfl)
           clear hl1
           have HNC := Aside0.mk (show cn = (ksK (T.map (fun t => t.e.f0)) (okK T ka kb sq) (n + 1)).length by rw [HST.out, HFS.out, HOK.out]; simp)
           go_wp2_with (first | ((with_reducible refine gate_callee (f := 25) rfl ?_); (try (refine gate_guard (by rfl) ?_; dsimp only)); refine goesL_ (some 174) rfl rfl Try.func25 (by kernel_rfl) rfl #[.slice B0 z.e.f0.length b0, .slice Af ka.length cf] rfl (by (try simp only [List.map_toArray, List.map_cons, List.map_nil]); first | done | rfl) ?_; refine (rlessC (Kd.C_below (K34_C (Kd.FK_now HFZ.out)).2.1 B5.out) (K34_C (Kd.FK_now HFZ.out)).1 (Kd.C_below HRF.out (below_step BWq.out B5.out)) HCF.out (Nat.le_trans HZL.out (by decide))).mono ?_; rintro ex w9 ⟨rfl, hb9⟩; refine ⟨_, rfl, ?_⟩; rw [HL1.out]; have n_ := Aside0.mk hb9; clear hb9; have hb9 := n_; clear n_; have B9 := Aside0.mk (below_step B5.out hb9.out)))
           go_roundg k1
           case measure => exact Nat.lt_succ_self _
           case rel => exact ⟨n + 1, cn, rfl, by first | rfl | rw [HW.out], ⟨by have h1 := HK2.out; omega⟩, HNC, ⟨below_step HBq.out B9.out⟩⟩
          ·
           have HL1 := Aside0.mk (Bool.eq_false_iff.2 hl1)
           clear hl1
           by_cases hkb : kb.length = 0
           ·
            have hk1 : ((kb.length : Int) == 0) = true := beq_iff_eq.2 (by omega)
            have hk2 : ((kb.length : Int) = 0) = True := eq_true (by omega)
            have hk3 : (kb.length = 0) = True := eq_true (by omega)
            have hk4 : decide ((kb.length : Int) = 0) = true := decide_eq_true (by omega)
            have HOK := Aside0.mk (show okK T ka kb sq z.e.f0 = true by rw [HOK0.out, HL1.out, decide_eq_true hkb]; rfl)
            clear hkb hk3
            have HNC := Aside0.mk (show cn + 1 = (ksK (T.map (fun t => t.e.f0)) (okK T ka kb sq) (n + 1)).length by rw [HST.out, HFS.out, HOK.out]; simp)
            go_wp2_with (first | ((with_reducible refine gate_callee (f := 25) rfl ?_); (try (refine gate_guard (by rfl) ?_; dsimp only)); refine goesL_ (some 174) rfl rfl Try.func25 (by kernel_rfl) rfl #[.slice B0 z.e.f0.length b0, .slice Af ka.length cf] rfl (by (try simp only [List.map_toArray, List.map_cons, List.map_nil]); first | done | rfl) ?_; refine (rlessC (Kd.C_below (K34_C (Kd.FK_now HFZ.out)).2.1 B5.out) (K34_C (Kd.FK_now HFZ.out)).1 (Kd.C_below HRF.out (below_step BWq.out B5.out)) HCF.out (Nat.le_trans HZL.out (by decide))).mono ?_; rintro ex w9 ⟨rfl, hb9⟩; refine ⟨_, rfl, ?_⟩; rw [HL1.out]; have n_ := Aside0.mk hb9; clear hb9; have hb9 := n_; clear n_; have B9 := Aside0.mk (below_step B5.out hb9.out)))
            go_roundg k1
            case measure => exact Nat.lt_succ_self _
            case rel => exact ⟨n + 1, cn + 1, by first | rfl | rw [HWC.out], by first | rfl | rw [HW.out], ⟨by have h1 := HK2.out; omega⟩, HNC, ⟨below_step HBq.out B9.out⟩⟩
           ·
            have hk1 : ((kb.length : Int) == 0) = false := beq_eq_false_iff_ne.2 (by omega)
            have hk2 : ((kb.length : Int) = 0) = False := eq_false (by omega)
            have hk4 : decide ((kb.length : Int) = 0) = false := decide_eq_false (by omega)
            have hk5 : (kb.length = 0) = False := eq_false hkb
            by_cases hl2 : less z.e.f0 kb = true
            ·
             have HL2 := Aside0.mk hl2
             have HOK := Aside0.mk (show okK T ka kb sq z.e.f0 = true by rw [HOK0.out, HL1.out, HL2.out, decide_eq_false hkb]; rfl)
             clear hl2 hkb hk5
             have HNC := Aside0.mk (show cn + 1 = (ksK (T.map (fun t => t.e.f0)) (okK T ka kb sq) (n + 1)).length by rw [HST.out, HFS.out, HOK.out]; simp)
             go_wp2_with (first | ((with_reducible refine gate_callee (f := 25) rfl ?_); (try (refine gate_guard (by rfl) ?_; dsimp only)); refine goesL_ (some 174) rfl rfl Try.func25 (by kernel_rfl) rfl #[.slice B0 z.e.f0.length b0, .slice Af ka.length cf] rfl (by (try simp only [List.map_toArray, List.map_cons, List.map_nil]); first | done | rfl) ?_; refine (rlessC (Kd.C_below (K34_C (Kd.FK_now HFZ.out)).2.1 B5.out) (K34_C (Kd.FK_now HFZ.out)).1 (Kd.C_below HRF.out (below_step BWq.out B5.out)) HCF.out (Nat.le_trans HZL.out (by decide))).mono ?_; rintro ex w9 ⟨rfl, hb9⟩; refine ⟨_, rfl, ?_⟩; rw [HL1.out]; have n_ := Aside0.mk hb9; clear hb9; have hb9 := n_; clear n_; have B9 := Aside0.mk (below_step B5.out hb9.out); have hcell9 := pw_cell_below hb9.out hcell) | ((with_reducible refine gate_callee (f := 25) rfl ?_); (try (refine gate_guard (by rfl) ?_; dsimp only)); refine goesL_ (some 188) rfl rfl Try.func25 (by kernel_rfl) rfl #[.slice B0 z.e.f0.length b0, .slice At_ kb.length ct] rfl (by (try simp only [List.map_toArray, List.map_cons, List.map_nil]); first | done | rfl) ?_; refine (rlessC (Kd.C_below (K34_C (Kd.FK_now HFZ.out)).2.1 B9.out) (K34_C (Kd.FK_now HFZ.out)).1 (Kd.C_below HRT.out (below_step BWq.out B9.out)) HCT.out (Nat.le_trans HZL.out (by decide))).mono ?_; rintro ex w10 ⟨rfl, hb10⟩; refine ⟨_, rfl, ?_⟩; rw [HL2.out]; have n_ := Aside0.mk hb10; clear hb10; have hb10 := n_; clear n_; have B10 := Aside0.mk (below_step B9.out hb10.out)))
             go_roundg k1
             case measure => exact Nat.lt_succ_self _
             case rel => exact ⟨n + 1, cn + 1, by first | rfl | rw [HWC.out], by first | rfl | rw [HW.out], ⟨by have h1 := HK2.out; omega⟩, HNC, ⟨below_step HBq.out B10.out⟩⟩
            ·
             have HL2 := Aside0.mk (Bool.eq_false_iff.2 hl2)
             have HOK := Aside0.mk (show okK T ka kb sq z.e.f0 = false by rw [HOK0.out, HL1.out, HL2.out, decide_eq_false hkb]; rfl)
             clear hl2 hkb hk5
             have HNC := Aside0.mk (show cn = (ksK (T.map (fun t => t.e.f0)) (okK T ka kb sq) (n + 1)).length by rw [HST.out, HFS.out, HOK.out]; simp)
             go_wp2_with (first | ((with_reducible refine gate_callee (f := 25) rfl ?_); (try (refine gate_guard (by rfl) ?_; dsimp only)); refine goesL_ (some 174) rfl rfl Try.func25 (by kernel_rfl) rfl #[.slice B0 z.e.f0.length b0, .slice Af ka.length cf] rfl (by (try simp only [List.map_toArray, List.map_cons, List.map_nil]); first | done | rfl) ?_; refine (rlessC (Kd.C_below (K34_C (Kd.FK_now HFZ.out)).2.1 B5.out) (K34_C (Kd.FK_now HFZ.out)).1 (Kd.C_below HRF.out (below_step BWq.out B5.out)) HCF.out (Nat.le_trans HZL.out (by decide))).mono ?_; rintro ex w9 ⟨rfl, hb9⟩; refine ⟨_, rfl, ?_⟩; rw [HL1.out]; have n_ := Aside0.mk hb9; clear hb9; have hb9 := n_; clear n_; have B9 := Aside0.mk (below_step B5.out hb9.out); have hcell9 := pw_cell_below hb9.out hcell) | ((with_reducible refine gate_callee (f := 25) rfl ?_); (try (refine gate_guard (by rfl) ?_; dsimp only)); refine goesL_ (some 188) rfl rfl Try.func25 (by kernel_rfl) rfl #[.slice B0 z.e.f0.length b0, .slice At_ kb.length ct] rfl (by (try simp only [List.map_toArray, List.map_cons, List.map_nil]); first | done | rfl) ?_; refine (rlessC (Kd.C_below (K34_C (Kd.FK_now HFZ.out)).2.1 B9.out) (K34_C (Kd.FK_now HFZ.out)).1 (Kd.C_below HRT.out (below_step BWq.out B9.out)) HCT.out (Nat.le_trans HZL.out (by decide))).mono ?_; rintro ex w10 ⟨rfl, hb10⟩; refine ⟨_, rfl, ?_⟩; rw [HL2.out]; have n_ := Aside0.mk hb10; clear hb10; have hb10 := n_; clear n_; have B10 := Aside0.mk (below_step B9.out hb10.out)))
             go_roundg k1
             case measure => exact Nat.lt_succ_self _
             case rel => exact ⟨n + 1, cn, rfl, by first | rfl | rw [HW.out], ⟨by have h1 := HK2.out; omega⟩, HNC, ⟨below_step HBq.out B10.out⟩⟩
        ·
         obtain ⟨m, hm⟩ : ∃ m, n = m + 1 := ⟨n - 1, by omega⟩
         have hml : m < T.length := by have := HNL.out; omega
         obtain ⟨u, hu⟩ : ∃ u, T[m]? = some u := ⟨_, List.getElem?_eq_getElem hml⟩
         have hue : (T.map (fun t => t.e))[m]? = some u.e := by rw [List.getElem?_map, hu]; rfl
         obtain ⟨C0, c0, C3, c3, hc0_, hc1_, hc2_, hc3_, hFU⟩ := at_N34 HNq.out m u.e hue
         have HU := Aside0.mk (And.intro hc0_ hc1_)
         have HFU := Aside0.mk hFU
         have HUG := Aside0.mk (HT.out.ok u (List.mem_of_getElem? hu)).2.1
         have hmt : (m < T.length) = True := eq_true hml
         have hwm : wrap64 ((n : Int) - 1) = (m : Int) := by rw [wrap_in (by omega) (by have := HTL.out; have := HNL.out; omega)]; omega
         have hz1 : ((n : Int) == 0) = false := beq_eq_false_iff_ne.2 (by omega)
         have hz2 : ((n : Int) = 0) = False := eq_false (by omega)
         have hz3 : (n = 0) = False := eq_false (by omega)
         have hz4 : decide ((n : Int) = 0) = false := decide_eq_false (by omega)
         have hse := str_eq HUG.out.1 HZG.out.1
         have HFS0 := Aside0.mk (show fstK (T.map (fun t => t.e.f0)) n = decide (u.e.f0 ≠ z.e.f0) by
          have h1 := HZ.out
          rw [hm] at h1 ⊢
          show decide ((T.map (fun t => t.e.f0))[m]? ≠ (T.map (fun t => t.e.f0))[m + 1]?) = _
          rw [List.getElem?_map, List.getElem?_map, hu, h1]
          simp)
         clear hc0_ hc1_ hc2_ hc3_ hFU hu hue hm hml hn0
         by_cases hke : u.e.f0 = z.e.f0
         ·
          have HFS := Aside0.mk (show fstK (T.map (fun t => t.e.f0)) n = false by rw [HFS0.out]; simp [hke])
          have hkd : decide (u.e.f0 = z.e.f0) = true := decide_eq_true hke
          rw [hkd] at hse
          clear hke hkd
          as_aux_lemma =>
          go_wp2
          refine s_ 19 [] (fun w' => w'.cell? (ad.add (m * 4)) = some (.slice C0 u.e.f0.length c0) ∧ w'.cell? (ad.add (n * 4)) = some (.slice B0 z.e.f0.length b0) ∧ Kd.C (Kd.int .u8) w' C0 u.e.f0.length u.e.f0 ∧ Kd.C (Kd.int .u8) w' B0 z.e.f0.length z.e.f0) (hS := ⟨pw_cell_below B5.out HU.out.1, pw_cell_below B5.out HD.out.1, Kd.C_below (K34_C (Kd.FK_now HFU.out)).2.1 B5.out, Kd.C_below (K34_C (Kd.FK_now HFZ.out)).2.1 B5.out⟩) (h := fun hHeld => ?_)
          refine p_ 0 145 (bb 19 1) (h := ?_)
          refine p_ 1 146 (bb 19 3) (h := ?_)
          refine p_ 2 147 (bb 19 7) (h := ?_)
          refine p_ 3 148 (bb 19 15) (h := ?_)
          refine p_ 4 149 (bb 19 31) (h := ?_)
          refine p_ 5 150 (bb 19 63) (h := ?_)
          refine p_ 6 151 (bb 19 127) (h := ?_)
          refine p_ 7 152 (bb 19 255) (h := ?_)
          refine t_ 8 153 (bb 19 511) hHeld (h := ?_)
          refine t_ 9 154 (bb 19 1023) hHeld (hy := by (rintro w' ⟨s0, s1, s2, s3⟩; have hcv := Kd.C_string (P := Try.prog) (A := C0) (c := c0) Try.underlying32 Try.underlying5 Try.underlying9 s2; go_simp; with_reducible rfl)) (h := ?_)
          refine p_ 10 155 (bb 19 2047) (h := ?_)
          refine p_ 11 156 (bb 19 4095) (h := ?_)
          refine p_ 12 157 (bb 19 8191) (h := ?_)
          refine p_ 13 158 (bb 19 16383) (h := ?_)
          refine t_ 14 159 (bb 19 32767) hHeld (h := ?_)
          refine t_ 15 160 (bb 19 65535) hHeld (hy := by (rintro w' ⟨s0, s1, s2, s3⟩; have hcv := Kd.C_string (P := Try.prog) (A := B0) (c := b0) Try.underlying32 Try.underlying5 Try.underlying9 s3; go_simp; with_reducible rfl)) (h := ?_)
          refine p_ 16 161 (bb 19 131071) (h := ?_)
          refine p_ 17 162 (bb 19 262143) (h := ?_)
          refine p_ 18 22 (bb 19 524287) (h := ?_)
          refine d_ (h := ?_)
          clear hHeld
          generalize hw8 : y4.drew = w8 at B5 ⊢
          clear hw8
          have hcell := pw_cell_below B5.out HD.out.1
          clear hse
          generalize hoo : okK T ka kb sq z.e.f0 = oo at HST HOK0
          have HOK := Aside0.mk hoo
          have HNC := Aside0.mk (show cn = (ksK (T.map (fun t => t.e.f0)) (okK T ka kb sq) (n + 1)).length by rw [HST.out, HFS.out]; simp)
          go_wp2
          go_roundg k1
          case measure => exact Nat.lt_succ_self _
          case rel => exact ⟨n + 1, cn, rfl, by first | rfl | rw [HW.out], ⟨by have h1 := HK2.out; omega⟩, HNC, ⟨below_step HBq.out B5.out⟩⟩
         ·
          have HFS := Aside0.mk (show fstK (T.map (fun t => t.e.f0)) n = true by rw [HFS0.out]; simp [hke])
          have hkd : decide (u.e.f0 = z.e.f0) = false := decide_eq_false hke
          rw [hkd] at hse
          clear hke hkd
          as_aux_lemma =>
          go_wp2
          refine s_ 19 [] (fun w' => w'.cell? (ad.add (m * 4)) = some (.slice C0 u.e.f0.length c0) ∧ w'.cell? (ad.add (n * 4)) = some (.slice B0 z.e.f0.length b0) ∧ Kd.C (Kd.int .u8) w' C0 u.e.f0.length u.e.f0 ∧ Kd.C (Kd.int .u8) w' B0 z.e.f0.length z.e.f0) (hS := ⟨pw_cell_below B5.out HU.out.1, pw_cell_below B5.out HD.out.1, Kd.C_below (K34_C (Kd.FK_now HFU.out)).2.1 B5.out, Kd.C_below (K34_C (Kd.FK_now HFZ.out)).2.1 B5.out⟩) (h := fun hHeld => ?_)
          refine p_ 0 145 (bb 19 1) (h := ?_)
          refine p_ 1 146 (bb 19 3) (h := ?_)
          refine p_ 2 147 (bb 19 7) (h := ?_)
          refine p_ 3 148 (bb 19 15) (h := ?_)
          refine p_ 4 149 (bb 19 31) (h := ?_)
          refine p_ 5 150 (bb 19 63) (h := ?_)
          refine p_ 6 151 (bb 19 127) (h := ?_)
          refine p_ 7 152 (bb 19 255) (h := ?_)
          refine t_ 8 153 (bb 19 511) hHeld (h := ?_)
          refine t_ 9 154 (bb 19 1023) hHeld (hy := by (rintro w' ⟨s0, s1, s2, s3⟩; have hcv := Kd.C_string (P := Try.prog) (A := C0) (c := c0) Try.underlying32 Try.underlying5 Try.underlying9 s2; go_simp; with_reducible rfl)) (h := ?_)
          refine p_ 10 155 (bb 19 2047) (h := ?_)
          refine p_ 11 156 (bb 19 4095) (h := ?_)
          refine p_ 12 157 (bb 19 8191) (h := ?_)
          refine p_ 13 158 (bb 19 16383) (h := ?_)
          refine t_ 14 159 (bb 19 32767) hHeld (h := ?_)
          refine t_ 15 160 (bb 19 65535) hHeld (hy := by (rintro w' ⟨s0, s1, s2, s3⟩; have hcv := Kd.C_string (P := Try.prog) (A := B0) (c := b0) Try.underlying32 Try.underlying5 Try.underlying9 s3; go_simp; with_reducible rfl)) (h := ?_)
          refine p_ 16 161 (bb 19 131071) (h := ?_)
          refine p_ 17 162 (bb 19 262143) (h := ?_)
          refine p_ 18 22 (bb 19 524287) (h := ?_)
          refine d_ (h := ?_)
          clear hHeld
          generalize hw8 : y4.drew = w8 at B5 ⊢
          clear hw8
          have hcell := pw_cell_below B5.out HD.out.1
          clear hse
          cases ok with
          | false =>
           have HOK := Aside0.mk (show okK T ka kb sq z.e.f0 = false by rw [HOK0.out]; rfl)
           have HNC := Aside0.mk (show cn = (ksK (T.map (fun t => t.e.f0)) (okK T ka kb sq) (n + 1)).length by rw [HST.out, HFS.out, HOK.out]; simp)
           go_wp2
           go_roundg k1
           case measure => exact Nat.lt_succ_self _
           case rel => exact ⟨n + 1, cn, rfl, by first | rfl | rw [HW.out], ⟨by have h1 := HK2.out; omega⟩, HNC, ⟨below_step HBq.out B5.out⟩⟩
          | true =>
           by_cases hl1 : less z.e.f0 ka = true
           ·
            have HL1 := Aside0.mk hl1
            have HOK := Aside0.mk (show okK T ka kb sq z.e.f0 = false by rw [HOK0.out, HL1.out]; rfl)
            clear hl1
            have HNC := Aside0.mk (show cn = (ksK (T.map (fun t => t.e.f0)) (okK T ka kb sq) (n + 1)).length by rw [HST.out, HFS.out, HOK.out]; simp)
            go_wp2_with (first | ((with_reducible refine gate_callee (f := 25) rfl ?_); (try (refine gate_guard (by rfl) ?_; dsimp only)); refine goesL_ (some 174) rfl rfl Try.func25 (by kernel_rfl) rfl #[.slice B0 z.e.f0.length b0, .slice Af ka.length cf] rfl (by (try simp only [List.map_toArray, List.map_cons, List.map_nil]); first | done | rfl) ?_; refine (rlessC (Kd.C_below (K34_C (Kd.FK_now HFZ.out)).2.1 B5.out) (K34_C (Kd.FK_now HFZ.out)).1 (Kd.C_below HRF.out (below_step BWq.out B5.out)) HCF.out (Nat.le_trans HZL.out (by decide))).mono ?_; rintro ex w9 ⟨rfl, hb9⟩; refine ⟨_, rfl, ?_⟩; rw [HL1.out]; have n_ := Aside0.mk hb9; clear hb9; have hb9 := n_; clear n_; have B9 := Aside0.mk (below_step B5.out hb9.out)))
            go_roundg k1
            case measure => exact Nat.lt_succ_self _
            case rel => exact ⟨n + 1, cn, rfl, by first | rfl | rw [HW.out], ⟨by have h1 := HK2.out; omega⟩, HNC, ⟨below_step HBq.out B9.out⟩⟩
           ·
            have HL1 := Aside0.mk (Bool.eq_false_iff.2 hl1)
            clear hl1
            by_cases hkb : kb.length = 0
            ·
             have hk1 : ((kb.length : Int) == 0) = true := beq_iff_eq.2 (by omega)
             have hk2 : ((kb.length : Int) = 0) = True := eq_true (by omega)
             have hk3 : (kb.length = 0) = True := eq_true (by omega)
             have hk4 : decide ((kb.length : Int) = 0) = true := decide_eq_true (by omega)
             have HOK := Aside0.mk (show okK T ka kb sq z.e.f0 = true by rw [HOK0.out, HL1.out, decide_eq_true hkb]; rfl)
             clear hkb hk3
             have HNC := Aside0.mk (show cn + 1 = (ksK (T.map (fun t => t.e.f0)) (okK T ka kb sq) (n + 1)).length by rw [HST.out, HFS.out, HOK.out]; simp)
             go_wp2_with (first | ((with_reducible refine gate_callee (f := 25) rfl ?_); (try (refine gate_guard (by rfl) ?_; dsimp only)); refine goesL_ (some 174) rfl rfl Try.func25 (by kernel_rfl) rfl #[.slice B0 z.e.f0.length b0, .slice Af ka.length cf] rfl (by (try simp only [List.map_toArray, List.map_cons, List.map_nil]); first | done | rfl) ?_; refine (rlessC (Kd.C_below (K34_C (Kd.FK_now HFZ.out)).2.1 B5.out) (K34_C (Kd.FK_now HFZ.out)).1 (Kd.C_below HRF.out (below_step BWq.out B5.out)) HCF.out (Nat.le_trans HZL.out (by decide))).mono ?_; rintro ex w9 ⟨rfl, hb9⟩; refine ⟨_, rfl, ?_⟩; rw [HL1.out]; have n_ := Aside0.mk hb9; clear hb9; have hb9 := n_; clear n_; have B9 := Aside0.mk (below_step B5.out hb9.out)))
             go_roundg k1
             case measure => exact Nat.lt_succ_self _
             case rel => exact ⟨n + 1, cn + 1, by first | rfl | rw [HWC.out], by first | rfl | rw [HW.out], ⟨by have h1 := HK2.out; omega⟩, HNC, ⟨below_step HBq.out B9.out⟩⟩
            ·
             have hk1 : ((kb.length : Int) == 0) = false := beq_eq_false_iff_ne.2 (by omega)
             have hk2 : ((kb.length : Int) = 0) = False := eq_false (by omega)
             have hk4 : decide ((kb.length : Int) = 0) = false := decide_eq_false (by omega)
             have hk5 : (kb.length = 0) = False := eq_false hkb
             by_cases hl2 : less z.e.f0 kb = true
             ·
              have HL2 := Aside0.mk hl2
              have HOK := Aside0.mk (show okK T ka kb sq z.e.f0 = true by rw [HOK0.out, HL1.out, HL2.out, decide_eq_false hkb]; rfl)
              clear hl2 hkb hk5
              have HNC := Aside0.mk (show cn + 1 = (ksK (T.map (fun t => t.e.f0)) (okK T ka kb sq) (n + 1)).length by rw [HST.out, HFS.out, HOK.out]; simp)
              go_wp2_with (first | ((with_reducible refine gate_callee (f := 25) rfl ?_); (try (refine gate_guard (by rfl) ?_; dsimp only)); refine goesL_ (some 174) rfl rfl Try.func25 (by kernel_rfl) rfl #[.slice B0 z.e.f0.length b0, .slice Af ka.length cf] rfl (by (try simp only [List.map_toArray, List.map_cons, List.map_nil]); first | done | rfl) ?_; refine (rlessC (Kd.C_below (K34_C (Kd.FK_now HFZ.out)).2.1 B5.out) (K34_C (Kd.FK_now HFZ.out)).1 (Kd.C_below HRF.out (below_step BWq.out B5.out)) HCF.out (Nat.le_trans HZL.out (by decide))).mono ?_; rintro ex w9 ⟨rfl, hb9⟩; refine ⟨_, rfl, ?_⟩; rw [HL1.out]; have n_ := Aside0.mk hb9; clear hb9; have hb9 := n_; clear n_; have B9 := Aside0.mk (below_step B5.out hb9.out); have hcell9 := pw_cell_below hb9.out hcell) | ((with_reducible refine gate_callee (f := 25) rfl ?_); (try (refine gate_guard (by rfl) ?_; dsimp only)); refine goesL_ (some 188) rfl rfl Try.func25 (by kernel_rfl) rfl #[.slice B0 z.e.f0.length b0, .slice At_ kb.length ct] rfl (by (try simp only [List.map_toArray, List.map_cons, List.map_nil]); first | done | rfl) ?_; refine (rlessC (Kd.C_below (K34_C (Kd.FK_now HFZ.out)).2.1 B9.out) (K34_C (Kd.FK_now HFZ.out)).1 (Kd.C_below HRT.out (below_step BWq.out B9.out)) HCT.out (Nat.le_trans HZL.out (by decide))).mono ?_; rintro ex w10 ⟨rfl, hb10⟩; refine ⟨_, rfl, ?_⟩; rw [HL2.out]; have n_ := Aside0.mk hb10; clear hb10; have hb10 := n_; clear n_; have B10 := Aside0.mk (below_step B9.out hb10.out)))
              go_roundg k1
              case measure => exact Nat.lt_succ_self _
              case rel => exact ⟨n + 1, cn + 1, by first | rfl | rw [HWC.out], by first | rfl | rw [HW.out], ⟨by have h1 := HK2.out; omega⟩, HNC, ⟨below_step HBq.out B10.out⟩⟩
             ·
              have HL2 := Aside0.mk (Bool.eq_false_iff.2 hl2)
              have HOK := Aside0.mk (show okK T ka kb sq z.e.f0 = false by rw [HOK0.out, HL1.out, HL2.out, decide_eq_false hkb]; rfl)
              clear hl2 hkb hk5
              have HNC := Aside0.mk (show cn = (ksK (T.map (fun t => t.e.f0)) (okK T ka kb sq) (n + 1)).length by rw [HST.out, HFS.out, HOK.out]; simp)
              go_wp2_with (first | ((with_reducible refine gate_callee (f := 25) rfl ?_); (try (refine gate_guard (by rfl) ?_; dsimp only)); refine goesL_ (some 174) rfl rfl Try.func25 (by kernel_rfl) rfl #[.slice B0 z.e.f0.length b0, .slice Af ka.length cf] rfl (by (try simp only [List.map_toArray, List.map_cons, List.map_nil]); first | done | rfl) ?_; refine (rlessC (Kd.C_below (K34_C (Kd.FK_now HFZ.out)).2.1 B5.out) (K34_C (Kd.FK_now HFZ.out)).1 (Kd.C_below HRF.out (below_step BWq.out B5.out)) HCF.out (Nat.le_trans HZL.out (by decide))).mono ?_; rintro ex w9 ⟨rfl, hb9⟩; refine ⟨_, rfl, ?_⟩; rw [HL1.out]; have n_ := Aside0.mk hb9; clear hb9; have hb9 := n_; clear n_; have B9 := Aside0.mk (below_step B5.out hb9.out); have hcell9 := pw_cell_below hb9.out hcell) | ((with_reducible refine gate_callee (f := 25) rfl ?_); (try (refine gate_guard (by rfl) ?_; dsimp only)); refine goesL_ (some 188) rfl rfl Try.func25 (by kernel_rfl) rfl #[.slice B0 z.e.f0.length b0, .slice At_ kb.length ct] rfl (by (try simp only [List.map_toArray, List.map_cons, List.map_nil]); first | done | rfl) ?_; refine (rlessC (Kd.C_below (K34_C (Kd.FK_now HFZ.out)).2.1 B9.out) (K34_C (Kd.FK_now HFZ.out)).1 (Kd.C_below HRT.out (below_step BWq.out B9.out)) HCT.out (Nat.le_trans HZL.out (by decide))).mono ?_; rintro ex w10 ⟨rfl, hb10⟩; refine ⟨_, rfl, ?_⟩; rw [HL2.out]; have n_ := Aside0.mk hb10; clear hb10; have hb10 := n_; clear n_; have B10 := Aside0.mk (below_step B9.out hb10.out)))
              go_roundg k1
              case measure => exact Nat.lt_succ_self _
              case rel => exact ⟨n + 1, cn, rfl, by first | rfl | rw [HW.out], ⟨by have h1 := HK2.out; omega⟩, HNC, ⟨below_step HBq.out B10.out⟩⟩
     | succ k1 =>
      have hnl : n < S.length := by have h1 := HK.out; omega
      have hlt : (n < S.length) = True := eq_true hnl
      have HW := Aside0.mk (show wrap64 ((n : Int) + 1) = ((n + 1 : Nat) : Int) by rw [wrap_in (by omega) (by have := HTL.out; have := HSL.out; omega)]; rfl)
      obtain ⟨z, hz⟩ : ∃ z, S[n]? = some z := ⟨_, List.getElem?_eq_getElem hnl⟩
      obtain ⟨ad, hA⟩ := N_addr HNr.out (by omega)
      subst hA
      obtain ⟨B0, b0, B3, b3, hd0, hd1, hd2, hd3, hFZ⟩ := at_N34 HNr.out n z hz
      have HD := Aside0.mk (And.intro hd0 (And.intro hd1 (And.intro hd2 hd3)))
      have HFZ := Aside0.mk hFZ
      have HZ := Aside0.mk hz
      have HZM := Aside0.mk (show z ∈ scanT T ka kb sq from HSE.out ▸ List.mem_of_getElem? hz)
      have HZG := Aside0.mk (HSG.out z (List.mem_of_getElem? hz))
      have HIN := Aside0.mk (inS_iff.1 (scan_in HT.out HZM.out).2)
      have HNA := Aside0.mk HIN.out.1
      have hcl := s1_get HSr.out HT.out B0 b0 z.f0 sq (K34_C (Kd.FK_now HFZ.out)).2.1 (K34_C (Kd.FK_now HFZ.out)).1 HZG.out.1.1
      rw [scan_get HT.out HZM.out] at hcl
      dsimp only at hcl
      have HCL := Aside0.mk hcl
      have HNL := Aside0.mk hnl
      clear hFZ hz hcl hnl
      go_wp2_with (first
       | ((with_reducible refine gate_callee (f := 20) rfl ?_); (try (refine gate_guard (by rfl) ?_; dsimp only)); refine goesL_ (some 69) rfl rfl Try.func20 (by kernel_rfl) rfl #[.pointer (some ⟨g, 0, none⟩), .slice B0 z.f0.length b0, .int .i64 sq] rfl (by (try simp only [List.map_toArray, List.map_cons, List.map_nil]); first | done | rfl) ?_; refine (HCL.out).mono ?_; rintro ex y2 ⟨v0, v3, rfl, hv2, hy2⟩; refine ⟨_, rfl, ?_⟩; obtain ⟨⟨P0, p0, rfl, hl0, hF0⟩, ⟨P3, p3, rfl, hl3, hF3⟩⟩ := hv2; have n_ := Aside0.mk hl0; clear hl0; have hl0 := n_; clear n_; have n_ := Aside0.mk hF0; clear hF0; have hF0 := n_; clear n_; have n_ := Aside0.mk hl3; clear hl3; have hl3 := n_; clear n_; have n_ := Aside0.mk hF3; clear hF3; have hF3 := n_; clear n_; have n_ := Aside0.mk hy2; clear hy2; have hy2 := n_; clear n_)
       | ((with_reducible refine gate_dst (N := 15) rfl ?_); (try (refine gate_guard (by rfl) ?_; dsimp only)); refine box_event ?hg (N := 15) ?hd (cs := #[.slice none 0 0, .int .i64 0, .bool false, .slice none 0 0]) (t := 34) ?hr ?_; (case hd => rfl); (case hg => rfl); (case hr => first | (go_simp; done) | (go_simp; rfl)); intro ga hqga y3 hxga hbga; have n_ := Aside0.mk hqga; clear hqga; have hqga := n_; clear n_; have n_ := Aside0.mk hxga; clear hxga; have hxga := n_; clear n_; have n_ := Aside0.mk hbga; clear hbga; have hbga := n_; clear n_; have hcy0 : y3.cell? ⟨ga, 0, none⟩ = some (.slice none 0 0) := (blk_cell hxga.out 0).trans rfl; have hcy1 : y3.cell? ⟨ga, 1, none⟩ = some (.int .i64 0) := (blk_cell hxga.out 1).trans rfl; have hcy2 : y3.cell? ⟨ga, 2, none⟩ = some (.bool false) := (blk_cell hxga.out 2).trans rfl; have hcy3 : y3.cell? ⟨ga, 3, none⟩ = some (.slice none 0 0) := (blk_cell hxga.out 3).trans rfl; have hfy0 : y3.frozen? ⟨ga, 0, none⟩ = false := blk_frozen hxga.out 0; have hfy1 : y3.frozen? ⟨ga, 1, none⟩ = false := blk_frozen hxga.out 1; have hfy2 : y3.frozen? ⟨ga, 2, none⟩ = false := blk_frozen hxga.out 2; have hfy3 : y3.frozen? ⟨ga, 3, none⟩ = false := blk_frozen hxga.out 3))
      have X4 := Aside0.mk (sets4 (a := .slice P0 z.f0.length p0) (b := .int .i64 z.f1) (c := .bool z.f2) (d := .slice P3 z.f3.length p3) hxga.out)
      have Y34 := Aside0.mk (show Below y2.heap.size y2 ((((y3.setCell ⟨ga, 0, none⟩ (.slice P0 z.f0.length p0)).setCell ⟨ga, 1, none⟩ (.int .i64 z.f1)).setCell ⟨ga, 2, none⟩ (.bool z.f2)).setCell ⟨ga, 3, none⟩ (.slice P3 z.f3.length p3)) from below_set (below_set (below_set (below_set hbga.out (Nat.le_of_eq hqga.out.symm)) (Nat.le_of_eq hqga.out.symm)) (Nat.le_of_eq hqga.out.symm)) (Nat.le_of_eq hqga.out.symm))
      clear hcy0 hcy1 hcy2 hcy3 hfy0 hfy1 hfy2 hfy3
      generalize ((((y3.setCell ⟨ga, 0, none⟩ (.slice P0 z.f0.length p0)).setCell ⟨ga, 1, none⟩ (.int .i64 z.f1)).setCell ⟨ga, 2, none⟩ (.bool z.f2)).setCell ⟨ga, 3, none⟩ (.slice P3 z.f3.length p3)) = y4 at X4 Y34 ⊢
      have B5 := Aside0.mk (below_drew (below_step hy2.out Y34.out))
      by_cases hkb : kb.length = 0
      ·
       have hk1 : decide ((kb.length : Int) > 0) = false := decide_eq_false (by omega)
       have hk2 : (0 < kb.length) = False := eq_false (by omega)
       clear hkb
       by_cases hn0 : n = 0
       ·
        have hg1 : decide ((n : Int) > 0) = false := decide_eq_false (by omega)
        have hg2 : (0 < n) = False := eq_false (by omega)
        clear hn0
        as_aux_lemma =>
        go_wp2
        refine s_ 54 [] (fun w' => w'.cell? ⟨ga, 0, none⟩ = some (.slice P0 z.f0.length p0) ∧ w'.cell? ⟨ga, 1, none⟩ = some (.int .i64 z.f1) ∧ w'.cell? ⟨ga, 2, none⟩ = some (.bool z.f2) ∧ w'.cell? ⟨ga, 3, none⟩ = some (.slice P3 z.f3.length p3) ∧ w'.cell? (ad.add (n * 4)) = some (.slice B0 z.f0.length b0) ∧ w'.cell? ⟨(ad.add (n * 4)).block, (ad.add (n * 4)).off + 1, none⟩ = some (.int .i64 z.f1) ∧ w'.cell? ⟨(ad.add (n * 4)).block, (ad.add (n * 4)).off + 2, none⟩ = some (.bool z.f2) ∧ w'.cell? ⟨(ad.add (n * 4)).block, (ad.add (n * 4)).off + 3, none⟩ = some (.slice B3 z.f3.length b3)) (hS := ⟨(blk_cell (blk_drew X4.out) 0).trans rfl, (blk_cell (blk_drew X4.out) 1).trans rfl, (blk_cell (blk_drew X4.out) 2).trans rfl, (blk_cell (blk_drew X4.out) 3).trans rfl, pw_cell_below B5.out HD.out.1, pw_cell_below B5.out HD.out.2.1, pw_cell_below B5.out HD.out.2.2.1, pw_cell_below B5.out HD.out.2.2.2⟩) (h := fun hHeld => ?_)
        refine p_ 0 72 (bb 54 1) (h := ?_)
        refine p_ 1 73 (bb 54 3) (h := ?_)
        refine p_ 2 74 (bb 54 7) (h := ?_)
        refine t_ 3 75 (bb 54 15) hHeld (h := ?_)
        refine p_ 4 76 (bb 54 31) (h := ?_)
        refine p_ 5 77 (bb 54 63) (h := ?_)
        refine p_ 6 78 (bb 54 127) (h := ?_)
        refine t_ 7 79 (bb 54 255) hHeld (h := ?_)
        refine n_ 8 80 (bb 54 511) (h := fun K hK => ?_)
        refine goes_ Try.func24 (by kernel_rfl) rfl #[.agg #[.slice P0 z.f0.length p0, .int .i64 z.f1, .bool z.f2, .slice P3 z.f3.length p3], .agg #[.slice B0 z.f0.length b0, .int .i64 z.f1, .bool z.f2, .slice B3 z.f3.length b3]] (by rfl) rfl rfl (by (try simp only [List.map_toArray, List.map_cons, List.map_nil]); first | done | rfl) ?_
        refine (sameOneC HZG.out.1 HZG.out.1 (Kd.C_drew (Kd.C_below (Kd.F_now hF0.out) Y34.out)) hl0.out (Kd.C_drew (Kd.C_below (Kd.F_now hF3.out) Y34.out)) hl3.out (Kd.C_below (K34_C (Kd.FK_now HFZ.out)).2.1 B5.out) (K34_C (Kd.FK_now HFZ.out)).1 (Kd.C_below (K34_C (Kd.FK_now HFZ.out)).2.2.2 B5.out) (K34_C (Kd.FK_now HFZ.out)).2.2.1).mono ?_
        rintro ex w6 ⟨rfl, hb6⟩
        refine ⟨_, rfl, ?_⟩
        rw [show decide (z.f0 = z.f0 ∧ z.f1 = z.f1 ∧ z.f2 = z.f2 ∧ z.f3 = z.f3) = true from decide_eq_true ⟨rfl, rfl, rfl, rfl⟩]
        have hb6 := Aside0.mk hb6
        have B6 := Aside0.mk (below_step B5.out hb6.out)
        refine hK.out _ _ ⟨pw_cell_below hb6.out hHeld.1, pw_cell_below hb6.out hHeld.2.1, pw_cell_below hb6.out hHeld.2.2.1, pw_cell_below hb6.out hHeld.2.2.2.1, pw_cell_below hb6.out hHeld.2.2.2.2.1, pw_cell_below hb6.out hHeld.2.2.2.2.2.1, pw_cell_below hb6.out hHeld.2.2.2.2.2.2.1, pw_cell_below hb6.out hHeld.2.2.2.2.2.2.2⟩ (fun hHeld => ?_)
        clear hK K
        refine m_ 80 (h := ?_)
        refine p_ 9 81 (bb 54 1023) (h := ?_)
        refine p_ 10 82 (bb 54 2047) (h := ?_)
        refine p_ 11 83 (bb 54 4095) (h := ?_)
        refine p_ 12 84 (bb 54 8191) (h := ?_)
        refine p_ 13 85 (bb 54 16383) (h := ?_)
        refine p_ 14 86 (bb 54 32767) (h := ?_)
        refine p_ 15 87 (bb 54 65535) (h := ?_)
        refine t_ 16 88 (bb 54 131071) hHeld (h := ?_)
        refine p_ 17 89 (bb 54 262143) (h := ?_)
        refine n_ 18 90 (bb 54 524287) (h := fun K hK => ?_)
        refine goes_ Try.func25 (by kernel_rfl) rfl #[.slice B0 z.f0.length b0, .slice Af ka.length cf] (by rfl) rfl rfl (by (try simp only [List.map_toArray, List.map_cons, List.map_nil]); first | done | rfl) ?_
        refine (rlessC (Kd.C_below (K34_C (Kd.FK_now HFZ.out)).2.1 B6.out) (K34_C (Kd.FK_now HFZ.out)).1 (Kd.C_below HRF.out (below_step BWr.out B6.out)) HCF.out (Nat.le_trans HZG.out.2.1 (by decide))).mono ?_
        rintro ex w7 ⟨rfl, hb7⟩
        refine ⟨_, rfl, ?_⟩
        rw [HNA.out]
        have hb7 := Aside0.mk hb7
        have B7 := Aside0.mk (below_step B6.out hb7.out)
        refine hK.out _ _ ⟨pw_cell_below hb7.out hHeld.1, pw_cell_below hb7.out hHeld.2.1, pw_cell_below hb7.out hHeld.2.2.1, pw_cell_below hb7.out hHeld.2.2.2.1, pw_cell_below hb7.out hHeld.2.2.2.2.1, pw_cell_below hb7.out hHeld.2.2.2.2.2.1, pw_cell_below hb7.out hHeld.2.2.2.2.2.2.1, pw_cell_below hb7.out hHeld.2.2.2.2.2.2.2⟩ (fun hHeld => ?_)
        clear hK K
        refine m_ 90 (h := ?_)
        refine p_ 19 91 (bb 54 1048575) (h := ?_)
        refine p_ 20 92 (bb 54 2097151) (h := ?_)
        refine p_ 21 93 (bb 54 4194303) (h := ?_)
        refine p_ 22 94 (bb 54 8388607) (h := ?_)
        refine p_ 23 95 (bb 54 16777215) (h := ?_)
        refine p_ 24 96 (bb 54 33554431) (h := ?_)
        refine o_ 25 97 (bb 54 67108863) (h := ?_)
        refine o_ 26 98 (bb 54 134217727) (h := ?_)
        refine o_ 27 99 (bb 54 268435455) (h := ?_)
        refine o_ 28 100 (bb 54 536870911) (h := ?_)
        refine o_ 29 101 (bb 54 1073741823) (h := ?_)
        refine o_ 30 102 (bb 54 2147483647) (h := ?_)
        refine n_ 31 103 (bb 54 4294967295) (h := fun K hK => ?_)
        refine off_ (by rfl) ?_
        refine hK.out _ _ hHeld (fun hHeld => ?_)
        clear hK K
        refine m_ 103 (h := ?_)
        refine o_ 32 104 (bb 54 8589934591) (h := ?_)
        refine p_ 33 105 (bb 54 17179869183) (h := ?_)
        refine p_ 34 106 (bb 54 34359738367) (h := ?_)
        refine p_ 35 107 (bb 54 68719476735) (h := ?_)
        refine p_ 36 108 (bb 54 137438953471) (h := ?_)
        refine p_ 37 109 (bb 54 274877906943) (h := ?_)
        refine p_ 38 110 (bb 54 549755813887) (h := ?_)
        refine o_ 39 111 (bb 54 1099511627775) (h := ?_)
        refine o_ 40 112 (bb 54 2199023255551) (h := ?_)
        refine o_ 41 113 (bb 54 4398046511103) (h := ?_)
        refine o_ 42 114 (bb 54 8796093022207) (h := ?_)
        refine o_ 43 115 (bb 54 17592186044415) (h := ?_)
        refine o_ 44 116 (bb 54 35184372088831) (h := ?_)
        refine o_ 45 117 (bb 54 70368744177663) (h := ?_)
        refine o_ 46 118 (bb 54 140737488355327) (h := ?_)
        refine o_ 47 119 (bb 54 281474976710655) (h := ?_)
        refine o_ 48 120 (bb 54 562949953421311) (h := ?_)
        refine o_ 49 121 (bb 54 1125899906842623) (h := ?_)
        refine n_ 50 122 (bb 54 2251799813685247) (h := fun K hK => ?_)
        refine off_ (by rfl) ?_
        refine hK.out _ _ hHeld (fun hHeld => ?_)
        clear hK K
        refine m_ 122 (h := ?_)
        refine o_ 51 123 (bb 54 4503599627370495) (h := ?_)
        refine p_ 52 124 (bb 54 9007199254740991) (h := ?_)
        refine p_ 53 125 (bb 54 18014398509481983) (h := ?_)
        refine d_ (h := ?_)
        clear hHeld
        go_wp2
        go_roundg k1
        case measure => exact Nat.lt_succ_self _
        case rel => exact ⟨n + 1, by first | rfl | rw [HW.out], ⟨by have h1 := HK.out; omega⟩, ⟨below_step HBr.out B7.out⟩⟩
       ·
        obtain ⟨m, hm⟩ : ∃ m, n = m + 1 := ⟨n - 1, by omega⟩
        have hml : m < S.length := by have := HNL.out; omega
        obtain ⟨u, hu⟩ : ∃ u, S[m]? = some u := ⟨_, List.getElem?_eq_getElem hml⟩
        obtain ⟨C0, c0, C3, c3, hc0_, hc1_, hc2_, hc3_, hFU⟩ := at_N34 HNr.out m u hu
        have HU := Aside0.mk hc0_
        have HFU := Aside0.mk hFU
        have HUG := Aside0.mk (HSG.out u (List.mem_of_getElem? hu))
        have HLU := Aside0.mk (show less u.f0 z.f0 = true by
         have h1 := hu
         have h2 := HZ.out
         rw [hm] at h2
         rw [HSE.out] at h1 h2
         exact scan_next HT.out h1 h2)
        have hmt : (m < S.length) = True := eq_true hml
        have hwm : wrap64 ((n : Int) - 1) = (m : Int) := by rw [wrap_in (by omega) (by have := HTL.out; have := HSL.out; have := HNL.out; omega)]; omega
        have hg1 : decide ((n : Int) > 0) = true := decide_eq_true (by omega)
        have hg2 : (0 < n) = True := eq_true (by omega)
        clear hc0_ hc1_ hc2_ hc3_ hFU hu hm hml hn0
        as_aux_lemma =>
        go_wp2
        refine s_ 54 [] (fun w' => w'.cell? ⟨ga, 0, none⟩ = some (.slice P0 z.f0.length p0) ∧ w'.cell? ⟨ga, 1, none⟩ = some (.int .i64 z.f1) ∧ w'.cell? ⟨ga, 2, none⟩ = some (.bool z.f2) ∧ w'.cell? ⟨ga, 3, none⟩ = some (.slice P3 z.f3.length p3) ∧ w'.cell? (ad.add (n * 4)) = some (.slice B0 z.f0.length b0) ∧ w'.cell? ⟨(ad.add (n * 4)).block, (ad.add (n * 4)).off + 1, none⟩ = some (.int .i64 z.f1) ∧ w'.cell? ⟨(ad.add (n * 4)).block, (ad.add (n * 4)).off + 2, none⟩ = some (.bool z.f2) ∧ w'.cell? ⟨(ad.add (n * 4)).block, (ad.add (n * 4)).off + 3, none⟩ = some (.slice B3 z.f3.length b3) ∧ w'.cell? (ad.add (m * 4)) = some (.slice C0 u.f0.length c0)) (hS := ⟨(blk_cell (blk_drew X4.out) 0).trans rfl, (blk_cell (blk_drew X4.out) 1).trans rfl, (blk_cell (blk_drew X4.out) 2).trans rfl, (blk_cell (blk_drew X4.out) 3).trans rfl, pw_cell_below B5.out HD.out.1, pw_cell_below B5.out HD.out.2.1, pw_cell_below B5.out HD.out.2.2.1, pw_cell_below B5.out HD.out.2.2.2, pw_cell_below B5.out HU.out⟩) (h := fun hHeld => ?_)
        refine p_ 0 72 (bb 54 1) (h := ?_)
        refine p_ 1 73 (bb 54 3) (h := ?_)
        refine p_ 2 74 (bb 54 7) (h := ?_)
        refine t_ 3 75 (bb 54 15) hHeld (h := ?_)
        refine p_ 4 76 (bb 54 31) (h := ?_)
        refine p_ 5 77 (bb 54 63) (h := ?_)
        refine p_ 6 78 (bb 54 127) (h := ?_)
        refine t_ 7 79 (bb 54 255) hHeld (h := ?_)
        refine n_ 8 80 (bb 54 511) (h := fun K hK => ?_)
        refine goes_ Try.func24 (by kernel_rfl) rfl #[.agg #[.slice P0 z.f0.length p0, .int .i64 z.f1, .bool z.f2, .slice P3 z.f3.length p3], .agg #[.slice B0 z.f0.length b0, .int .i64 z.f1, .bool z.f2, .slice B3 z.f3.length b3]] (by rfl) rfl rfl (by (try simp only [List.map_toArray, List.map_cons, List.map_nil]); first | done | rfl) ?_
        refine (sameOneC HZG.out.1 HZG.out.1 (Kd.C_drew (Kd.C_below (Kd.F_now hF0.out) Y34.out)) hl0.out (Kd.C_drew (Kd.C_below (Kd.F_now hF3.out) Y34.out)) hl3.out (Kd.C_below (K34_C (Kd.FK_now HFZ.out)).2.1 B5.out) (K34_C (Kd.FK_now HFZ.out)).1 (Kd.C_below (K34_C (Kd.FK_now HFZ.out)).2.2.2 B5.out) (K34_C (Kd.FK_now HFZ.out)).2.2.1).mono ?_
        rintro ex w6 ⟨rfl, hb6⟩
        refine ⟨_, rfl, ?_⟩
        rw [show decide (z.f0 = z.f0 ∧ z.f1 = z.f1 ∧ z.f2 = z.f2 ∧ z.f3 = z.f3) = true from decide_eq_true ⟨rfl, rfl, rfl, rfl⟩]
        have hb6 := Aside0.mk hb6
        have B6 := Aside0.mk (below_step B5.out hb6.out)
        refine hK.out _ _ ⟨pw_cell_below hb6.out hHeld.1, pw_cell_below hb6.out hHeld.2.1, pw_cell_below hb6.out hHeld.2.2.1, pw_cell_below hb6.out hHeld.2.2.2.1, pw_cell_below hb6.out hHeld.2.2.2.2.1, pw_cell_below hb6.out hHeld.2.2.2.2.2.1, pw_cell_below hb6.out hHeld.2.2.2.2.2.2.1, pw_cell_below hb6.out hHeld.2.2.2.2.2.2.2.1, pw_cell_below hb6.out hHeld.2.2.2.2.2.2.2.2⟩ (fun hHeld => ?_)
        clear hK K
        refine m_ 80 (h := ?_)
        refine p_ 9 81 (bb 54 1023) (h := ?_)
        refine p_ 10 82 (bb 54 2047) (h := ?_)
        refine p_ 11 83 (bb 54 4095) (h := ?_)
        refine p_ 12 84 (bb 54 8191) (h := ?_)
        refine p_ 13 85 (bb 54 16383) (h := ?_)
        refine p_ 14 86 (bb 54 32767) (h := ?_)
        refine p_ 15 87 (bb 54 65535) (h := ?_)
        refine t_ 16 88 (bb 54 131071) hHeld (h := ?_)
        refine p_ 17 89 (bb 54 262143) (h := ?_)
        refine n_ 18 90 (bb 54 524287) (h := fun K hK => ?_)
        refine goes_ Try.func25 (by kernel_rfl) rfl #[.slice B0 z.f0.length b0, .slice Af ka.length cf] (by rfl) rfl rfl (by (try simp only [List.map_toArray, List.map_cons, List.map_nil]); first | done | rfl) ?_
        refine (rlessC (Kd.C_below (K34_C (Kd.FK_now HFZ.out)).2.1 B6.out) (K34_C (Kd.FK_now HFZ.out)).1 (Kd.C_below HRF.out (below_step BWr.out B6.out)) HCF.out (Nat.le_trans HZG.out.2.1 (by decide))).mono ?_
        rintro ex w7 ⟨rfl, hb7⟩
        refine ⟨_, rfl, ?_⟩
        rw [HNA.out]
        have hb7 := Aside0.mk hb7
        have B7 := Aside0.mk (below_step B6.out hb7.out)
        refine hK.out _ _ ⟨pw_cell_below hb7.out hHeld.1, pw_cell_below hb7.out hHeld.2.1, pw_cell_below hb7.out hHeld.2.2.1, pw_cell_below hb7.out hHeld.2.2.2.1, pw_cell_below hb7.out hHeld.2.2.2.2.1, pw_cell_below hb7.out hHeld.2.2.2.2.2.1, pw_cell_below hb7.out hHeld.2.2.2.2.2.2.1, pw_cell_below hb7.out hHeld.2.2.2.2.2.2.2.1, pw_cell_below hb7.out hHeld.2.2.2.2.2.2.2.2⟩ (fun hHeld => ?_)
        clear hK K
        refine m_ 90 (h := ?_)
        refine p_ 19 91 (bb 54 1048575) (h := ?_)
        refine p_ 20 92 (bb 54 2097151) (h := ?_)
        refine p_ 21 93 (bb 54 4194303) (h := ?_)
        refine p_ 22 94 (bb 54 8388607) (h := ?_)
        refine p_ 23 95 (bb 54 16777215) (h := ?_)
        refine p_ 24 96 (bb 54 33554431) (h := ?_)
        refine o_ 25 97 (bb 54 67108863) (h := ?_)
        refine o_ 26 98 (bb 54 134217727) (h := ?_)
        refine o_ 27 99 (bb 54 268435455) (h := ?_)
        refine o_ 28 100 (bb 54 536870911) (h := ?_)
        refine o_ 29 101 (bb 54 1073741823) (h := ?_)
        refine o_ 30 102 (bb 54 2147483647) (h := ?_)
        refine n_ 31 103 (bb 54 4294967295) (h := fun K hK => ?_)
        refine off_ (by rfl) ?_
        refine hK.out _ _ hHeld (fun hHeld => ?_)
        clear hK K
        refine m_ 103 (h := ?_)
        refine o_ 32 104 (bb 54 8589934591) (h := ?_)
        refine p_ 33 105 (bb 54 17179869183) (h := ?_)
        refine p_ 34 106 (bb 54 34359738367) (h := ?_)
        refine p_ 35 107 (bb 54 68719476735) (h := ?_)
        refine p_ 36 108 (bb 54 137438953471) (h := ?_)
        refine p_ 37 109 (bb 54 274877906943) (h := ?_)
        refine p_ 38 110 (bb 54 549755813887) (h := ?_)
        refine p_ 39 111 (bb 54 1099511627775) (h := ?_)
        refine p_ 40 112 (bb 54 2199023255551) (h := ?_)
        refine p_ 41 113 (bb 54 4398046511103) (h := ?_)
        refine p_ 42 114 (bb 54 8796093022207) (h := ?_)
        refine p_ 43 115 (bb 54 17592186044415) (h := ?_)
        refine t_ 44 116 (bb 54 35184372088831) hHeld (h := ?_)
        refine p_ 45 117 (bb 54 70368744177663) (h := ?_)
        refine p_ 46 118 (bb 54 140737488355327) (h := ?_)
        refine p_ 47 119 (bb 54 281474976710655) (h := ?_)
        refine p_ 48 120 (bb 54 562949953421311) (h := ?_)
        refine t_ 49 121 (bb 54 1125899906842623) hHeld (h := ?_)
        refine n_ 50 122 (bb 54 2251799813685247) (h := fun K hK => ?_)
        refine goes_ Try.func25 (by kernel_rfl) rfl #[.slice C0 u.f0.length c0, .slice B0 z.f0.length b0] (by rfl) rfl rfl (by (try simp only [List.map_toArray, List.map_cons, List.map_nil]); first | done | rfl) ?_
        refine (rlessC (Kd.C_below (K34_C (Kd.FK_now HFU.out)).2.1 B7.out) (K34_C (Kd.FK_now HFU.out)).1 (Kd.C_below (K34_C (Kd.FK_now HFZ.out)).2.1 B7.out) (K34_C (Kd.FK_now HFZ.out)).1 (Nat.le_trans HUG.out.2.1 (by decide))).mono ?_
        rintro ex w9 ⟨rfl, hb9⟩
        refine ⟨_, rfl, ?_⟩
        rw [HLU.out]
        have hb9 := Aside0.mk hb9
        have B9 := Aside0.mk (below_step B7.out hb9.out)
        refine hK.out _ _ ⟨pw_cell_below hb9.out hHeld.1, pw_cell_below hb9.out hHeld.2.1, pw_cell_below hb9.out hHeld.2.2.1, pw_cell_below hb9.out hHeld.2.2.2.1, pw_cell_below hb9.out hHeld.2.2.2.2.1, pw_cell_below hb9.out hHeld.2.2.2.2.2.1, pw_cell_below hb9.out hHeld.2.2.2.2.2.2.1, pw_cell_below hb9.out hHeld.2.2.2.2.2.2.2.1, pw_cell_below hb9.out hHeld.2.2.2.2.2.2.2.2⟩ (fun hHeld => ?_)
        clear hK K
        refine m_ 122 (h := ?_)
        refine p_ 51 123 (bb 54 4503599627370495) (h := ?_)
        refine p_ 52 124 (bb 54 9007199254740991) (h := ?_)
        refine p_ 53 125 (bb 54 18014398509481983) (h := ?_)
        refine d_ (h := ?_)
        clear hHeld
        go_wp2
        go_roundg k1
        case measure => exact Nat.lt_succ_self _
        case rel => exact ⟨n + 1, by first | rfl | rw [HW.out], ⟨by have h1 := HK.out; omega⟩, ⟨below_step HBr.out B9.out⟩⟩
      ·
       have hk1 : decide ((kb.length : Int) > 0) = true := decide_eq_true (by omega)
       have hk2 : (0 < kb.length) = True := eq_true (by omega)
       have HLB := Aside0.mk (show less z.f0 kb = true by
        rcases HIN.out.2.1 with h1 | h1
        ·
         exact absurd h1 hkb
        ·
         exact h1)
       clear hkb
       by_cases hn0 : n = 0
       ·
        have hg1 : decide ((n : Int) > 0) = false := decide_eq_false (by omega)
        have hg2 : (0 < n) = False := eq_false (by omega)
        clear hn0
        as_aux_lemma =>
        go_wp2
        refine s_ 54 [] (fun w' => w'.cell? ⟨ga, 0, none⟩ = some (.slice P0 z.f0.length p0) ∧ w'.cell? ⟨ga, 1, none⟩ = some (.int .i64 z.f1) ∧ w'.cell? ⟨ga, 2, none⟩ = some (.bool z.f2) ∧ w'.cell? ⟨ga, 3, none⟩ = some (.slice P3 z.f3.length p3) ∧ w'.cell? (ad.add (n * 4)) = some (.slice B0 z.f0.length b0) ∧ w'.cell? ⟨(ad.add (n * 4)).block, (ad.add (n * 4)).off + 1, none⟩ = some (.int .i64 z.f1) ∧ w'.cell? ⟨(ad.add (n * 4)).block, (ad.add (n * 4)).off + 2, none⟩ = some (.bool z.f2) ∧ w'.cell? ⟨(ad.add (n * 4)).block, (ad.add (n * 4)).off + 3, none⟩ = some (.slice B3 z.f3.length b3)) (hS := ⟨(blk_cell (blk_drew X4.out) 0).trans rfl, (blk_cell (blk_drew X4.out) 1).trans rfl, (blk_cell (blk_drew X4.out) 2).trans rfl, (blk_cell (blk_drew X4.out) 3).trans rfl, pw_cell_below B5.out HD.out.1, pw_cell_below B5.out HD.out.2.1, pw_cell_below B5.out HD.out.2.2.1, pw_cell_below B5.out HD.out.2.2.2⟩) (h := fun hHeld => ?_)
        refine p_ 0 72 (bb 54 1) (h := ?_)
        refine p_ 1 73 (bb 54 3) (h := ?_)
        refine p_ 2 74 (bb 54 7) (h := ?_)
        refine t_ 3 75 (bb 54 15) hHeld (h := ?_)
        refine p_ 4 76 (bb 54 31) (h := ?_)
        refine p_ 5 77 (bb 54 63) (h := ?_)
        refine p_ 6 78 (bb 54 127) (h := ?_)
        refine t_ 7 79 (bb 54 255) hHeld (h := ?_)
        refine n_ 8 80 (bb 54 511) (h := fun K hK => ?_)
        refine goes_ Try.func24 (by kernel_rfl) rfl #[.agg #[.slice P0 z.f0.length p0, .int .i64 z.f1, .bool z.f2, .slice P3 z.f3.length p3], .agg #[.slice B0 z.f0.length b0, .int .i64 z.f1, .bool z.f2, .slice B3 z.f3.length b3]] (by rfl) rfl rfl (by (try simp only [List.map_toArray, List.map_cons, List.map_nil]); first | done | rfl) ?_
        refine (sameOneC HZG.out.1 HZG.out.1 (Kd.C_drew (Kd.C_below (Kd.F_now hF0.out) Y34.out)) hl0.out (Kd.C_drew (Kd.C_below (Kd.F_now hF3.out) Y34.out)) hl3.out (Kd.C_below (K34_C (Kd.FK_now HFZ.out)).2.1 B5.out) (K34_C (Kd.FK_now HFZ.out)).1 (Kd.C_below (K34_C (Kd.FK_now HFZ.out)).2.2.2 B5.out) (K34_C (Kd.FK_now HFZ.out)).2.2.1).mono ?_
        rintro ex w6 ⟨rfl, hb6⟩
        refine ⟨_, rfl, ?_⟩
        rw [show decide (z.f0 = z.f0 ∧ z.f1 = z.f1 ∧ z.f2 = z.f2 ∧ z.f3 = z.f3) = true from decide_eq_true ⟨rfl, rfl, rfl, rfl⟩]
        have hb6 := Aside0.mk hb6
        have B6 := Aside0.mk (below_step B5.out hb6.out)
        refine hK.out _ _ ⟨pw_cell_below hb6.out hHeld.1, pw_cell_below hb6.out hHeld.2.1, pw_cell_below hb6.out hHeld.2.2.1, pw_cell_below hb6.out hHeld.2.2.2.1, pw_cell_below hb6.out hHeld.2.2.2.2.1, pw_cell_below hb6.out hHeld.2.2.2.2.2.1, pw_cell_below hb6.out hHeld.2.2.2.2.2.2.1, pw_cell_below hb6.out hHeld.2.2.2.2.2.2.2⟩ (fun hHeld => ?_)
        clear hK K
        refine m_ 80 (h := ?_)
        refine p_ 9 81 (bb 54 1023) (h := ?_)
        refine p_ 10 82 (bb 54 2047) (h := ?_)
        refine p_ 11 83 (bb 54 4095) (h := ?_)
        refine p_ 12 84 (bb 54 8191) (h := ?_)
        refine p_ 13 85 (bb 54 16383) (h := ?_)
        refine p_ 14 86 (bb 54 32767) (h := ?_)
        refine p_ 15 87 (bb 54 65535) (h := ?_)
        refine t_ 16 88 (bb 54 131071) hHeld (h := ?_)
        refine p_ 17 89 (bb 54 262143) (h := ?_)
        refine n_ 18 90 (bb 54 524287) (h := fun K hK => ?_)
        refine goes_ Try.func25 (by kernel_rfl) rfl #[.slice B0 z.f0.length b0, .slice Af ka.length cf] (by rfl) rfl rfl (by (try simp only [List.map_toArray, List.map_cons, List.map_nil]); first | done | rfl) ?_
        refine (rlessC (Kd.C_below (K34_C (Kd.FK_now HFZ.out)).2.1 B6.out) (K34_C (Kd.FK_now HFZ.out)).1 (Kd.C_below HRF.out (below_step BWr.out B6.out)) HCF.out (Nat.le_trans HZG.out.2.1 (by decide))).mono ?_
        rintro ex w7 ⟨rfl, hb7⟩
        refine ⟨_, rfl, ?_⟩
        rw [HNA.out]
        have hb7 := Aside0.mk hb7
        have B7 := Aside0.mk (below_step B6.out hb7.out)
        refine hK.out _ _ ⟨pw_cell_below hb7.out hHeld.1, pw_cell_below hb7.out hHeld.2.1, pw_cell_below hb7.out hHeld.2.2.1, pw_cell_below hb7.out hHeld.2.2.2.1, pw_cell_below hb7.out hHeld.2.2.2.2.1, pw_cell_below hb7.out hHeld.2.2.2.2.2.1, pw_cell_below hb7.out hHeld.2.2.2.2.2.2.1, pw_cell_below hb7.out hHeld.2.2.2.2.2.2.2⟩ (fun hHeld => ?_)
        clear hK K
        refine m_ 90 (h := ?_)
        refine p_ 19 91 (bb 54 1048575) (h := ?_)
        refine p_ 20 92 (bb 54 2097151) (h := ?_)
        refine p_ 21 93 (bb 54 4194303) (h := ?_)
        refine p_ 22 94 (bb 54 8388607) (h := ?_)
        refine p_ 23 95 (bb 54 16777215) (h := ?_)
        refine p_ 24 96 (bb 54 33554431) (h := ?_)
        refine p_ 25 97 (bb 54 67108863) (h := ?_)
        refine p_ 26 98 (bb 54 134217727) (h := ?_)
        refine p_ 27 99 (bb 54 268435455) (h := ?_)
        refine p_ 28 100 (bb 54 536870911) (h := ?_)
        refine t_ 29 101 (bb 54 1073741823) hHeld (h := ?_)
        refine p_ 30 102 (bb 54 2147483647) (h := ?_)
        refine n_ 31 103 (bb 54 4294967295) (h := fun K hK => ?_)
        refine goes_ Try.func25 (by kernel_rfl) rfl #[.slice B0 z.f0.length b0, .slice At_ kb.length ct] (by rfl) rfl rfl (by (try simp only [List.map_toArray, List.map_cons, List.map_nil]); first | done | rfl) ?_
        refine (rlessC (Kd.C_below (K34_C (Kd.FK_now HFZ.out)).2.1 B7.out) (K34_C (Kd.FK_now HFZ.out)).1 (Kd.C_below HRT.out (below_step BWr.out B7.out)) HCT.out (Nat.le_trans HZG.out.2.1 (by decide))).mono ?_
        rintro ex w8 ⟨rfl, hb8⟩
        refine ⟨_, rfl, ?_⟩
        rw [HLB.out]
        have hb8 := Aside0.mk hb8
        have B8 := Aside0.mk (below_step B7.out hb8.out)
        refine hK.out _ _ ⟨pw_cell_below hb8.out hHeld.1, pw_cell_below hb8.out hHeld.2.1, pw_cell_below hb8.out hHeld.2.2.1, pw_cell_below hb8.out hHeld.2.2.2.1, pw_cell_below hb8.out hHeld.2.2.2.2.1, pw_cell_below hb8.out hHeld.2.2.2.2.2.1, pw_cell_below hb8.out hHeld.2.2.2.2.2.2.1, pw_cell_below hb8.out hHeld.2.2.2.2.2.2.2⟩ (fun hHeld => ?_)
        clear hK K
        refine m_ 103 (h := ?_)
        refine p_ 32 104 (bb 54 8589934591) (h := ?_)
        refine p_ 33 105 (bb 54 17179869183) (h := ?_)
        refine p_ 34 106 (bb 54 34359738367) (h := ?_)
        refine p_ 35 107 (bb 54 68719476735) (h := ?_)
        refine p_ 36 108 (bb 54 137438953471) (h := ?_)
        refine p_ 37 109 (bb 54 274877906943) (h := ?_)
        refine p_ 38 110 (bb 54 549755813887) (h := ?_)
        refine o_ 39 111 (bb 54 1099511627775) (h := ?_)
        refine o_ 40 112 (bb 54 2199023255551) (h := ?_)
        refine o_ 41 113 (bb 54 4398046511103) (h := ?_)
        refine o_ 42 114 (bb 54 8796093022207) (h := ?_)
        refine o_ 43 115 (bb 54 17592186044415) (h := ?_)
        refine o_ 44 116 (bb 54 35184372088831) (h := ?_)
        refine o_ 45 117 (bb 54 70368744177663) (h := ?_)
        refine o_ 46 118 (bb 54 140737488355327) (h := ?_)
        refine o_ 47 119 (bb 54 281474976710655) (h := ?_)
        refine o_ 48 120 (bb 54 562949953421311) (h := ?_)
        refine o_ 49 121 (bb 54 1125899906842623) (h := ?_)
        refine n_ 50 122 (bb 54 2251799813685247) (h := fun K hK => ?_)
        refine off_ (by rfl) ?_
        refine hK.out _ _ hHeld (fun hHeld => ?_)
        clear hK K
        refine m_ 122 (h := ?_)
        refine o_ 51 123 (bb 54 4503599627370495) (h := ?_)
        refine p_ 52 124 (bb 54 9007199254740991) (h := ?_)
        refine p_ 53 125 (bb 54 18014398509481983) (h := ?_)
        refine d_ (h := ?_)
        clear hHeld
        go_wp2
        go_roundg k1
        case measure => exact Nat.lt_succ_self _
        case rel => exact ⟨n + 1, by first | rfl | rw [HW.out], ⟨by have h1 := HK.out; omega⟩, ⟨below_step HBr.out B8.out⟩⟩
       ·
        obtain ⟨m, hm⟩ : ∃ m, n = m + 1 := ⟨n - 1, by omega⟩
        have hml : m < S.length := by have := HNL.out; omega
        obtain ⟨u, hu⟩ : ∃ u, S[m]? = some u := ⟨_, List.getElem?_eq_getElem hml⟩
        obtain ⟨C0, c0, C3, c3, hc0_, hc1_, hc2_, hc3_, hFU⟩ := at_N34 HNr.out m u hu
        have HU := Aside0.mk hc0_
        have HFU := Aside0.mk hFU
        have HUG := Aside0.mk (HSG.out u (List.mem_of_getElem? hu))
        have HLU := Aside0.mk (show less u.f0 z.f0 = true by
         have h1 := hu
         have h2 := HZ.out
         rw [hm] at h2
         rw [HSE.out] at h1 h2
         exact scan_next HT.out h1 h2)
        have hmt : (m < S.length) = True := eq_true hml
        have hwm : wrap64 ((n : Int) - 1) = (m : Int) := by rw [wrap_in (by omega) (by have := HTL.out; have := HSL.out; have := HNL.out; omega)]; omega
        have hg1 : decide ((n : Int) > 0) = true := decide_eq_true (by omega)
        have hg2 : (0 < n) = True := eq_true (by omega)
        clear hc0_ hc1_ hc2_ hc3_ hFU hu hm hml hn0
        as_aux_lemma =>
        go_wp2
        refine s_ 54 [] (fun w' => w'.cell? ⟨ga, 0, none⟩ = some (.slice P0 z.f0.length p0) ∧ w'.cell? ⟨ga, 1, none⟩ = some (.int .i64 z.f1) ∧ w'.cell? ⟨ga, 2, none⟩ = some (.bool z.f2) ∧ w'.cell? ⟨ga, 3, none⟩ = some (.slice P3 z.f3.length p3) ∧ w'.cell? (ad.add (n * 4)) = some (.slice B0 z.f0.length b0) ∧ w'.cell? ⟨(ad.add (n * 4)).block, (ad.add (n * 4)).off + 1, none⟩ = some (.int .i64 z.f1) ∧ w'.cell? ⟨(ad.add (n * 4)).block, (ad.add (n * 4)).off + 2, none⟩ = some (.bool z.f2) ∧ w'.cell? ⟨(ad.add (n * 4)).block, (ad.add (n * 4)).off + 3, none⟩ = some (.slice B3 z.f3.length b3) ∧ w'.cell? (ad.add (m * 4)) = some (.slice C0 u.f0.length c0)) (hS := ⟨(blk_cell (blk_drew X4.out) 0).trans rfl, (blk_cell (blk_drew X4.out) 1).trans rfl, (blk_cell (blk_drew X4.out) 2).trans rfl, (blk_cell (blk_drew X4.out) 3).trans rfl, pw_cell_below B5.out HD.out.1, pw_cell_below B5.out HD.out.2.1, pw_cell_below B5.out HD.out.2.2.1, pw_cell_below B5.out HD.out.2.2.2, pw_cell_below B5.out HU.out⟩) (h := fun hHeld => ?_)
        refine p_ 0 72 (bb 54 1) (h := ?_)
        refine p_ 1 73 (bb 54 3) (h := ?_)
        refine p_ 2 74 (bb 54 7) (h := ?_)
        refine t_ 3 75 (bb 54 15) hHeld (h := ?_)
        refine p_ 4 76 (bb 54 31) (h := ?_)
        refine p_ 5 77 (bb 54 63) (h := ?_)
        refine p_ 6 78 (bb 54 127) (h := ?_)
        refine t_ 7 79 (bb 54 255) hHeld (h := ?_)
        refine n_ 8 80 (bb 54 511) (h := fun K hK => ?_)
        refine goes_ Try.func24 (by kernel_rfl) rfl #[.agg #[.slice P0 z.f0.length p0, .int .i64 z.f1, .bool z.f2, .slice P3 z.f3.length p3], .agg #[.slice B0 z.f0.length b0, .int .i64 z.f1, .bool z.f2, .slice B3 z.f3.length b3]] (by rfl) rfl rfl (by (try simp only [List.map_toArray, List.map_cons, List.map_nil]); first | done | rfl) ?_
        refine (sameOneC HZG.out.1 HZG.out.1 (Kd.C_drew (Kd.C_below (Kd.F_now hF0.out) Y34.out)) hl0.out (Kd.C_drew (Kd.C_below (Kd.F_now hF3.out) Y34.out)) hl3.out (Kd.C_below (K34_C (Kd.FK_now HFZ.out)).2.1 B5.out) (K34_C (Kd.FK_now HFZ.out)).1 (Kd.C_below (K34_C (Kd.FK_now HFZ.out)).2.2.2 B5.out) (K34_C (Kd.FK_now HFZ.out)).2.2.1).mono ?_
        rintro ex w6 ⟨rfl, hb6⟩
        refine ⟨_, rfl, ?_⟩
        rw [show decide (z.f0 = z.f0 ∧ z.f1 = z.f1 ∧ z.f2 = z.f2 ∧ z.f3 = z.f3) = true from decide_eq_true ⟨rfl, rfl, rfl, rfl⟩]
        have hb6 := Aside0.mk hb6
        have B6 := Aside0.mk (below_step B5.out hb6.out)
        refine hK.out _ _ ⟨pw_cell_below hb6.out hHeld.1, pw_cell_below hb6.out hHeld.2.1, pw_cell_below hb6.out hHeld.2.2.1, pw_cell_below hb6.out hHeld.2.2.2.1, pw_cell_below hb6.out hHeld.2.2.2.2.1, pw_cell_below hb6.out hHeld.2.2.2.2.2.1, pw_cell_below hb6.out hHeld.2.2.2.2.2.2.1, pw_cell_below hb6.out hHeld.2.2.2.2.2.2.2.1, pw_cell_below hb6.out hHeld.2.2.2.2.2.2.2.2⟩ (fun hHeld => ?_)
        clear hK K
        refine m_ 80 (h := ?_)
        refine p_ 9 81 (bb 54 1023) (h := ?_)
        refine p_ 10 82 (bb 54 2047) (h := ?_)
        refine p_ 11 83 (bb 54 4095) (h := ?_)
        refine p_ 12 84 (bb 54 8191) (h := ?_)
        refine p_ 13 85 (bb 54 16383) (h := ?_)
        refine p_ 14 86 (bb 54 32767) (h := ?_)
        refine p_ 15 87 (bb 54 65535) (h := ?_)
        refine t_ 16 88 (bb 54 131071) hHeld (h := ?_)
        refine p_ 17 89 (bb 54 262143) (h := ?_)
        refine n_ 18 90 (bb 54 524287) (h := fun K hK => ?_)
        refine goes_ Try.func25 (by kernel_rfl) rfl #[.slice B0 z.f0.length b0, .slice Af ka.length cf] (by rfl) rfl rfl (by (try simp only [List.map_toArray, List.map_cons, List.map_nil]); first | done | rfl) ?_
        refine (rlessC (Kd.C_below (K34_C (Kd.FK_now HFZ.out)).2.1 B6.out) (K34_C (Kd.FK_now HFZ.out)).1 (Kd.C_below HRF.out (below_step BWr.out B6.out)) HCF.out (Nat.le_trans HZG.out.2.1 (by decide))).mono ?_
        rintro ex w7 ⟨rfl, hb7⟩
        refine ⟨_, rfl, ?_⟩
        rw [HNA.out]
        have hb7 := Aside0.mk hb7
        have B7 := Aside0.mk (below_step B6.out hb7.out)
        refine hK.out _ _ ⟨pw_cell_below hb7.out hHeld.1, pw_cell_below hb7.out hHeld.2.1, pw_cell_below hb7.out hHeld.2.2.1, pw_cell_below hb7.out hHeld.2.2.2.1, pw_cell_below hb7.out hHeld.2.2.2.2.1, pw_cell_below hb7.out hHeld.2.2.2.2.2.1, pw_cell_below hb7.out hHeld.2.2.2.2.2.2.1, pw_cell_below hb7.out hHeld.2.2.2.2.2.2.2.1, pw_cell_below hb7.out hHeld.2.2.2.2.2.2.2.2⟩ (fun hHeld => ?_)
        clear hK K
        refine m_ 90 (h := ?_)
        refine p_ 19 91 (bb 54 1048575) (h := ?_)
        refine p_ 20 92 (bb 54 2097151) (h := ?_)
        refine p_ 21 93 (bb 54 4194303) (h := ?_)
        refine p_ 22 94 (bb 54 8388607) (h := ?_)
        refine p_ 23 95 (bb 54 16777215) (h := ?_)
        refine p_ 24 96 (bb 54 33554431) (h := ?_)
        refine p_ 25 97 (bb 54 67108863) (h := ?_)
        refine p_ 26 98 (bb 54 134217727) (h := ?_)
        refine p_ 27 99 (bb 54 268435455) (h := ?_)
        refine p_ 28 100 (bb 54 536870911) (h := ?_)
        refine t_ 29 101 (bb 54 1073741823) hHeld (h := ?_)
        refine p_ 30 102 (bb 54 2147483647) (h := ?_)
        refine n_ 31 103 (bb 54 4294967295) (h := fun K hK => ?_)
        refine goes_ Try.func25 (by kernel_rfl) rfl #[.slice B0 z.f0.length b0, .slice At_ kb.length ct] (by rfl) rfl rfl (by (try simp only [List.map_toArray, List.map_cons, List.map_nil]); first | done | rfl) ?_
        refine (rlessC (Kd.C_below (K34_C (Kd.FK_now HFZ.out)).2.1 B7.out) (K34_C (Kd.FK_now HFZ.out)).1 (Kd.C_below HRT.out (below_step BWr.out B7.out)) HCT.out (Nat.le_trans HZG.out.2.1 (by decide))).mono ?_
        rintro ex w8 ⟨rfl, hb8⟩
        refine ⟨_, rfl, ?_⟩
        rw [HLB.out]
        have hb8 := Aside0.mk hb8
        have B8 := Aside0.mk (below_step B7.out hb8.out)
        refine hK.out _ _ ⟨pw_cell_below hb8.out hHeld.1, pw_cell_below hb8.out hHeld.2.1, pw_cell_below hb8.out hHeld.2.2.1, pw_cell_below hb8.out hHeld.2.2.2.1, pw_cell_below hb8.out hHeld.2.2.2.2.1, pw_cell_below hb8.out hHeld.2.2.2.2.2.1, pw_cell_below hb8.out hHeld.2.2.2.2.2.2.1, pw_cell_below hb8.out hHeld.2.2.2.2.2.2.2.1, pw_cell_below hb8.out hHeld.2.2.2.2.2.2.2.2⟩ (fun hHeld => ?_)
        clear hK K
        refine m_ 103 (h := ?_)
        refine p_ 32 104 (bb 54 8589934591) (h := ?_)
        refine p_ 33 105 (bb 54 17179869183) (h := ?_)
        refine p_ 34 106 (bb 54 34359738367) (h := ?_)
        refine p_ 35 107 (bb 54 68719476735) (h := ?_)
        refine p_ 36 108 (bb 54 137438953471) (h := ?_)
        refine p_ 37 109 (bb 54 274877906943) (h := ?_)
        refine p_ 38 110 (bb 54 549755813887) (h := ?_)
        refine p_ 39 111 (bb 54 1099511627775) (h := ?_)
        refine p_ 40 112 (bb 54 2199023255551) (h := ?_)
        refine p_ 41 113 (bb 54 4398046511103) (h := ?_)
        refine p_ 42 114 (bb 54 8796093022207) (h := ?_)
        refine p_ 43 115 (bb 54 17592186044415) (h := ?_)
        refine t_ 44 116 (bb 54 35184372088831) hHeld (h := ?_)
        refine p_ 45 117 (bb 54 70368744177663) (h := ?_)
        refine p_ 46 118 (bb 54 140737488355327) (h := ?_)
        refine p_ 47 119 (bb 54 281474976710655) (h := ?_)
        refine p_ 48 120 (bb 54 562949953421311) (h := ?_)
        refine t_ 49 121 (bb 54 1125899906842623) hHeld (h := ?_)
        refine n_ 50 122 (bb 54 2251799813685247) (h := fun K hK => ?_)
        refine goes_ Try.func25 (by kernel_rfl) rfl #[.slice C0 u.f0.length c0, .slice B0 z.f0.length b0] (by rfl) rfl rfl (by (try simp only [List.map_toArray, List.map_cons, List.map_nil]); first | done | rfl) ?_
        refine (rlessC (Kd.C_below (K34_C (Kd.FK_now HFU.out)).2.1 B8.out) (K34_C (Kd.FK_now HFU.out)).1 (Kd.C_below (K34_C (Kd.FK_now HFZ.out)).2.1 B8.out) (K34_C (Kd.FK_now HFZ.out)).1 (Nat.le_trans HUG.out.2.1 (by decide))).mono ?_
        rintro ex w9 ⟨rfl, hb9⟩
        refine ⟨_, rfl, ?_⟩
        rw [HLU.out]
        have hb9 := Aside0.mk hb9
        have B9 := Aside0.mk (below_step B8.out hb9.out)
        refine hK.out _ _ ⟨pw_cell_below hb9.out hHeld.1, pw_cell_below hb9.out hHeld.2.1, pw_cell_below hb9.out hHeld.2.2.1, pw_cell_below hb9.out hHeld.2.2.2.1, pw_cell_below hb9.out hHeld.2.2.2.2.1, pw_cell_below hb9.out hHeld.2.2.2.2.2.1, pw_cell_below hb9.out hHeld.2.2.2.2.2.2.1, pw_cell_below hb9.out hHeld.2.2.2.2.2.2.2.1, pw_cell_below hb9.out hHeld.2.2.2.2.2.2.2.2⟩ (fun hHeld => ?_)
        clear hK K
        refine m_ 122 (h := ?_)
        refine p_ 51 123 (bb 54 4503599627370495) (h := ?_)
        refine p_ 52 124 (bb 54 9007199254740991) (h := ?_)
        refine p_ 53 125 (bb 54 18014398509481983) (h := ?_)
        refine d_ (h := ?_)
        clear hHeld
        go_wp2
        go_roundg k1
        case measure => exact Nat.lt_succ_self _
        case rel => exact ⟨n + 1, by first | rfl | rw [HW.out], ⟨by have h1 := HK.out; omega⟩, ⟨below_step HBr.out B9.out⟩⟩
  | succ k1 =>
   have hnl : n < l.length := by have h1 := HK.out; omega
   have HN := Aside0.mk (show n < 60 by have h1 := HK.out; omega)
   have hlt : (n < l.length) = True := eq_true hnl
   have h60 : (n : Int) < 60 := by have := HN.out; omega
   have HW := Aside0.mk (show wrap64 ((n : Int) + 1) = ((n + 1 : Nat) : Int) by rw [wrap_in (by omega) (by omega)]; rfl)
   obtain ⟨o, ho⟩ : ∃ o, l[n]? = some o := ⟨_, List.getElem?_eq_getElem hnl⟩
   obtain ⟨ad, A0, c0, A3, c3, A4, c4, hA, hd0, hd1, hd2, hd3, hd4, hd5, hd6, hd7, hl0, hF0, hl3, hF3, hl4, hF4⟩ := at_Op2 (Kd.C_below HR.out hb1.out) HB.out n o ho
   subst hA
   have HL0 := Aside0.mk hl0
   have HF0 := Aside0.mk hF0
   have HL3 := Aside0.mk hl3
   have HF3 := Aside0.mk hF3
   have HL4 := Aside0.mk hl4
   have HF4 := Aside0.mk hF4
   have HGO := Aside0.mk (HG.out o (List.mem_of_getElem? ho))
   have HO := Aside0.mk ho
   clear hl0 hF0 hl3 hF3 hl4 hF4 ho
   clear hnl
   go_wp2_with ((with_reducible refine gate_callee (f := 12) rfl ?_); (try (refine gate_guard (by rfl) ?_; dsimp only)); refine goesL_ (some 49) rfl rfl Try.func12 (by kernel_rfl) rfl #[.pointer (some ⟨g, 0, none⟩), .pointer (some ⟨gr, 0, none⟩), .agg #[.int .i64 o.what, .int .i64 o.h, .int .i64 o.n, .slice A0 o.e.f0.length c0, .int .i64 o.e.f1, .bool o.e.f2, .slice A3 o.e.f3.length c3, .slice A4 o.hi.length c4]] rfl (by (try simp only [List.map_toArray, List.map_cons, List.map_nil]); first | done | rfl) ?_; refine (step_calls HST.out (runT_fit HG.out n) (Nat.le_trans (runT_len HG.out n) (by have := HN.out; omega)) o A0 c0 A3 c3 A4 c4 HF0.out HL0.out HF3.out HL3.out HF4.out HL4.out HGO.out).mono ?_; rintro ex w5 ⟨rfl, hs5, hb5⟩; refine ⟨_, rfl, ?_⟩; have n_ := Aside0.mk hs5; clear hs5; have hs5 := n_; clear n_; have n_ := Aside0.mk hb5; clear hb5; have hb5 := n_; clear n_)
   go_roundg k1
   case measure => exact Nat.lt_succ_self _
   case rel => exact ⟨n + 1, by first | rfl | rw [HW.out], ⟨by have h1 := HK.out; omega⟩, ⟨by rw [runT_succ HO.out]; exact hs5.out⟩, ⟨HB.out.trans hb5.out⟩⟩
end Go.Proofs.Ytjlkcidohabcfaa.Sk
