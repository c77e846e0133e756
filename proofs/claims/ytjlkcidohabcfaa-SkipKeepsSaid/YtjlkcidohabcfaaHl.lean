/- The document's list: Get, Scan, Size and Level, walked. Conditions: those of each theorem. -/
import Derived.Test.YtjlkcidohabcfaaPx4
import Derived.Test.YtjlkcidohabcfaaPx5
import Derived.Test.YtjlkcidohabcfaaPx13
import Derived.Test.YtjlkcidohabcfaaPx20
import Derived.Test.YtjlkcidohabcfaaPx21
import Derived.Test.YtjlkcidohabcfaaPx22
import Derived.Test.YtjlkcidohabcfaaPx23
import Derived.Test.YtjlkcidohabcfaaPx24
import Derived.Test.YtjlkcidohabcfaaPx25
import Derived.Test.YtjlkcidohabcfaaPx27
import Derived.Test.YtjlkcidohabcfaaPx29
import Derived.Test.YtjlkcidohabcfaaH0
import Derived.Test.YtjlkcidohabcfaaHp
import Derived.Test.YtjlkcidohabcfaaHq
import Derived.Test.YtjlkcidohabcfaaHr
import Derived.Test.YtjlkcidohabcfaaHu
import Derived.Test.YtjlkcidohabcfaaHv
import Derived.Test.YtjlkcidohabcfaaHh
import Derived.Test.YtjlkcidohabcfaaHi
import Derived.Test.YtjlkcidohabcfaaHk
import Derived.Test.YtjlkcidohabcfaaHy
import Derived.Test.YtjlkcidohabcfaaHj
namespace Go.Proofs.Ytjlkcidohabcfaa.Sk
open Go.RowKit Go.Proofs.YtjlkcidohabcfaaW.PrintWords Go.Proofs.YtjlkcidohabcfaaW.PrintLast Go.Proofs.YtjlkcidohabcfaaW.PrintMore Go.Proofs.Ytjlkcidohabcfaa.Px
set_option linter.unusedVariables false
set_option linter.unusedSimpArgs false

open Go.Proofs.Ytjlkcidohabcfaa.Sw
def kI : Kd Int := Kd.int .i64
/-- The document's list in memory, all of it in D. -/
def RL (w : World) (base : Nat) (D : Nat → Prop) (gr : Nat) (T : List Tw) : Prop :=
  ∃ vL vH, w.heap[gr]? = some (.cells #[vL, vH] 30 (0, 0)) ∧ Kd.N k34 34 w base (fun k => D k ∧ k ≠ gr) vL (T.map (fun t => t.e)) ∧ Kd.N kI 3 w base (fun k => D k ∧ k ≠ gr) vH (T.map (fun t => t.h)) ∧ D gr ∧ ∀ k, D k → base ≤ k
theorem RL.step {w w1 : World} {base : Nat} {D : Nat → Prop} {gr : Nat} {T : List Tw} (h : RL w base D gr T) (hm : ∀ k, D k → k < w.heap.size → w1.heap[k]? = w.heap[k]?) : RL w1 base D gr T := by
  obtain ⟨vL, vH, h0, h1, h2, h3, h4⟩ := h
  exact ⟨vL, vH, (hm gr h3 (blk_lt h0)).trans h0, Kd.N_step h1 (fun k hk hlt => hm k hk.1 hlt), Kd.N_step h2 (fun k hk hlt => hm k hk.1 hlt), h3, h4⟩
theorem RL.below {w w1 : World} {base : Nat} {D : Nat → Prop} {gr : Nat} {T : List Tw} (h : RL w base D gr T) (hb : Below w.heap.size w w1) : RL w1 base D gr T := h.step (fun k _ hlt => hb.block k hlt)
theorem RL.bound {w : World} {base : Nat} {D : Nat → Prop} {gr : Nat} {T : List Tw} (h : RL w base D gr T) : RL w base (fun k => D k ∧ k < w.heap.size) gr T := by
  obtain ⟨vL, vH, h0, h1, h2, h3, h4⟩ := h
  exact ⟨vL, vH, h0, Kd.N_mono (Kd.N_bound h1) (fun k hk => ⟨⟨hk.1.1, hk.2⟩, hk.1.2⟩), Kd.N_mono (Kd.N_bound h2) (fun k hk => ⟨⟨hk.1.1, hk.2⟩, hk.1.2⟩), ⟨h3, blk_lt h0⟩, fun k hk => h4 k hk.1⟩
theorem FitT.lens {T : List Tw} (hT : FitT T) : ∀ e ∈ T.map (fun t => t.e), Sw.Good e ∧ e.f0.length ≤ 140737488351232 ∧ e.f3.length ≤ 140737488351232 := by
  intro e he
  obtain ⟨t, ht, rfl⟩ := List.mem_map.1 he
  exact ⟨(hT.ok t ht).2.1, okE_len (hT.ok t ht).1⟩
theorem info3 : (Try.prog.info? 3).map (fun i => (i.zero, i.size, i.bytes)) = some (some (.int .i64 0), 1, 8) := by kernel_rfl
theorem copyC {w : World} {A0 A3 : Option Addr} {c0 c3 : Nat} {e : S34} (h0 : Kd.C (Kd.int .u8) w A0 e.f0.length e.f0) (g0 : e.f0.length ≤ c0) (h3 : Kd.C (Kd.int .u8) w A3 e.f3.length e.f3) (g3 : e.f3.length ≤ c3) (l0 : e.f0.length ≤ 140737488351232) (l3 : e.f3.length ≤ 140737488351232) :
    Calls Try.prog 26 #[.agg #[.slice A0 e.f0.length c0, .int .i64 e.f1, .bool e.f2, .slice A3 e.f3.length c3]] w fun ex w' => ∃ v0 v3, ex = .returned (.agg #[v0, .int .i64 e.f1, .bool e.f2, v3]) ∧ EntV w' w.heap.size v0 v3 e ∧ Below w.heap.size w w' :=
  (sawyerref06_Copy.calls A0 c0 e.f0 e.f1 e.f2 A3 c3 e.f3 _ _ _ _ w h0 g0 h3 g3 (copy_f l0 l3)).mono (by
    rintro ex w' ⟨v0, v3, rfl, hr0, hr3, hb⟩
    exact ⟨v0, v3, rfl, ⟨Kd.V_of_R hr0, Kd.V_of_R hr3⟩, hb⟩)
theorem versionC {w : World} {A0 A1 : Option Addr} {c0 c1 : Nat} {T : List Tw} (hT : FitT T) (hlen : T.length ≤ 1000000) {kk : List Int} (sq : Int) (h0 : Kd.C k34 w A0 (T.map (fun t => t.e)).length (T.map (fun t => t.e))) (g0 : (T.map (fun t => t.e)).length ≤ c0) (hr1 : Kd.C (Kd.int .u8) w A1 kk.length kk) (hc1 : kk.length ≤ c1) (hk : Byts kk) :
    Calls Try.prog 46 #[.slice A0 (T.map (fun t => t.e)).length c0, .slice A1 kk.length c1, .int .i64 sq] w fun ex w' => ∃ v0 v3, ex = .returned (.tuple #[.agg #[v0, .int .i64 (getN T kk sq).1.f1, .bool (getN T kk sq).1.f2, v3], .bool (getN T kk sq).2]) ∧ EntV w' w.heap.size v0 v3 (getN T kk sq).1 ∧ Below w.heap.size w w' := by
  obtain ⟨K, hf⟩ := version_f (T.map (fun t => t.e)) kk sq hk hT.lens (by rw [List.length_map]; omega)
  have h1 := hf K (Nat.le_refl _)
  rw [version_same hT] at h1
  exact (sawyerref06_Version.calls K A0 c0 _ A1 c1 kk sq _ _ _ _ _ w h0 g0 hr1 hc1 h1).mono (by
    rintro ex w' ⟨v0, v3, rfl, hr0, hr3, hb⟩
    exact ⟨v0, v3, rfl, ⟨Kd.V_of_R hr0, Kd.V_of_R hr3⟩, hb⟩)
theorem N_of_S {W : World} {base : Nat} {ok : Nat → Prop} {v : Value} {xs : List S34} (h : Kd.S k34 34 W base ok v xs) : Kd.N k34 34 W base (fun k => base ≤ k) v xs := Kd.N_mono (Kd.S_N (Kd.S_bound h)) (fun k hk => hk.2.1)
theorem scanC {w : World} {A0 A1 A2 : Option Addr} {c0 c1 c2 : Nat} {T : List Tw} (hT : FitT T) (hlen : T.length ≤ 1000000) {kk k2 : List Int} (sq : Int) (h0 : Kd.C k34 w A0 (T.map (fun t => t.e)).length (T.map (fun t => t.e))) (g0 : (T.map (fun t => t.e)).length ≤ c0) (hr1 : Kd.C (Kd.int .u8) w A1 kk.length kk) (hc1 : kk.length ≤ c1) (hr2 : Kd.C (Kd.int .u8) w A2 k2.length k2) (hc2 : k2.length ≤ c2) :
    Calls Try.prog 47 #[.slice A0 (T.map (fun t => t.e)).length c0, .slice A1 kk.length c1, .slice A2 k2.length c2, .int .i64 sq] w fun ex w' => ∃ v, ex = .returned v ∧ Kd.N k34 34 w' w.heap.size (fun k => w.heap.size ≤ k) v (scanT T kk k2 sq) ∧ Below w.heap.size w w' := by
  obtain ⟨K, hf⟩ := scan_f (T.map (fun t => t.e)) kk k2 sq hT.lens (by rw [List.length_map]; exact hlen)
  have h1 := hf K (Nat.le_refl _)
  rw [scan_same hT] at h1
  exact (sawyerref06_Scan.calls K A0 c0 _ A1 c1 kk A2 c2 k2 sq _ w h0 g0 hr1 hc1 hr2 hc2 h1).mono (by
    rintro ex w' ⟨v, rfl, hs, hb⟩
    exact ⟨v, rfl, N_of_S hs, hb⟩)
theorem at_NI {W : World} {base n cap : Nat} {ok : Nat → Prop} {ad : Addr} {xs : List Int} (h : Kd.N kI 3 W base ok (.slice (some ad) n cap) xs) (i : Nat) (x : Int) (hx : xs[i]? = some x) : W.cell? (ad.add i) = some (.int .i64 x) := by
  have hn := (Kd.N_reads' h).1
  have hi : i < xs.length := (List.getElem?_eq_some_iff.1 hx).1
  obtain ⟨c, _, hFK, hcc⟩ := Kd.N_get h x (i : Int) (by omega) (by omega)
  rw [Int.toNat_natCast, List.getD_eq_getElem?_getD, hx] at hFK
  have hK : c = [.int .i64 x] := Kd.FK_now hFK
  subst hK
  have h2 := hcc 0 _ rfl
  rw [Int.toNat_natCast] at h2
  have e : i * kI.sz + 0 = i := by show i * 1 + 0 = i; omega
  rwa [e] at h2
theorem N_addr {α : Type} {d : Kd α} {e : Nat} {W : World} {base n cap : Nat} {ok : Nat → Prop} {A : Option Addr} {xs : List α} (h : Kd.N d e W base ok (.slice A n cap) xs) (hp : 0 < xs.length) : ∃ ad, A = some ad := by
  have hn := (Kd.N_reads' h).1
  obtain ⟨g, cap', he, _⟩ := Kd.N_form h hp
  injection he with he
  exact ⟨_, he⟩
set_option maxHeartbeats 4000000 in
set_option maxRecDepth 100000 in
theorem rget_calls {w : World} {base : Nat} {D : Nat → Prop} {gr : Nat} {T : List Tw} (h : RL w base D gr T) (hT : FitT T) (hlen : T.length ≤ 1000000) (A1 : Option Addr) (c1 : Nat) (kk : List Int) (sq : Int) (hr1 : Kd.C (Kd.int .u8) w A1 kk.length kk) (hc1 : kk.length ≤ c1) (hk : Byts kk) :
    Calls Try.prog 29 #[.pointer (some ⟨gr, 0, none⟩), .slice A1 kk.length c1, .int .i64 sq] w fun ex w' => ∃ v0 v3, ex = .returned (.tuple #[.agg #[v0, .int .i64 (getN T kk sq).1.f1, .bool (getN T kk sq).1.f2, v3], .bool (getN T kk sq).2]) ∧ EntV w' w.heap.size v0 v3 (getN T kk sq).1 ∧ Below w.heap.size w w' := by
  have hu34 := Try.underlying34
  have hu30 := Try.underlying30
  obtain ⟨vL, vH, hgr, hnL, hnH, hDg, hDb⟩ := h
  obtain ⟨AL, cL, rfl⟩ := Kd.N_slice hnL
  obtain ⟨AH, cH, rfl⟩ := Kd.N_slice hnH
  rw [List.length_map, List.length_map] at hgr
  have HGR := Aside0.mk hgr
  have HNL := Aside0.mk hnL
  have HT := Aside0.mk hT
  have HLEN := Aside0.mk hlen
  have HR1 := Aside0.mk hr1
  clear hr1
  have HC1 := Aside0.mk hc1
  clear hc1
  have HK := Aside0.mk hk
  clear hk
  clear hgr hnL hnH hDb hDg hT hlen
  go_enter Try.func29, Try.ntmps29
  go_wp2_with (first
    | ((with_reducible refine gate_dst (N := 6) rfl ?_); (try (refine gate_guard (by rfl) ?_; dsimp only)); refine box_event ?hg (N := 6) ?hd (cs := #[.slice none 0 0, .int .i64 0, .bool false, .slice none 0 0]) (t := 34) ?hr ?_; (case hd => rfl); (case hg => rfl); (case hr => first | (go_simp; done) | (go_simp; rfl)); intro g6 hqg6 w1 hxg6 hbg6; have n_ := Aside0.mk hqg6; clear hqg6; have hqg6 := n_; clear n_; have n_ := Aside0.mk hxg6; clear hxg6; have hxg6 := n_; clear n_; have n_ := Aside0.mk hbg6; clear hbg6; have hbg6 := n_; clear n_; have hcz0 : w1.cell? ⟨g6, 0, none⟩ = some (.slice none 0 0) := (blk_cell hxg6.out 0).trans rfl; have hcz1 : w1.cell? ⟨g6, 1, none⟩ = some (.int .i64 0) := (blk_cell hxg6.out 1).trans rfl; have hcz2 : w1.cell? ⟨g6, 2, none⟩ = some (.bool false) := (blk_cell hxg6.out 2).trans rfl; have hcz3 : w1.cell? ⟨g6, 3, none⟩ = some (.slice none 0 0) := (blk_cell hxg6.out 3).trans rfl; have hfz0 : w1.frozen? ⟨g6, 0, none⟩ = false := blk_frozen hxg6.out 0; have hfz1 : w1.frozen? ⟨g6, 1, none⟩ = false := blk_frozen hxg6.out 1; have hfz2 : w1.frozen? ⟨g6, 2, none⟩ = false := blk_frozen hxg6.out 2; have hfz3 : w1.frozen? ⟨g6, 3, none⟩ = false := blk_frozen hxg6.out 3; have GR1 := Aside0.mk (blk_below HGR.out hbg6.out); have hcr0 : w1.cell? ⟨gr, 0, none⟩ = some (.slice AL T.length cL) := (blk_cell GR1.out 0).trans rfl)
    | ((with_reducible refine gate_callee (f := 46) rfl ?_); (try (refine gate_guard (by rfl) ?_; dsimp only)); refine goesL_ (some 14) rfl rfl Try.func46 (by kernel_rfl) rfl #[.slice AL T.length cL, .slice A1 kk.length c1, .int .i64 sq] rfl (by (try simp only [List.map_toArray, List.map_cons, List.map_nil]); first | done | rfl) ?_; refine (calls_of_args (by rw [List.length_map]) (versionC HT.out HLEN.out sq (Kd.C_below (Kd.N_reads' HNL.out).2.2 hbg6.out) (Kd.N_reads' HNL.out).2.1 (Kd.C_below HR1.out hbg6.out) HC1.out HK.out)).mono ?_; rintro ex w2 ⟨v0, v3, rfl, hv2, hb2⟩; refine ⟨_, rfl, ?_⟩; obtain ⟨⟨P0, d0, rfl, hl0, hF0⟩, ⟨P3, d3, rfl, hl3, hF3⟩⟩ := hv2; have n_ := Aside0.mk hl0; clear hl0; have hl0 := n_; clear n_; have n_ := Aside0.mk hF0; clear hF0; have hF0 := n_; clear n_; have n_ := Aside0.mk hl3; clear hl3; have hl3 := n_; clear n_; have n_ := Aside0.mk hF3; clear hF3; have hF3 := n_; clear n_; have n_ := Aside0.mk hb2; clear hb2; have hb2 := n_; clear n_; have B12 := Aside0.mk (below_step hbg6.out hb2.out); have X2 := Aside0.mk (blk_below hxg6.out hb2.out); have hcw0 : w2.cell? ⟨g6, 0, none⟩ = some (.slice none 0 0) := (blk_cell X2.out 0).trans rfl; have hcw1 : w2.cell? ⟨g6, 1, none⟩ = some (.int .i64 0) := (blk_cell X2.out 1).trans rfl; have hcw2 : w2.cell? ⟨g6, 2, none⟩ = some (.bool false) := (blk_cell X2.out 2).trans rfl; have hcw3 : w2.cell? ⟨g6, 3, none⟩ = some (.slice none 0 0) := (blk_cell X2.out 3).trans rfl; have hfw0 : w2.frozen? ⟨g6, 0, none⟩ = false := blk_frozen X2.out 0; have hfw1 : w2.frozen? ⟨g6, 1, none⟩ = false := blk_frozen X2.out 1; have hfw2 : w2.frozen? ⟨g6, 2, none⟩ = false := blk_frozen X2.out 2; have hfw3 : w2.frozen? ⟨g6, 3, none⟩ = false := blk_frozen X2.out 3))
  have G60 := Aside0.mk (show w.heap.size ≤ g6 from by have h1 := hqg6.out; omega)
  refine bodyPost_ret (results_ct rfl _ _ g6 34 #[.slice P0 (getN T kk sq).1.f0.length d0, .int .i64 (getN T kk sq).1.f1, .bool (getN T kk sq).1.f2, .slice P3 (getN T kk sq).1.f3.length d3] (0, 0) _ rfl (sets4 X2.out) Try.underlying34 rfl (by kernel_rfl)) rfl ?_
  have hz6 := blk_lt hxg6.out
  exact ⟨_, _, rfl, ((show EntV w2 w1.heap.size _ _ (getN T kk sq).1 from ⟨⟨P0, d0, rfl, hl0.out, hF0.out⟩, ⟨P3, d3, rfl, hl3.out, hF3.out⟩⟩).far4 (by omega) _ _ _ _).lower hbg6.out.size, below4 B12.out G60.out _ _ _ _⟩

set_option maxHeartbeats 4000000 in
set_option maxRecDepth 100000 in
theorem rscan_calls {w : World} {base : Nat} {D : Nat → Prop} {gr : Nat} {T : List Tw} (h : RL w base D gr T) (hT : FitT T) (hlen : T.length ≤ 1000000) (A1 : Option Addr) (c1 : Nat) (kk : List Int) (A2 : Option Addr) (c2 : Nat) (k2 : List Int) (sq : Int) (hr1 : Kd.C (Kd.int .u8) w A1 kk.length kk) (hc1 : kk.length ≤ c1) (hr2 : Kd.C (Kd.int .u8) w A2 k2.length k2) (hc2 : k2.length ≤ c2) :
    Calls Try.prog 30 #[.pointer (some ⟨gr, 0, none⟩), .slice A1 kk.length c1, .slice A2 k2.length c2, .int .i64 sq] w fun ex w' => ∃ v, ex = .returned v ∧ Kd.N k34 34 w' w.heap.size (fun k => w.heap.size ≤ k) v (scanT T kk k2 sq) ∧ Below w.heap.size w w' := by
  have hu34 := Try.underlying34
  have hu30 := Try.underlying30
  obtain ⟨vL, vH, hgr, hnL, hnH, hDg, hDb⟩ := h
  obtain ⟨AL, cL, rfl⟩ := Kd.N_slice hnL
  obtain ⟨AH, cH, rfl⟩ := Kd.N_slice hnH
  rw [List.length_map, List.length_map] at hgr
  have hcr : w.cell? ⟨gr, 0, none⟩ = some (.slice AL T.length cL) := (blk_cell hgr 0).trans rfl
  have HNL := Aside0.mk hnL
  have HT := Aside0.mk hT
  have HLEN := Aside0.mk hlen
  have HR1 := Aside0.mk hr1
  clear hr1
  have HC1 := Aside0.mk hc1
  clear hc1
  have HR2 := Aside0.mk hr2
  clear hr2
  have HC2 := Aside0.mk hc2
  clear hc2
  clear hgr hnL hnH hDb hDg hT hlen
  go_enter Try.func30, Try.ntmps30
  go_wp2_with ((with_reducible refine gate_callee (f := 47) rfl ?_); (try (refine gate_guard (by rfl) ?_; dsimp only)); refine goesL_ (some 16) rfl rfl Try.func47 (by kernel_rfl) rfl #[.slice AL T.length cL, .slice A1 kk.length c1, .slice A2 k2.length c2, .int .i64 sq] rfl (by (try simp only [List.map_toArray, List.map_cons, List.map_nil]); first | done | rfl) ?_; refine (calls_of_args (by rw [List.length_map]) (scanC HT.out HLEN.out sq (Kd.N_reads' HNL.out).2.2 (Kd.N_reads' HNL.out).2.1 HR1.out HC1.out HR2.out HC2.out)).mono ?_; rintro ex w2 ⟨v, rfl, hn2, hb2⟩; refine ⟨_, rfl, ?_⟩; have n_ := Aside0.mk hn2; clear hn2; have hn2 := n_; clear n_; have n_ := Aside0.mk hb2; clear hb2; have hb2 := n_; clear n_)
  go_ret
  exact ⟨v, rfl, hn2.out, hb2.out⟩

set_option maxHeartbeats 4000000 in
set_option maxRecDepth 100000 in
theorem rsize_calls {w : World} {base : Nat} {D : Nat → Prop} {gr : Nat} {T : List Tw} (h : RL w base D gr T) (hT : FitT T) (hlen : T.length ≤ 1000000) :
    Calls Try.prog 17 #[.pointer (some ⟨gr, 0, none⟩)] w fun ex w' => ex = .returned (.int .i64 (sizeT T)) ∧ Below w.heap.size w w' := by
  have hu34 := Try.underlying34
  have hu30 := Try.underlying30
  obtain ⟨vL, vH, hgr, hnL, hnH, hDg, hDb⟩ := h
  obtain ⟨AL, cL, rfl⟩ := Kd.N_slice hnL
  obtain ⟨AH, cH, rfl⟩ := Kd.N_slice hnH
  rw [List.length_map, List.length_map] at hgr
  have HGR := Aside0.mk hgr
  have HNL := Aside0.mk hnL
  have HT := Aside0.mk hT
  have HLEN := Aside0.mk hlen
  clear hgr hnL hnH hDb hDg hT hlen
  go_enter Try.func17, Try.ntmps17
  go_wp2
  go_loopg [3, 4] T.length (fun kq v3 v4 w' => ∃ (n : Nat) (s : Int), v3 = .int .i64 s ∧ v4 = .int .i64 (n : Int) ∧ Aside0 (kq + n = T.length) ∧ Aside0 (s = sizeT (T.take n)) ∧ Aside0 (Below w.heap.size w w'))
  case atStart => exact ⟨0, 0, rfl, rfl, ⟨rfl⟩, ⟨rfl⟩, ⟨Below.refl _ _⟩⟩
  case round =>
    obtain ⟨n, s, rfl, rfl, HK, HS, HB⟩ := hrel
    have hcr : wr.cell? ⟨gr, 0, none⟩ = some (.slice AL T.length cL) := (blk_cell (blk_below HGR.out HB.out) 0).trans rfl
    cases gk with
    | zero =>
      have hn : n = T.length := by have h1 := HK.out; omega
      have HR := Aside0.mk (show s = sizeT T by have h1 := HS.out; rwa [hn, List.take_length] at h1)
      have hlt : (n < T.length) = False := eq_false (by omega)
      clear hn
      go_wp2
      go_ret
      exact ⟨by rw [HR.out] <;> rfl, HB.out⟩
    | succ k1 =>
      have hnl : n < T.length := by have h1 := HK.out; omega
      have hlt : (n < T.length) = True := eq_true hnl
      obtain ⟨z, hz⟩ : ∃ z, T[n]? = some z := ⟨_, List.getElem?_eq_getElem hnl⟩
      have hze : (T.map (fun t => t.e))[n]? = some z.e := by rw [List.getElem?_map, hz]; rfl
      obtain ⟨ad, hA⟩ := N_addr HNL.out (by rw [List.length_map]; omega)
      subst hA
      obtain ⟨B0, b0, B3, b3, hd0, hd1, hd2, hd3, hFK⟩ := at_N34 (Kd.N_below HNL.out HB.out) n z.e hze
      have HSN := Aside0.mk (show sizeT (T.take (n + 1)) = s + ((z.e.f0.length : Int) + z.e.f3.length + 8) by
        rw [HS.out, take_snoc' hz]
        unfold sizeT
        rw [List.map_append, List.sum_append]
        simp)
      have hzo := okE_iff.1 (HT.out.ok z (List.mem_of_getElem? hz)).1
      have h64 : z.e.f0.length ≤ 64 := hzo.2.1
      have h1024 : z.e.f3.length ≤ 1024 := hzo.2.2.2.2.1
      have hsb := sizeT_bd (T := T.take n) (fun t ht => (HT.out.ok t (List.mem_of_mem_take ht)).1)
      have hln : (T.take n).length ≤ 1000000 := by rw [List.length_take]; have := HLEN.out; omega
      rw [← HS.out] at hsb
      have hw1 : wrap64 (s + (z.e.f0.length : Int)) = s + (z.e.f0.length : Int) := wrap_in (by omega) (by omega)
      have hw2 : wrap64 (s + (z.e.f0.length : Int) + (z.e.f3.length : Int)) = s + (z.e.f0.length : Int) + (z.e.f3.length : Int) := wrap_in (by omega) (by omega)
      have hw3 : wrap64 (s + (z.e.f0.length : Int) + (z.e.f3.length : Int) + 8) = s + (z.e.f0.length : Int) + (z.e.f3.length : Int) + 8 := wrap_in (by omega) (by omega)
      have HW := Aside0.mk (show wrap64 ((n : Int) + 1) = ((n + 1 : Nat) : Int) by rw [wrap_in (by omega) (by have := HLEN.out; omega)]; rfl)
      have HE := Aside0.mk (show s + (z.e.f0.length : Int) + (z.e.f3.length : Int) + 8 = sizeT (T.take (n + 1)) by have h1 := HSN.out; omega)
      clear hFK hz hze hzo h64 h1024 hsb hln hnl
      go_wp2
      refine s_ 23 [] (fun w' => w'.cell? ⟨gr, 0, none⟩ = some (.slice (some ad) T.length cL) ∧ w'.cell? (ad.add (n * 4)) = some (.slice B0 z.e.f0.length b0) ∧ w'.cell? ⟨(ad.add (n * 4)).block, (ad.add (n * 4)).off + 3, none⟩ = some (.slice B3 z.e.f3.length b3)) (hS := ⟨(show wr.drew.cell? _ = _ from hcr), (show wr.drew.cell? _ = _ from hd0), (show wr.drew.cell? _ = _ from hd3)⟩) (h := fun hHeld => ?_)
      refine p_ 0 14 (bb 23 1) (h := ?_)
      refine p_ 1 15 (bb 23 3) (h := ?_)
      refine p_ 2 16 (bb 23 7) (h := ?_)
      refine p_ 3 17 (bb 23 15) (h := ?_)
      refine t_ 4 18 (bb 23 31) hHeld (h := ?_)
      refine p_ 5 19 (bb 23 63) (h := ?_)
      refine p_ 6 20 (bb 23 127) (h := ?_)
      refine p_ 7 21 (bb 23 255) (h := ?_)
      refine t_ 8 22 (bb 23 511) hHeld (h := ?_)
      refine p_ 9 23 (bb 23 1023) (h := ?_)
      refine p_ 10 24 (bb 23 2047) (h := ?_)
      refine p_ 11 25 (bb 23 4095) (h := ?_)
      refine p_ 12 26 (bb 23 8191) (h := ?_)
      refine p_ 13 27 (bb 23 16383) (h := ?_)
      refine t_ 14 28 (bb 23 32767) hHeld (h := ?_)
      refine p_ 15 29 (bb 23 65535) (h := ?_)
      refine p_ 16 30 (bb 23 131071) (h := ?_)
      refine p_ 17 31 (bb 23 262143) (h := ?_)
      refine t_ 18 32 (bb 23 524287) hHeld (h := ?_)
      refine p_ 19 33 (bb 23 1048575) (h := ?_)
      refine p_ 20 34 (bb 23 2097151) (h := ?_)
      refine p_ 21 35 (bb 23 4194303) (h := ?_)
      refine p_ 22 3 (bb 23 8388607) (h := ?_)
      refine d_ (h := ?_)

      clear hw1 hw2 hw3
      go_wp2
      go_roundg k1
      case measure => exact Nat.lt_succ_self _
      case rel => exact ⟨n + 1, _, rfl, by first | rfl | rw [HW.out], ⟨by have h1 := HK.out; omega⟩, HE, ⟨below_drew HB.out⟩⟩

set_option maxHeartbeats 4000000 in
set_option maxRecDepth 100000 in
theorem rlevel_calls {w : World} {base : Nat} {D : Nat → Prop} {gr : Nat} {T : List Tw} (h : RL w base D gr T) (hT : FitT T) (hlen : T.length ≤ 1000000) (height : Int) :
    Calls Try.prog 31 #[.pointer (some ⟨gr, 0, none⟩), .int .i64 height] w fun ex w' => ∃ v, ex = .returned v ∧ Kd.N k34 34 w' w.heap.size (fun k => w.heap.size ≤ k) v (levT T height) ∧ Below w.heap.size w w' := by
  have hu34 := Try.underlying34
  have hu30 := Try.underlying30
  obtain ⟨vL, vH, hgr, hnL, hnH, hDg, hDb⟩ := h
  obtain ⟨AL, cL, rfl⟩ := Kd.N_slice hnL
  obtain ⟨AH, cH, rfl⟩ := Kd.N_slice hnH
  rw [List.length_map, List.length_map] at hgr
  have HGR := Aside0.mk hgr
  have HNL := Aside0.mk hnL
  have HNH := Aside0.mk hnH
  have HT := Aside0.mk hT
  have HLEN := Aside0.mk hlen
  clear hgr hnL hnH hDb hDg hT hlen
  go_enter Try.func31, Try.ntmps31
  go_wp2
  go_loopg [5, 6] T.length (fun kq v5 v6 w' => ∃ (n : Nat) (xs : List S34), v6 = .int .i64 (n : Int) ∧ Aside0 (kq + n = T.length) ∧ Aside0 (xs = levT (T.take n) height) ∧ Aside0 (xs.length ≤ n) ∧ Aside0 (Kd.N k34 34 w' w.heap.size (fun k => w.heap.size ≤ k) v5 xs) ∧ Aside0 (Below w.heap.size w w'))
  case atStart => exact ⟨0, [], rfl, ⟨rfl⟩, ⟨rfl⟩, ⟨Nat.le_refl _⟩, ⟨Kd.N_nil _ _ _ _ _⟩, ⟨Below.refl _ _⟩⟩
  case round =>
    obtain ⟨n, xs, rfl, HK, HX, HXL, HN, HB⟩ := hrel
    have hcr : wr.cell? ⟨gr, 0, none⟩ = some (.slice AL T.length cL) := (blk_cell (blk_below HGR.out HB.out) 0).trans rfl
    have hch : wr.cell? ⟨gr, 1, none⟩ = some (.slice AH T.length cH) := (blk_cell (blk_below HGR.out HB.out) 1).trans rfl
    cases gk with
    | zero =>
      have hn : n = T.length := by have h1 := HK.out; omega
      have HR := Aside0.mk (show xs = levT T height by have h1 := HX.out; rwa [hn, List.take_length] at h1)
      have hlt : (n < T.length) = False := eq_false (by omega)
      clear hn
      go_wp2
      go_ret
      exact ⟨_, rfl, HR.out ▸ HN.out, HB.out⟩
    | succ k1 =>
      have hnl : n < T.length := by have h1 := HK.out; omega
      have hlt : (n < T.length) = True := eq_true hnl
      obtain ⟨z, hz⟩ : ∃ z, T[n]? = some z := ⟨_, List.getElem?_eq_getElem hnl⟩
      have hze : (T.map (fun t => t.e))[n]? = some z.e := by rw [List.getElem?_map, hz]; rfl
      have hzh : (T.map (fun t => t.h))[n]? = some z.h := by rw [List.getElem?_map, hz]; rfl
      obtain ⟨ad, hA⟩ := N_addr HNL.out (by rw [List.length_map]; omega)
      subst hA
      obtain ⟨ah, hA⟩ := N_addr HNH.out (by rw [List.length_map]; omega)
      subst hA
      obtain ⟨B0, b0, B3, b3, hd0, hd1, hd2, hd3, hFK⟩ := at_N34 (Kd.N_below HNL.out HB.out) n z.e hze
      have hdh := at_NI (Kd.N_below HNH.out HB.out) n z.h hzh
      have HFK := Aside0.mk hFK
      have HOK := Aside0.mk (okE_len (HT.out.ok z (List.mem_of_getElem? hz)).1)
      have HW := Aside0.mk (show wrap64 ((n : Int) + 1) = ((n + 1 : Nat) : Int) by rw [wrap_in (by omega) (by have := HLEN.out; omega)]; rfl)
      have HXT := Aside0.mk (show levT (T.take (n + 1)) height = xs ++ (if height ≤ z.h then [z.e] else []) by
        rw [HX.out, take_snoc' hz]
        unfold levT
        rw [List.filter_append, List.map_append]
        by_cases hh : height ≤ z.h
        · rw [if_pos hh, List.filter_cons_of_pos (p := fun t : Tw => decide (height ≤ t.h)) (decide_eq_true hh)]
          rfl
        · rw [if_neg hh, List.filter_cons_of_neg (p := fun t : Tw => decide (height ≤ t.h)) (by simpa using hh)]
          rfl)
      obtain ⟨Ao, co, rfl⟩ := Kd.N_slice HN.out
      have HLT := Aside0.mk (Kd.N_lt HN.out)
      clear hFK hz hze hzh hnl
      by_cases hh : height ≤ z.h
      · have HX2 := Aside0.mk (show xs ++ [z.e] = levT (T.take (n + 1)) height by rw [HXT.out, if_pos hh])
        have hh1 : decide (z.h ≥ height) = true := decide_eq_true hh
        have hh2 := eq_true hh
        clear hh
        go_wp2_with (first
          | ((with_reducible refine gate_callee (f := 26) rfl ?_); (try (refine gate_guard (by rfl) ?_; dsimp only)); refine goesL_ (some 33) rfl rfl Try.func26 (by kernel_rfl) rfl #[.agg #[.slice B0 z.e.f0.length b0, .int .i64 z.e.f1, .bool z.e.f2, .slice B3 z.e.f3.length b3]] rfl (by (try simp only [List.map_toArray, List.map_cons, List.map_nil]); first | done | rfl) ?_; refine (copyC (K34_C (Kd.FK_now HFK.out)).2.1 (K34_C (Kd.FK_now HFK.out)).1 (K34_C (Kd.FK_now HFK.out)).2.2.2 (K34_C (Kd.FK_now HFK.out)).2.2.1 HOK.out.1 HOK.out.2).mono ?_; rintro ex w5 ⟨v0, v3, rfl, hv5, hb5⟩; refine ⟨_, rfl, ?_⟩; obtain ⟨⟨P0, d0, rfl, hl0, hF0⟩, ⟨P3, d3, rfl, hl3, hF3⟩⟩ := hv5; have n_ := Aside0.mk hl0; clear hl0; have hl0 := n_; clear n_; have n_ := Aside0.mk hF0; clear hF0; have hF0 := n_; clear n_; have n_ := Aside0.mk hl3; clear hl3; have hl3 := n_; clear n_; have n_ := Aside0.mk hF3; clear hF3; have hF3 := n_; clear n_; have n_ := Aside0.mk hb5; clear hb5; have hb5 := n_; clear n_; have B5 := Aside0.mk (below_step HB.out hb5.out); have SZ := Aside0.mk (HB.out.size))
          | ((with_reducible refine gate_builtin (b := .append) (xs := #[.tmp 25, .tmp 34]) rfl ?_); at_builtin; refine Kd.N_append k34 (w0 := w) w.heap.size rfl (.tmp 25) (.tmp 34) 27 34 (.agg #[(.slice none 0 0), (.int .i64 0), (.bool false), (.slice none 0 0)]) 64 rfl Try.underlying27 info34 rfl (by decide) (by omega) (.slice Ao xs.length co) xs z.e [.slice P0 z.e.f0.length d0, .int .i64 z.e.f1, .bool z.e.f2, .slice P3 z.e.f3.length d3] (fun k_ => w.heap.size ≤ k_) (fun k_ => wr.heap.size ≤ k_) rfl (by first | rfl | (go_simp; done) | (go_simp; rfl)) ?aP ?aH ?aF ?aO ?aB ?aS ?aL ?_; (case aP => exact k34_mkF _ _ z.e hl0.out hF0.out hl3.out hF3.out); (case aH => exact fun k_ hk => ⟨by have h1 := SZ.out; omega, fun he => by have h1 := HLT.out k_ he.symm; omega⟩); (case aF => exact fun k_ hk => by have h1 := B5.out.size; omega); (case aO => exact Kd.N_below HN.out hb5.out); (case aB => exact B5.out); (case aS => exact B5.out.size); (case aL => have h1 := HXL.out; have h2 := HLEN.out; have h3 := HK.out; omega); intro v10 w10 hn10 hb10 hgr10 hat10; have HN10 := Aside0.mk hn10; have HB10 := Aside0.mk hb10; clear hn10 hb10 hgr10 hat10))
        go_roundg k1
        case measure => exact Nat.lt_succ_self _
        case rel => exact ⟨n + 1, xs ++ [z.e], by first | rfl | rw [HW.out], ⟨by have h1 := HK.out; omega⟩, HX2, ⟨by have h1 := HXL.out; simp; omega⟩, HN10, HB10⟩
      · have HX2 := Aside0.mk (show xs = levT (T.take (n + 1)) height by rw [HXT.out, if_neg hh, List.append_nil])
        have hh1 : decide (z.h ≥ height) = false := decide_eq_false hh
        have hh2 := eq_false hh
        clear hh
        go_wp2
        go_roundg k1
        case measure => exact Nat.lt_succ_self _
        case rel => exact ⟨n + 1, xs, by first | rfl | rw [HW.out], ⟨by have h1 := HK.out; omega⟩, HX2, ⟨by have h1 := HXL.out; omega⟩, HN, HB⟩
end Go.Proofs.Ytjlkcidohabcfaa.Sk
