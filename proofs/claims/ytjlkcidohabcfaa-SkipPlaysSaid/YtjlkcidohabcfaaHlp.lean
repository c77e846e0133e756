/- The law SkipPlays as a contract of its function. Conditions: those of each theorem. -/
import Derived.Test.YtjlkcidohabcfaaPx4
import Derived.Test.YtjlkcidohabcfaaPx5
import Derived.Test.YtjlkcidohabcfaaPx13
import Derived.Test.YtjlkcidohabcfaaPx20
import Derived.Test.YtjlkcidohabcfaaPx21
import Derived.Test.YtjlkcidohabcfaaPx22
import Derived.Test.YtjlkcidohabcfaaPx23
import Derived.Test.YtjlkcidohabcfaaPx24
import Derived.Test.YtjlkcidohabcfaaPx25
import Derived.Test.YtjlkcidohabcfaaPx27
import Derived.Test.YtjlkcidohabcfaaPx29
import Derived.Test.YtjlkcidohabcfaaH0
import Derived.Test.YtjlkcidohabcfaaHp
import Derived.Test.YtjlkcidohabcfaaHq
import Derived.Test.YtjlkcidohabcfaaHr
import Derived.Test.YtjlkcidohabcfaaHu
import Derived.Test.YtjlkcidohabcfaaHv
import Derived.Test.YtjlkcidohabcfaaHw
import Derived.Test.YtjlkcidohabcfaaHg
import Derived.Test.YtjlkcidohabcfaaHh
import Derived.Test.YtjlkcidohabcfaaHi
import Derived.Test.YtjlkcidohabcfaaHk
import Derived.Test.YtjlkcidohabcfaaHy
import Derived.Test.YtjlkcidohabcfaaHj
import Derived.Test.YtjlkcidohabcfaaHl
import Derived.Test.YtjlkcidohabcfaaHn
import Derived.Test.YtjlkcidohabcfaaHaa
import Derived.Test.YtjlkcidohabcfaaHab
import Derived.Test.YtjlkcidohabcfaaHac
import Derived.Test.YtjlkcidohabcfaaHad
namespace Go.Proofs.Ytjlkcidohabcfaa.Sk
open Go.RowKit Go.Proofs.YtjlkcidohabcfaaW.PrintWords Go.Proofs.YtjlkcidohabcfaaW.PrintLast Go.Proofs.YtjlkcidohabcfaaW.PrintMore Go.Proofs.Ytjlkcidohabcfaa.Px
set_option linter.unusedVariables false
set_option linter.unusedSimpArgs false
open Go.Proofs.Ytjlkcidohabcfaa.Sw

/-- From here on more is kept. -/
theorem more_ {P : Program} {md : Region.Mode} {ops : Array Oper} {Q : Exit → Act → World → Prop} {S : World → Prop} (S2 : World → Prop) (hi : ∀ w, S2 w → S w) : ∀ {fuel : Nat} {l : Array Bool} {a : Act} {w : World}, S2 w → wpAnyLast P md ops Q S2 [] fuel l a w → wpAnyLast P md ops Q S [] fuel l a w
  | 0, _, _, _, _, h => h
  | fuel + 1, l, a, w, hs, h => ⟨h.1, fun i hm => wpOp_mono (fun a' w' hh => ⟨fun hn _ => hi w' (hh.1 hn hs), more_ S2 hi (hh.1 (by simp) hs) hh.2⟩) (h.2 i hm)⟩

theorem St.rows {w : World} {base g gr : Nat} {T R : List Tw} (h : St w base g gr T R) : ∃ vL, w.cell? ⟨gr, 0, none⟩ = some vL ∧ Kd.N k34 34 w base (fun _ => True) vL (R.map (fun t => t.e)) ∧ base ≤ w.heap.size := by
  have hb := h.base_le
  obtain ⟨D, D', _, ⟨vL, vH, hgr, hnL, _⟩, _⟩ := h
  exact ⟨vL, (blk_cell hgr 0).trans rfl, Kd.N_mono hnL (fun _ _ => trivial), hb⟩
theorem cell_heap_lt {w w1 : World} {base : Nat} (hb : Below base w w1) {p : Addr} (hp : p.block < base) {v : Value} (h : w.cell? p = some v) : w1.cell? p = some v := by
  have := hb.block p.block hp
  unfold World.cell? at h ⊢
  rw [this]
  exact h
theorem op_block {w : World} {A : Option Addr} {n : Nat} {xs : List SOp} (h : Kd.C kOp w A n xs) {ad : Addr} (hA : A = some ad) (i : Nat) (o : SOp) (ho : xs[i]? = some o) : (ad.add (i * 8)).block < w.heap.size := by
  subst hA
  have hn := Kd.C_len h
  subst hn
  obtain ⟨ad', A0, c0, A3, c3, A4, c4, e, h0, _⟩ := at_Op h i o ho
  injection e with e
  subst e
  exact World.block_lt_of_cell? w _ h0

set_option maxHeartbeats 4000000 in
set_option maxRecDepth 100000 in
theorem get_nil (w : World) (A1 : Option Addr) (c1 n1 : Nat) (sq : Int) : Calls Try.prog 20 #[.pointer none, .slice A1 n1 c1, .int .i64 sq] w fun ex w' => ex = .returned (.tuple #[.agg #[.slice none 0 0, .int .i64 0, .bool false, .slice none 0 0], .bool false]) ∧ Below w.heap.size w w' := by
  have hu34 := Try.underlying34
  go_enter Try.func20, Try.ntmps20
  go_wp2_with ((with_reducible refine gate_dst (N := 6) rfl ?_); (try (refine gate_guard (by rfl) ?_; dsimp only)); refine box_event ?hg (N := 6) ?hd (cs := #[.slice none 0 0, .int .i64 0, .bool false, .slice none 0 0]) (t := 34) ?hr ?_; (case hd => rfl); (case hg => rfl); (case hr => first | (go_simp; done) | (go_simp; rfl)); intro g6 hqg6 w1 hxg6 hbg6; have n_ := Aside0.mk hqg6; clear hqg6; have hqg6 := n_; clear n_; have n_ := Aside0.mk hxg6; clear hxg6; have hxg6 := n_; clear n_; have n_ := Aside0.mk hbg6; clear hbg6; have hbg6 := n_; clear n_; have hcz0 : w1.cell? ⟨g6, 0, none⟩ = some (.slice none 0 0) := (blk_cell hxg6.out 0).trans rfl; have hcz1 : w1.cell? ⟨g6, 1, none⟩ = some (.int .i64 0) := (blk_cell hxg6.out 1).trans rfl; have hcz2 : w1.cell? ⟨g6, 2, none⟩ = some (.bool false) := (blk_cell hxg6.out 2).trans rfl; have hcz3 : w1.cell? ⟨g6, 3, none⟩ = some (.slice none 0 0) := (blk_cell hxg6.out 3).trans rfl; have hfz0 : w1.frozen? ⟨g6, 0, none⟩ = false := blk_frozen hxg6.out 0; have hfz1 : w1.frozen? ⟨g6, 1, none⟩ = false := blk_frozen hxg6.out 1; have hfz2 : w1.frozen? ⟨g6, 2, none⟩ = false := blk_frozen hxg6.out 2; have hfz3 : w1.frozen? ⟨g6, 3, none⟩ = false := blk_frozen hxg6.out 3)
  have G60 := Aside0.mk (show w.heap.size ≤ g6 from by have h1 := hqg6.out; omega)
  refine bodyPost_ret (results_ct rfl _ _ g6 34 #[.slice none 0 0, .int .i64 0, .bool false, .slice none 0 0] (0, 0) _ rfl (sets4 hxg6.out) Try.underlying34 rfl (by kernel_rfl)) rfl ?_
  exact ⟨rfl, below4 hbg6.out G60.out _ _ _ _⟩

set_option maxHeartbeats 4000000 in
set_option maxRecDepth 100000 in
theorem plays_calls {w : World} (A : Option Addr) (c : Nat) (l : List SOp) (hr : Kd.C kOp w A l.length l) (hc : l.length ≤ c) (hg : ∀ o, o ∈ l → GoodO o)  :
    Calls Try.prog 3 #[.slice A l.length c] w fun ex w' => ex = .returned (.bool true) ∧ Below w.heap.size w w' := by
  have hu34 := Try.underlying34
  have hu36 := Try.underlying36
  have hu30 := Try.underlying30
  have HR := Aside0.mk hr
  have HG := Aside0.mk hg
  have HMAX := Aside0.mk (Kd.C_max hr)
  clear hr hg
  have HC := Aside0.mk hc
  clear hc
  have hi34 := info34
  have kc32 := fun (w : World) (C : Array Value) (n c : Nat) => Lib.run_convert_bytes_const (P := Try.prog) w 32 5 C n c Try.underlying32 Try.underlying5
  have kd32 := fun (w : World) (m : Nat) (C : Array Value) (n c : Nat) => run_convert_const_drewN (P := Try.prog) w m 32 5 C n c Try.underlying32 Try.underlying5
  go_enter Try.func3, Try.ntmps3
  go_wp2_with (first
    | ((with_reducible refine gate_callee (f := 10) rfl ?_); (try (refine gate_guard (by rfl) ?_; dsimp only)); refine goesL_ (some 10) rfl rfl Try.func10 (by kernel_rfl) rfl #[] rfl (by (try simp only [List.map_toArray, List.map_cons, List.map_nil]); first | done | rfl) ?_; refine (awake_calls w).mono ?_; rintro ex w1 ⟨rfl, hb1⟩; refine ⟨_, rfl, ?_⟩; have n_ := Aside0.mk hb1; clear hb1; have hb1 := n_; clear n_)
    | ((with_reducible refine gate_callee (f := 11) rfl ?_); (try (refine gate_guard (by rfl) ?_; dsimp only)); refine goesL_ (some 11) rfl rfl Try.func11 (by kernel_rfl) rfl #[] rfl (by (try simp only [List.map_toArray, List.map_cons, List.map_nil]); first | done | rfl) ?_; refine (s1_new w1).mono ?_; rintro ex w2 ⟨g, rfl, hs1, hb2⟩; refine ⟨_, rfl, ?_⟩; have n_ := Aside0.mk hs1; clear hs1; have hs1 := n_; clear n_; have n_ := Aside0.mk hb2; clear hb2; have hb2 := n_; clear n_)
    | ((with_reducible refine gate_dst (N := 13) rfl ?_); (try (refine gate_guard (by rfl) ?_; dsimp only)); refine box_event ?hg (N := 13) ?hd (cs := #[.slice none 0 0, .slice none 0 0]) (t := 30) ?hr ?_; (case hd => rfl); (case hg => rfl); (case hr => first | (go_simp; done) | (go_simp; rfl)); intro gr hqgr w3 hxgr hbgr; have n_ := Aside0.mk hqgr; clear hqgr; have hqgr := n_; clear n_; have n_ := Aside0.mk hxgr; clear hxgr; have hxgr := n_; clear n_; have n_ := Aside0.mk hbgr; clear hbgr; have hbgr := n_; clear n_; have ST3 := Aside0.mk (St.fresh hs1.out hb2.out hqgr.out hxgr.out hbgr.out); have B3 := Aside0.mk (below_step hb2.out hbgr.out)))
  go_loopg [6] (min l.length 100) (fun kq v6 w' => ∃ n : Nat, v6 = .int .i64 (n : Int) ∧ Aside0 (kq + n = min l.length 100) ∧ Aside0 (St w' w1.heap.size g gr (runT n l) (runT n l)) ∧ Aside0 (Below w1.heap.size w1 w'))
  case atStart => exact ⟨0, rfl, ⟨rfl⟩, ⟨by rw [runT_zero]; exact ST3.out⟩, B3⟩
  case round =>
    obtain ⟨n, rfl, HK, HST, HB⟩ := hrel
    have HBS := Aside0.mk HST.out.base_le
    cases gk with
    | zero =>
      by_cases hnl : n < l.length
      · have hlt : (n < l.length) = True := eq_true hnl
        have h60 : decide ((n : Int) < 100) = false := decide_eq_false (by have h1 := HK.out; omega)
        clear hnl
        go_wp2_with (first
          | ((with_reducible refine gate_dst (N := 82) rfl ?_); (try (refine gate_guard (by rfl) ?_; dsimp only)); refine Kd.V_const _ 5 32 ?hg (N := 82) (N2 := 83) ?hd ?hd2 ([97] : List Int) (ok := fun _ => True) ?hl1 ?hl2 ?hr ?hw2 ?hr2 (fun _ _ => trivial) (Below.refl _ _) (Nat.le_refl _) ?_; (case hd => rfl); (case hd2 => rfl); (case hg => rfl); (case hl1 => decide); (case hl2 => decide); (case hw2 => intro _; rfl); (case hr => first | (go_simp; done) | (go_simp; rfl)); (case hr2 => first | (go_simp; done) | (go_simp; rfl)); intro v82 w5 hv82 hb82 hg82 hat82; clear hg82 hat82; obtain ⟨A82, c82, rfl, hl82, hF82⟩ := hv82; have hl82 := Aside0.mk hl82; have hF82 := Aside0.mk hF82; have hb82 := Aside0.mk hb82)
          | ((with_reducible refine gate_callee (f := 20) rfl ?_); (try (refine gate_guard (by rfl) ?_; dsimp only)); refine goesL_ (some 84) rfl rfl Try.func20 (by kernel_rfl) rfl #[.pointer none, .slice A82 1 c82, .int .i64 1] rfl (by (try simp only [List.map_toArray, List.map_cons, List.map_nil]); first | done | rfl) ?_; refine (get_nil w5 A82 c82 1 1).mono ?_; rintro ex w6 ⟨rfl, hb6⟩; refine ⟨_, rfl, ?_⟩; have n_ := Aside0.mk hb6; clear hb6; have hb6 := n_; clear n_)
          | ((with_reducible refine gate_dst (N := 8) rfl ?_); (try (refine gate_guard (by rfl) ?_; dsimp only)); refine box_event ?hg (N := 8) ?hd (cs := #[.slice none 0 0, .int .i64 0, .bool false, .slice none 0 0]) (t := 34) ?hr ?_; (case hd => rfl); (case hg => rfl); (case hr => first | (go_simp; done) | (go_simp; rfl)); intro g8 hqg8 w7 hxg8 hbg8; have n_ := Aside0.mk hqg8; clear hqg8; have hqg8 := n_; clear n_; have n_ := Aside0.mk hxg8; clear hxg8; have hxg8 := n_; clear n_; have n_ := Aside0.mk hbg8; clear hbg8; have hbg8 := n_; clear n_; have hcz0 : w7.cell? ⟨g8, 0, none⟩ = some (.slice none 0 0) := (blk_cell hxg8.out 0).trans rfl; have hcz1 : w7.cell? ⟨g8, 1, none⟩ = some (.int .i64 0) := (blk_cell hxg8.out 1).trans rfl; have hcz2 : w7.cell? ⟨g8, 2, none⟩ = some (.bool false) := (blk_cell hxg8.out 2).trans rfl; have hcz3 : w7.cell? ⟨g8, 3, none⟩ = some (.slice none 0 0) := (blk_cell hxg8.out 3).trans rfl; have hfz0 : w7.frozen? ⟨g8, 0, none⟩ = false := blk_frozen hxg8.out 0; have hfz1 : w7.frozen? ⟨g8, 1, none⟩ = false := blk_frozen hxg8.out 1; have hfz2 : w7.frozen? ⟨g8, 2, none⟩ = false := blk_frozen hxg8.out 2; have hfz3 : w7.frozen? ⟨g8, 3, none⟩ = false := blk_frozen hxg8.out 3)
          | ((with_reducible refine gate_dst (N := 91) rfl ?_); (try (refine gate_guard (by rfl) ?_; dsimp only)); have B78 := Aside0.mk (show Below _ _ ((((w7.setCell ⟨g8, 0, none⟩ (.slice none 0 0)).setCell ⟨g8, 1, none⟩ (.int .i64 0)).setCell ⟨g8, 2, none⟩ (.bool false)).setCell ⟨g8, 3, none⟩ (.slice none 0 0)) from below_set (below_set (below_set (below_set hbg8.out (Nat.le_of_eq hqg8.out.symm)) (Nat.le_of_eq hqg8.out.symm)) (Nat.le_of_eq hqg8.out.symm)) (Nat.le_of_eq hqg8.out.symm)); generalize ((((w7.setCell ⟨g8, 0, none⟩ (.slice none 0 0)).setCell ⟨g8, 1, none⟩ (.int .i64 0)).setCell ⟨g8, 2, none⟩ (.bool false)).setCell ⟨g8, 3, none⟩ (.slice none 0 0)) = w8 at B78 ⊢; clear hcz0 hcz1 hcz2 hcz3 hfz0 hfz1 hfz2 hfz3; refine Kd.V_const _ 5 32 ?hg (N := 91) (N2 := 92) ?hd ?hd2 ([97] : List Int) (ok := fun _ => True) ?hl1 ?hl2 ?hr ?hw2 ?hr2 (fun _ _ => trivial) (Below.refl _ _) (Nat.le_refl _) ?_; (case hd => rfl); (case hd2 => rfl); (case hg => rfl); (case hl1 => decide); (case hl2 => decide); (case hw2 => intro _; rfl); (case hr => first | (go_simp; done) | (go_simp; rfl)); (case hr2 => first | (go_simp; done) | (go_simp; rfl)); intro v91 w9 hv91 hb91 hg91 hat91; clear hg91 hat91; obtain ⟨A91, c91, rfl, hl91, hF91⟩ := hv91; have hl91 := Aside0.mk hl91; have hF91 := Aside0.mk hF91; have hb91 := Aside0.mk hb91)
          | ((with_reducible refine gate_callee (f := 21) rfl ?_); (try (refine gate_guard (by rfl) ?_; dsimp only)); refine goesL_ (some 94) rfl rfl Try.func21 (by kernel_rfl) rfl #[.pointer none, .agg #[.slice A91 1 c91, .int .i64 0, .bool false, .slice none 0 0], .int .i64 1] rfl (by (try simp only [List.map_toArray, List.map_cons, List.map_nil]); first | done | rfl) ?_; refine (calls_of_args (by rfl) (put_nil A91 c91 (⟨[97], 0, false, []⟩ : S34) none 0 (Kd.F_now hF91.out) hl91.out (Kd.C_nil _ _) (Nat.le_refl _) 1)).mono ?_; rintro ex w10 ⟨rfl, hb10⟩; refine ⟨_, rfl, ?_⟩; have n_ := Aside0.mk hb10; clear hb10; have hb10 := n_; clear n_)
          | ((with_reducible refine gate_callee (f := 15) rfl ?_); (try (refine gate_guard (by rfl) ?_; dsimp only)); refine goesL_ (some 99) rfl rfl Try.func15 (by kernel_rfl) rfl #[.pointer none] rfl (by (try simp only [List.map_toArray, List.map_cons, List.map_nil]); first | done | rfl) ?_; refine (count_nil w10).mono ?_; rintro ex w11 ⟨rfl, hb11⟩; refine ⟨_, rfl, ?_⟩; have n_ := Aside0.mk hb11; clear hb11; have hb11 := n_; clear n_)
          | ((with_reducible refine gate_callee (f := 16) rfl ?_); (try (refine gate_guard (by rfl) ?_; dsimp only)); refine goesL_ (some 101) rfl rfl Try.func16 (by kernel_rfl) rfl #[.pointer none] rfl (by (try simp only [List.map_toArray, List.map_cons, List.map_nil]); first | done | rfl) ?_; refine (size_nil w11).mono ?_; rintro ex w12 ⟨rfl, hb12⟩; refine ⟨_, rfl, ?_⟩; have n_ := Aside0.mk hb12; clear hb12; have hb12 := n_; clear n_)
          | ((with_reducible refine gate_callee (f := 19) rfl ?_); (try (refine gate_guard (by rfl) ?_; dsimp only)); refine goesL_ (some 104) rfl rfl Try.func19 (by kernel_rfl) rfl #[.pointer none] rfl (by (try simp only [List.map_toArray, List.map_cons, List.map_nil]); first | done | rfl) ?_; refine (all_nil w12).mono ?_; rintro ex w13 ⟨rfl, hb13⟩; refine ⟨_, rfl, ?_⟩; have n_ := Aside0.mk hb13; clear hb13; have hb13 := n_; clear n_)
          | ((with_reducible refine gate_callee (f := 22) rfl ?_); (try (refine gate_guard (by rfl) ?_; dsimp only)); refine goesL_ (some 108) rfl rfl Try.func22 (by kernel_rfl) rfl #[.pointer none, .slice none 0 0, .slice none 0 0, .int .i64 9] rfl (by (try simp only [List.map_toArray, List.map_cons, List.map_nil]); first | done | rfl) ?_; refine (scan_nil w13 none 0 0 none 0 0 9).mono ?_; rintro ex w14 ⟨rfl, hb14⟩; refine ⟨_, rfl, ?_⟩; have n_ := Aside0.mk hb14; clear hb14; have hb14 := n_; clear n_)
          | ((with_reducible refine gate_callee (f := 23) rfl ?_); (try (refine gate_guard (by rfl) ?_; dsimp only)); refine goesL_ (some 112) rfl rfl Try.func23 (by kernel_rfl) rfl #[.pointer none, .int .i64 1] rfl (by (try simp only [List.map_toArray, List.map_cons, List.map_nil]); first | done | rfl) ?_; refine (level_nil w14 1).mono ?_; rintro ex w15 ⟨rfl, hb15⟩; refine ⟨_, rfl, ?_⟩; have n_ := Aside0.mk hb15; clear hb15; have hb15 := n_; clear n_))
        go_ret
        exact ⟨rfl, (hb1.out.trans (below_weakB hb1.out.size HB.out)).trans (below_weakB (Nat.le_trans hb1.out.size HB.out.size) (below_step hb82.out (below_step hb6.out (below_step B78.out (below_step hb91.out (below_step hb10.out (below_step hb11.out (below_step hb12.out (below_step hb13.out (below_step hb14.out hb15.out))))))))))⟩
      · have hlt : (n < l.length) = False := eq_false hnl
        clear hnl
        go_wp2_with (first
          | ((with_reducible refine gate_dst (N := 82) rfl ?_); (try (refine gate_guard (by rfl) ?_; dsimp only)); refine Kd.V_const _ 5 32 ?hg (N := 82) (N2 := 83) ?hd ?hd2 ([97] : List Int) (ok := fun _ => True) ?hl1 ?hl2 ?hr ?hw2 ?hr2 (fun _ _ => trivial) (Below.refl _ _) (Nat.le_refl _) ?_; (case hd => rfl); (case hd2 => rfl); (case hg => rfl); (case hl1 => decide); (case hl2 => decide); (case hw2 => intro _; rfl); (case hr => first | (go_simp; done) | (go_simp; rfl)); (case hr2 => first | (go_simp; done) | (go_simp; rfl)); intro v82 w5 hv82 hb82 hg82 hat82; clear hg82 hat82; obtain ⟨A82, c82, rfl, hl82, hF82⟩ := hv82; have hl82 := Aside0.mk hl82; have hF82 := Aside0.mk hF82; have hb82 := Aside0.mk hb82)
          | ((with_reducible refine gate_callee (f := 20) rfl ?_); (try (refine gate_guard (by rfl) ?_; dsimp only)); refine goesL_ (some 84) rfl rfl Try.func20 (by kernel_rfl) rfl #[.pointer none, .slice A82 1 c82, .int .i64 1] rfl (by (try simp only [List.map_toArray, List.map_cons, List.map_nil]); first | done | rfl) ?_; refine (get_nil w5 A82 c82 1 1).mono ?_; rintro ex w6 ⟨rfl, hb6⟩; refine ⟨_, rfl, ?_⟩; have n_ := Aside0.mk hb6; clear hb6; have hb6 := n_; clear n_)
          | ((with_reducible refine gate_dst (N := 8) rfl ?_); (try (refine gate_guard (by rfl) ?_; dsimp only)); refine box_event ?hg (N := 8) ?hd (cs := #[.slice none 0 0, .int .i64 0, .bool false, .slice none 0 0]) (t := 34) ?hr ?_; (case hd => rfl); (case hg => rfl); (case hr => first | (go_simp; done) | (go_simp; rfl)); intro g8 hqg8 w7 hxg8 hbg8; have n_ := Aside0.mk hqg8; clear hqg8; have hqg8 := n_; clear n_; have n_ := Aside0.mk hxg8; clear hxg8; have hxg8 := n_; clear n_; have n_ := Aside0.mk hbg8; clear hbg8; have hbg8 := n_; clear n_; have hcz0 : w7.cell? ⟨g8, 0, none⟩ = some (.slice none 0 0) := (blk_cell hxg8.out 0).trans rfl; have hcz1 : w7.cell? ⟨g8, 1, none⟩ = some (.int .i64 0) := (blk_cell hxg8.out 1).trans rfl; have hcz2 : w7.cell? ⟨g8, 2, none⟩ = some (.bool false) := (blk_cell hxg8.out 2).trans rfl; have hcz3 : w7.cell? ⟨g8, 3, none⟩ = some (.slice none 0 0) := (blk_cell hxg8.out 3).trans rfl; have hfz0 : w7.frozen? ⟨g8, 0, none⟩ = false := blk_frozen hxg8.out 0; have hfz1 : w7.frozen? ⟨g8, 1, none⟩ = false := blk_frozen hxg8.out 1; have hfz2 : w7.frozen? ⟨g8, 2, none⟩ = false := blk_frozen hxg8.out 2; have hfz3 : w7.frozen? ⟨g8, 3, none⟩ = false := blk_frozen hxg8.out 3)
          | ((with_reducible refine gate_dst (N := 91) rfl ?_); (try (refine gate_guard (by rfl) ?_; dsimp only)); have B78 := Aside0.mk (show Below _ _ ((((w7.setCell ⟨g8, 0, none⟩ (.slice none 0 0)).setCell ⟨g8, 1, none⟩ (.int .i64 0)).setCell ⟨g8, 2, none⟩ (.bool false)).setCell ⟨g8, 3, none⟩ (.slice none 0 0)) from below_set (below_set (below_set (below_set hbg8.out (Nat.le_of_eq hqg8.out.symm)) (Nat.le_of_eq hqg8.out.symm)) (Nat.le_of_eq hqg8.out.symm)) (Nat.le_of_eq hqg8.out.symm)); generalize ((((w7.setCell ⟨g8, 0, none⟩ (.slice none 0 0)).setCell ⟨g8, 1, none⟩ (.int .i64 0)).setCell ⟨g8, 2, none⟩ (.bool false)).setCell ⟨g8, 3, none⟩ (.slice none 0 0)) = w8 at B78 ⊢; clear hcz0 hcz1 hcz2 hcz3 hfz0 hfz1 hfz2 hfz3; refine Kd.V_const _ 5 32 ?hg (N := 91) (N2 := 92) ?hd ?hd2 ([97] : List Int) (ok := fun _ => True) ?hl1 ?hl2 ?hr ?hw2 ?hr2 (fun _ _ => trivial) (Below.refl _ _) (Nat.le_refl _) ?_; (case hd => rfl); (case hd2 => rfl); (case hg => rfl); (case hl1 => decide); (case hl2 => decide); (case hw2 => intro _; rfl); (case hr => first | (go_simp; done) | (go_simp; rfl)); (case hr2 => first | (go_simp; done) | (go_simp; rfl)); intro v91 w9 hv91 hb91 hg91 hat91; clear hg91 hat91; obtain ⟨A91, c91, rfl, hl91, hF91⟩ := hv91; have hl91 := Aside0.mk hl91; have hF91 := Aside0.mk hF91; have hb91 := Aside0.mk hb91)
          | ((with_reducible refine gate_callee (f := 21) rfl ?_); (try (refine gate_guard (by rfl) ?_; dsimp only)); refine goesL_ (some 94) rfl rfl Try.func21 (by kernel_rfl) rfl #[.pointer none, .agg #[.slice A91 1 c91, .int .i64 0, .bool false, .slice none 0 0], .int .i64 1] rfl (by (try simp only [List.map_toArray, List.map_cons, List.map_nil]); first | done | rfl) ?_; refine (calls_of_args (by rfl) (put_nil A91 c91 (⟨[97], 0, false, []⟩ : S34) none 0 (Kd.F_now hF91.out) hl91.out (Kd.C_nil _ _) (Nat.le_refl _) 1)).mono ?_; rintro ex w10 ⟨rfl, hb10⟩; refine ⟨_, rfl, ?_⟩; have n_ := Aside0.mk hb10; clear hb10; have hb10 := n_; clear n_)
          | ((with_reducible refine gate_callee (f := 15) rfl ?_); (try (refine gate_guard (by rfl) ?_; dsimp only)); refine goesL_ (some 99) rfl rfl Try.func15 (by kernel_rfl) rfl #[.pointer none] rfl (by (try simp only [List.map_toArray, List.map_cons, List.map_nil]); first | done | rfl) ?_; refine (count_nil w10).mono ?_; rintro ex w11 ⟨rfl, hb11⟩; refine ⟨_, rfl, ?_⟩; have n_ := Aside0.mk hb11; clear hb11; have hb11 := n_; clear n_)
          | ((with_reducible refine gate_callee (f := 16) rfl ?_); (try (refine gate_guard (by rfl) ?_; dsimp only)); refine goesL_ (some 101) rfl rfl Try.func16 (by kernel_rfl) rfl #[.pointer none] rfl (by (try simp only [List.map_toArray, List.map_cons, List.map_nil]); first | done | rfl) ?_; refine (size_nil w11).mono ?_; rintro ex w12 ⟨rfl, hb12⟩; refine ⟨_, rfl, ?_⟩; have n_ := Aside0.mk hb12; clear hb12; have hb12 := n_; clear n_)
          | ((with_reducible refine gate_callee (f := 19) rfl ?_); (try (refine gate_guard (by rfl) ?_; dsimp only)); refine goesL_ (some 104) rfl rfl Try.func19 (by kernel_rfl) rfl #[.pointer none] rfl (by (try simp only [List.map_toArray, List.map_cons, List.map_nil]); first | done | rfl) ?_; refine (all_nil w12).mono ?_; rintro ex w13 ⟨rfl, hb13⟩; refine ⟨_, rfl, ?_⟩; have n_ := Aside0.mk hb13; clear hb13; have hb13 := n_; clear n_)
          | ((with_reducible refine gate_callee (f := 22) rfl ?_); (try (refine gate_guard (by rfl) ?_; dsimp only)); refine goesL_ (some 108) rfl rfl Try.func22 (by kernel_rfl) rfl #[.pointer none, .slice none 0 0, .slice none 0 0, .int .i64 9] rfl (by (try simp only [List.map_toArray, List.map_cons, List.map_nil]); first | done | rfl) ?_; refine (scan_nil w13 none 0 0 none 0 0 9).mono ?_; rintro ex w14 ⟨rfl, hb14⟩; refine ⟨_, rfl, ?_⟩; have n_ := Aside0.mk hb14; clear hb14; have hb14 := n_; clear n_)
          | ((with_reducible refine gate_callee (f := 23) rfl ?_); (try (refine gate_guard (by rfl) ?_; dsimp only)); refine goesL_ (some 112) rfl rfl Try.func23 (by kernel_rfl) rfl #[.pointer none, .int .i64 1] rfl (by (try simp only [List.map_toArray, List.map_cons, List.map_nil]); first | done | rfl) ?_; refine (level_nil w14 1).mono ?_; rintro ex w15 ⟨rfl, hb15⟩; refine ⟨_, rfl, ?_⟩; have n_ := Aside0.mk hb15; clear hb15; have hb15 := n_; clear n_))
        go_ret
        exact ⟨rfl, (hb1.out.trans (below_weakB hb1.out.size HB.out)).trans (below_weakB (Nat.le_trans hb1.out.size HB.out.size) (below_step hb82.out (below_step hb6.out (below_step B78.out (below_step hb91.out (below_step hb10.out (below_step hb11.out (below_step hb12.out (below_step hb13.out (below_step hb14.out hb15.out))))))))))⟩
    | succ k1 =>
      have hnl : n < l.length := by have h1 := HK.out; omega
      have HN := Aside0.mk (show n < 100 by have h1 := HK.out; omega)
      have hlt : (n < l.length) = True := eq_true hnl
      have h60 : (n : Int) < 100 := by have := HN.out; omega
      have HW := Aside0.mk (show wrap64 ((n : Int) + 1) = ((n + 1 : Nat) : Int) by rw [wrap_in (by omega) (by omega)]; rfl)
      obtain ⟨o, ho⟩ : ∃ o, l[n]? = some o := ⟨_, List.getElem?_eq_getElem hnl⟩
      obtain ⟨ad, A0, c0, A3, c3, A4, c4, hA, hd0, hd1, hd2, hd3, hd4, hd5, hd6, hd7, hl0, hF0, hl3, hF3, hl4, hF4⟩ := at_Op2 (Kd.C_below HR.out hb1.out) HB.out n o ho
      subst hA
      have HL0 := Aside0.mk hl0
      have HF0 := Aside0.mk hF0
      have HL3 := Aside0.mk hl3
      have HF3 := Aside0.mk hF3
      have HL4 := Aside0.mk hl4
      have HF4 := Aside0.mk hF4
      have HGO := Aside0.mk (HG.out o (List.mem_of_getElem? ho))
      have HO := Aside0.mk ho
      clear hl0 hF0 hl3 hF3 hl4 hF4 ho
      have HADL := Aside0.mk (op_block (Kd.C_below HR.out hb1.out) rfl n o HO.out)
      clear hnl
      go_wp2
      refine s_ 50 [] (fun w' => w'.cell? (ad.add (n * 8)) = some (.int .i64 o.what) ∧ w'.cell? ⟨(ad.add (n * 8)).block, (ad.add (n * 8)).off + 1, none⟩ = some (.int .i64 o.h) ∧ w'.cell? ⟨(ad.add (n * 8)).block, (ad.add (n * 8)).off + 2, none⟩ = some (.int .i64 o.n) ∧ w'.cell? ⟨(ad.add (n * 8)).block, (ad.add (n * 8)).off + 3, none⟩ = some (.slice A0 o.e.f0.length c0) ∧ w'.cell? ⟨(ad.add (n * 8)).block, (ad.add (n * 8)).off + 4, none⟩ = some (.int .i64 o.e.f1) ∧ w'.cell? ⟨(ad.add (n * 8)).block, (ad.add (n * 8)).off + 5, none⟩ = some (.bool o.e.f2) ∧ w'.cell? ⟨(ad.add (n * 8)).block, (ad.add (n * 8)).off + 6, none⟩ = some (.slice A3 o.e.f3.length c3) ∧ w'.cell? ⟨(ad.add (n * 8)).block, (ad.add (n * 8)).off + 7, none⟩ = some (.slice A4 o.hi.length c4)) (hS := ⟨(show wr.drew.cell? _ = _ from hd0), (show wr.drew.cell? _ = _ from hd1), (show wr.drew.cell? _ = _ from hd2), (show wr.drew.cell? _ = _ from hd3), (show wr.drew.cell? _ = _ from hd4), (show wr.drew.cell? _ = _ from hd5), (show wr.drew.cell? _ = _ from hd6), (show wr.drew.cell? _ = _ from hd7)⟩) (h := fun hHeld => ?_)
      refine p_ 0 30 (bb 50 1) (h := ?_)
      refine p_ 1 31 (bb 50 3) (h := ?_)
      refine p_ 2 32 (bb 50 7) (h := ?_)
      refine p_ 3 33 (bb 50 15) (h := ?_)
      refine p_ 4 34 (bb 50 31) (h := ?_)
      refine t_ 5 35 (bb 50 63) hHeld (h := ?_)
      refine n_ 6 36 (bb 50 127) (h := fun K hK => ?_)
      refine goes_ Try.func12 (by kernel_rfl) rfl #[.pointer (some ⟨g, 0, none⟩), .pointer (some ⟨gr, 0, none⟩), .agg #[.int .i64 o.what, .int .i64 o.h, .int .i64 o.n, .slice A0 o.e.f0.length c0, .int .i64 o.e.f1, .bool o.e.f2, .slice A3 o.e.f3.length c3, .slice A4 o.hi.length c4]] (by rfl) rfl rfl (by (try simp only [List.map_toArray, List.map_cons, List.map_nil]); first | done | rfl) ?_
      refine (step_calls (HST.out.below (below_drew (Below.refl _ _))) (runT_fit HG.out n) (Nat.le_trans (runT_len HG.out n) (by have := HN.out; omega)) o A0 c0 A3 c3 A4 c4 (Kd.F_drew HF0.out) HL0.out (Kd.F_drew HF3.out) HL3.out (Kd.F_drew HF4.out) HL4.out HGO.out).mono ?_
      rintro ex w3 ⟨rfl, hs3, hb3⟩
      refine ⟨_, rfl, ?_⟩
      rw [← runT_succ HO.out] at hs3
      have hs3 := Aside0.mk hs3
      have hb3 := Aside0.mk hb3
      have HC3 := Aside0.mk (show w3.cell? (ad.add (n * 8)) = some (.int .i64 o.what) ∧ w3.cell? ⟨(ad.add (n * 8)).block, (ad.add (n * 8)).off + 1, none⟩ = some (.int .i64 o.h) ∧ w3.cell? ⟨(ad.add (n * 8)).block, (ad.add (n * 8)).off + 2, none⟩ = some (.int .i64 o.n) ∧ w3.cell? ⟨(ad.add (n * 8)).block, (ad.add (n * 8)).off + 3, none⟩ = some (.slice A0 o.e.f0.length c0) ∧ w3.cell? ⟨(ad.add (n * 8)).block, (ad.add (n * 8)).off + 4, none⟩ = some (.int .i64 o.e.f1) ∧ w3.cell? ⟨(ad.add (n * 8)).block, (ad.add (n * 8)).off + 5, none⟩ = some (.bool o.e.f2) ∧ w3.cell? ⟨(ad.add (n * 8)).block, (ad.add (n * 8)).off + 6, none⟩ = some (.slice A3 o.e.f3.length c3) ∧ w3.cell? ⟨(ad.add (n * 8)).block, (ad.add (n * 8)).off + 7, none⟩ = some (.slice A4 o.hi.length c4) from ⟨(cell_heap_lt hb3.out (by exact HADL.out) hHeld.1), (cell_heap_lt hb3.out (by exact HADL.out) hHeld.2.1), (cell_heap_lt hb3.out (by exact HADL.out) hHeld.2.2.1), (cell_heap_lt hb3.out (by exact HADL.out) hHeld.2.2.2.1), (cell_heap_lt hb3.out (by exact HADL.out) hHeld.2.2.2.2.1), (cell_heap_lt hb3.out (by exact HADL.out) hHeld.2.2.2.2.2.1), (cell_heap_lt hb3.out (by exact HADL.out) hHeld.2.2.2.2.2.2.1), (cell_heap_lt hb3.out (by exact HADL.out) hHeld.2.2.2.2.2.2.2)⟩)
      have B4 := Aside0.mk (HB.out.trans ((show Below w1.heap.size wr wr.drew from below_weakB HBS.out (below_drew (Below.refl _ _))).trans hb3.out))
      refine hK.out _ _ HC3.out (fun hHeld => ?_)
      clear hK K
      refine m_ 36 (h := ?_)
      obtain ⟨T1, hT1⟩ : ∃ T, T = runT (n + 1) l := ⟨_, rfl⟩
      rw [← hT1] at hs3
      have HT1 := Aside0.mk (hT1 ▸ runT_fit HG.out (n + 1))
      have HTL1 := Aside0.mk (hT1 ▸ runT_len HG.out (n + 1))
      have HTE := Aside0.mk hT1
      clear hT1
      obtain ⟨vL, hL0, hLN, hLB⟩ := hs3.out.rows
      obtain ⟨AL, cL, rfl⟩ := Kd.N_slice hLN
      rw [List.length_map] at hL0
      have HL0r := Aside0.mk hL0
      have HLN := Aside0.mk hLN
      clear hL0 hLN hLB
      have HF0b := Aside0.mk (Kd.F_step (Kd.F_drew HF0.out) (fun k hk _ => hb3.out.block k hk))
      have HF3b := Aside0.mk (Kd.F_step (Kd.F_drew HF3.out) (fun k hk _ => hb3.out.block k hk))
      obtain ⟨rc, hrc⟩ : ∃ rc : Int, (if okE o.e = true then (0 : Int) else 1) = rc := ⟨_, rfl⟩
      have HRC := Aside0.mk hrc
      clear hrc
      refine more_ (fun w' => w'.cell? ⟨gr, 0, none⟩ = some (.slice AL T1.length cL) ∧ w'.cell? (ad.add (n * 8)) = some (.int .i64 o.what) ∧ w'.cell? ⟨(ad.add (n * 8)).block, (ad.add (n * 8)).off + 1, none⟩ = some (.int .i64 o.h) ∧ w'.cell? ⟨(ad.add (n * 8)).block, (ad.add (n * 8)).off + 2, none⟩ = some (.int .i64 o.n) ∧ w'.cell? ⟨(ad.add (n * 8)).block, (ad.add (n * 8)).off + 3, none⟩ = some (.slice A0 o.e.f0.length c0) ∧ w'.cell? ⟨(ad.add (n * 8)).block, (ad.add (n * 8)).off + 4, none⟩ = some (.int .i64 o.e.f1) ∧ w'.cell? ⟨(ad.add (n * 8)).block, (ad.add (n * 8)).off + 5, none⟩ = some (.bool o.e.f2) ∧ w'.cell? ⟨(ad.add (n * 8)).block, (ad.add (n * 8)).off + 6, none⟩ = some (.slice A3 o.e.f3.length c3) ∧ w'.cell? ⟨(ad.add (n * 8)).block, (ad.add (n * 8)).off + 7, none⟩ = some (.slice A4 o.hi.length c4)) (fun _ h => h.2) ⟨HL0r.out, HC3.out⟩ ?_
      have hHeld := Aside0.mk (show w3.cell? ⟨gr, 0, none⟩ = some (.slice AL T1.length cL) ∧ w3.cell? (ad.add (n * 8)) = some (.int .i64 o.what) ∧ w3.cell? ⟨(ad.add (n * 8)).block, (ad.add (n * 8)).off + 1, none⟩ = some (.int .i64 o.h) ∧ w3.cell? ⟨(ad.add (n * 8)).block, (ad.add (n * 8)).off + 2, none⟩ = some (.int .i64 o.n) ∧ w3.cell? ⟨(ad.add (n * 8)).block, (ad.add (n * 8)).off + 3, none⟩ = some (.slice A0 o.e.f0.length c0) ∧ w3.cell? ⟨(ad.add (n * 8)).block, (ad.add (n * 8)).off + 4, none⟩ = some (.int .i64 o.e.f1) ∧ w3.cell? ⟨(ad.add (n * 8)).block, (ad.add (n * 8)).off + 5, none⟩ = some (.bool o.e.f2) ∧ w3.cell? ⟨(ad.add (n * 8)).block, (ad.add (n * 8)).off + 6, none⟩ = some (.slice A3 o.e.f3.length c3) ∧ w3.cell? ⟨(ad.add (n * 8)).block, (ad.add (n * 8)).off + 7, none⟩ = some (.slice A4 o.hi.length c4) from ⟨HL0r.out, HC3.out⟩)
      replace hHeld := hHeld.out
      refine p_ 7 37 (bb 50 255) (h := ?_)
      refine p_ 8 38 (bb 50 511) (h := ?_)
      refine p_ 9 39 (bb 50 1023) (h := ?_)
      refine p_ 10 40 (bb 50 2047) (h := ?_)
      refine p_ 11 41 (bb 50 4095) (h := ?_)
      refine p_ 12 42 (bb 50 8191) (h := ?_)
      refine t_ 13 43 (bb 50 16383) hHeld (h := ?_)
      refine p_ 15 45 (bb 50 49151) (h := ?_)
      refine p_ 16 46 (bb 50 114687) (h := ?_)
      refine p_ 17 47 (bb 50 245759) (h := ?_)
      refine p_ 18 48 (bb 50 507903) (h := ?_)
      refine t_ 19 49 (bb 50 1032191) hHeld (h := ?_)
      refine n_ 14 44 (bb 50 1048575) (h := fun K hK => ?_)
      refine goes_ Try.func13 (by kernel_rfl) rfl #[.agg #[.slice A0 o.e.f0.length c0, .int .i64 o.e.f1, .bool o.e.f2, .slice A3 o.e.f3.length c3]] (by rfl) rfl rfl (by (try simp only [List.map_toArray, List.map_cons, List.map_nil]); first | done | rfl) ?_
      refine (checkC (Kd.F_now HF0b.out) HL0.out (Kd.F_now HF3b.out) HL3.out).mono ?_
      rintro ex w4 ⟨rfl, hb4⟩
      refine ⟨_, rfl, ?_⟩
      rw [HRC.out]
      have hb4 := Aside0.mk hb4
      refine hK.out _ _ ⟨pw_cell_below hb4.out hHeld.1, pw_cell_below hb4.out hHeld.2.1, pw_cell_below hb4.out hHeld.2.2.1, pw_cell_below hb4.out hHeld.2.2.2.1, pw_cell_below hb4.out hHeld.2.2.2.2.1, pw_cell_below hb4.out hHeld.2.2.2.2.2.1, pw_cell_below hb4.out hHeld.2.2.2.2.2.2.1, pw_cell_below hb4.out hHeld.2.2.2.2.2.2.2.1, pw_cell_below hb4.out hHeld.2.2.2.2.2.2.2.2⟩ (fun hHeld => ?_)
      clear hK K
      refine m_ 44 (h := ?_)
      refine n_ 20 50 (bb 50 2097151) (h := fun K hK => ?_)
      refine goes_ Try.func14 (by kernel_rfl) rfl #[.agg #[.slice A0 o.e.f0.length c0, .int .i64 o.e.f1, .bool o.e.f2, .slice A3 o.e.f3.length c3]] (by rfl) rfl rfl (by (try simp only [List.map_toArray, List.map_cons, List.map_nil]); first | done | rfl) ?_
      refine (rcheckC (Kd.C_below (Kd.F_now HF0b.out) hb4.out) HL0.out (Kd.C_below (Kd.F_now HF3b.out) hb4.out) HL3.out).mono ?_
      rintro ex w5 ⟨rfl, hb5⟩
      refine ⟨_, rfl, ?_⟩
      rw [HRC.out]
      have hb5b := Aside0.mk hb5
      clear hb5
      have hb5 := Aside0.mk (below_step hb4.out hb5b.out)
      refine hK.out _ _ ⟨pw_cell_below hb5b.out hHeld.1, pw_cell_below hb5b.out hHeld.2.1, pw_cell_below hb5b.out hHeld.2.2.1, pw_cell_below hb5b.out hHeld.2.2.2.1, pw_cell_below hb5b.out hHeld.2.2.2.2.1, pw_cell_below hb5b.out hHeld.2.2.2.2.2.1, pw_cell_below hb5b.out hHeld.2.2.2.2.2.2.1, pw_cell_below hb5b.out hHeld.2.2.2.2.2.2.2.1, pw_cell_below hb5b.out hHeld.2.2.2.2.2.2.2.2⟩ (fun hHeld => ?_)
      clear hK K
      refine m_ 50 (h := ?_)
      refine p_ 21 51 (bb 50 4194303) (h := ?_)
      refine p_ 22 52 (bb 50 8388607) (h := ?_)
      refine p_ 23 53 (bb 50 16777215) (h := ?_)
      refine p_ 24 54 (bb 50 33554431) (h := ?_)
      refine p_ 26 56 (bb 50 100663295) (h := ?_)
      refine p_ 27 57 (bb 50 234881023) (h := ?_)
      refine p_ 28 58 (bb 50 503316479) (h := ?_)
      refine t_ 29 59 (bb 50 1040187391) hHeld (h := ?_)
      refine p_ 30 60 (bb 50 2113929215) (h := ?_)
      refine n_ 25 55 (bb 50 2147483647) (h := fun K hK => ?_)
      refine goes_ Try.func15 (by kernel_rfl) rfl #[.pointer (some ⟨g, 0, none⟩)] (by rfl) rfl rfl (by (try simp only [List.map_toArray, List.map_cons, List.map_nil]); first | done | rfl) ?_
      refine (s1_count ((hs3.out.one).below hb5.out)).mono ?_
      rintro ex w6 ⟨rfl, hb6b⟩
      refine ⟨_, rfl, ?_⟩
      have hb6b := Aside0.mk hb6b
      have hb6 := Aside0.mk (below_step hb5.out hb6b.out)
      refine hK.out _ _ ⟨pw_cell_below hb6b.out hHeld.1, pw_cell_below hb6b.out hHeld.2.1, pw_cell_below hb6b.out hHeld.2.2.1, pw_cell_below hb6b.out hHeld.2.2.2.1, pw_cell_below hb6b.out hHeld.2.2.2.2.1, pw_cell_below hb6b.out hHeld.2.2.2.2.2.1, pw_cell_below hb6b.out hHeld.2.2.2.2.2.2.1, pw_cell_below hb6b.out hHeld.2.2.2.2.2.2.2.1, pw_cell_below hb6b.out hHeld.2.2.2.2.2.2.2.2⟩ (fun hHeld => ?_)
      clear hK K
      refine m_ 55 (h := ?_)
      refine p_ 31 61 (bb 50 4294967295) (h := ?_)
      refine p_ 32 62 (bb 50 8589934591) (h := ?_)
      refine p_ 33 63 (bb 50 17179869183) (h := ?_)
      refine p_ 34 64 (bb 50 34359738367) (h := ?_)
      refine p_ 36 66 (bb 50 103079215103) (h := ?_)
      refine n_ 35 65 (bb 50 137438953471) (h := fun K hK => ?_)
      refine goes_ Try.func16 (by kernel_rfl) rfl #[.pointer (some ⟨g, 0, none⟩)] (by rfl) rfl rfl (by (try simp only [List.map_toArray, List.map_cons, List.map_nil]); first | done | rfl) ?_
      refine (s1_size ((hs3.out.one).below hb6.out)).mono ?_
      rintro ex w7 ⟨rfl, hb7b⟩
      refine ⟨_, rfl, ?_⟩
      have hb7b := Aside0.mk hb7b
      have hb7 := Aside0.mk (below_step hb6.out hb7b.out)
      refine hK.out _ _ ⟨pw_cell_below hb7b.out hHeld.1, pw_cell_below hb7b.out hHeld.2.1, pw_cell_below hb7b.out hHeld.2.2.1, pw_cell_below hb7b.out hHeld.2.2.2.1, pw_cell_below hb7b.out hHeld.2.2.2.2.1, pw_cell_below hb7b.out hHeld.2.2.2.2.2.1, pw_cell_below hb7b.out hHeld.2.2.2.2.2.2.1, pw_cell_below hb7b.out hHeld.2.2.2.2.2.2.2.1, pw_cell_below hb7b.out hHeld.2.2.2.2.2.2.2.2⟩ (fun hHeld => ?_)
      clear hK K
      refine m_ 65 (h := ?_)
      refine n_ 37 67 (bb 50 274877906943) (h := fun K hK => ?_)
      refine goes_ Try.func17 (by kernel_rfl) rfl #[.pointer (some ⟨gr, 0, none⟩)] (by rfl) rfl rfl (by (try simp only [List.map_toArray, List.map_cons, List.map_nil]); first | done | rfl) ?_
      refine (st_rsize (hs3.out.below hb7.out) HT1.out (by have := HTL1.out; have := HN.out; omega)).mono ?_
      rintro ex w8 ⟨rfl, hb8b⟩
      refine ⟨_, rfl, ?_⟩
      have hb8b := Aside0.mk hb8b
      have hb8 := Aside0.mk (below_step hb7.out hb8b.out)
      refine hK.out _ _ ⟨pw_cell_below hb8b.out hHeld.1, pw_cell_below hb8b.out hHeld.2.1, pw_cell_below hb8b.out hHeld.2.2.1, pw_cell_below hb8b.out hHeld.2.2.2.1, pw_cell_below hb8b.out hHeld.2.2.2.2.1, pw_cell_below hb8b.out hHeld.2.2.2.2.2.1, pw_cell_below hb8b.out hHeld.2.2.2.2.2.2.1, pw_cell_below hb8b.out hHeld.2.2.2.2.2.2.2.1, pw_cell_below hb8b.out hHeld.2.2.2.2.2.2.2.2⟩ (fun hHeld => ?_)
      clear hK K
      refine m_ 67 (h := ?_)
      refine p_ 38 68 (bb 50 549755813887) (h := ?_)
      refine p_ 39 69 (bb 50 1099511627775) (h := ?_)
      refine p_ 40 70 (bb 50 2199023255551) (h := ?_)
      refine p_ 41 71 (bb 50 4398046511103) (h := ?_)
      refine p_ 43 73 (bb 50 13194139533311) (h := ?_)
      refine p_ 44 74 (bb 50 30786325577727) (h := ?_)
      refine p_ 45 75 (bb 50 65970697666559) (h := ?_)
      refine t_ 46 76 (bb 50 136339441844223) hHeld (h := ?_)
      refine n_ 42 72 (bb 50 140737488355327) (h := fun K hK => ?_)
      refine goes_ Try.func19 (by kernel_rfl) rfl #[.pointer (some ⟨g, 0, none⟩)] (by rfl) rfl rfl (by (try simp only [List.map_toArray, List.map_cons, List.map_nil]); first | done | rfl) ?_
      refine (s1_all ((hs3.out.one).below hb8.out) HT1.out (by have := HTL1.out; have := HN.out; omega)).mono ?_
      rintro ex w9 ⟨v9, rfl, hn9, hb9b⟩
      refine ⟨_, rfl, ?_⟩
      obtain ⟨A9, c9, rfl⟩ := Kd.N_slice hn9
      rw [List.length_map]
      have hn9 := Aside0.mk hn9
      have hb9b := Aside0.mk hb9b
      have hb9 := Aside0.mk (below_step hb8.out hb9b.out)
      refine hK.out _ _ ⟨pw_cell_below hb9b.out hHeld.1, pw_cell_below hb9b.out hHeld.2.1, pw_cell_below hb9b.out hHeld.2.2.1, pw_cell_below hb9b.out hHeld.2.2.2.1, pw_cell_below hb9b.out hHeld.2.2.2.2.1, pw_cell_below hb9b.out hHeld.2.2.2.2.2.1, pw_cell_below hb9b.out hHeld.2.2.2.2.2.2.1, pw_cell_below hb9b.out hHeld.2.2.2.2.2.2.2.1, pw_cell_below hb9b.out hHeld.2.2.2.2.2.2.2.2⟩ (fun hHeld => ?_)
      clear hK K
      refine m_ 72 (h := ?_)
      refine n_ 47 77 (bb 50 281474976710655) (h := fun K hK => ?_)
      refine goes_ Try.func18 (by kernel_rfl) rfl #[.slice A9 T1.length c9, .slice AL T1.length cL] (by rfl) rfl rfl (by (try simp only [List.map_toArray, List.map_cons, List.map_nil]); first | done | rfl) ?_
      refine (calls_of_args (by rw [List.length_map]) (sameC HT1.out.good (by rw [List.length_map]; have := HTL1.out; have := HN.out; omega) (Kd.N_reads' hn9.out).2.2 (Kd.N_reads' hn9.out).2.1 (Kd.C_below (Kd.N_reads' HLN.out).2.2 hb9.out) (Kd.N_reads' HLN.out).2.1)).mono ?_
      rintro ex w10 ⟨rfl, hb10b⟩
      refine ⟨_, rfl, ?_⟩
      have hb10b := Aside0.mk hb10b
      have hb10 := Aside0.mk (below_step hb9.out hb10b.out)
      refine hK.out _ _ ⟨pw_cell_below hb10b.out hHeld.1, pw_cell_below hb10b.out hHeld.2.1, pw_cell_below hb10b.out hHeld.2.2.1, pw_cell_below hb10b.out hHeld.2.2.2.1, pw_cell_below hb10b.out hHeld.2.2.2.2.1, pw_cell_below hb10b.out hHeld.2.2.2.2.2.1, pw_cell_below hb10b.out hHeld.2.2.2.2.2.2.1, pw_cell_below hb10b.out hHeld.2.2.2.2.2.2.2.1, pw_cell_below hb10b.out hHeld.2.2.2.2.2.2.2.2⟩ (fun hHeld => ?_)
      clear hK K
      refine m_ 77 (h := ?_)
      refine p_ 48 78 (bb 50 562949953421311) (h := ?_)
      refine p_ 49 79 (bb 50 1125899906842623) (h := ?_)
      refine d_ (h := ?_)

      clear hHeld
      go_wp2
      go_roundg k1
      case measure => exact Nat.lt_succ_self _
      case rel => exact ⟨n + 1, by first | rfl | rw [HW.out], ⟨by have h1 := HK.out; omega⟩, ⟨HTE.out ▸ hs3.out.below hb10.out⟩, ⟨B4.out.trans (below_weakB (Nat.le_trans HBS.out (show wr.heap.size ≤ w3.heap.size from hb3.out.size)) hb10.out)⟩⟩
end Go.Proofs.Ytjlkcidohabcfaa.Sk
