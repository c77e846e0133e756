/- One list alone: what its operations return. Conditions: those of each theorem. -/
import Derived.Test.YtjlkcidohabcfaaPx4
import Derived.Test.YtjlkcidohabcfaaPx5
import Derived.Test.YtjlkcidohabcfaaPx13
import Derived.Test.YtjlkcidohabcfaaPx20
import Derived.Test.YtjlkcidohabcfaaPx21
import Derived.Test.YtjlkcidohabcfaaPx22
import Derived.Test.YtjlkcidohabcfaaPx23
import Derived.Test.YtjlkcidohabcfaaPx24
import Derived.Test.YtjlkcidohabcfaaPx25
import Derived.Test.YtjlkcidohabcfaaPx27
import Derived.Test.YtjlkcidohabcfaaPx29
import Derived.Test.YtjlkcidohabcfaaH0
import Derived.Test.YtjlkcidohabcfaaHp
import Derived.Test.YtjlkcidohabcfaaHq
import Derived.Test.YtjlkcidohabcfaaHr
import Derived.Test.YtjlkcidohabcfaaHu
import Derived.Test.YtjlkcidohabcfaaHv
import Derived.Test.YtjlkcidohabcfaaHh
import Derived.Test.YtjlkcidohabcfaaHi
import Derived.Test.YtjlkcidohabcfaaHk
import Derived.Test.YtjlkcidohabcfaaHy
import Derived.Test.YtjlkcidohabcfaaHj
import Derived.Test.YtjlkcidohabcfaaHl
import Derived.Test.YtjlkcidohabcfaaHaa
import Derived.Test.YtjlkcidohabcfaaHab
namespace Go.Proofs.Ytjlkcidohabcfaa.Sk
open Go.RowKit Go.Proofs.YtjlkcidohabcfaaW.PrintWords Go.Proofs.YtjlkcidohabcfaaW.PrintLast Go.Proofs.YtjlkcidohabcfaaW.PrintMore Go.Proofs.Ytjlkcidohabcfaa.Px
set_option linter.unusedVariables false
set_option linter.unusedSimpArgs false

open Go.Proofs.Ytjlkcidohabcfaa.Sw
/-- One list in memory. -/
def S1 (w : World) (base g : Nat) (T : List Tw) : Prop := ∃ D : Nat → Prop, SL w base D g T ∧ ∀ k, D k → k < w.heap.size
theorem St.one {w : World} {base g gr : Nat} {T R : List Tw} (h : St w base g gr T R) : S1 w base g T := by
  obtain ⟨D, _, h1, _, h3, _⟩ := h
  exact ⟨D, h1, h3⟩
theorem S1.below {w w1 : World} {base g : Nat} {T : List Tw} (h : S1 w base g T) (hb : Below w.heap.size w w1) : S1 w1 base g T := by
  obtain ⟨D, h1, h3⟩ := h
  exact ⟨D, h1.below hb, fun k hk => Nat.lt_of_lt_of_le (h3 k hk) hb.size⟩
theorem S1.base_le {w : World} {base g : Nat} {T : List Tw} (h : S1 w base g T) : base ≤ w.heap.size := by
  obtain ⟨D, h1, _⟩ := h
  have := h1.base_le
  omega
theorem s1_new (w : World) : Calls Try.prog 11 #[] w fun ex w' => ∃ g, ex = .returned (.pointer (some ⟨g, 0, none⟩)) ∧ S1 w' w.heap.size g [] ∧ Below w.heap.size w w' :=
  (new_calls w).mono (by
    rintro ex w' ⟨rfl, hs, hb, hlt⟩
    exact ⟨w.heap.size, rfl, ⟨fun k => w.heap.size ≤ k ∧ k < w'.heap.size, ⟨fun _ => False, [], fun _ _ => none, hs, rfl, fun k hk => hk.elim, fun b hb2 => by simp at hb2; subst hb2; exact ⟨Nat.le_refl _, hlt⟩, fun k hk => hk.1⟩, fun k hk => hk.2⟩, hb⟩)
theorem s1_put {w : World} {base g : Nat} {T : List Tw} (h : S1 w base g T) (hT : FitT T) (hlen : T.length ≤ 1000000) (A0 : Option Addr) (c0 : Nat) (e : S34) (A3 : Option Addr) (c3 : Nat) (hr0 : Kd.C (Kd.int .u8) w A0 e.f0.length e.f0) (hc0 : e.f0.length ≤ c0) (hr3 : Kd.C (Kd.int .u8) w A3 e.f3.length e.f3) (hc3 : e.f3.length ≤ c3) (hgd : Sw.Good e) (height : Int) :
    Calls Try.prog 21 #[.pointer (some ⟨g, 0, none⟩), .agg #[.slice A0 e.f0.length c0, .int .i64 e.f1, .bool e.f2, .slice A3 e.f3.length c3], .int .i64 height] w fun ex w' => ex = .returned (.int .i64 (if putOk T e height = true then 0 else 1)) ∧ S1 w' base g (putT T e height) ∧ Below base w w' := by
  obtain ⟨D, h1, h3⟩ := h
  refine (put_calls h1 hT hlen A0 c0 e A3 c3 hr0 hc0 hr3 hc3 hgd height).mono ?_
  rintro ex w' ⟨rfl, D1, p1, p2, p3, p4⟩
  have hb := h1.base_le
  obtain ⟨K, N, nx, _, _, _, _, hDb⟩ := h1
  exact ⟨rfl, ⟨D1, p1, p3⟩, p4.to_below hDb (by omega)⟩
section
variable {w : World} {base g : Nat} {T : List Tw} (h : S1 w base g T)
include h
theorem s1_get (hT : FitT T) (A1 : Option Addr) (c1 : Nat) (kk : List Int) (sq : Int) (hr1 : Kd.C (Kd.int .u8) w A1 kk.length kk) (hc1 : kk.length ≤ c1) (hk : Byts kk) :
    Calls Try.prog 20 #[.pointer (some ⟨g, 0, none⟩), .slice A1 kk.length c1, .int .i64 sq] w fun ex w' => ∃ v0 v3, ex = .returned (.tuple #[.agg #[v0, .int .i64 (getN T kk sq).1.f1, .bool (getN T kk sq).1.f2, v3], .bool (getN T kk sq).2]) ∧ EntV w' w.heap.size v0 v3 (getN T kk sq).1 ∧ Below w.heap.size w w' := by
  obtain ⟨D, ⟨K, N, nx, hS, hN, _⟩, _⟩ := h
  subst hN
  exact get_calls hS hT A1 c1 kk sq hr1 hc1 hk
theorem s1_scan (hT : FitT T) (hlen : T.length ≤ 1000000) (A1 : Option Addr) (c1 : Nat) (kk : List Int) (A2 : Option Addr) (c2 : Nat) (k2 : List Int) (sq : Int) (hr1 : Kd.C (Kd.int .u8) w A1 kk.length kk) (hc1 : kk.length ≤ c1) (hk : Byts kk) (hr2 : Kd.C (Kd.int .u8) w A2 k2.length k2) (hc2 : k2.length ≤ c2) (hk2 : Byts k2) :
    Calls Try.prog 22 #[.pointer (some ⟨g, 0, none⟩), .slice A1 kk.length c1, .slice A2 k2.length c2, .int .i64 sq] w fun ex w' => ∃ v, ex = .returned v ∧ Kd.N k34 34 w' w.heap.size (fun k => w.heap.size ≤ k) v (scanT T kk k2 sq) ∧ Below w.heap.size w w' := by
  obtain ⟨D, ⟨K, N, nx, hS, hN, _⟩, _⟩ := h
  subst hN
  exact scan_calls hS hT (by rw [List.length_map] at hlen; exact hlen) A1 c1 kk A2 c2 k2 sq hr1 hc1 hk hr2 hc2 hk2
theorem s1_level (hT : FitT T) (hlen : T.length ≤ 1000000) (height : Int) (hh : height ≤ 9223372036854775807) :
    Calls Try.prog 23 #[.pointer (some ⟨g, 0, none⟩), .int .i64 height] w fun ex w' => ∃ v, ex = .returned v ∧ Kd.N k34 34 w' w.heap.size (fun k => w.heap.size ≤ k) v (levT T height) ∧ Below w.heap.size w w' := by
  obtain ⟨D, ⟨K, N, nx, hS, hN, _⟩, _⟩ := h
  subst hN
  exact level_calls hS hT (by rw [List.length_map] at hlen; exact hlen) height hh
theorem s1_all (hT : FitT T) (hlen : T.length ≤ 1000000) :
    Calls Try.prog 19 #[.pointer (some ⟨g, 0, none⟩)] w fun ex w' => ∃ v, ex = .returned v ∧ Kd.N k34 34 w' w.heap.size (fun k => w.heap.size ≤ k) v (T.map (fun t => t.e)) ∧ Below w.heap.size w w' := by
  obtain ⟨D, ⟨K, N, nx, hS, hN, _⟩, _⟩ := h
  subst hN
  exact all_calls hS hT (by rw [List.length_map] at hlen; exact hlen)
theorem s1_count : Calls Try.prog 15 #[.pointer (some ⟨g, 0, none⟩)] w fun ex w' => ex = .returned (.int .i64 (T.length : Int)) ∧ Below w.heap.size w w' := by
  obtain ⟨D, ⟨K, N, nx, hS, hN, _⟩, _⟩ := h
  exact count_calls hS
theorem s1_size : Calls Try.prog 16 #[.pointer (some ⟨g, 0, none⟩)] w fun ex w' => ex = .returned (.int .i64 (sizeT T)) ∧ Below w.heap.size w w' := by
  obtain ⟨D, ⟨K, N, nx, hS, hN, _⟩, _⟩ := h
  exact size_calls hS
end

def aw1 : S34 := ⟨[97], 3, false, []⟩
def aw2 : S34 := ⟨[97], 5, true, []⟩
def aw3 : S34 := ⟨[98], 4, false, []⟩
def awT1 : List Tw := [⟨aw1, 1⟩]
def awT2 : List Tw := [⟨aw2, 3⟩, ⟨aw1, 1⟩]
def awT3 : List Tw := [⟨aw2, 3⟩, ⟨aw1, 1⟩, ⟨aw3, 2⟩]
theorem good1 {l : List Int} (h : l = [97] ∨ l = [98]) : Byts l := by
  intro x hx
  rcases h with rfl | rfl <;> (simp at hx; omega)
theorem awg1 : Sw.Good aw1 := ⟨good1 (.inl rfl), Byts.nil⟩
theorem awg2 : Sw.Good aw2 := ⟨good1 (.inl rfl), Byts.nil⟩
theorem awg3 : Sw.Good aw3 := ⟨good1 (.inr rfl), Byts.nil⟩
theorem awp1 : putOk [] aw1 1 = true ∧ putT [] aw1 1 = awT1 := ⟨by decide, rfl⟩
theorem awp2 : putOk awT1 aw2 3 = true ∧ putT awT1 aw2 3 = awT2 := ⟨by decide, rfl⟩
theorem awp3 : putOk awT2 aw3 2 = true ∧ putT awT2 aw3 2 = awT3 := ⟨by decide, rfl⟩
theorem awf1 : FitT awT1 := awp1.2 ▸ FitT.nil.put awg1
theorem awf2 : FitT awT2 := awp2.2 ▸ awf1.put awg2
theorem awf3 : FitT awT3 := awp3.2 ▸ awf2.put awg3
theorem awget4 : getN awT3 [97] 4 = (aw1, true) := rfl
theorem awget2 : getN awT3 [97] 2 = (z34, false) := rfl
theorem awscan : scanT awT3 [] [] 4 = [aw1, aw3] := rfl
theorem awsize : sizeT awT3 = 27 := rfl

theorem n_lit {W : World} {base : Nat} {ok : Nat → Prop} {v : Value} {xs : List S34} (h : Kd.N k34 34 W base ok v xs) (hp : 0 < xs.length) : ∃ g c, v = .slice (some ⟨g, 0, none⟩) xs.length c ∧ base ≤ g := by
  obtain ⟨g, c, he, hb, _⟩ := Kd.N_form h hp
  exact ⟨g, c, he, hb⟩
theorem n_cell {W : World} {base g n c : Nat} {ok : Nat → Prop} {xs : List S34} (h : Kd.N k34 34 W base ok (.slice (some ⟨g, 0, none⟩) n c) xs) (i : Nat) (e : S34) (he : xs[i]? = some e) (j : Nat) (u : Value) (hu : (if j = 1 then Value.int .i64 e.f1 else .bool e.f2) = u) (hj : j = 1 ∨ j = 2 := by decide) : W.cell? ⟨g, i * 4 + j, none⟩ = some u := by
  obtain ⟨A0, c0, A3, c3, h0, h1, h2, h3, _⟩ := at_N34 h i e he
  simp only [add_at, Nat.zero_add] at h1 h2
  rcases hj with rfl | rfl
  · rw [if_pos rfl] at hu
    rw [← hu]
    exact h1
  · rw [if_neg (by decide)] at hu
    rw [← hu]
    exact h2
set_option maxHeartbeats 4000000 in
set_option maxRecDepth 100000 in
theorem awake_calls (w : World) : Calls Try.prog 10 #[] w fun ex w' => ex = .returned (.bool true) ∧ Below w.heap.size w w' := by
  have hu34 := Try.underlying34
  have hi34 := info34
  have kc32 := fun (w : World) (C : Array Value) (n c : Nat) => Lib.run_convert_bytes_const (P := Try.prog) w 32 5 C n c Try.underlying32 Try.underlying5
  have kd32 := fun (w : World) (m : Nat) (C : Array Value) (n c : Nat) => run_convert_const_drewN (P := Try.prog) w m 32 5 C n c Try.underlying32 Try.underlying5
  go_enter Try.func10, Try.ntmps10
  go_wp2_with (first
    | ((with_reducible refine gate_callee (f := 11) rfl ?_); (try (refine gate_guard (by rfl) ?_; dsimp only)); refine goesL_ (some 11) rfl rfl Try.func11 (by kernel_rfl) rfl #[] rfl (by (try simp only [List.map_toArray, List.map_cons, List.map_nil]); first | done | rfl) ?_; refine (s1_new w).mono ?_; rintro ex w1 ⟨g, rfl, hs1, hb1⟩; refine ⟨_, rfl, ?_⟩; have n_ := Aside0.mk hs1; clear hs1; have hs1 := n_; clear n_; have n_ := Aside0.mk hb1; clear hb1; have hb1 := n_; clear n_)
    | ((with_reducible refine gate_dst (N := 15) rfl ?_); (try (refine gate_guard (by rfl) ?_; dsimp only)); refine Kd.V_const _ 5 32 ?hg (N := 15) (N2 := 16) ?hd ?hd2 ([97] : List Int) (ok := fun _ => True) ?hl1 ?hl2 ?hr ?hw2 ?hr2 (fun _ _ => trivial) (Below.refl _ _) (Nat.le_refl _) ?_; (case hd => rfl); (case hd2 => rfl); (case hg => rfl); (case hl1 => decide); (case hl2 => decide); (case hw2 => intro _; rfl); (case hr => first | (go_simp; done) | (go_simp; rfl)); (case hr2 => first | (go_simp; done) | (go_simp; rfl)); intro v15 w15 hv15 hb15 hg15 hat15; clear hg15 hat15; obtain ⟨A15, c15, rfl, hl15, hF15⟩ := hv15; have hl15 := Aside0.mk hl15; have hF15 := Aside0.mk hF15; have hb15 := Aside0.mk hb15)
    | ((with_reducible refine gate_callee (f := 21) rfl ?_); (try (refine gate_guard (by rfl) ?_; dsimp only)); refine goesL_ (some 18) rfl rfl Try.func21 (by kernel_rfl) rfl #[.pointer (some ⟨g, 0, none⟩), .agg #[.slice A15 1 c15, .int .i64 3, .bool false, .slice none 0 0], .int .i64 1] rfl (by (try simp only [List.map_toArray, List.map_cons, List.map_nil]); first | done | rfl) ?_; refine (calls_of_args (by rfl) (s1_put (hs1.out.below hb15.out) FitT.nil (by decide) A15 c15 aw1 none 0 (Kd.F_now hF15.out) hl15.out (Kd.C_nil _ _) (Nat.le_refl _) awg1 1)).mono ?_; rintro ex w18 ⟨rfl, hs18, hq18⟩; refine ⟨_, rfl, ?_⟩; rw [awp1.2] at hs18; rw [awp1.1, if_pos rfl]; have n_ := Aside0.mk hs18; clear hs18; have hs18 := n_; clear n_; have n_ := Aside0.mk hq18; clear hq18; have hq18 := n_; clear n_)
    | ((with_reducible refine gate_dst (N := 20) rfl ?_); (try (refine gate_guard (by rfl) ?_; dsimp only)); refine Kd.V_const _ 5 32 ?hg (N := 20) (N2 := 21) ?hd ?hd2 ([97] : List Int) (ok := fun _ => True) ?hl1 ?hl2 ?hr ?hw2 ?hr2 (fun _ _ => trivial) (Below.refl _ _) (Nat.le_refl _) ?_; (case hd => rfl); (case hd2 => rfl); (case hg => rfl); (case hl1 => decide); (case hl2 => decide); (case hw2 => intro _; rfl); (case hr => first | (go_simp; done) | (go_simp; rfl)); (case hr2 => first | (go_simp; done) | (go_simp; rfl)); intro v20 w20 hv20 hb20 hg20 hat20; clear hg20 hat20; obtain ⟨A20, c20, rfl, hl20, hF20⟩ := hv20; have hl20 := Aside0.mk hl20; have hF20 := Aside0.mk hF20; have hb20 := Aside0.mk hb20)
    | ((with_reducible refine gate_callee (f := 21) rfl ?_); (try (refine gate_guard (by rfl) ?_; dsimp only)); refine goesL_ (some 23) rfl rfl Try.func21 (by kernel_rfl) rfl #[.pointer (some ⟨g, 0, none⟩), .agg #[.slice A20 1 c20, .int .i64 5, .bool true, .slice none 0 0], .int .i64 3] rfl (by (try simp only [List.map_toArray, List.map_cons, List.map_nil]); first | done | rfl) ?_; refine (calls_of_args (by rfl) (s1_put (hs18.out.below hb20.out) awf1 (by decide) A20 c20 aw2 none 0 (Kd.F_now hF20.out) hl20.out (Kd.C_nil _ _) (Nat.le_refl _) awg2 3)).mono ?_; rintro ex w23 ⟨rfl, hs23, hq23⟩; refine ⟨_, rfl, ?_⟩; rw [awp2.2] at hs23; rw [awp2.1, if_pos rfl]; have n_ := Aside0.mk hs23; clear hs23; have hs23 := n_; clear n_; have n_ := Aside0.mk hq23; clear hq23; have hq23 := n_; clear n_)
    | ((with_reducible refine gate_dst (N := 25) rfl ?_); (try (refine gate_guard (by rfl) ?_; dsimp only)); refine Kd.V_const _ 5 32 ?hg (N := 25) (N2 := 26) ?hd ?hd2 ([98] : List Int) (ok := fun _ => True) ?hl1 ?hl2 ?hr ?hw2 ?hr2 (fun _ _ => trivial) (Below.refl _ _) (Nat.le_refl _) ?_; (case hd => rfl); (case hd2 => rfl); (case hg => rfl); (case hl1 => decide); (case hl2 => decide); (case hw2 => intro _; rfl); (case hr => first | (go_simp; done) | (go_simp; rfl)); (case hr2 => first | (go_simp; done) | (go_simp; rfl)); intro v25 w25 hv25 hb25 hg25 hat25; clear hg25 hat25; obtain ⟨A25, c25, rfl, hl25, hF25⟩ := hv25; have hl25 := Aside0.mk hl25; have hF25 := Aside0.mk hF25; have hb25 := Aside0.mk hb25)
    | ((with_reducible refine gate_callee (f := 21) rfl ?_); (try (refine gate_guard (by rfl) ?_; dsimp only)); refine goesL_ (some 28) rfl rfl Try.func21 (by kernel_rfl) rfl #[.pointer (some ⟨g, 0, none⟩), .agg #[.slice A25 1 c25, .int .i64 4, .bool false, .slice none 0 0], .int .i64 2] rfl (by (try simp only [List.map_toArray, List.map_cons, List.map_nil]); first | done | rfl) ?_; refine (calls_of_args (by rfl) (s1_put (hs23.out.below hb25.out) awf2 (by decide) A25 c25 aw3 none 0 (Kd.F_now hF25.out) hl25.out (Kd.C_nil _ _) (Nat.le_refl _) awg3 2)).mono ?_; rintro ex w28 ⟨rfl, hs28, hq28⟩; refine ⟨_, rfl, ?_⟩; rw [awp3.2] at hs28; rw [awp3.1, if_pos rfl]; have n_ := Aside0.mk hs28; clear hs28; have hs28 := n_; clear n_; have n_ := Aside0.mk hq28; clear hq28; have hq28 := n_; clear n_)
    | ((with_reducible refine gate_callee (f := 19) rfl ?_); (try (refine gate_guard (by rfl) ?_; dsimp only)); refine goesL_ (some 30) rfl rfl Try.func19 (by kernel_rfl) rfl #[.pointer (some ⟨g, 0, none⟩)] rfl (by (try simp only [List.map_toArray, List.map_cons, List.map_nil]); first | done | rfl) ?_; refine (s1_all hs28.out awf3 (by decide)).mono ?_; rintro ex w30 ⟨v30, rfl, hn30, hb30⟩; refine ⟨_, rfl, ?_⟩; obtain ⟨ga, c30, rfl, hga⟩ := n_lit hn30 (by decide); have n_ := Aside0.mk hn30; clear hn30; have hn30 := n_; clear n_; have n_ := Aside0.mk hb30; clear hb30; have hb30 := n_; clear n_; have hs30 := Aside0.mk (hs28.out.below hb30.out))
    | ((with_reducible refine gate_dst (N := 33) rfl ?_); (try (refine gate_guard (by rfl) ?_; dsimp only)); refine Kd.V_const _ 5 32 ?hg (N := 33) (N2 := 34) ?hd ?hd2 ([97] : List Int) (ok := fun _ => True) ?hl1 ?hl2 ?hr ?hw2 ?hr2 (fun _ _ => trivial) (Below.refl _ _) (Nat.le_refl _) ?_; (case hd => rfl); (case hd2 => rfl); (case hg => rfl); (case hl1 => decide); (case hl2 => decide); (case hw2 => intro _; rfl); (case hr => first | (go_simp; done) | (go_simp; rfl)); (case hr2 => first | (go_simp; done) | (go_simp; rfl)); intro v33 w33 hv33 hb33 hg33 hat33; clear hg33 hat33; obtain ⟨A33, c33, rfl, hl33, hF33⟩ := hv33; have hl33 := Aside0.mk hl33; have hF33 := Aside0.mk hF33; have hb33 := Aside0.mk hb33)
    | ((with_reducible refine gate_callee (f := 20) rfl ?_); (try (refine gate_guard (by rfl) ?_; dsimp only)); refine goesL_ (some 35) rfl rfl Try.func20 (by kernel_rfl) rfl #[.pointer (some ⟨g, 0, none⟩), .slice A33 1 c33, .int .i64 4] rfl (by (try simp only [List.map_toArray, List.map_cons, List.map_nil]); first | done | rfl) ?_; refine (calls_of_args (by rfl) (s1_get (hs30.out.below hb33.out) awf3 A33 c33 [97] 4 (Kd.F_now hF33.out) hl33.out (good1 (.inl rfl)))).mono ?_; rintro ex w35 ⟨v0, v3, rfl, hv35, hb35⟩; refine ⟨_, rfl, ?_⟩; rw [awget4] at hv35 ⊢; obtain ⟨⟨P0, d0, rfl, hl0, hF0⟩, ⟨P3, d3, rfl, hl3, hF3⟩⟩ := hv35; clear hl0 hF0 hl3 hF3; have n_ := Aside0.mk hb35; clear hb35; have hb35 := n_; clear n_; have B35 := Aside0.mk (below_step hb33.out hb35.out))
    | ((with_reducible refine gate_dst (N := 6) rfl ?_); (try (refine gate_guard (by rfl) ?_; dsimp only)); refine box_event ?hg (N := 6) ?hd (cs := #[.slice none 0 0, .int .i64 0, .bool false, .slice none 0 0]) (t := 34) ?hr ?_; (case hd => rfl); (case hg => rfl); (case hr => first | (go_simp; done) | (go_simp; rfl)); intro g6 hqg6 w6 hxg6 hbg6; have n_ := Aside0.mk hqg6; clear hqg6; have hqg6 := n_; clear n_; have n_ := Aside0.mk hxg6; clear hxg6; have hxg6 := n_; clear n_; have n_ := Aside0.mk hbg6; clear hbg6; have hbg6 := n_; clear n_; have hcy0 : w6.cell? ⟨g6, 0, none⟩ = some (.slice none 0 0) := (blk_cell hxg6.out 0).trans rfl; have hcy1 : w6.cell? ⟨g6, 1, none⟩ = some (.int .i64 0) := (blk_cell hxg6.out 1).trans rfl; have hcy2 : w6.cell? ⟨g6, 2, none⟩ = some (.bool false) := (blk_cell hxg6.out 2).trans rfl; have hcy3 : w6.cell? ⟨g6, 3, none⟩ = some (.slice none 0 0) := (blk_cell hxg6.out 3).trans rfl; have hfy0 : w6.frozen? ⟨g6, 0, none⟩ = false := blk_frozen hxg6.out 0; have hfy1 : w6.frozen? ⟨g6, 1, none⟩ = false := blk_frozen hxg6.out 1; have hfy2 : w6.frozen? ⟨g6, 2, none⟩ = false := blk_frozen hxg6.out 2; have hfy3 : w6.frozen? ⟨g6, 3, none⟩ = false := blk_frozen hxg6.out 3)
    | ((with_reducible refine gate_dst (N := 40) rfl ?_); (try (refine gate_guard (by rfl) ?_; dsimp only)); have X39 := Aside0.mk (sets4 (a := .slice P0 aw1.f0.length d0) (b := .int .i64 aw1.f1) (c := .bool aw1.f2) (d := .slice P3 aw1.f3.length d3) hxg6.out); have B39 := Aside0.mk (show Below _ _ ((((w6.setCell ⟨g6, 0, none⟩ (.slice P0 aw1.f0.length d0)).setCell ⟨g6, 1, none⟩ (.int .i64 aw1.f1)).setCell ⟨g6, 2, none⟩ (.bool aw1.f2)).setCell ⟨g6, 3, none⟩ (.slice P3 aw1.f3.length d3)) from below_set (below_set (below_set (below_set hbg6.out (Nat.le_of_eq hqg6.out.symm)) (Nat.le_of_eq hqg6.out.symm)) (Nat.le_of_eq hqg6.out.symm)) (Nat.le_of_eq hqg6.out.symm)); generalize ((((w6.setCell ⟨g6, 0, none⟩ (.slice P0 aw1.f0.length d0)).setCell ⟨g6, 1, none⟩ (.int .i64 aw1.f1)).setCell ⟨g6, 2, none⟩ (.bool aw1.f2)).setCell ⟨g6, 3, none⟩ (.slice P3 aw1.f3.length d3)) = w39 at X39 B39 ⊢; clear hcy0 hcy1 hcy2 hcy3 hfy0 hfy1 hfy2 hfy3; refine Kd.V_const _ 5 32 ?hg (N := 40) (N2 := 41) ?hd ?hd2 ([97] : List Int) (ok := fun _ => True) ?hl1 ?hl2 ?hr ?hw2 ?hr2 (fun _ _ => trivial) (Below.refl _ _) (Nat.le_refl _) ?_; (case hd => rfl); (case hd2 => rfl); (case hg => rfl); (case hl1 => decide); (case hl2 => decide); (case hw2 => intro _; rfl); (case hr => first | (go_simp; done) | (go_simp; rfl)); (case hr2 => first | (go_simp; done) | (go_simp; rfl)); intro v40 w40 hv40 hb40 hg40 hat40; clear hg40 hat40; obtain ⟨A40, c40, rfl, hl40, hF40⟩ := hv40; have hl40 := Aside0.mk hl40; have hF40 := Aside0.mk hF40; have hb40 := Aside0.mk hb40)
    | ((with_reducible refine gate_callee (f := 20) rfl ?_); (try (refine gate_guard (by rfl) ?_; dsimp only)); refine goesL_ (some 42) rfl rfl Try.func20 (by kernel_rfl) rfl #[.pointer (some ⟨g, 0, none⟩), .slice A40 1 c40, .int .i64 2] rfl (by (try simp only [List.map_toArray, List.map_cons, List.map_nil]); first | done | rfl) ?_; refine (calls_of_args (by rfl) (s1_get (hs30.out.below (below_step B35.out (below_step B39.out hb40.out))) awf3 A40 c40 [97] 2 (Kd.F_now hF40.out) hl40.out (good1 (.inl rfl)))).mono ?_; rintro ex w42 ⟨v0b, v3b, rfl, hv42, hb42⟩; refine ⟨_, rfl, ?_⟩; rw [awget2] at hv42 ⊢; obtain ⟨⟨Q0, e0, rfl, hm0, hG0⟩, ⟨Q3, e3, rfl, hm3, hG3⟩⟩ := hv42; clear hm0 hG0 hm3 hG3; have n_ := Aside0.mk hb42; clear hb42; have hb42 := n_; clear n_; have B42 := Aside0.mk (below_step B35.out (below_step B39.out (below_step hb40.out hb42.out))); have X42 := Aside0.mk (blk_below X39.out (below_step hb40.out hb42.out)))
    | ((with_reducible refine gate_dst (N := 8) rfl ?_); (try (refine gate_guard (by rfl) ?_; dsimp only)); refine box_event ?hg (N := 8) ?hd (cs := #[.slice none 0 0, .int .i64 0, .bool false, .slice none 0 0]) (t := 34) ?hr ?_; (case hd => rfl); (case hg => rfl); (case hr => first | (go_simp; done) | (go_simp; rfl)); intro g8 hqg8 w8 hxg8 hbg8; have n_ := Aside0.mk hqg8; clear hqg8; have hqg8 := n_; clear n_; have n_ := Aside0.mk hxg8; clear hxg8; have hxg8 := n_; clear n_; have n_ := Aside0.mk hbg8; clear hbg8; have hbg8 := n_; clear n_; have hcz0 : w8.cell? ⟨g8, 0, none⟩ = some (.slice none 0 0) := (blk_cell hxg8.out 0).trans rfl; have hcz1 : w8.cell? ⟨g8, 1, none⟩ = some (.int .i64 0) := (blk_cell hxg8.out 1).trans rfl; have hcz2 : w8.cell? ⟨g8, 2, none⟩ = some (.bool false) := (blk_cell hxg8.out 2).trans rfl; have hcz3 : w8.cell? ⟨g8, 3, none⟩ = some (.slice none 0 0) := (blk_cell hxg8.out 3).trans rfl; have hfz0 : w8.frozen? ⟨g8, 0, none⟩ = false := blk_frozen hxg8.out 0; have hfz1 : w8.frozen? ⟨g8, 1, none⟩ = false := blk_frozen hxg8.out 1; have hfz2 : w8.frozen? ⟨g8, 2, none⟩ = false := blk_frozen hxg8.out 2; have hfz3 : w8.frozen? ⟨g8, 3, none⟩ = false := blk_frozen hxg8.out 3)
    | ((with_reducible refine gate_callee (f := 22) rfl ?_); have X45 := Aside0.mk (sets4 (a := .slice Q0 z34.f0.length e0) (b := .int .i64 z34.f1) (c := .bool z34.f2) (d := .slice Q3 z34.f3.length e3) hxg8.out); have B45 := Aside0.mk (show Below _ _ ((((w8.setCell ⟨g8, 0, none⟩ (.slice Q0 z34.f0.length e0)).setCell ⟨g8, 1, none⟩ (.int .i64 z34.f1)).setCell ⟨g8, 2, none⟩ (.bool z34.f2)).setCell ⟨g8, 3, none⟩ (.slice Q3 z34.f3.length e3)) from below_set (below_set (below_set (below_set hbg8.out (Nat.le_of_eq hqg8.out.symm)) (Nat.le_of_eq hqg8.out.symm)) (Nat.le_of_eq hqg8.out.symm)) (Nat.le_of_eq hqg8.out.symm)); generalize ((((w8.setCell ⟨g8, 0, none⟩ (.slice Q0 z34.f0.length e0)).setCell ⟨g8, 1, none⟩ (.int .i64 z34.f1)).setCell ⟨g8, 2, none⟩ (.bool z34.f2)).setCell ⟨g8, 3, none⟩ (.slice Q3 z34.f3.length e3)) = w45 at X45 B45 ⊢; clear hcz0 hcz1 hcz2 hcz3 hfz0 hfz1 hfz2 hfz3; (try (refine gate_guard (by rfl) ?_; dsimp only)); refine goesL_ (some 46) rfl rfl Try.func22 (by kernel_rfl) rfl #[.pointer (some ⟨g, 0, none⟩), .slice none 0 0, .slice none 0 0, .int .i64 4] rfl (by (try simp only [List.map_toArray, List.map_cons, List.map_nil]); first | done | rfl) ?_; refine (calls_of_args (by rfl) (s1_scan (hs30.out.below (below_step B42.out B45.out)) awf3 (by decide) none 0 [] none 0 [] 4 (Kd.C_nil _ _) (Nat.le_refl _) Byts.nil (Kd.C_nil _ _) (Nat.le_refl _) Byts.nil)).mono ?_; rintro ex w46 ⟨v46, rfl, hn46, hb46⟩; refine ⟨_, rfl, ?_⟩; rw [awscan] at hn46; obtain ⟨gs, c46, rfl, hgs⟩ := n_lit hn46 (by decide); have n_ := Aside0.mk hn46; clear hn46; have hn46 := n_; clear n_; have n_ := Aside0.mk hb46; clear hb46; have hb46 := n_; clear n_; have B46 := Aside0.mk (below_step B42.out (below_step B45.out hb46.out)); have HA46 := Aside0.mk (Kd.N_below hn30.out B46.out); have ha0 := n_cell HA46.out 0 aw2 rfl 2 _ rfl; have ha2 := n_cell HA46.out 2 aw3 rfl 1 _ rfl; have hs0 := n_cell hn46.out 0 aw1 rfl 1 _ rfl; have h61 : w46.cell? ⟨g6, 1, none⟩ = some (.int .i64 3) := (blk_cell (blk_below X42.out (below_step B45.out hb46.out)) 1).trans rfl)
    | ((with_reducible refine gate_callee (f := 15) rfl ?_); (try (refine gate_guard (by rfl) ?_; dsimp only)); refine goesL_ (some 101) rfl rfl Try.func15 (by kernel_rfl) rfl #[.pointer (some ⟨g, 0, none⟩)] rfl (by (try simp only [List.map_toArray, List.map_cons, List.map_nil]); first | done | rfl) ?_; refine (s1_count (hs30.out.below B46.out)).mono ?_; rintro ex w101 ⟨rfl, hb101⟩; refine ⟨_, rfl, ?_⟩; have n_ := Aside0.mk hb101; clear hb101; have hb101 := n_; clear n_)
    | ((with_reducible refine gate_callee (f := 16) rfl ?_); (try (refine gate_guard (by rfl) ?_; dsimp only)); refine goesL_ (some 106) rfl rfl Try.func16 (by kernel_rfl) rfl #[.pointer (some ⟨g, 0, none⟩)] rfl (by (try simp only [List.map_toArray, List.map_cons, List.map_nil]); first | done | rfl) ?_; refine (s1_size (hs30.out.below (below_step B46.out hb101.out))).mono ?_; rintro ex w106 ⟨rfl, hb106⟩; refine ⟨_, rfl, ?_⟩; rw [awsize]; have n_ := Aside0.mk hb106; clear hb106; have hb106 := n_; clear n_))
  go_ret
  exact ⟨rfl, below_step (below_step ((below_step ((below_step ((below_step hb1.out hb15.out).trans hq18.out) hb20.out).trans hq23.out) hb25.out).trans hq28.out) hb30.out) (below_step B46.out (below_step hb101.out hb106.out))⟩
end Go.Proofs.Ytjlkcidohabcfaa.Sk
