/- One step of a script of operations on both lists. Conditions: those of each theorem. -/
import Derived.Test.YtjlkcidohabcfaaPx4
import Derived.Test.YtjlkcidohabcfaaPx5
import Derived.Test.YtjlkcidohabcfaaPx13
import Derived.Test.YtjlkcidohabcfaaPx20
import Derived.Test.YtjlkcidohabcfaaPx21
import Derived.Test.YtjlkcidohabcfaaPx22
import Derived.Test.YtjlkcidohabcfaaPx23
import Derived.Test.YtjlkcidohabcfaaPx24
import Derived.Test.YtjlkcidohabcfaaPx25
import Derived.Test.YtjlkcidohabcfaaPx27
import Derived.Test.YtjlkcidohabcfaaPx29
import Derived.Test.YtjlkcidohabcfaaH0
import Derived.Test.YtjlkcidohabcfaaHp
import Derived.Test.YtjlkcidohabcfaaHq
import Derived.Test.YtjlkcidohabcfaaHr
import Derived.Test.YtjlkcidohabcfaaHu
import Derived.Test.YtjlkcidohabcfaaHv
import Derived.Test.YtjlkcidohabcfaaHw
import Derived.Test.YtjlkcidohabcfaaHh
import Derived.Test.YtjlkcidohabcfaaHi
import Derived.Test.YtjlkcidohabcfaaHk
import Derived.Test.YtjlkcidohabcfaaHy
import Derived.Test.YtjlkcidohabcfaaHj
import Derived.Test.YtjlkcidohabcfaaHl
import Derived.Test.YtjlkcidohabcfaaHn
import Derived.Test.YtjlkcidohabcfaaHaa
namespace Go.Proofs.Ytjlkcidohabcfaa.Sk
open Go.RowKit Go.Proofs.YtjlkcidohabcfaaW.PrintWords Go.Proofs.YtjlkcidohabcfaaW.PrintLast Go.Proofs.YtjlkcidohabcfaaW.PrintMore Go.Proofs.Ytjlkcidohabcfaa.Px
set_option linter.unusedVariables false
set_option linter.unusedSimpArgs false

open Go.Proofs.Ytjlkcidohabcfaa.Sw
/-- An operation. -/
structure SOp where
  what : Int
  h : Int
  n : Int
  e : S34
  hi : List Int
def kOp : Kd SOp := Kd.iso (Kd.pair (Kd.int .i64) (Kd.pair (Kd.int .i64) (Kd.pair (Kd.int .i64) (Kd.pair k34 (Kd.slice 5 (Kd.int .u8)))))) (fun o : SOp => (o.what, o.h, o.n, o.e, o.hi))
theorem kOp_open {w : World} {o : SOp} {cs : List Value} (h : kOp.K w o cs) : ∃ A0 c0 A3 c3 A4 c4, cs = [.int .i64 o.what, .int .i64 o.h, .int .i64 o.n, .slice A0 o.e.f0.length c0, .int .i64 o.e.f1, .bool o.e.f2, .slice A3 o.e.f3.length c3, .slice A4 o.hi.length c4] ∧ o.e.f0.length ≤ c0 ∧ (Kd.int .u8).C w A0 o.e.f0.length o.e.f0 ∧ o.e.f3.length ≤ c3 ∧ (Kd.int .u8).C w A3 o.e.f3.length o.e.f3 ∧ o.hi.length ≤ c4 ∧ (Kd.int .u8).C w A4 o.hi.length o.hi := by
  obtain ⟨x0, r0, rfl, h0, h⟩ := h
  obtain ⟨x1, r1, rfl, h1, h⟩ := h
  obtain ⟨x2, r2, rfl, h2, h⟩ := h
  obtain ⟨x3, r3, rfl, h3, h⟩ := h
  obtain ⟨A4, c4, rfl, l4, g4⟩ := h
  obtain ⟨A0, c0, A3, c3, rfl, l0, g0, l3, g3⟩ := k34_open h3
  rw [show x0 = [.int .i64 o.what] from h0, show x1 = [.int .i64 o.h] from h1, show x2 = [.int .i64 o.n] from h2]
  exact ⟨A0, c0, A3, c3, A4, c4, rfl, l0, g0, l3, g3, l4, g4⟩
def GoodO (o : SOp) : Prop := Sw.Good o.e ∧ Byts o.hi ∧ (-9223372036854775808 ≤ o.n ∧ o.n ≤ 9223372036854775807)
def zOp : SOp := ⟨0, 0, 0, z34, []⟩
theorem at_Op {w : World} {A : Option Addr} {xs : List SOp} (h : Kd.C kOp w A xs.length xs) (i : Nat) (o : SOp) (ho : xs[i]? = some o) : ∃ ad A0 c0 A3 c3 A4 c4, A = some ad ∧ w.cell? (ad.add (i * 8)) = some (.int .i64 o.what) ∧ w.cell? ⟨(ad.add (i * 8)).block, (ad.add (i * 8)).off + 1, none⟩ = some (.int .i64 o.h) ∧ w.cell? ⟨(ad.add (i * 8)).block, (ad.add (i * 8)).off + 2, none⟩ = some (.int .i64 o.n) ∧ w.cell? ⟨(ad.add (i * 8)).block, (ad.add (i * 8)).off + 3, none⟩ = some (.slice A0 o.e.f0.length c0) ∧ w.cell? ⟨(ad.add (i * 8)).block, (ad.add (i * 8)).off + 4, none⟩ = some (.int .i64 o.e.f1) ∧ w.cell? ⟨(ad.add (i * 8)).block, (ad.add (i * 8)).off + 5, none⟩ = some (.bool o.e.f2) ∧ w.cell? ⟨(ad.add (i * 8)).block, (ad.add (i * 8)).off + 6, none⟩ = some (.slice A3 o.e.f3.length c3) ∧ w.cell? ⟨(ad.add (i * 8)).block, (ad.add (i * 8)).off + 7, none⟩ = some (.slice A4 o.hi.length c4) ∧ o.e.f0.length ≤ c0 ∧ (Kd.int .u8).C w A0 o.e.f0.length o.e.f0 ∧ o.e.f3.length ≤ c3 ∧ (Kd.int .u8).C w A3 o.e.f3.length o.e.f3 ∧ o.hi.length ≤ c4 ∧ (Kd.int .u8).C w A4 o.hi.length o.hi := by
  have hi : i < xs.length := (List.getElem?_eq_some_iff.1 ho).1
  obtain ⟨ad, c, e, _, hK, hc0⟩ := Kd.C_get h o (i : Int) (by omega) (by omega)
  rw [Int.toNat_natCast, List.getD_eq_getElem?_getD, ho] at hK
  have hc : ∀ j u, c[j]? = some u → w.cell? (ad.add (i * 8 + j)) = some u := by
    intro j u hu
    have := hc0 j u hu
    rwa [Int.toNat_natCast] at this
  obtain ⟨A0, c0, A3, c3, A4, c4, rfl, rest⟩ := kOp_open hK
  exact ⟨ad, A0, c0, A3, c3, A4, c4, e, hc 0 _ rfl, by rw [← add_field _ _ 1 (by omega)]; exact hc 1 _ rfl, by rw [← add_field _ _ 2 (by omega)]; exact hc 2 _ rfl, by rw [← add_field _ _ 3 (by omega)]; exact hc 3 _ rfl, by rw [← add_field _ _ 4 (by omega)]; exact hc 4 _ rfl, by rw [← add_field _ _ 5 (by omega)]; exact hc 5 _ rfl, by rw [← add_field _ _ 6 (by omega)]; exact hc 6 _ rfl, by rw [← add_field _ _ 7 (by omega)]; exact hc 7 _ rfl, rest⟩
theorem below_weakB {w w' : World} {base : Nat} (hb : base ≤ w.heap.size) (h : Below w.heap.size w w') : Below base w w' := ⟨h.os, h.tape, h.output, h.size, fun k hk => h.block k (by omega)⟩
/-- What an operation leaves. -/
def stepT (T : List Tw) (o : SOp) : List Tw := if (Go.bits BinOp.and IntKind.i64 o.what 7) = 3 ∨ (Go.bits BinOp.and IntKind.i64 o.what 7) = 4 ∨ (Go.bits BinOp.and IntKind.i64 o.what 7) = 5 then T else putT T o.e o.h
theorem FitT.step {T : List Tw} (hT : FitT T) {o : SOp} (hg : GoodO o) : FitT (stepT T o) := by
  unfold stepT
  split
  · exact hT
  · exact hT.put hg.1
theorem len_step {T : List Tw} (hT : FitT T) (o : SOp) : (stepT T o).length ≤ T.length + 1 := by
  unfold stepT
  split
  · omega
  · exact len_put hT o.e o.h
theorem FitT.good {T : List Tw} (hT : FitT T) : ∀ e ∈ T.map (fun t => t.e), Sw.Good e := fun e he => (hT.lens e he).1
theorem good_uniq {q : S34 → S34 → Bool} {P : S34 → Prop} : ∀ {l : List S34}, (∀ e ∈ l, P e) → ∀ e ∈ uniq q l, P e := by
  have key : ∀ (l : List S34) (p : S34), (∀ e ∈ l, P e) → ∀ e ∈ uniqA q p l, P e := by
    intro l
    induction l with
    | nil => intro p _ e he; cases he
    | cons x r ih =>
      intro p h e he
      unfold uniqA at he
      split at he
      · exact ih x (fun y hy => h y (List.mem_cons_of_mem _ hy)) e he
      · rcases List.mem_cons.1 he with rfl | he
        · exact h e (by simp)
        · exact ih x (fun y hy => h y (List.mem_cons_of_mem _ hy)) e he
  intro l h e he
  cases l with
  | nil => cases he
  | cons x r =>
    rcases List.mem_cons.1 he with rfl | he
    · exact h e (by simp)
    · exact key r x (fun y hy => h y (List.mem_cons_of_mem _ hy)) e he
theorem scan_sub {T : List Tw} (a b : List Int) (s : Int) {P : S34 → Prop} (h : ∀ e ∈ T.map (fun t => t.e), P e) : ∀ e ∈ scanT T a b s, P e := by
  unfold scanT
  refine good_uniq (fun e he => ?_)
  have h1 := (List.takeWhile_sublist _).mem (List.mem_filter.1 he).1
  obtain ⟨t, ht, rfl⟩ := List.mem_map.1 h1
  exact h _ (List.mem_map_of_mem (List.mem_filter.1 ht).1)
theorem uniqA_len (q : S34 → S34 → Bool) : ∀ (l : List S34) (p : S34), (uniqA q p l).length ≤ l.length
  | [], _ => Nat.le_refl _
  | x :: r, p => by
    have ih := uniqA_len q r x
    unfold uniqA
    split <;> simp only [List.length_cons] <;> omega
theorem scan_len (T : List Tw) (a b : List Int) (s : Int) : (scanT T a b s).length ≤ T.length := by
  unfold scanT
  have h1 : ∀ l : List S34, (uniq eqK l).length ≤ l.length := fun l => by
    cases l with
    | nil => exact Nat.le_refl _
    | cons x r =>
      have := uniqA_len eqK r x
      show (x :: uniqA eqK x r).length ≤ _
      simp only [List.length_cons]
      omega
  refine Nat.le_trans (h1 _) (Nat.le_trans (List.length_filter_le _ _) (Nat.le_trans (List.takeWhile_sublist _).length_le ?_))
  rw [List.length_map]
  exact List.length_filter_le _ _
theorem lev_sub {T : List Tw} (h : Int) {P : S34 → Prop} (hp : ∀ e ∈ T.map (fun t => t.e), P e) : ∀ e ∈ levT T h, P e := by
  unfold levT
  intro e he
  obtain ⟨t, ht, rfl⟩ := List.mem_map.1 he
  exact hp _ (List.mem_map_of_mem (List.mem_filter.1 ht).1)
theorem lev_len (T : List Tw) (h : Int) : (levT T h).length ≤ T.length := by
  unfold levT
  rw [List.length_map]
  exact List.length_filter_le _ _
theorem good_z : Sw.Good z34 := ⟨Byts.nil, Byts.nil⟩
theorem good_get {T : List Tw} (hT : FitT T) (kk : List Int) (sq : Int) : Sw.Good (getN T kk sq).1 := by
  rw [← version_same hT]
  unfold version
  split
  · rename_i e he
    exact hT.good e (List.mem_of_find?_eq_some he)
  · exact good_z
set_option maxHeartbeats 4000000 in
set_option maxRecDepth 100000 in
theorem step_get {w : World} {base g gr : Nat} {T : List Tw} (h : St w base g gr T T) (hT : FitT T) (hlen : T.length ≤ 100000) (o : SOp) (A0 : Option Addr) (c0 : Nat) (A3 : Option Addr) (c3 : Nat) (A4 : Option Addr) (c4 : Nat) (hr0 : Kd.F (Kd.int .u8) w (fun k => k < base) A0 o.e.f0.length o.e.f0) (hc0 : o.e.f0.length ≤ c0) (hr3 : Kd.F (Kd.int .u8) w (fun k => k < base) A3 o.e.f3.length o.e.f3) (hc3 : o.e.f3.length ≤ c3) (hr4 : Kd.F (Kd.int .u8) w (fun k => k < base) A4 o.hi.length o.hi) (hc4 : o.hi.length ≤ c4) (hgd : GoodO o) (hm : Go.bits BinOp.and IntKind.i64 o.what 7 = 3) :
    Calls Try.prog 12 #[.pointer (some ⟨g, 0, none⟩), .pointer (some ⟨gr, 0, none⟩), .agg #[.int .i64 o.what, .int .i64 o.h, .int .i64 o.n, .slice A0 o.e.f0.length c0, .int .i64 o.e.f1, .bool o.e.f2, .slice A3 o.e.f3.length c3, .slice A4 o.hi.length c4]] w fun ex w' => ex = .returned (.bool true) ∧ St w' base g gr (T) (T) ∧ Below base w w' := by
  have hu34 := Try.underlying34
  have hu36 := Try.underlying36
  have HST := Aside0.mk h
  have HT := Aside0.mk hT
  have HLEN := Aside0.mk (show T.length ≤ 1000000 by omega)
  have HGD := Aside0.mk hgd
  have HBS := Aside0.mk h.base_le
  have HR0 := Aside0.mk hr0
  clear hr0
  have HC0 := Aside0.mk hc0
  clear hc0
  have HR3 := Aside0.mk hr3
  clear hr3
  have HC3 := Aside0.mk hc3
  clear hc3
  have HR4 := Aside0.mk hr4
  clear hr4
  have HC4 := Aside0.mk hc4
  clear hc4
  clear h hT hlen hgd
  go_enter Try.func12, Try.ntmps12
  go_wp2_with (first
    | ((with_reducible refine gate_dst (N := 5) rfl ?_); (try (refine gate_guard (by rfl) ?_; dsimp only)); refine box_event ?hg (N := 5) ?hd (cs := #[.int .i64 o.what, .int .i64 o.h, .int .i64 o.n, .slice A0 o.e.f0.length c0, .int .i64 o.e.f1, .bool o.e.f2, .slice A3 o.e.f3.length c3, .slice A4 o.hi.length c4]) (t := 36) ?hr ?_; (case hd => rfl); (case hg => rfl); (case hr => first | (go_simp; done) | (go_simp; rfl)); intro g5 hqg5 w1 hxg5 hbg5; have n_ := Aside0.mk hqg5; clear hqg5; have hqg5 := n_; clear n_; have n_ := Aside0.mk hxg5; clear hxg5; have hxg5 := n_; clear n_; have n_ := Aside0.mk hbg5; clear hbg5; have hbg5 := n_; clear n_; have ST1 := Aside0.mk (HST.out.below hbg5.out); have hca0 : w1.cell? ⟨g5, 0, none⟩ = some (.int .i64 o.what) := (blk_cell hxg5.out 0).trans rfl; have hca1 : w1.cell? ⟨g5, 1, none⟩ = some (.int .i64 o.h) := (blk_cell hxg5.out 1).trans rfl; have hca2 : w1.cell? ⟨g5, 2, none⟩ = some (.int .i64 o.n) := (blk_cell hxg5.out 2).trans rfl; have hca3 : w1.cell? ⟨g5, 3, none⟩ = some (.slice A0 o.e.f0.length c0) := (blk_cell hxg5.out 3).trans rfl; have hca4 : w1.cell? ⟨g5, 4, none⟩ = some (.int .i64 o.e.f1) := (blk_cell hxg5.out 4).trans rfl; have hca5 : w1.cell? ⟨g5, 5, none⟩ = some (.bool o.e.f2) := (blk_cell hxg5.out 5).trans rfl; have hca6 : w1.cell? ⟨g5, 6, none⟩ = some (.slice A3 o.e.f3.length c3) := (blk_cell hxg5.out 6).trans rfl; have hca7 : w1.cell? ⟨g5, 7, none⟩ = some (.slice A4 o.hi.length c4) := (blk_cell hxg5.out 7).trans rfl)
    | ((with_reducible refine gate_callee (f := 20) rfl ?_); (try (refine gate_guard (by rfl) ?_; dsimp only)); refine goesL_ (some 23) rfl rfl Try.func20 (by kernel_rfl) rfl #[.pointer (some ⟨g, 0, none⟩), .slice A0 o.e.f0.length c0, .int .i64 o.n] rfl (by (try simp only [List.map_toArray, List.map_cons, List.map_nil]); first | done | rfl) ?_; refine (st_get ST1.out HT.out A0 c0 o.e.f0 o.n (Kd.C_below (Kd.F_now HR0.out) hbg5.out) HC0.out HGD.out.1.1).mono ?_; rintro ex w2 ⟨v0, v3, rfl, hv2, hb2⟩; refine ⟨_, rfl, ?_⟩; obtain ⟨⟨P0, d0, rfl, hl0, hF0⟩, ⟨P3, d3, rfl, hl3, hF3⟩⟩ := hv2; have n_ := Aside0.mk hl0; clear hl0; have hl0 := n_; clear n_; have n_ := Aside0.mk hF0; clear hF0; have hF0 := n_; clear n_; have n_ := Aside0.mk hl3; clear hl3; have hl3 := n_; clear n_; have n_ := Aside0.mk hF3; clear hF3; have hF3 := n_; clear n_; have n_ := Aside0.mk hb2; clear hb2; have hb2 := n_; clear n_; have B2 := Aside0.mk (below_step hbg5.out hb2.out); have ST2 := Aside0.mk (HST.out.below B2.out))
    | ((with_reducible refine gate_dst (N := 7) rfl ?_); (try (refine gate_guard (by rfl) ?_; dsimp only)); refine box_event ?hg (N := 7) ?hd (cs := #[.slice none 0 0, .int .i64 0, .bool false, .slice none 0 0]) (t := 34) ?hr ?_; (case hd => rfl); (case hg => rfl); (case hr => first | (go_simp; done) | (go_simp; rfl)); intro g7 hqg7 w3 hxg7 hbg7; have n_ := Aside0.mk hqg7; clear hqg7; have hqg7 := n_; clear n_; have n_ := Aside0.mk hxg7; clear hxg7; have hxg7 := n_; clear n_; have n_ := Aside0.mk hbg7; clear hbg7; have hbg7 := n_; clear n_; have hcy0 : w3.cell? ⟨g7, 0, none⟩ = some (.slice none 0 0) := (blk_cell hxg7.out 0).trans rfl; have hcy1 : w3.cell? ⟨g7, 1, none⟩ = some (.int .i64 0) := (blk_cell hxg7.out 1).trans rfl; have hcy2 : w3.cell? ⟨g7, 2, none⟩ = some (.bool false) := (blk_cell hxg7.out 2).trans rfl; have hcy3 : w3.cell? ⟨g7, 3, none⟩ = some (.slice none 0 0) := (blk_cell hxg7.out 3).trans rfl; have hfy0 : w3.frozen? ⟨g7, 0, none⟩ = false := blk_frozen hxg7.out 0; have hfy1 : w3.frozen? ⟨g7, 1, none⟩ = false := blk_frozen hxg7.out 1; have hfy2 : w3.frozen? ⟨g7, 2, none⟩ = false := blk_frozen hxg7.out 2; have hfy3 : w3.frozen? ⟨g7, 3, none⟩ = false := blk_frozen hxg7.out 3; have G53 := Aside0.mk (blk_below hxg5.out (below_step hb2.out hbg7.out)); have hcc2 : w3.cell? ⟨g5, 2, none⟩ = some (.int .i64 o.n) := (blk_cell G53.out 2).trans rfl; have hcc3 : w3.cell? ⟨g5, 3, none⟩ = some (.slice A0 o.e.f0.length c0) := (blk_cell G53.out 3).trans rfl; have hne1 : (g5 = g7) = False := eq_false (by have h1 := hqg7.out; have h2 := blk_lt hxg5.out; have h3 := hb2.out.size; omega); have hne2 : (g7 = g5) = False := eq_false (by have h1 := hqg7.out; have h2 := blk_lt hxg5.out; have h3 := hb2.out.size; omega))
    | ((with_reducible refine gate_callee (f := 29) rfl ?_); have X4 := Aside0.mk (sets4 (a := .slice P0 (getN T o.e.f0 o.n).1.f0.length d0) (b := .int .i64 (getN T o.e.f0 o.n).1.f1) (c := .bool (getN T o.e.f0 o.n).1.f2) (d := .slice P3 (getN T o.e.f0 o.n).1.f3.length d3) hxg7.out); have B34 := Aside0.mk (show Below w2.heap.size w2 ((((w3.setCell ⟨g7, 0, none⟩ (.slice P0 (getN T o.e.f0 o.n).1.f0.length d0)).setCell ⟨g7, 1, none⟩ (.int .i64 (getN T o.e.f0 o.n).1.f1)).setCell ⟨g7, 2, none⟩ (.bool (getN T o.e.f0 o.n).1.f2)).setCell ⟨g7, 3, none⟩ (.slice P3 (getN T o.e.f0 o.n).1.f3.length d3)) from below_set (below_set (below_set (below_set hbg7.out (Nat.le_of_eq hqg7.out.symm)) (Nat.le_of_eq hqg7.out.symm)) (Nat.le_of_eq hqg7.out.symm)) (Nat.le_of_eq hqg7.out.symm)); clear hcy0 hcy1 hcy2 hcy3 hfy0 hfy1 hfy2 hfy3 hne1 hne2 hcc2 hcc3; generalize ((((w3.setCell ⟨g7, 0, none⟩ (.slice P0 (getN T o.e.f0 o.n).1.f0.length d0)).setCell ⟨g7, 1, none⟩ (.int .i64 (getN T o.e.f0 o.n).1.f1)).setCell ⟨g7, 2, none⟩ (.bool (getN T o.e.f0 o.n).1.f2)).setCell ⟨g7, 3, none⟩ (.slice P3 (getN T o.e.f0 o.n).1.f3.length d3)) = w4 at X4 B34 ⊢; have B4 := Aside0.mk (below_step B2.out B34.out); have ST4 := Aside0.mk (HST.out.below B4.out); have G54 := Aside0.mk (blk_below hxg5.out (below_step hb2.out B34.out)); (try (refine gate_guard (by rfl) ?_; dsimp only)); refine goesL_ (some 33) rfl rfl Try.func29 (by kernel_rfl) rfl #[.pointer (some ⟨gr, 0, none⟩), .slice A0 o.e.f0.length c0, .int .i64 o.n] rfl (by (try simp only [List.map_toArray, List.map_cons, List.map_nil]); first | done | rfl) ?_; refine (st_rget ST4.out HT.out HLEN.out A0 c0 o.e.f0 o.n (Kd.C_below (Kd.F_now HR0.out) B4.out) HC0.out HGD.out.1.1).mono ?_; rintro ex w5 ⟨v0, v3, rfl, hv5, hb5⟩; refine ⟨_, rfl, ?_⟩; obtain ⟨⟨Q0, e0, rfl, hm0, hG0⟩, ⟨Q3, e3, rfl, hm3, hG3⟩⟩ := hv5; have n_ := Aside0.mk hm0; clear hm0; have hm0 := n_; clear n_; have n_ := Aside0.mk hG0; clear hG0; have hG0 := n_; clear n_; have n_ := Aside0.mk hm3; clear hm3; have hm3 := n_; clear n_; have n_ := Aside0.mk hG3; clear hG3; have hG3 := n_; clear n_; have n_ := Aside0.mk hb5; clear hb5; have hb5 := n_; clear n_; have B5 := Aside0.mk (below_step B4.out hb5.out); have X5 := Aside0.mk (blk_below X4.out hb5.out))
    | ((with_reducible refine gate_dst (N := 9) rfl ?_); (try (refine gate_guard (by rfl) ?_; dsimp only)); refine box_event ?hg (N := 9) ?hd (cs := #[.slice none 0 0, .int .i64 0, .bool false, .slice none 0 0]) (t := 34) ?hr ?_; (case hd => rfl); (case hg => rfl); (case hr => first | (go_simp; done) | (go_simp; rfl)); intro g9 hqg9 w6 hxg9 hbg9; have n_ := Aside0.mk hqg9; clear hqg9; have hqg9 := n_; clear n_; have n_ := Aside0.mk hxg9; clear hxg9; have hxg9 := n_; clear n_; have n_ := Aside0.mk hbg9; clear hbg9; have hbg9 := n_; clear n_; have X6 := Aside0.mk (blk_below X5.out hbg9.out); have hcx0 : w6.cell? ⟨g7, 0, none⟩ = some (.slice P0 (getN T o.e.f0 o.n).1.f0.length d0) := (blk_cell X6.out 0).trans rfl; have hcx1 : w6.cell? ⟨g7, 1, none⟩ = some (.int .i64 (getN T o.e.f0 o.n).1.f1) := (blk_cell X6.out 1).trans rfl; have hcx2 : w6.cell? ⟨g7, 2, none⟩ = some (.bool (getN T o.e.f0 o.n).1.f2) := (blk_cell X6.out 2).trans rfl; have hcx3 : w6.cell? ⟨g7, 3, none⟩ = some (.slice P3 (getN T o.e.f0 o.n).1.f3.length d3) := (blk_cell X6.out 3).trans rfl; have hcz0 : w6.cell? ⟨g9, 0, none⟩ = some (.slice none 0 0) := (blk_cell hxg9.out 0).trans rfl; have hcz1 : w6.cell? ⟨g9, 1, none⟩ = some (.int .i64 0) := (blk_cell hxg9.out 1).trans rfl; have hcz2 : w6.cell? ⟨g9, 2, none⟩ = some (.bool false) := (blk_cell hxg9.out 2).trans rfl; have hcz3 : w6.cell? ⟨g9, 3, none⟩ = some (.slice none 0 0) := (blk_cell hxg9.out 3).trans rfl; have hfz0 : w6.frozen? ⟨g9, 0, none⟩ = false := blk_frozen hxg9.out 0; have hfz1 : w6.frozen? ⟨g9, 1, none⟩ = false := blk_frozen hxg9.out 1; have hfz2 : w6.frozen? ⟨g9, 2, none⟩ = false := blk_frozen hxg9.out 2; have hfz3 : w6.frozen? ⟨g9, 3, none⟩ = false := blk_frozen hxg9.out 3; have hne3 : (g7 = g9) = False := eq_false (by have h1 := hqg9.out; have h2 := blk_lt X5.out; omega); have hne4 : (g9 = g7) = False := eq_false (by have h1 := hqg9.out; have h2 := blk_lt X5.out; omega))
    | ((with_reducible refine gate_callee (f := 24) rfl ?_); have X7 := Aside0.mk (sets4 (a := .slice Q0 (getN T o.e.f0 o.n).1.f0.length e0) (b := .int .i64 (getN T o.e.f0 o.n).1.f1) (c := .bool (getN T o.e.f0 o.n).1.f2) (d := .slice Q3 (getN T o.e.f0 o.n).1.f3.length e3) hxg9.out); have B57 := Aside0.mk (show Below w5.heap.size w5 ((((w6.setCell ⟨g9, 0, none⟩ (.slice Q0 (getN T o.e.f0 o.n).1.f0.length e0)).setCell ⟨g9, 1, none⟩ (.int .i64 (getN T o.e.f0 o.n).1.f1)).setCell ⟨g9, 2, none⟩ (.bool (getN T o.e.f0 o.n).1.f2)).setCell ⟨g9, 3, none⟩ (.slice Q3 (getN T o.e.f0 o.n).1.f3.length e3)) from below_set (below_set (below_set (below_set hbg9.out (Nat.le_of_eq hqg9.out.symm)) (Nat.le_of_eq hqg9.out.symm)) (Nat.le_of_eq hqg9.out.symm)) (Nat.le_of_eq hqg9.out.symm)); clear hcz0 hcz1 hcz2 hcz3 hfz0 hfz1 hfz2 hfz3 hcx0 hcx1 hcx2 hcx3 hne3 hne4; generalize ((((w6.setCell ⟨g9, 0, none⟩ (.slice Q0 (getN T o.e.f0 o.n).1.f0.length e0)).setCell ⟨g9, 1, none⟩ (.int .i64 (getN T o.e.f0 o.n).1.f1)).setCell ⟨g9, 2, none⟩ (.bool (getN T o.e.f0 o.n).1.f2)).setCell ⟨g9, 3, none⟩ (.slice Q3 (getN T o.e.f0 o.n).1.f3.length e3)) = w7 at X7 B57 ⊢; have B7 := Aside0.mk (below_step B5.out B57.out); (try (refine gate_guard (by rfl) ?_; dsimp only)); refine goesL_ (some 42) rfl rfl Try.func24 (by kernel_rfl) rfl #[.agg #[.slice P0 (getN T o.e.f0 o.n).1.f0.length d0, .int .i64 (getN T o.e.f0 o.n).1.f1, .bool (getN T o.e.f0 o.n).1.f2, .slice P3 (getN T o.e.f0 o.n).1.f3.length d3], .agg #[.slice Q0 (getN T o.e.f0 o.n).1.f0.length e0, .int .i64 (getN T o.e.f0 o.n).1.f1, .bool (getN T o.e.f0 o.n).1.f2, .slice Q3 (getN T o.e.f0 o.n).1.f3.length e3]] rfl (by (try simp only [List.map_toArray, List.map_cons, List.map_nil]); first | done | rfl) ?_; refine (sameOneC (good_get HT.out o.e.f0 o.n) (good_get HT.out o.e.f0 o.n) (Kd.C_below (Kd.F_now hF0.out) (below_step B34.out (below_step hb5.out B57.out))) hl0.out (Kd.C_below (Kd.F_now hF3.out) (below_step B34.out (below_step hb5.out B57.out))) hl3.out (Kd.C_below (Kd.F_now hG0.out) B57.out) hm0.out (Kd.C_below (Kd.F_now hG3.out) B57.out) hm3.out).mono ?_; rintro ex w8 ⟨rfl, hb8⟩; refine ⟨_, rfl, ?_⟩; rw [show decide ((getN T o.e.f0 o.n).1.f0 = (getN T o.e.f0 o.n).1.f0 ∧ (getN T o.e.f0 o.n).1.f1 = (getN T o.e.f0 o.n).1.f1 ∧ (getN T o.e.f0 o.n).1.f2 = (getN T o.e.f0 o.n).1.f2 ∧ (getN T o.e.f0 o.n).1.f3 = (getN T o.e.f0 o.n).1.f3) = true from decide_eq_true ⟨rfl, rfl, rfl, rfl⟩]; have n_ := Aside0.mk hb8; clear hb8; have hb8 := n_; clear n_))
  go_ret
  exact ⟨rfl, HST.out.below (below_step B7.out hb8.out), below_weakB HBS.out (below_step B7.out hb8.out)⟩

set_option maxHeartbeats 4000000 in
set_option maxRecDepth 100000 in
theorem step_scan {w : World} {base g gr : Nat} {T : List Tw} (h : St w base g gr T T) (hT : FitT T) (hlen : T.length ≤ 100000) (o : SOp) (A0 : Option Addr) (c0 : Nat) (A3 : Option Addr) (c3 : Nat) (A4 : Option Addr) (c4 : Nat) (hr0 : Kd.F (Kd.int .u8) w (fun k => k < base) A0 o.e.f0.length o.e.f0) (hc0 : o.e.f0.length ≤ c0) (hr3 : Kd.F (Kd.int .u8) w (fun k => k < base) A3 o.e.f3.length o.e.f3) (hc3 : o.e.f3.length ≤ c3) (hr4 : Kd.F (Kd.int .u8) w (fun k => k < base) A4 o.hi.length o.hi) (hc4 : o.hi.length ≤ c4) (hgd : GoodO o) (hm : Go.bits BinOp.and IntKind.i64 o.what 7 = 4) :
    Calls Try.prog 12 #[.pointer (some ⟨g, 0, none⟩), .pointer (some ⟨gr, 0, none⟩), .agg #[.int .i64 o.what, .int .i64 o.h, .int .i64 o.n, .slice A0 o.e.f0.length c0, .int .i64 o.e.f1, .bool o.e.f2, .slice A3 o.e.f3.length c3, .slice A4 o.hi.length c4]] w fun ex w' => ex = .returned (.bool true) ∧ St w' base g gr (T) (T) ∧ Below base w w' := by
  have hu34 := Try.underlying34
  have hu36 := Try.underlying36
  have HST := Aside0.mk h
  have HT := Aside0.mk hT
  have HLEN := Aside0.mk (show T.length ≤ 1000000 by omega)
  have HGD := Aside0.mk hgd
  have HBS := Aside0.mk h.base_le
  have HR0 := Aside0.mk hr0
  clear hr0
  have HC0 := Aside0.mk hc0
  clear hc0
  have HR3 := Aside0.mk hr3
  clear hr3
  have HC3 := Aside0.mk hc3
  clear hc3
  have HR4 := Aside0.mk hr4
  clear hr4
  have HC4 := Aside0.mk hc4
  clear hc4
  clear h hT hlen hgd
  go_enter Try.func12, Try.ntmps12
  go_wp2_with ((with_reducible refine gate_dst (N := 5) rfl ?_); (try (refine gate_guard (by rfl) ?_; dsimp only)); refine box_event ?hg (N := 5) ?hd (cs := #[.int .i64 o.what, .int .i64 o.h, .int .i64 o.n, .slice A0 o.e.f0.length c0, .int .i64 o.e.f1, .bool o.e.f2, .slice A3 o.e.f3.length c3, .slice A4 o.hi.length c4]) (t := 36) ?hr ?_; (case hd => rfl); (case hg => rfl); (case hr => first | (go_simp; done) | (go_simp; rfl)); intro g5 hqg5 w1 hxg5 hbg5; have n_ := Aside0.mk hqg5; clear hqg5; have hqg5 := n_; clear n_; have n_ := Aside0.mk hxg5; clear hxg5; have hxg5 := n_; clear n_; have n_ := Aside0.mk hbg5; clear hbg5; have hbg5 := n_; clear n_; have ST1 := Aside0.mk (HST.out.below hbg5.out); have hca0 : w1.cell? ⟨g5, 0, none⟩ = some (.int .i64 o.what) := (blk_cell hxg5.out 0).trans rfl; have hca1 : w1.cell? ⟨g5, 1, none⟩ = some (.int .i64 o.h) := (blk_cell hxg5.out 1).trans rfl; have hca2 : w1.cell? ⟨g5, 2, none⟩ = some (.int .i64 o.n) := (blk_cell hxg5.out 2).trans rfl; have hca3 : w1.cell? ⟨g5, 3, none⟩ = some (.slice A0 o.e.f0.length c0) := (blk_cell hxg5.out 3).trans rfl; have hca4 : w1.cell? ⟨g5, 4, none⟩ = some (.int .i64 o.e.f1) := (blk_cell hxg5.out 4).trans rfl; have hca5 : w1.cell? ⟨g5, 5, none⟩ = some (.bool o.e.f2) := (blk_cell hxg5.out 5).trans rfl; have hca6 : w1.cell? ⟨g5, 6, none⟩ = some (.slice A3 o.e.f3.length c3) := (blk_cell hxg5.out 6).trans rfl; have hca7 : w1.cell? ⟨g5, 7, none⟩ = some (.slice A4 o.hi.length c4) := (blk_cell hxg5.out 7).trans rfl)
  have B1d := Aside0.mk (below_drew hbg5.out)
  refine s_ 20 [] (fun w' => w'.cell? ⟨g5, 2, none⟩ = some (.int .i64 o.n) ∧ w'.cell? ⟨g5, 3, none⟩ = some (.slice A0 o.e.f0.length c0) ∧ w'.cell? ⟨g5, 7, none⟩ = some (.slice A4 o.hi.length c4)) (hS := ⟨(blk_cell (blk_drew hxg5.out) 2).trans rfl, (blk_cell (blk_drew hxg5.out) 3).trans rfl, (blk_cell (blk_drew hxg5.out) 7).trans rfl⟩) (h := fun hHeld => ?_)
  refine p_ 0 46 (bb 20 1) (h := ?_)
  refine p_ 1 47 (bb 20 3) (h := ?_)
  refine p_ 2 48 (bb 20 7) (h := ?_)
  refine t_ 3 49 (bb 20 15) hHeld (h := ?_)
  refine p_ 4 50 (bb 20 31) (h := ?_)
  refine t_ 5 51 (bb 20 63) hHeld (h := ?_)
  refine p_ 6 52 (bb 20 127) (h := ?_)
  refine t_ 7 53 (bb 20 255) hHeld (h := ?_)
  refine p_ 9 55 (bb 20 767) (h := ?_)
  refine p_ 10 56 (bb 20 1791) (h := ?_)
  refine p_ 11 57 (bb 20 3839) (h := ?_)
  refine t_ 12 58 (bb 20 7935) hHeld (h := ?_)
  refine p_ 13 59 (bb 20 16127) (h := ?_)
  refine t_ 14 60 (bb 20 32511) hHeld (h := ?_)
  refine p_ 15 61 (bb 20 65279) (h := ?_)
  refine t_ 16 62 (bb 20 130815) hHeld (h := ?_)
  refine n_ 8 54 (bb 20 131071) (h := fun K hK => ?_)
  refine goes_ Try.func22 (by kernel_rfl) rfl #[.pointer (some ⟨g, 0, none⟩), .slice A0 o.e.f0.length c0, .slice A4 o.hi.length c4, .int .i64 o.n] (by rfl) rfl rfl (by (try simp only [List.map_toArray, List.map_cons, List.map_nil]); first | done | rfl) ?_
  refine (st_scan (HST.out.below B1d.out) HT.out HLEN.out A0 c0 o.e.f0 A4 c4 o.hi o.n (Kd.C_below (Kd.F_now HR0.out) B1d.out) HC0.out HGD.out.1.1 (Kd.C_below (Kd.F_now HR4.out) B1d.out) HC4.out HGD.out.2.1).mono ?_
  rintro ex w54 ⟨v54, rfl, hn54, hb54⟩
  refine ⟨_, rfl, ?_⟩
  obtain ⟨A54, c54, rfl⟩ := Kd.N_slice hn54
  have hn54 := Aside0.mk hn54
  have hb54 := Aside0.mk hb54
  have B54 := Aside0.mk (below_step B1d.out hb54.out)
  refine hK.out _ _ ⟨pw_cell_below hb54.out hHeld.1, pw_cell_below hb54.out hHeld.2.1, pw_cell_below hb54.out hHeld.2.2⟩ (fun hHeld => ?_)
  clear hK K
  refine m_ 54 (h := ?_)
  refine n_ 17 63 (bb 20 262143) (h := fun K hK => ?_)
  refine goes_ Try.func30 (by kernel_rfl) rfl #[.pointer (some ⟨gr, 0, none⟩), .slice A0 o.e.f0.length c0, .slice A4 o.hi.length c4, .int .i64 o.n] (by rfl) rfl rfl (by (try simp only [List.map_toArray, List.map_cons, List.map_nil]); first | done | rfl) ?_
  refine (st_rscan (HST.out.below B54.out) HT.out HLEN.out A0 c0 o.e.f0 A4 c4 o.hi o.n (Kd.C_below (Kd.F_now HR0.out) B54.out) HC0.out (Kd.C_below (Kd.F_now HR4.out) B54.out) HC4.out).mono ?_
  rintro ex w63 ⟨v63, rfl, hn63, hb63⟩
  refine ⟨_, rfl, ?_⟩
  obtain ⟨A63, c63, rfl⟩ := Kd.N_slice hn63
  have hn63 := Aside0.mk hn63
  have hb63 := Aside0.mk hb63
  have B63 := Aside0.mk (below_step B54.out hb63.out)
  refine hK.out _ _ ⟨pw_cell_below hb63.out hHeld.1, pw_cell_below hb63.out hHeld.2.1, pw_cell_below hb63.out hHeld.2.2⟩ (fun hHeld => ?_)
  clear hK K
  refine m_ 63 (h := ?_)
  refine n_ 18 64 (bb 20 524287) (h := fun K hK => ?_)
  refine goes_ Try.func18 (by kernel_rfl) rfl #[.slice A54 (scanT T o.e.f0 o.hi o.n).length c54, .slice A63 (scanT T o.e.f0 o.hi o.n).length c63] (by rfl) rfl rfl (by (try simp only [List.map_toArray, List.map_cons, List.map_nil]); first | done | rfl) ?_
  refine (sameC (scan_sub o.e.f0 o.hi o.n HT.out.good) (Nat.le_trans (scan_len T o.e.f0 o.hi o.n) (Nat.le_trans HLEN.out (by decide))) (Kd.C_below (Kd.N_reads' hn54.out).2.2 hb63.out) (Kd.N_reads' hn54.out).2.1 (Kd.N_reads' hn63.out).2.2 (Kd.N_reads' hn63.out).2.1).mono ?_
  rintro ex w64 ⟨rfl, hb64⟩
  refine ⟨_, rfl, ?_⟩
  have hb64 := Aside0.mk hb64
  refine hK.out _ _ ⟨pw_cell_below hb64.out hHeld.1, pw_cell_below hb64.out hHeld.2.1, pw_cell_below hb64.out hHeld.2.2⟩ (fun hHeld => ?_)
  clear hK K
  refine m_ 64 (h := ?_)
  refine p_ 19 6 (bb 20 1048575) (h := ?_)
  refine d_ (h := ?_)

  go_wp2
  go_ret
  exact ⟨rfl, HST.out.below (below_step B63.out hb64.out), below_weakB HBS.out (below_step B63.out hb64.out)⟩

set_option maxHeartbeats 4000000 in
set_option maxRecDepth 100000 in
theorem step_level {w : World} {base g gr : Nat} {T : List Tw} (h : St w base g gr T T) (hT : FitT T) (hlen : T.length ≤ 100000) (o : SOp) (A0 : Option Addr) (c0 : Nat) (A3 : Option Addr) (c3 : Nat) (A4 : Option Addr) (c4 : Nat) (hr0 : Kd.F (Kd.int .u8) w (fun k => k < base) A0 o.e.f0.length o.e.f0) (hc0 : o.e.f0.length ≤ c0) (hr3 : Kd.F (Kd.int .u8) w (fun k => k < base) A3 o.e.f3.length o.e.f3) (hc3 : o.e.f3.length ≤ c3) (hr4 : Kd.F (Kd.int .u8) w (fun k => k < base) A4 o.hi.length o.hi) (hc4 : o.hi.length ≤ c4) (hgd : GoodO o) (hm : Go.bits BinOp.and IntKind.i64 o.what 7 = 5) :
    Calls Try.prog 12 #[.pointer (some ⟨g, 0, none⟩), .pointer (some ⟨gr, 0, none⟩), .agg #[.int .i64 o.what, .int .i64 o.h, .int .i64 o.n, .slice A0 o.e.f0.length c0, .int .i64 o.e.f1, .bool o.e.f2, .slice A3 o.e.f3.length c3, .slice A4 o.hi.length c4]] w fun ex w' => ex = .returned (.bool true) ∧ St w' base g gr (T) (T) ∧ Below base w w' := by
  have hu34 := Try.underlying34
  have hu36 := Try.underlying36
  have HST := Aside0.mk h
  have HT := Aside0.mk hT
  have HLEN := Aside0.mk (show T.length ≤ 1000000 by omega)
  have HGD := Aside0.mk hgd
  have HBS := Aside0.mk h.base_le
  have HR0 := Aside0.mk hr0
  clear hr0
  have HC0 := Aside0.mk hc0
  clear hc0
  have HR3 := Aside0.mk hr3
  clear hr3
  have HC3 := Aside0.mk hc3
  clear hc3
  have HR4 := Aside0.mk hr4
  clear hr4
  have HC4 := Aside0.mk hc4
  clear hc4
  clear h hT hlen hgd
  go_enter Try.func12, Try.ntmps12
  go_wp2_with ((with_reducible refine gate_dst (N := 5) rfl ?_); (try (refine gate_guard (by rfl) ?_; dsimp only)); refine box_event ?hg (N := 5) ?hd (cs := #[.int .i64 o.what, .int .i64 o.h, .int .i64 o.n, .slice A0 o.e.f0.length c0, .int .i64 o.e.f1, .bool o.e.f2, .slice A3 o.e.f3.length c3, .slice A4 o.hi.length c4]) (t := 36) ?hr ?_; (case hd => rfl); (case hg => rfl); (case hr => first | (go_simp; done) | (go_simp; rfl)); intro g5 hqg5 w1 hxg5 hbg5; have n_ := Aside0.mk hqg5; clear hqg5; have hqg5 := n_; clear n_; have n_ := Aside0.mk hxg5; clear hxg5; have hxg5 := n_; clear n_; have n_ := Aside0.mk hbg5; clear hbg5; have hbg5 := n_; clear n_; have ST1 := Aside0.mk (HST.out.below hbg5.out); have hca0 : w1.cell? ⟨g5, 0, none⟩ = some (.int .i64 o.what) := (blk_cell hxg5.out 0).trans rfl; have hca1 : w1.cell? ⟨g5, 1, none⟩ = some (.int .i64 o.h) := (blk_cell hxg5.out 1).trans rfl; have hca2 : w1.cell? ⟨g5, 2, none⟩ = some (.int .i64 o.n) := (blk_cell hxg5.out 2).trans rfl; have hca3 : w1.cell? ⟨g5, 3, none⟩ = some (.slice A0 o.e.f0.length c0) := (blk_cell hxg5.out 3).trans rfl; have hca4 : w1.cell? ⟨g5, 4, none⟩ = some (.int .i64 o.e.f1) := (blk_cell hxg5.out 4).trans rfl; have hca5 : w1.cell? ⟨g5, 5, none⟩ = some (.bool o.e.f2) := (blk_cell hxg5.out 5).trans rfl; have hca6 : w1.cell? ⟨g5, 6, none⟩ = some (.slice A3 o.e.f3.length c3) := (blk_cell hxg5.out 6).trans rfl; have hca7 : w1.cell? ⟨g5, 7, none⟩ = some (.slice A4 o.hi.length c4) := (blk_cell hxg5.out 7).trans rfl)
  have B1d := Aside0.mk (below_drew hbg5.out)
  refine s_ 10 [] (fun w' => w'.cell? ⟨g5, 2, none⟩ = some (.int .i64 o.n)) (hS := ((blk_cell (blk_drew hxg5.out) 2).trans rfl)) (h := fun hHeld => ?_)
  refine p_ 0 67 (bb 10 1) (h := ?_)
  refine p_ 1 68 (bb 10 3) (h := ?_)
  refine t_ 2 69 (bb 10 7) hHeld (h := ?_)
  refine p_ 4 71 (bb 10 23) (h := ?_)
  refine p_ 5 72 (bb 10 55) (h := ?_)
  refine t_ 6 73 (bb 10 119) hHeld (h := ?_)
  refine n_ 3 70 (bb 10 127) (h := fun K hK => ?_)
  refine goes_ Try.func23 (by kernel_rfl) rfl #[.pointer (some ⟨g, 0, none⟩), .int .i64 o.n] (by rfl) rfl rfl (by (try simp only [List.map_toArray, List.map_cons, List.map_nil]); first | done | rfl) ?_
  refine (st_level (HST.out.below B1d.out) HT.out HLEN.out o.n HGD.out.2.2.2).mono ?_
  rintro ex w70 ⟨v70, rfl, hn70, hb70⟩
  refine ⟨_, rfl, ?_⟩
  obtain ⟨A70, c70, rfl⟩ := Kd.N_slice hn70
  have hn70 := Aside0.mk hn70
  have hb70 := Aside0.mk hb70
  have B70 := Aside0.mk (below_step B1d.out hb70.out)
  refine hK.out _ _ (pw_cell_below hb70.out hHeld) (fun hHeld => ?_)
  clear hK K
  refine m_ 70 (h := ?_)
  refine n_ 7 74 (bb 10 255) (h := fun K hK => ?_)
  refine goes_ Try.func31 (by kernel_rfl) rfl #[.pointer (some ⟨gr, 0, none⟩), .int .i64 o.n] (by rfl) rfl rfl (by (try simp only [List.map_toArray, List.map_cons, List.map_nil]); first | done | rfl) ?_
  refine (st_rlevel (HST.out.below B70.out) HT.out HLEN.out o.n).mono ?_
  rintro ex w74 ⟨v74, rfl, hn74, hb74⟩
  refine ⟨_, rfl, ?_⟩
  obtain ⟨A74, c74, rfl⟩ := Kd.N_slice hn74
  have hn74 := Aside0.mk hn74
  have hb74 := Aside0.mk hb74
  have B74 := Aside0.mk (below_step B70.out hb74.out)
  refine hK.out _ _ (pw_cell_below hb74.out hHeld) (fun hHeld => ?_)
  clear hK K
  refine m_ 74 (h := ?_)
  refine n_ 8 75 (bb 10 511) (h := fun K hK => ?_)
  refine goes_ Try.func18 (by kernel_rfl) rfl #[.slice A70 (levT T o.n).length c70, .slice A74 (levT T o.n).length c74] (by rfl) rfl rfl (by (try simp only [List.map_toArray, List.map_cons, List.map_nil]); first | done | rfl) ?_
  refine (sameC (lev_sub o.n HT.out.good) (Nat.le_trans (lev_len T o.n) (Nat.le_trans HLEN.out (by decide))) (Kd.C_below (Kd.N_reads' hn70.out).2.2 hb74.out) (Kd.N_reads' hn70.out).2.1 (Kd.N_reads' hn74.out).2.2 (Kd.N_reads' hn74.out).2.1).mono ?_
  rintro ex w75 ⟨rfl, hb75⟩
  refine ⟨_, rfl, ?_⟩
  have hb75 := Aside0.mk hb75
  refine hK.out _ _ (pw_cell_below hb75.out hHeld) (fun hHeld => ?_)
  clear hK K
  refine m_ 75 (h := ?_)
  refine p_ 9 6 (bb 10 1023) (h := ?_)
  refine d_ (h := ?_)

  go_wp2
  go_ret
  exact ⟨rfl, HST.out.below (below_step B74.out hb75.out), below_weakB HBS.out (below_step B74.out hb75.out)⟩

set_option maxHeartbeats 4000000 in
set_option maxRecDepth 100000 in
theorem step_put {w : World} {base g gr : Nat} {T : List Tw} (h : St w base g gr T T) (hT : FitT T) (hlen : T.length ≤ 100000) (o : SOp) (A0 : Option Addr) (c0 : Nat) (A3 : Option Addr) (c3 : Nat) (A4 : Option Addr) (c4 : Nat) (hr0 : Kd.F (Kd.int .u8) w (fun k => k < base) A0 o.e.f0.length o.e.f0) (hc0 : o.e.f0.length ≤ c0) (hr3 : Kd.F (Kd.int .u8) w (fun k => k < base) A3 o.e.f3.length o.e.f3) (hc3 : o.e.f3.length ≤ c3) (hr4 : Kd.F (Kd.int .u8) w (fun k => k < base) A4 o.hi.length o.hi) (hc4 : o.hi.length ≤ c4) (hgd : GoodO o) (hm3 : (Go.bits BinOp.and IntKind.i64 o.what 7 == 3) = false) (hm4 : (Go.bits BinOp.and IntKind.i64 o.what 7 == 4) = false) (hm5 : (Go.bits BinOp.and IntKind.i64 o.what 7 == 5) = false) :
    Calls Try.prog 12 #[.pointer (some ⟨g, 0, none⟩), .pointer (some ⟨gr, 0, none⟩), .agg #[.int .i64 o.what, .int .i64 o.h, .int .i64 o.n, .slice A0 o.e.f0.length c0, .int .i64 o.e.f1, .bool o.e.f2, .slice A3 o.e.f3.length c3, .slice A4 o.hi.length c4]] w fun ex w' => ex = .returned (.bool true) ∧ St w' base g gr (putT T o.e o.h) (putT T o.e o.h) ∧ Below base w w' := by
  have hu34 := Try.underlying34
  have hu36 := Try.underlying36
  have HST := Aside0.mk h
  have HT := Aside0.mk hT
  have HLEN := Aside0.mk (show T.length ≤ 1000000 by omega)
  have HGD := Aside0.mk hgd
  have HBS := Aside0.mk h.base_le
  have HR0 := Aside0.mk hr0
  clear hr0
  have HC0 := Aside0.mk hc0
  clear hc0
  have HR3 := Aside0.mk hr3
  clear hr3
  have HC3 := Aside0.mk hc3
  clear hc3
  have HR4 := Aside0.mk hr4
  clear hr4
  have HC4 := Aside0.mk hc4
  clear hc4
  clear h hT hlen hgd
  obtain ⟨rc, hrc⟩ : ∃ rc : Int, (if putOk T o.e o.h = true then (0 : Int) else 1) = rc := ⟨_, rfl⟩
  have HRC := Aside0.mk hrc
  clear hrc
  obtain ⟨D, D', h1, h2, h3, h4, h5⟩ := HST.out
  have HDB := Aside0.mk (show ∀ k, D k → base ≤ k by obtain ⟨_, _, _, _, _, _, _, hDb⟩ := h1; exact hDb)
  have H1 := Aside0.mk h1
  have H2 := Aside0.mk h2
  have H3 := Aside0.mk h3
  have H4 := Aside0.mk h4
  have H5 := Aside0.mk h5
  clear h1 h2 h3 h4 h5
  go_enter Try.func12, Try.ntmps12
  go_wp2_with ((with_reducible refine gate_dst (N := 5) rfl ?_); (try (refine gate_guard (by rfl) ?_; dsimp only)); refine box_event ?hg (N := 5) ?hd (cs := #[.int .i64 o.what, .int .i64 o.h, .int .i64 o.n, .slice A0 o.e.f0.length c0, .int .i64 o.e.f1, .bool o.e.f2, .slice A3 o.e.f3.length c3, .slice A4 o.hi.length c4]) (t := 36) ?hr ?_; (case hd => rfl); (case hg => rfl); (case hr => first | (go_simp; done) | (go_simp; rfl)); intro g5 hqg5 w1 hxg5 hbg5; have n_ := Aside0.mk hqg5; clear hqg5; have hqg5 := n_; clear n_; have n_ := Aside0.mk hxg5; clear hxg5; have hxg5 := n_; clear n_; have n_ := Aside0.mk hbg5; clear hbg5; have hbg5 := n_; clear n_; have ST1 := Aside0.mk (HST.out.below hbg5.out); have hca0 : w1.cell? ⟨g5, 0, none⟩ = some (.int .i64 o.what) := (blk_cell hxg5.out 0).trans rfl; have hca1 : w1.cell? ⟨g5, 1, none⟩ = some (.int .i64 o.h) := (blk_cell hxg5.out 1).trans rfl; have hca2 : w1.cell? ⟨g5, 2, none⟩ = some (.int .i64 o.n) := (blk_cell hxg5.out 2).trans rfl; have hca3 : w1.cell? ⟨g5, 3, none⟩ = some (.slice A0 o.e.f0.length c0) := (blk_cell hxg5.out 3).trans rfl; have hca4 : w1.cell? ⟨g5, 4, none⟩ = some (.int .i64 o.e.f1) := (blk_cell hxg5.out 4).trans rfl; have hca5 : w1.cell? ⟨g5, 5, none⟩ = some (.bool o.e.f2) := (blk_cell hxg5.out 5).trans rfl; have hca6 : w1.cell? ⟨g5, 6, none⟩ = some (.slice A3 o.e.f3.length c3) := (blk_cell hxg5.out 6).trans rfl; have hca7 : w1.cell? ⟨g5, 7, none⟩ = some (.slice A4 o.hi.length c4) := (blk_cell hxg5.out 7).trans rfl)
  have B1d := Aside0.mk (below_drew hbg5.out)
  refine s_ 14 [] (fun w' => w'.cell? ⟨g5, 1, none⟩ = some (.int .i64 o.h) ∧ w'.cell? ⟨g5, 3, none⟩ = some (.slice A0 o.e.f0.length c0) ∧ w'.cell? ⟨g5, 4, none⟩ = some (.int .i64 o.e.f1) ∧ w'.cell? ⟨g5, 5, none⟩ = some (.bool o.e.f2) ∧ w'.cell? ⟨g5, 6, none⟩ = some (.slice A3 o.e.f3.length c3)) (hS := ⟨(blk_cell (blk_drew hxg5.out) 1).trans rfl, (blk_cell (blk_drew hxg5.out) 3).trans rfl, (blk_cell (blk_drew hxg5.out) 4).trans rfl, (blk_cell (blk_drew hxg5.out) 5).trans rfl, (blk_cell (blk_drew hxg5.out) 6).trans rfl⟩) (h := fun hHeld => ?_)
  refine p_ 0 76 (bb 14 1) (h := ?_)
  refine p_ 1 77 (bb 14 3) (h := ?_)
  refine t_ 2 78 (bb 14 7) hHeld (h := ?_)
  refine p_ 3 79 (bb 14 15) (h := ?_)
  refine t_ 4 80 (bb 14 31) hHeld (h := ?_)
  refine p_ 6 82 (bb 14 95) (h := ?_)
  refine p_ 7 83 (bb 14 223) (h := ?_)
  refine t_ 8 84 (bb 14 479) hHeld (h := ?_)
  refine p_ 9 85 (bb 14 991) (h := ?_)
  refine t_ 10 86 (bb 14 2015) hHeld (h := ?_)
  refine n_ 5 81 (bb 14 2047) (h := fun K hK => ?_)
  refine goes_ Try.func21 (by kernel_rfl) rfl #[.pointer (some ⟨g, 0, none⟩), .agg #[.slice A0 o.e.f0.length c0, .int .i64 o.e.f1, .bool o.e.f2, .slice A3 o.e.f3.length c3], .int .i64 o.h] (by rfl) rfl rfl (by (try simp only [List.map_toArray, List.map_cons, List.map_nil]); first | done | rfl) ?_
  refine (put_calls (H1.out.below B1d.out) HT.out HLEN.out A0 c0 o.e A3 c3 (Kd.C_below (Kd.F_now HR0.out) B1d.out) HC0.out (Kd.C_below (Kd.F_now HR3.out) B1d.out) HC3.out HGD.out.1 o.h).mono ?_
  rintro ex w81 ⟨rfl, hp81⟩
  refine ⟨_, rfl, ?_⟩
  rw [HRC.out]
  obtain ⟨D1, p1, p2, p3, p4⟩ := hp81
  have P1 := Aside0.mk p1
  have P2 := Aside0.mk p2
  have P3 := Aside0.mk p3
  have P4 := Aside0.mk p4
  clear p1 p2 p3 p4
  have G581 := Aside0.mk ((P4.out.kept.2 g5 (blk_lt (blk_drew hxg5.out)) (fun hd => by have h1 := H3.out g5 hd; have h2 := hqg5.out; omega)).trans (blk_drew hxg5.out))
  have B81 := Aside0.mk (show Below base w w81 from (below_weakB HBS.out B1d.out).trans (P4.out.to_below HDB.out (Nat.le_trans HBS.out B1d.out.size)))
  have RL81 := Aside0.mk ((H2.out.below B1d.out).step (fun k hk hlt => P4.out.kept.2 k hlt (fun hd => H5.out k hd hk)))
  refine hK.out _ _ ⟨(blk_cell G581.out 1).trans rfl, (blk_cell G581.out 3).trans rfl, (blk_cell G581.out 4).trans rfl, (blk_cell G581.out 5).trans rfl, (blk_cell G581.out 6).trans rfl⟩ (fun hHeld => ?_)
  clear hK K
  refine m_ 81 (h := ?_)
  refine n_ 11 87 (bb 14 4095) (h := fun K hK => ?_)
  refine goes_ Try.func27 (by kernel_rfl) rfl #[.pointer (some ⟨gr, 0, none⟩), .agg #[.slice A0 o.e.f0.length c0, .int .i64 o.e.f1, .bool o.e.f2, .slice A3 o.e.f3.length c3], .int .i64 o.h] (by rfl) rfl rfl (by (try simp only [List.map_toArray, List.map_cons, List.map_nil]); first | done | rfl) ?_
  refine (rput_calls RL81.out HT.out HLEN.out A0 c0 o.e A3 c3 (Kd.F_now (Kd.F_step HR0.out (fun k hk _ => B81.out.block k hk))) HC0.out (Kd.F_now (Kd.F_step HR3.out (fun k hk _ => B81.out.block k hk))) HC3.out HGD.out.1 o.h).mono ?_
  rintro ex w87 ⟨rfl, hp87⟩
  refine ⟨_, rfl, ?_⟩
  rw [HRC.out]
  have G587 := Aside0.mk (show w87.heap[g5]? = _ from by
    obtain ⟨D2, _, _, _, q4⟩ := hp87
    exact (q4.kept.2 g5 (blk_lt G581.out) (fun hd => by
      obtain ⟨vL, vH, hgr, _⟩ := H2.out
      have h1 := blk_lt hgr
      have h2 := hqg5.out
      omega)).trans G581.out)
  have HP87 := Aside0.mk hp87
  clear hp87
  refine hK.out _ _ ⟨(blk_cell G587.out 1).trans rfl, (blk_cell G587.out 3).trans rfl, (blk_cell G587.out 4).trans rfl, (blk_cell G587.out 5).trans rfl, (blk_cell G587.out 6).trans rfl⟩ (fun hHeld => ?_)
  clear hK K
  refine m_ 87 (h := ?_)
  refine p_ 12 88 (bb 14 8191) (h := ?_)
  refine p_ 13 6 (bb 14 16383) (h := ?_)
  refine d_ (h := ?_)

  go_wp2
  go_ret
  have hlt : ∀ k, D' k → k < w81.heap.size := fun k hk => Nat.lt_of_lt_of_le (H4.out k hk) (Nat.le_trans B1d.out.size P4.out.kept.1)
  have hdis : ∀ k, D1 k → ¬ D' k := fun k hk hk' => (P2.out k hk).elim (fun h => H5.out k h hk') (fun h => by have h1 := H4.out k hk'; have h2 := B1d.out.size; omega)
  obtain ⟨r1, r2⟩ := St.rput P1.out RL81.out P3.out hlt hdis HP87.out
  exact ⟨rfl, r1, B81.out.trans r2⟩

theorem step_calls {w : World} {base g gr : Nat} {T : List Tw} (h : St w base g gr T T) (hT : FitT T) (hlen : T.length ≤ 100000) (o : SOp) (A0 : Option Addr) (c0 : Nat) (A3 : Option Addr) (c3 : Nat) (A4 : Option Addr) (c4 : Nat) (hr0 : Kd.F (Kd.int .u8) w (fun k => k < base) A0 o.e.f0.length o.e.f0) (hc0 : o.e.f0.length ≤ c0) (hr3 : Kd.F (Kd.int .u8) w (fun k => k < base) A3 o.e.f3.length o.e.f3) (hc3 : o.e.f3.length ≤ c3) (hr4 : Kd.F (Kd.int .u8) w (fun k => k < base) A4 o.hi.length o.hi) (hc4 : o.hi.length ≤ c4) (hgd : GoodO o) :
    Calls Try.prog 12 #[.pointer (some ⟨g, 0, none⟩), .pointer (some ⟨gr, 0, none⟩), .agg #[.int .i64 o.what, .int .i64 o.h, .int .i64 o.n, .slice A0 o.e.f0.length c0, .int .i64 o.e.f1, .bool o.e.f2, .slice A3 o.e.f3.length c3, .slice A4 o.hi.length c4]] w fun ex w' => ex = .returned (.bool true) ∧ St w' base g gr (stepT T o) (stepT T o) ∧ Below base w w' := by
  unfold stepT
  by_cases h3 : Go.bits BinOp.and IntKind.i64 o.what 7 = 3
  · rw [if_pos (.inl h3)]
    exact step_get h hT hlen o A0 c0 A3 c3 A4 c4 hr0 hc0 hr3 hc3 hr4 hc4 hgd h3
  · by_cases h4 : Go.bits BinOp.and IntKind.i64 o.what 7 = 4
    · rw [if_pos (.inr (.inl h4))]
      exact step_scan h hT hlen o A0 c0 A3 c3 A4 c4 hr0 hc0 hr3 hc3 hr4 hc4 hgd h4
    · by_cases h5 : Go.bits BinOp.and IntKind.i64 o.what 7 = 5
      · rw [if_pos (.inr (.inr h5))]
        exact step_level h hT hlen o A0 c0 A3 c3 A4 c4 hr0 hc0 hr3 hc3 hr4 hc4 hgd h5
      · rw [if_neg (fun hh => hh.elim h3 (fun hh => hh.elim h4 h5))]
        exact step_put h hT hlen o A0 c0 A3 c3 A4 c4 hr0 hc0 hr3 hc3 hr4 hc4 hgd (beq_eq_false_iff_ne.2 h3) (beq_eq_false_iff_ne.2 h4) (beq_eq_false_iff_ne.2 h5)
end Go.Proofs.Ytjlkcidohabcfaa.Sk
