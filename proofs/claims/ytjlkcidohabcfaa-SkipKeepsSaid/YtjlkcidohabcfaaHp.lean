/- The small functions of entries: heads, orders and copies, each with what it returns. Conditions: those of each theorem. -/
import Derived.Test.YtjlkcidohabcfaaPx0
import Derived.Test.YtjlkcidohabcfaaH0
import Derived.Test.YtjlkcidohabcfaaHs
namespace Go.Proofs.Ytjlkcidohabcfaa.Sk
open Go.RowKit Go.Proofs.YtjlkcidohabcfaaW.PrintWords Go.Proofs.YtjlkcidohabcfaaW.PrintLast Go.Proofs.YtjlkcidohabcfaaW.PrintMore Go.Proofs.Ytjlkcidohabcfaa.Px
set_option linter.unusedVariables false
set_option linter.unusedSimpArgs false

theorem goesF_ {P : Program} {ops : Array Oper} {Q : Exit → Act → World → Prop} {rest : List Oper} {oi : Oper} {a : Act} {w : World} (N : Option Tmp) (hd : oi.dst = N) (hg : oi.guard = none) {f : FuncId} {fn : Func} {t : Operand} {as0 : Array Operand} {ts : Array TypeId} (hf : P.funcs[f]? = some fn) (hname : (fn.name == "runtime.NumGoroutine") = false) (hb : fn.body.isSome = true) (first captured args : Array Value)
    (hop : oi.op = .call { callee := .value t, args := as0, argTypes := ts }) (hv : a.eval t = .func (.func f) first captured) (hargs : (first ++ as0.map a.eval) ++ captured = args)
    (h : Calls P f args w fun e w' => ∃ v, e = .returned v ∧ wpList P ops Q rest (a.put N v) w') : wpList P ops Q (oi :: rest) a w := by
  refine wpList_plain hg fun K hK => ?_
  have he := enters_ hf hname hb args w
  have hrun : (execOp a.eval oi).run P w = .ok (.enter f args) w := by
    unfold execOp
    simp only [hop, resolve, hv, Deferred.ofValue, Sem.run_bind, Sem.run_pure, Result.andThen_ok, invoke, hargs, he]
  unfold Oper.wp
  rw [hrun, Oper.upon_enter]
  refine h.mono fun e w'' hh => ?_
  obtain ⟨v, rfl, hk⟩ := hh
  subst hd
  exact hK _ _ hk

/-- A function value that tells of each of these entries whether it is so. -/
def SoAt (w : World) (N : List (Nat × Tw)) (fid : Nat) (caps : Array Value) (q : S34 → Bool) : Prop :=
  ∀ (p : Nat × Tw) (A0 : Option Addr) (c0 : Nat) (A3 : Option Addr) (c3 : Nat) (w1 : World), p ∈ N → Below w.heap.size w w1 → p.2.e.f0.length ≤ c0 → Kd.C (Kd.int .u8) w1 A0 p.2.e.f0.length p.2.e.f0 →
    Calls Try.prog fid (#[.agg #[.slice A0 p.2.e.f0.length c0, .int .i64 p.2.e.f1, .bool p.2.e.f2, .slice A3 p.2.e.f3.length c3]] ++ caps) w1 fun ex w' => ex = .returned (.bool (q p.2.e)) ∧ Below w1.heap.size w1 w'
/-- The last tower of a height that is so; the head, if none is. -/
def pd (N : List (Nat × Tw)) (g : Nat) (q : S34 → Bool) (j : Nat) : Nat := endOf g (((N.filter (tall j)).filter (fun p => q p.2.e)).map Prod.fst)
def pcells (N : List (Nat × Tw)) (g : Nat) (q : S34 → Bool) : Array Value := #[pv (some (pd N g q 0)), pv (some (pd N g q 1)), pv (some (pd N g q 2)), pv (some (pd N g q 3)), pv (some (pd N g q 4)), pv (some (pd N g q 5)), pv (some (pd N g q 6)), pv (some (pd N g q 7)), pv (some (pd N g q 8)), pv (some (pd N g q 9)), pv (some (pd N g q 10)), pv (some (pd N g q 11))]
def ofrom (N : List (Nat × Tw)) (g : Nat) (q : S34 → Bool) (h : Int) (j : Nat) : Option Nat := if h < j then some (pd N g q j) else none
def ocells (N : List (Nat × Tw)) (g : Nat) (q : S34 → Bool) (h : Int) : Array Value := #[pv (ofrom N g q h 0), pv (ofrom N g q h 1), pv (ofrom N g q h 2), pv (ofrom N g q h 3), pv (ofrom N g q h 4), pv (ofrom N g q h 5), pv (ofrom N g q h 6), pv (ofrom N g q h 7), pv (ofrom N g q h 8), pv (ofrom N g q h 9), pv (ofrom N g q h 10), pv (ofrom N g q h 11)]
theorem ocells_end (N : List (Nat × Tw)) (g : Nat) (q : S34 → Bool) : ocells N g q (-1) = pcells N g q := rfl
theorem ocells_start (N : List (Nat × Tw)) (g : Nat) (q : S34 → Bool) : ocells N g q 11 = #[.pointer none, .pointer none, .pointer none, .pointer none, .pointer none, .pointer none, .pointer none, .pointer none, .pointer none, .pointer none, .pointer none, .pointer none] := rfl
theorem ocells_put (N : List (Nat × Tw)) (g : Nat) (q : S34 → Bool) : ∀ j : Nat, j < 12 → (ocells N g q j).setIfInBounds j (pv (some (pd N g q j))) = ocells N g q (j - 1) := lt12 ⟨rfl, rfl, rfl, rfl, rfl, rfl, rfl, rfl, rfl, rfl, rfl, rfl⟩
theorem ocells_at (N : List (Nat × Tw)) (g : Nat) (q : S34 → Bool) : ∀ j : Nat, j < 12 → (ocells N g q j)[j]? = some (.pointer none) := lt12 ⟨rfl, rfl, rfl, rfl, rfl, rfl, rfl, rfl, rfl, rfl, rfl, rfl⟩
theorem ocells_size (N : List (Nat × Tw)) (g : Nat) (q : S34 → Bool) (h : Int) : (ocells N g q h).size = 12 := rfl
section
variable {w w1 : World} {K : Nat → Prop} {g : Nat} {N : List (Nat × Tw)} {nx : Nat → Nat → Option Nat} {cnt sz : Int} {q : S34 → Bool}
/-- Where the walk stands at a height: X is behind it. -/
def OnWay (N : List (Nat × Tw)) (g : Nat) (q : S34 → Bool) (j : Nat) (b : Nat) (Y : List (Nat × Tw)) : Prop := ∃ X, N.filter (tall j) = X ++ Y ∧ b = endOf g (X.map Prod.fst) ∧ ∀ p, p ∈ X → q p.2.e = true
theorem OnWay.mem {j b : Nat} {Y : List (Nat × Tw)} (h : OnWay N g q j b Y) : b ∈ g :: N.map Prod.fst := by
  obtain ⟨X, h1, h2, _⟩ := h
  rw [h2]
  rcases List.mem_cons.1 (endOf_mem g (X.map Prod.fst)) with he | hm
  · rw [he]; simp
  · obtain ⟨p, hp, he⟩ := List.mem_map.1 hm
    refine List.mem_cons_of_mem _ (List.mem_map.2 ⟨p, ?_, he⟩)
    have : p ∈ N.filter (tall j) := by rw [h1]; exact List.mem_append_left _ hp
    exact (List.mem_filter.1 this).1
theorem OnWay.next (hS : SLat w K g N nx cnt sz) {j b : Nat} {Y : List (Nat × Tw)} (hj : j < 12) (h : OnWay N g q j b Y) : nx b j = (Y.map Prod.fst).head? := by
  obtain ⟨X, h1, h2, _⟩ := h
  have hc := hS.chain j hj
  unfold lev at hc
  rw [h1, List.map_append] at hc
  have := (Chain.split hc).head
  rw [h2]
  exact this
theorem OnWay.step {j b : Nat} {y : Nat × Tw} {Y : List (Nat × Tw)} (h : OnWay N g q j b (y :: Y)) (hq : q y.2.e = true) : OnWay N g q j y.1 Y := by
  obtain ⟨X, h1, h2, h3⟩ := h
  refine ⟨X ++ [y], by rw [h1]; simp, by simp [endOf_snoc], fun p hp => ?_⟩
  rcases List.mem_append.1 hp with hp | hp
  · exact h3 p hp
  · rw [List.mem_singleton.1 hp]; exact hq
theorem OnWay.in_ {j b : Nat} {y : Nat × Tw} {Y : List (Nat × Tw)} (h : OnWay N g q j b (y :: Y)) : y ∈ N := by
  obtain ⟨X, h1, h2, h3⟩ := h
  have : y ∈ N.filter (tall j) := by rw [h1]; simp
  exact (List.mem_filter.1 this).1
theorem OnWay.done (hp : N.Pairwise (fun a b => q b.2.e = true → q a.2.e = true)) {j b : Nat} {Y : List (Nat × Tw)} (h : OnWay N g q j b Y) (hY : ∀ y, Y.head? = some y → q y.2.e = false) : b = pd N g q j := by
  obtain ⟨X, h1, h2, h3⟩ := h
  unfold pd
  rw [h1, List.filter_append, List.filter_eq_self.2 (fun p hp => h3 p hp), h2]
  have : Y.filter (fun p => q p.2.e) = [] := by
    cases Y with
    | nil => rfl
    | cons y Y =>
      have hy := hY y rfl
      rw [List.filter_eq_nil_iff]
      intro p hm hqp
      rcases List.mem_cons.1 hm with rfl | hm
      · rw [hy] at hqp; cases hqp
      · have h4 := (hp.filter (tall j))
        rw [h1] at h4
        have h5 := (List.pairwise_append.1 h4).2.1
        have h6 := (List.pairwise_cons.1 h5).1 p hm hqp
        rw [hy] at h6
        cases h6
  rw [this, List.append_nil]
theorem OnWay.first (N : List (Nat × Tw)) (g : Nat) (q : S34 → Bool) (j : Nat) : OnWay N g q j g (N.filter (tall j)) := ⟨[], rfl, rfl, fun p hp => by cases hp⟩
theorem OnWay.lower (hp : N.Pairwise (fun a b => q b.2.e = true → q a.2.e = true)) {j : Nat} : ∃ Y, OnWay N g q j (pd N g q (j + 1)) Y := by
  unfold pd
  rcases List.eq_nil_or_concat ((N.filter (tall (j + 1))).filter (fun p => q p.2.e)) with h | ⟨X, y, h⟩
  · exact ⟨_, [], rfl, by rw [h], fun p hp => by cases hp⟩
  · have hy : y ∈ (N.filter (tall (j + 1))).filter (fun p => q p.2.e) := by rw [h]; simp
    obtain ⟨hy1, hq⟩ := List.mem_filter.1 hy
    obtain ⟨hyN, ht⟩ := List.mem_filter.1 hy1
    have ht' : tall j y = true := by
      unfold tall at ht ⊢
      have := of_decide_eq_true ht
      exact decide_eq_true (by omega)
    have hy2 : y ∈ N.filter (tall j) := List.mem_filter.2 ⟨hyN, ht'⟩
    obtain ⟨P, S, hs⟩ := List.append_of_mem hy2
    refine ⟨S, P ++ [y], by rw [hs]; simp, ?_, fun p hm => ?_⟩
    · rw [h]; simp [endOf_snoc]
    · rcases List.mem_append.1 hm with hm | hm
      · have h4 := hp.filter (tall j)
        rw [hs] at h4
        exact (List.pairwise_append.1 h4).2.2 p hm y (by simp) hq
      · rw [List.mem_singleton.1 hm]; exact hq
end

theorem path_outer {w wr : World} {g g4 g5 : Nat} {N : List (Nat × Tw)} {q : S34 → Bool} (hp : N.Pairwise (fun a b => q b.2.e = true → q a.2.e = true)) {j c : Nat} {Z : List (Nat × Tw)} (hn : j + 1 ≤ 12) (hj : j < 12) (hZ : OnWay N g q j c Z) (hY : ∀ y, Z.head? = some y → q y.2.e = false)
    (hG : w.heap.size ≤ g4 ∧ w.heap.size ≤ g5 ∧ g4 ≠ g5) (H4 : wr.heap[g4]? = some (.cells #[.pointer none, .pointer none, .pointer none, .pointer none, .pointer none, .pointer none, .pointer none, .pointer none, .pointer none, .pointer none, .pointer none, .pointer none] 57 (0, 0))) (H5 : wr.heap[g5]? = some (.cells (ocells N g q j) 57 (0, 0))) (HB : Below w.heap.size w wr) :
    ∃ (b n : Nat), Value.pointer (some ⟨c, 0, none⟩) = .pointer (some ⟨b, 0, none⟩) ∧ Value.int .i64 ((j : Int) - 1) = .int .i64 ((n : Int) - 1) ∧ Aside0 (j = n) ∧ Aside0 (n ≤ 12) ∧ Aside0 (∀ j, n = j + 1 → ∃ Y, OnWay N g q j b Y) ∧ Aside0 ((wr.setCell ⟨g5, j, none⟩ (.pointer (some ⟨c, 0, none⟩))).heap[g4]? = some (.cells #[.pointer none, .pointer none, .pointer none, .pointer none, .pointer none, .pointer none, .pointer none, .pointer none, .pointer none, .pointer none, .pointer none, .pointer none] 57 (0, 0))) ∧ Aside0 ((wr.setCell ⟨g5, j, none⟩ (.pointer (some ⟨c, 0, none⟩))).heap[g5]? = some (.cells (ocells N g q ((n : Int) - 1)) 57 (0, 0))) ∧ Aside0 (Below w.heap.size w (wr.setCell ⟨g5, j, none⟩ (.pointer (some ⟨c, 0, none⟩)))) := by
  have hc := hZ.done hp hY
  refine ⟨c, j, rfl, rfl, ⟨rfl⟩, ⟨by omega⟩, ⟨fun i hi => ?_⟩, ⟨?_⟩, ⟨?_⟩, ⟨below_set HB hG.2.1⟩⟩
  · rw [hc, hi]
    exact OnWay.lower hp
  · exact (Below.heap_setCell wr _ _ g4 hG.2.2).trans H4
  · rw [blk_set H5 j _, ← ocells_put N g q j hj, hc]
    rfl

theorem sets12 {w : World} {g : Nat} (h : w.heap[g]? = some (.cells #[.pointer none, .pointer none, .pointer none, .pointer none, .pointer none, .pointer none, .pointer none, .pointer none, .pointer none, .pointer none, .pointer none, .pointer none] 57 (0, 0))) (v0 v1 v2 v3 v4 v5 v6 v7 v8 v9 v10 v11 : Value) : (((((((((((((w).setCell ⟨g, 0, none⟩ v0).setCell ⟨g, 1, none⟩ v1).setCell ⟨g, 2, none⟩ v2).setCell ⟨g, 3, none⟩ v3).setCell ⟨g, 4, none⟩ v4).setCell ⟨g, 5, none⟩ v5).setCell ⟨g, 6, none⟩ v6).setCell ⟨g, 7, none⟩ v7).setCell ⟨g, 8, none⟩ v8).setCell ⟨g, 9, none⟩ v9).setCell ⟨g, 10, none⟩ v10).setCell ⟨g, 11, none⟩ v11).heap[g]? = some (.cells #[v0, v1, v2, v3, v4, v5, v6, v7, v8, v9, v10, v11] 57 (0, 0)) :=
  blk_put (cs := #[v0, v1, v2, v3, v4, v5, v6, v7, v8, v9, v10, .pointer none]) (blk_put (cs := #[v0, v1, v2, v3, v4, v5, v6, v7, v8, v9, .pointer none, .pointer none]) (blk_put (cs := #[v0, v1, v2, v3, v4, v5, v6, v7, v8, .pointer none, .pointer none, .pointer none]) (blk_put (cs := #[v0, v1, v2, v3, v4, v5, v6, v7, .pointer none, .pointer none, .pointer none, .pointer none]) (blk_put (cs := #[v0, v1, v2, v3, v4, v5, v6, .pointer none, .pointer none, .pointer none, .pointer none, .pointer none]) (blk_put (cs := #[v0, v1, v2, v3, v4, v5, .pointer none, .pointer none, .pointer none, .pointer none, .pointer none, .pointer none]) (blk_put (cs := #[v0, v1, v2, v3, v4, .pointer none, .pointer none, .pointer none, .pointer none, .pointer none, .pointer none, .pointer none]) (blk_put (cs := #[v0, v1, v2, v3, .pointer none, .pointer none, .pointer none, .pointer none, .pointer none, .pointer none, .pointer none, .pointer none]) (blk_put (cs := #[v0, v1, v2, .pointer none, .pointer none, .pointer none, .pointer none, .pointer none, .pointer none, .pointer none, .pointer none, .pointer none]) (blk_put (cs := #[v0, v1, .pointer none, .pointer none, .pointer none, .pointer none, .pointer none, .pointer none, .pointer none, .pointer none, .pointer none, .pointer none]) (blk_put (cs := #[v0, .pointer none, .pointer none, .pointer none, .pointer none, .pointer none, .pointer none, .pointer none, .pointer none, .pointer none, .pointer none, .pointer none]) (blk_put (cs := #[.pointer none, .pointer none, .pointer none, .pointer none, .pointer none, .pointer none, .pointer none, .pointer none, .pointer none, .pointer none, .pointer none, .pointer none]) (h) 0 v0 rfl) 1 v1 rfl) 2 v2 rfl) 3 v3 rfl) 4 v4 rfl) 5 v5 rfl) 6 v6 rfl) 7 v7 rfl) 8 v8 rfl) 9 v9 rfl) 10 v10 rfl) 11 v11 rfl
set_option maxHeartbeats 4000000 in
set_option maxRecDepth 100000 in
theorem path_calls {w : World} {K : Nat → Prop} {g : Nat} {N : List (Nat × Tw)} {nx : Nat → Nat → Option Nat} {cnt sz : Int} (hS : SLat w K g N nx cnt sz) (q : S34 → Bool) (hp : N.Pairwise (fun a b => q b.2.e = true → q a.2.e = true))
    (fid : Nat) (fn : Func) (caps : Array Value) (hf : Try.prog.funcs[fid]? = some fn) (hfn : (fn.name == "runtime.NumGoroutine") = false) (hfb : fn.body.isSome = true) (hso : SoAt w N fid caps q) :
    Calls Try.prog 32 #[.pointer (some ⟨g, 0, none⟩), .func (.func fid) #[] caps] w fun ex w' => ex = .returned (.agg (pcells N g q)) ∧ Below w.heap.size w w' := by
  have hu61 := Try.underlying61
  have hu59 := Try.underlying59
  have hu57 := Try.underlying57
  have HS := Aside0.mk hS
  have HSO := Aside0.mk hso
  clear hS hso
  go_enter Try.func32, Try.ntmps32
  go_wp2_with (first
    | ((with_reducible refine gate_dst (N := 4) rfl ?_); (try (refine gate_guard (by rfl) ?_; dsimp only)); refine box_event ?hg (N := 4) ?hd (cs := #[.pointer none, .pointer none, .pointer none, .pointer none, .pointer none, .pointer none, .pointer none, .pointer none, .pointer none, .pointer none, .pointer none, .pointer none]) (t := 57) ?hr ?_; (case hd => rfl); (case hg => rfl); (case hr => first | (go_simp; done) | (go_simp; rfl)); intro g4 hqg4 w1 hxg4 hbg4; have n_ := Aside0.mk hqg4; clear hqg4; have hqg4 := n_; clear n_; have n_ := Aside0.mk hxg4; clear hxg4; have hxg4 := n_; clear n_; have n_ := Aside0.mk hbg4; clear hbg4; have hbg4 := n_; clear n_)
    | ((with_reducible refine gate_dst (N := 5) rfl ?_); (try (refine gate_guard (by rfl) ?_; dsimp only)); refine box_event ?hg (N := 5) ?hd (cs := #[.pointer none, .pointer none, .pointer none, .pointer none, .pointer none, .pointer none, .pointer none, .pointer none, .pointer none, .pointer none, .pointer none, .pointer none]) (t := 57) ?hr ?_; (case hd => rfl); (case hg => rfl); (case hr => first | (go_simp; done) | (go_simp; rfl)); intro g5 hqg5 w2 hxg5 hbg5; have n_ := Aside0.mk hqg5; clear hqg5; have hqg5 := n_; clear n_; have n_ := Aside0.mk hxg5; clear hxg5; have hxg5 := n_; clear n_; have n_ := Aside0.mk hbg5; clear hbg5; have hbg5 := n_; clear n_; have hxg4b := Aside0.mk (blk_below hxg4.out hbg5.out); have HB0 := Aside0.mk (below_step hbg4.out hbg5.out); have HG := Aside0.mk (show w.heap.size ≤ g4 ∧ w.heap.size ≤ g5 ∧ g4 ≠ g5 from by have h1 := hqg4.out; have h2 := hqg5.out; have h3 := hbg4.out.size; have h4 := blk_lt hxg4.out; omega)))
  go_loopg [6, 7] 12 (fun kq v6 v7 w' => ∃ (b n : Nat), v6 = .pointer (some ⟨b, 0, none⟩) ∧ v7 = .int .i64 ((n : Int) - 1) ∧ Aside0 (kq = n) ∧ Aside0 (n ≤ 12) ∧ Aside0 (∀ j, n = j + 1 → ∃ Y, OnWay N g q j b Y) ∧ Aside0 (w'.heap[g4]? = some (.cells #[.pointer none, .pointer none, .pointer none, .pointer none, .pointer none, .pointer none, .pointer none, .pointer none, .pointer none, .pointer none, .pointer none, .pointer none] 57 (0, 0))) ∧ Aside0 (w'.heap[g5]? = some (.cells (ocells N g q ((n : Int) - 1)) 57 (0, 0))) ∧ Aside0 (Below w.heap.size w w'))
  case atStart => exact ⟨g, 12, rfl, rfl, ⟨rfl⟩, ⟨Nat.le_refl _⟩, ⟨fun j hj => ⟨_, OnWay.first N g q j⟩⟩, hxg4b, hxg5, HB0⟩
  case round =>
    clear hxg4b hxg5 HB0
    obtain ⟨b, n, rfl, rfl, HK, HN, HW, H4, H5, HB⟩ := hrel
    cases n with
    | zero =>
      have e0 : ((0 : Nat) : Int) - 1 = -1 := rfl
      rw [e0] at H5 ⊢
      rw [ocells_end] at H5
      have hca0 : wr.cell? ⟨g5, 0, none⟩ = some (.pointer (some ⟨pd N g q 0, 0, none⟩)) := (blk_cell H5.out 0).trans rfl
      have hca1 : wr.cell? ⟨g5, 1, none⟩ = some (.pointer (some ⟨pd N g q 1, 0, none⟩)) := (blk_cell H5.out 1).trans rfl
      have hca2 : wr.cell? ⟨g5, 2, none⟩ = some (.pointer (some ⟨pd N g q 2, 0, none⟩)) := (blk_cell H5.out 2).trans rfl
      have hca3 : wr.cell? ⟨g5, 3, none⟩ = some (.pointer (some ⟨pd N g q 3, 0, none⟩)) := (blk_cell H5.out 3).trans rfl
      have hca4 : wr.cell? ⟨g5, 4, none⟩ = some (.pointer (some ⟨pd N g q 4, 0, none⟩)) := (blk_cell H5.out 4).trans rfl
      have hca5 : wr.cell? ⟨g5, 5, none⟩ = some (.pointer (some ⟨pd N g q 5, 0, none⟩)) := (blk_cell H5.out 5).trans rfl
      have hca6 : wr.cell? ⟨g5, 6, none⟩ = some (.pointer (some ⟨pd N g q 6, 0, none⟩)) := (blk_cell H5.out 6).trans rfl
      have hca7 : wr.cell? ⟨g5, 7, none⟩ = some (.pointer (some ⟨pd N g q 7, 0, none⟩)) := (blk_cell H5.out 7).trans rfl
      have hca8 : wr.cell? ⟨g5, 8, none⟩ = some (.pointer (some ⟨pd N g q 8, 0, none⟩)) := (blk_cell H5.out 8).trans rfl
      have hca9 : wr.cell? ⟨g5, 9, none⟩ = some (.pointer (some ⟨pd N g q 9, 0, none⟩)) := (blk_cell H5.out 9).trans rfl
      have hca10 : wr.cell? ⟨g5, 10, none⟩ = some (.pointer (some ⟨pd N g q 10, 0, none⟩)) := (blk_cell H5.out 10).trans rfl
      have hca11 : wr.cell? ⟨g5, 11, none⟩ = some (.pointer (some ⟨pd N g q 11, 0, none⟩)) := (blk_cell H5.out 11).trans rfl
      have hfa0 : wr.frozen? ⟨g5, 0, none⟩ = false := blk_frozen H5.out 0
      have hfa1 : wr.frozen? ⟨g5, 1, none⟩ = false := blk_frozen H5.out 1
      have hfa2 : wr.frozen? ⟨g5, 2, none⟩ = false := blk_frozen H5.out 2
      have hfa3 : wr.frozen? ⟨g5, 3, none⟩ = false := blk_frozen H5.out 3
      have hfa4 : wr.frozen? ⟨g5, 4, none⟩ = false := blk_frozen H5.out 4
      have hfa5 : wr.frozen? ⟨g5, 5, none⟩ = false := blk_frozen H5.out 5
      have hfa6 : wr.frozen? ⟨g5, 6, none⟩ = false := blk_frozen H5.out 6
      have hfa7 : wr.frozen? ⟨g5, 7, none⟩ = false := blk_frozen H5.out 7
      have hfa8 : wr.frozen? ⟨g5, 8, none⟩ = false := blk_frozen H5.out 8
      have hfa9 : wr.frozen? ⟨g5, 9, none⟩ = false := blk_frozen H5.out 9
      have hfa10 : wr.frozen? ⟨g5, 10, none⟩ = false := blk_frozen H5.out 10
      have hfa11 : wr.frozen? ⟨g5, 11, none⟩ = false := blk_frozen H5.out 11
      have hcb0 : wr.cell? ⟨g4, 0, none⟩ = some (.pointer none) := (blk_cell H4.out 0).trans rfl
      have hcb1 : wr.cell? ⟨g4, 1, none⟩ = some (.pointer none) := (blk_cell H4.out 1).trans rfl
      have hcb2 : wr.cell? ⟨g4, 2, none⟩ = some (.pointer none) := (blk_cell H4.out 2).trans rfl
      have hcb3 : wr.cell? ⟨g4, 3, none⟩ = some (.pointer none) := (blk_cell H4.out 3).trans rfl
      have hcb4 : wr.cell? ⟨g4, 4, none⟩ = some (.pointer none) := (blk_cell H4.out 4).trans rfl
      have hcb5 : wr.cell? ⟨g4, 5, none⟩ = some (.pointer none) := (blk_cell H4.out 5).trans rfl
      have hcb6 : wr.cell? ⟨g4, 6, none⟩ = some (.pointer none) := (blk_cell H4.out 6).trans rfl
      have hcb7 : wr.cell? ⟨g4, 7, none⟩ = some (.pointer none) := (blk_cell H4.out 7).trans rfl
      have hcb8 : wr.cell? ⟨g4, 8, none⟩ = some (.pointer none) := (blk_cell H4.out 8).trans rfl
      have hcb9 : wr.cell? ⟨g4, 9, none⟩ = some (.pointer none) := (blk_cell H4.out 9).trans rfl
      have hcb10 : wr.cell? ⟨g4, 10, none⟩ = some (.pointer none) := (blk_cell H4.out 10).trans rfl
      have hcb11 : wr.cell? ⟨g4, 11, none⟩ = some (.pointer none) := (blk_cell H4.out 11).trans rfl
      have hfb0 : wr.frozen? ⟨g4, 0, none⟩ = false := blk_frozen H4.out 0
      have hfb1 : wr.frozen? ⟨g4, 1, none⟩ = false := blk_frozen H4.out 1
      have hfb2 : wr.frozen? ⟨g4, 2, none⟩ = false := blk_frozen H4.out 2
      have hfb3 : wr.frozen? ⟨g4, 3, none⟩ = false := blk_frozen H4.out 3
      have hfb4 : wr.frozen? ⟨g4, 4, none⟩ = false := blk_frozen H4.out 4
      have hfb5 : wr.frozen? ⟨g4, 5, none⟩ = false := blk_frozen H4.out 5
      have hfb6 : wr.frozen? ⟨g4, 6, none⟩ = false := blk_frozen H4.out 6
      have hfb7 : wr.frozen? ⟨g4, 7, none⟩ = false := blk_frozen H4.out 7
      have hfb8 : wr.frozen? ⟨g4, 8, none⟩ = false := blk_frozen H4.out 8
      have hfb9 : wr.frozen? ⟨g4, 9, none⟩ = false := blk_frozen H4.out 9
      have hfb10 : wr.frozen? ⟨g4, 10, none⟩ = false := blk_frozen H4.out 10
      have hfb11 : wr.frozen? ⟨g4, 11, none⟩ = false := blk_frozen H4.out 11
      go_wp2
      refine bodyPost_ret (results_cell_row rfl _ _ g4 57 (#[.pointer (some ⟨pd N g q 0, 0, none⟩), .pointer (some ⟨pd N g q 1, 0, none⟩), .pointer (some ⟨pd N g q 2, 0, none⟩), .pointer (some ⟨pd N g q 3, 0, none⟩), .pointer (some ⟨pd N g q 4, 0, none⟩), .pointer (some ⟨pd N g q 5, 0, none⟩), .pointer (some ⟨pd N g q 6, 0, none⟩), .pointer (some ⟨pd N g q 7, 0, none⟩), .pointer (some ⟨pd N g q 8, 0, none⟩), .pointer (some ⟨pd N g q 9, 0, none⟩), .pointer (some ⟨pd N g q 10, 0, none⟩), .pointer (some ⟨pd N g q 11, 0, none⟩)]) (0, 0) _ rfl (sets12 H4.out _ _ _ _ _ _ _ _ _ _ _ _) Try.underlying57 rfl (by kernel_rfl)) rfl ?_
      exact ⟨rfl, below_set (below_set (below_set (below_set (below_set (below_set (below_set (below_set (below_set (below_set (below_set (below_set (HB.out) HG.out.1) HG.out.1) HG.out.1) HG.out.1) HG.out.1) HG.out.1) HG.out.1) HG.out.1) HG.out.1) HG.out.1) HG.out.1) HG.out.1⟩
    | succ j =>
      obtain ⟨Y, hY⟩ := HW.out j rfl
      have e0 : ((j + 1 : Nat) : Int) - 1 = (j : Int) := by omega
      rw [e0] at H5 ⊢
      have hj0 : decide (0 ≤ (j : Int)) = true := decide_eq_true (by omega)
      have hj1 : (j : Int) < 12 := by have := HN.out; omega
      have HYA := Aside0.mk hY
      clear hY
      go_wp2
      go_loopg [6] Y.length (fun kq v6 w' => ∃ (c : Nat) (Z : List (Nat × Tw)), v6 = .pointer (some ⟨c, 0, none⟩) ∧ Aside0 (kq = Z.length) ∧ Aside0 (OnWay N g q j c Z) ∧ Aside0 (w'.heap[g4]? = some (.cells #[.pointer none, .pointer none, .pointer none, .pointer none, .pointer none, .pointer none, .pointer none, .pointer none, .pointer none, .pointer none, .pointer none, .pointer none] 57 (0, 0))) ∧ Aside0 (w'.heap[g5]? = some (.cells (ocells N g q j) 57 (0, 0))) ∧ Aside0 (Below w.heap.size w w'))
      case atStart => exact ⟨b, Y, rfl, ⟨rfl⟩, HYA, H4, H5, HB⟩
      case round =>
        clear HYA H4 H5 HB
        obtain ⟨c, Z, rfl, HK2, HZ, H4, H5, HB⟩ := hrel
        have hSr := Aside0.mk (HS.out.below HB.out)
        have hcm := Aside0.mk HZ.out.mem
        have hj2 : j < 12 := by omega
        have hc5 : wr.cell? ⟨g5, j, none⟩ = some (.pointer none) := (blk_cell H5.out j).trans (ocells_at N g q j hj2)
        have hf5 := blk_frozen H5.out j
        have hnx := HZ.out.next hSr.out hj2
        have hcc := hSr.out.cell hcm.out hj2
        rw [hnx] at hcc
        cases Z with
        | nil =>
          replace hcc : wr.cell? ⟨c, 5 + j, none⟩ = some (.pointer none) := hcc
          go_wp2
          go_roundg j
          case measure => have h1 := HK.out; omega
          case rel => exact path_outer hp HN.out hj2 HZ.out (fun y hy => by cases hy) HG.out H4.out H5.out HB.out
        | cons y Z =>
          replace hcc : wr.cell? ⟨c, 5 + j, none⟩ = some (.pointer (some ⟨y.1, 0, none⟩)) := hcc
          obtain ⟨A0, c0, A3, c3, hy0, hy1, hy2, hy3, hy4⟩ := hSr.out.node y HZ.out.in_
          have hd0 : wr.cell? ⟨y.1, 0, none⟩ = some (.slice A0 y.2.e.f0.length c0) := (blk_cell hy0 0).trans rfl
          have hd1 : wr.cell? ⟨y.1, 1, none⟩ = some (.int .i64 y.2.e.f1) := (blk_cell hy0 1).trans rfl
          have hd2 : wr.cell? ⟨y.1, 2, none⟩ = some (.bool y.2.e.f2) := (blk_cell hy0 2).trans rfl
          have hd3 : wr.cell? ⟨y.1, 3, none⟩ = some (.slice A3 y.2.e.f3.length c3) := (blk_cell hy0 3).trans rfl
          have HY0 := Aside0.mk hy0
          have HY1 := Aside0.mk hy1
          have HY2 := Aside0.mk hy2
          clear hy0 hy1 hy2 hy3 hy4
          cases hqy : q y.2.e with
          | true =>
            go_wp2_with ((with_reducible refine gate_dst (N := 33) rfl ?_); (try (refine gate_guard (by rfl) ?_; dsimp only)); refine goesF_ (some 33) rfl rfl hf hfn hfb #[] caps (#[.agg #[.slice A0 y.2.e.f0.length c0, .int .i64 y.2.e.f1, .bool y.2.e.f2, .slice A3 y.2.e.f3.length c3]] ++ caps) rfl rfl (by (try simp only [List.map_toArray, List.map_cons, List.map_nil]); first | done | rfl) ?_; refine (HSO.out y A0 c0 A3 c3 wr HZ.out.in_ HB.out HY1.out (Kd.F_now HY2.out)).mono ?_; rintro ex w3 ⟨rfl, hb3⟩; refine ⟨_, rfl, ?_⟩; rw [hqy]; have hb3 := Aside0.mk hb3; have H5b := Aside0.mk (blk_below H5.out hb3.out); have hc5b : w3.cell? ⟨g5, j, none⟩ = some (.pointer none) := (blk_cell H5b.out j).trans (ocells_at N g q j hj2); have hf5b := blk_frozen H5b.out j; have hSr3 := Aside0.mk (HS.out.below (below_step HB.out hb3.out)); have hcc3 : w3.cell? ⟨c, 5 + j, none⟩ = some (.pointer (some ⟨y.1, 0, none⟩)) := (hSr3.out.cell hcm.out hj2).trans (by rw [hnx]; rfl))
            go_roundg Z.length
            case measure => have h1 := HK2.out; simp only [List.length_cons] at h1; omega
            case rel => exact ⟨y.1, Z, rfl, ⟨rfl⟩, ⟨HZ.out.step hqy⟩, ⟨blk_below H4.out hb3.out⟩, H5b, ⟨below_step HB.out hb3.out⟩⟩
          | false =>
            go_wp2_with ((with_reducible refine gate_dst (N := 33) rfl ?_); (try (refine gate_guard (by rfl) ?_; dsimp only)); refine goesF_ (some 33) rfl rfl hf hfn hfb #[] caps (#[.agg #[.slice A0 y.2.e.f0.length c0, .int .i64 y.2.e.f1, .bool y.2.e.f2, .slice A3 y.2.e.f3.length c3]] ++ caps) rfl rfl (by (try simp only [List.map_toArray, List.map_cons, List.map_nil]); first | done | rfl) ?_; refine (HSO.out y A0 c0 A3 c3 wr HZ.out.in_ HB.out HY1.out (Kd.F_now HY2.out)).mono ?_; rintro ex w3 ⟨rfl, hb3⟩; refine ⟨_, rfl, ?_⟩; rw [hqy]; have hb3 := Aside0.mk hb3; have H5b := Aside0.mk (blk_below H5.out hb3.out); have hc5b : w3.cell? ⟨g5, j, none⟩ = some (.pointer none) := (blk_cell H5b.out j).trans (ocells_at N g q j hj2); have hf5b := blk_frozen H5b.out j; have hSr3 := Aside0.mk (HS.out.below (below_step HB.out hb3.out)); have hcc3 : w3.cell? ⟨c, 5 + j, none⟩ = some (.pointer (some ⟨y.1, 0, none⟩)) := (hSr3.out.cell hcm.out hj2).trans (by rw [hnx]; rfl))
            go_roundg j
            case measure => have h1 := HK.out; omega
            case rel => exact path_outer hp HN.out hj2 HZ.out (fun z hz => by simp only [List.head?_cons, Option.some.injEq] at hz; rw [← hz]; exact hqy) HG.out (blk_below H4.out hb3.out) H5b.out (below_step HB.out hb3.out)
end Go.Proofs.Ytjlkcidohabcfaa.Sk
