/- Several texts of ours laid together: Hz Hw He Hsw Hro. Conditions: those of each theorem. -/
import Derived.Test.YtobjkjmmkbhecaaPx0
import Derived.Test.YtobjkjmmkbhecaaCore
import Derived.Test.YtobjkjmmkbhecaaSpecA
import Derived.Test.YtobjkjmmkbhecaaHso
namespace Go.Proofs.Ytobjkjmmkbhecaa.Sk
open Go.RowKit Go.Proofs.YtobjkjmmkbhecaaW.PrintWords Go.Proofs.YtobjkjmmkbhecaaW.PrintLast Go.Proofs.YtobjkjmmkbhecaaW.PrintMore Go.Proofs.Ytobjkjmmkbhecaa.Px
set_option linter.unusedVariables false
/-- n Bools: the bits of m. -/
def bb (n m : Nat) : Array Bool := ((List.range n).map fun i => m.testBit i).toArray
section
variable {P : Program} {ops : Array Oper} {Q : Exit → Act → World → Prop} {md : Region.Mode} {S : World → Prop} {ds : List Nat} {fuel : Nat} {l : Array Bool} {a : Act} {w : World} {oi : Oper}
theorem p_ (i N : Nat) (l' : Array Bool) {v : Value} {a' : Act} (hi : ops[i]? = some oi := by rfl) (hN : oi.dst = some N := by rfl) (hc : anyB md ops l l' i = true := by kernel_rfl) (hQ : ∀ c a w, Q (.panic c) (a.put oi.dst v) w → Q (.panic c) a w := by exact fun _ _ _ h => h)
  (hw : Region.wanted oi (yielded ops a.tmps) = true := by rfl) (hy : ∀ w', (execOp a.eval oi).run P w' = .ok (.value v) w' := by (intro w'; go_simp; with_reducible rfl)) (ha : a.put (some N) v = a' := by (simp only [Act.put, List.setIfInBounds_toArray, List.set_cons_zero, List.set_cons_succ, i64_w, i32_w]; rfl)) (h : wpAnyLast P md ops Q S ds fuel l' a' w) : wpAnyLast P md ops Q S ds (fuel + 1) l a w :=
 pure_ l' hi hN hc hQ (.inl ⟨hw, hy⟩) ha h
theorem o_ (i N : Nat) (l' : Array Bool) {a' : Act} (hi : ops[i]? = some oi := by rfl) (hN : oi.dst = some N := by rfl) (hc : anyB md ops l l' i = true := by kernel_rfl) (hQ : ∀ c a w, Q (.panic c) (a.put oi.dst undef) w → Q (.panic c) a w := by exact fun _ _ _ h => h)
  (hw : Region.wanted oi (yielded ops a.tmps) = false := by rfl) (ha : a.put (some N) undef = a' := by (simp only [Act.put, List.setIfInBounds_toArray, List.set_cons_zero, List.set_cons_succ, i64_w, i32_w]; rfl)) (h : wpAnyLast P md ops Q S ds fuel l' a' w) : wpAnyLast P md ops Q S ds (fuel + 1) l a w :=
 pure_ l' hi hN hc hQ (.inr ⟨hw, rfl⟩) ha h
theorem t_ (i N : Nat) (l' : Array Bool) {v : Value} {a' : Act} (hS : S w) (hi : ops[i]? = some oi := by rfl) (hN : oi.dst = some N := by rfl) (hc : takeB md ops ds l l' i = true := by kernel_rfl) (hQ : ∀ c a w, Q (.panic c) (a.put oi.dst v) w → Q (.panic c) a w := by exact fun _ _ _ h => h)
  (hw : Region.wanted oi (yielded ops a.tmps) = true := by rfl) (hy : ∀ w', S w' → (execOp a.eval oi).run P w' = .ok (.value v) w' := by (intro w' hs; go_simp; with_reducible rfl)) (ha : a.put (some N) v = a' := by (simp only [Act.put, List.setIfInBounds_toArray, List.set_cons_zero, List.set_cons_succ, i64_w, i32_w]; rfl)) (h : wpAnyLast P md ops Q S ds fuel l' a' w) : wpAnyLast P md ops Q S ds (fuel + 1) l a w :=
 take_ l' hi hN hc hQ (.inl ⟨hw, hy⟩) hS ha h
theorem n_ (i N : Nat) (l' : Array Bool) (hi : ops[i]? = some oi := by rfl) (hN : oi.dst = some N := by rfl) (hc : readyB md ops l l' i = true := by kernel_rfl) (hd : i ∉ ds := by decide)
  (h : ∀ K : Act → World → Prop, Shut (∀ a' w', S w' → (S w' → wpAnyLast P md ops Q S ds fuel l' a' w') → K a' w') → if Region.wanted oi (yielded ops a.tmps) = true then Oper.wp P oi a w K Q else K (a.put (some N) undef) w) :
  wpAnyLast P md ops Q S ds (fuel + 1) l a w := one_ l' hi hN hc hd h
theorem l_ (i : Nat) (l' : Array Bool) {w1 : World} (hi : ops[i]? = some oi := by rfl) (hN : oi.dst = none := by rfl) (hc : readyB md ops l l' i = true := by kernel_rfl) (hd : i ∈ ds := by decide) (hw : Region.wanted oi (yielded ops a.tmps) = true := by rfl)
  (hrun : (execOp a.eval oi).run P w = .ok .skip w1 := by (go_simp; rfl)) (h : wpAnyLast P md ops Q S ds fuel l' a w1) : wpAnyLast P md ops Q S ds (fuel + 1) l a w :=
 last_ l' hi hN hc hd (fun K hK => skip_ hw hN hrun (hK.out _ _ h))
theorem m_ (N : Nat) {a' : Act} {v : Value} (ha : a.put (some N) v = a' := by (simp only [Act.put, List.setIfInBounds_toArray, List.set_cons_zero, List.set_cons_succ, i64_w, i32_w]; rfl)) (h : wpAnyLast P md ops Q S ds fuel l a' w) : wpAnyLast P md ops Q S ds fuel l (a.put (some N) v) w := norm_ ha h
theorem s_ {id : Nat} (n : Nat) (ds : List Nat) (S : World → Prop) (hm : P.follows .mixedOrders = true := by kernel_rfl) (hn : ops.size = n := by rfl) (hl : Array.replicate n false = bb n 0 := by kernel_rfl) (hS : S w.drew) (h : S w.drew → wpAnyLast P .any ops Q S ds n (bb n 0) a w.drew) : (Code.region id ops true).wp P Q a w :=
 start_ (bb n 0) hm hn hl hS h
theorem d_ {n : Nat} (hr : (Region.ready md ops l == []) = true := by kernel_rfl) (h : Q .normal a w) : wpAnyLast P md ops Q S ds n l a w := done_ hr h
end
end Go.Proofs.Ytobjkjmmkbhecaa.Sk

namespace Go.Proofs.Ytobjkjmmkbhecaa.Sk
open Go.RowKit Go.Proofs.YtobjkjmmkbhecaaW.PrintWords Go.Proofs.YtobjkjmmkbhecaaW.PrintLast Go.Proofs.YtobjkjmmkbhecaaW.PrintMore Go.Proofs.Ytobjkjmmkbhecaa.Px Go.Proofs.Ytobjkjmmkbhecaa.Sw
set_option linter.unusedVariables false
set_option linter.unusedSimpArgs false

theorem goesF_ {P : Program} {ops : Array Oper} {Q : Exit → Act → World → Prop} {rest : List Oper} {oi : Oper} {a : Act} {w : World} (N : Option Tmp) (hd : oi.dst = N) (hg : oi.guard = none) {f : FuncId} {fn : Func} {t : Operand} {as0 : Array Operand} {ts : Array TypeId} (hf : P.funcs[f]? = some fn) (hname : (fn.name == "runtime.NumGoroutine") = false) (hb : fn.body.isSome = true) (first captured args : Array Value)
  (hop : oi.op = .call { callee := .value t, args := as0, argTypes := ts }) (hv : a.eval t = .func (.func f) first captured) (hargs : (first ++ as0.map a.eval) ++ captured = args)
  (h : Calls P f args w fun e w' => ∃ v, e = .returned v ∧ wpList P ops Q rest (a.put N v) w') : wpList P ops Q (oi :: rest) a w := by
 refine wpList_plain hg fun K hK => ?_
 have he := enters_ hf hname hb args w
 have hrun : (execOp a.eval oi).run P w = .ok (.enter f args) w := by
  unfold execOp
  simp only [hop, resolve, hv, Deferred.ofValue, Sem.run_bind, Sem.run_pure, Result.andThen_ok, invoke, hargs, he]
 unfold Oper.wp
 rw [hrun, Oper.upon_enter]
 refine h.mono fun e w'' hh => ?_
 obtain ⟨v, rfl, hk⟩ := hh
 subst hd
 exact hK _ _ hk
/-- The blocks in S may have turned, and there may be new ones; nothing else. -/
structure Chg (w w' : World) (S : Nat → Prop) : Prop where
 os : w'.os = w.os
 tape : w'.tape = w.tape
 output : w'.output = w.output
 kept : Kept w w' S
theorem Chg.of_below {w w' : World} (h : Below w.heap.size w w') (S : Nat → Prop) : Chg w w' S := ⟨h.os, h.tape, h.output, Kept.of_below h S⟩
theorem Chg.drew {w w' : World} {S : Nat → Prop} (h : Chg w w' S) : Chg w w'.drew S := ⟨h.os, h.tape, h.output, h.kept.drew⟩
theorem Chg.set {w w' : World} {S : Nat → Prop} (h : Chg w w' S) {p : Addr} (hp : S p.block ∨ w.heap.size ≤ p.block) (u : Value) : Chg w (w'.setCell p u) S := ⟨h.os, h.tape, h.output, h.kept.setCell hp u⟩
theorem Chg.mono {w w' : World} {S S' : Nat → Prop} (h : Chg w w' S) (hs : ∀ k, S k → S' k) : Chg w w' S' := ⟨h.os, h.tape, h.output, h.kept.mono hs⟩
theorem Chg.trans {w w1 w2 : World} {S S2 : Nat → Prop} (h : Chg w w1 S) (h2 : Chg w1 w2 S2) (hs : ∀ k, S2 k → S k ∨ w.heap.size ≤ k) : Chg w w2 S := ⟨h2.os.trans h.os, h2.tape.trans h.tape, h2.output.trans h.output, h.kept.then_ h2.kept hs⟩
theorem Chg.below {w w' : World} {S : Nat → Prop} {base : Nat} (h : Chg w w' S) (hs : ∀ k, S k → base ≤ k) (hb : base ≤ w.heap.size) : Below base w w' := ⟨h.os, h.tape, h.output, h.kept.1, fun k hk => h.kept.2 k (by omega) (fun h2 => by have := hs k h2; omega)⟩
theorem Chg.grown {w w' w2 : World} {S : Nat → Prop} {row : Option Nat} (h : Chg w w' S) (hg : w'.grownBy w2 row) (hS : ∀ k, row = some k → S k ∨ w.heap.size ≤ k) : Chg w w2 S := ⟨hg.os.trans h.os, hg.tape.trans h.tape, hg.output.trans h.output, Kept.of_grown hg h.kept hS⟩
theorem Chg.below_step {w w' w2 : World} {S : Nat → Prop} (h : Chg w w' S) (hb : Below w'.heap.size w' w2) : Chg w w2 S := h.trans (Chg.of_below hb (fun _ => False)) (fun _ hk => hk.elim)
section
variable {P : Program} {ops : Array Oper} {rest : List Oper} {o : Oper} {a : Act} {Q : Exit → Act → World → Prop}
theorem clear_event {W w1 : World} {v u : Value} (hg : o.guard = none) (hd : o.dst = none) (s : Operand) (t : TypeId) (ho : o.op = .call { callee := .builtin .clear, args := #[s], argTypes := #[t] }) (hs : a.eval s = u)
  (hrun : ∀ ty, (Builtin.clear_ #[t] ty #[u]).run P W = .ok v w1) (h : wpList P ops Q rest a w1) : wpList P ops Q (o :: rest) a W := by
 refine wpList_plain hg fun K hK => ?_
 unfold Oper.wp execOp
 simp only [ho, resolve, invoke, builtin, Sem.run_bind, Sem.run_pure, Result.andThen_ok, List.map_toArray, List.map_cons, List.map_nil, hs, hrun]
 refine hK _ _ ?_
 rw [hd]
 exact h
end

theorem Chg.refl (w : World) (S : Nat → Prop) : Chg w w S := Chg.of_below (Below.refl _ _) S
theorem Chg.drewN {w w' : World} {S : Nat → Prop} (h : Chg w w' S) (m : Nat) : Chg w (w'.drewN m) S := ⟨h.os, h.tape, h.output, h.kept.drewN m⟩
section
variable {α : Type} {d : Kd α} {e base n cap g : Nat} {ok okp : Nat → Prop} {W : World} {xs : List α}
theorem N_blk (h : Kd.N d e W base ok (.slice (some ⟨g, 0, none⟩) n cap) xs) : ∃ cur, W.heap[g]? = some (.cells cur e (0, 0)) ∧ cur.size = cap * d.sz := by
 obtain ⟨_, rows, hl2, ⟨hR0, inner, ho2, hr⟩, hf⟩ := h
 obtain ⟨ho3, ho4⟩ := ho2
 rcases ho4 with ⟨hv, _⟩ | ⟨g', cap', cur, hv, hb, hh, hnc', hcm, hcs, ht⟩
 ·
  cases hv
 injection hv with ha hn hc
 injection ha with ha
 injection ha with hg
 subst hg; subst hc
 exact ⟨cur, hh, hcs⟩
theorem N_head {ad : Addr} (h : Kd.N d e W base ok (.slice (some ad) n cap) xs) : ∃ g, ad = ⟨g, 0, none⟩ := by
 obtain ⟨_, rows, _, hR, _⟩ := h
 exact Kd.R_head hR
/-- Element i is written whole. -/
theorem N_put (h : Kd.N d e W base ok (.slice (some ⟨g, 0, none⟩) n cap) xs) (i : Nat) (hi : i < n) {seg : List Value} {x' : α} (hM : Kd.FK d W okp x' seg) (hokp : ∀ k, okp k → ok k ∧ k ≠ g) :
  Kd.N d e (W.setCells g (i * d.sz) seg) base ok (.slice (some ⟨g, 0, none⟩) n cap) (xs.set i x') ∧ W.grownBy (W.setCells g (i * d.sz) seg) (some g) := by
 have hn := (Kd.N_reads' h).1
 obtain ⟨c, hcl, _, hcc, _⟩ := Kd.N_elem h x' (i : Int) (by omega) (by omega)
 have hs : seg.length = d.sz := d.K_len (Kd.FK_now hM)
 have h2 := Kd.N_seg h (i : Int) (by omega) (by omega) (c := c) (seg := seg) (j := 0) hcl hcc (by omega) (x' := x') (okp := okp) (by
  have e0 : c.take 0 ++ seg ++ c.drop (0 + seg.length) = seg := by rw [List.take_zero, List.nil_append, Nat.zero_add, List.drop_eq_nil_of_le (by omega), List.append_nil]
  rw [e0]; exact hM) hokp
 rw [Int.toNat_natCast, Nat.add_zero] at h2
 exact h2
theorem N_put_run {P : Program} (h : Kd.N d e W base ok (.slice (some ⟨g, 0, none⟩) n cap) xs) (i : Nat) (hi : i < n) {seg : List Value} {x' : α} (hM : Kd.FK d W okp x' seg) (t : TypeId) (u : Value) (hu : u.cells.toList = seg) (ht : (P.info? t).map (·.size) = some d.sz) :
  (Instr.storeAt t (.pointer (some ⟨g, i * d.sz, none⟩)) u).run P W = .ok () (W.setCells g (i * d.sz) seg) := by
 obtain ⟨cur, hh, hcs⟩ := N_blk h
 have hc := (Kd.N_reads' h).2.1
 have hs : seg.length = d.sz := d.K_len (Kd.FK_now hM)
 refine run_store_run t u seg hh hu (by rw [hs]; exact ht) ?_ (d.K_one (Kd.FK_now hM))
 have h2 : i * d.sz + d.sz ≤ n * d.sz := by rw [← Nat.succ_mul]; exact Nat.mul_le_mul_right _ hi
 have h3 : n * d.sz ≤ cap * d.sz := Nat.mul_le_mul_right _ hc
 omega
section
variable {P : Program} {ops : Array Oper} {Q : Exit → Act → World → Prop} {md : Region.Mode} {S : World → Prop} {ds : List Nat} {fuel : Nat} {l : Array Bool} {a : Act} {oi : Oper} {rest : List Oper}
/-- One of the last stores of a region that draws its order: a whole element of a row. -/
theorem lN_ (i : Nat) (l' : Array Bool) (t : TypeId) (p x : Operand) (k : Nat) {ad : Addr} {x' : α} {u : Value} {seg : List Value} (had : ad = ⟨g, 0, none⟩) (HN : Kd.N d e W base ok (.slice (some ad) n cap) xs) (hk : k < n) (hM : Kd.FK d W okp x' seg) (hokp : ∀ k, okp k → ok k ∧ k ≠ g)
  (ht : (P.info? t).map (·.size) = some d.sz) (hu : u.cells.toList = seg) (hi : ops[i]? = some oi) (hN : oi.dst = none) (hc : readyB md ops l l' i = true) (hd : i ∈ ds) (hw : Region.wanted oi (yielded ops a.tmps) = true)
  (hop : oi.op = .store t p x) (hp : a.eval p = .pointer (some (ad.add (k * d.sz)))) (hx : a.eval x = u)
  (h : ∀ w1, Kd.N d e w1 base ok (.slice (some ad) n cap) (xs.set k x') → W.grownBy w1 (some g) → wpAnyLast P md ops Q S ds fuel l' a w1) : wpAnyLast P md ops Q S ds (fuel + 1) l a W := by
 subst had
 obtain ⟨h1, h2⟩ := N_put HN k hk hM hokp
 have hr := N_put_run (P := P) HN k hk hM t u hu ht
 refine l_ i l' (w1 := W.setCells g (k * d.sz) seg) hi hN hc hd hw ?_ (h _ h1 h2)
 rw [add_at, Nat.zero_add] at hp
 unfold execOp
 simp only [hop, hp, hx, Sem.run_bind, Sem.run_pure, Result.andThen_ok, hr]
end
end

theorem wadd {x y z : Nat} (h : x + y = z) (hb : z ≤ 9000000000000000000) : wrap64 ((x : Int) + (y : Int)) = (z : Int) := by
 rw [wrap_in (by omega) (by omega)]; omega
theorem wsub {x y z : Nat} (h : z + y = x) (hb : x ≤ 9000000000000000000) : wrap64 ((x : Int) - (y : Int)) = (z : Int) := by
 rw [wrap_in (by omega) (by omega)]; omega
theorem wadd1 {x z : Nat} (h : x + 1 = z) (hb : z ≤ 9000000000000000000) : wrap64 ((x : Int) + 1) = (z : Int) := by
 rw [wrap_in (by omega) (by omega)]; omega
theorem wsub1 {x z : Nat} (h : z + 1 = x) (hb : x ≤ 9000000000000000000) : wrap64 ((x : Int) - 1) = (z : Int) := by
 rw [wrap_in (by omega) (by omega)]; omega
theorem mid_eq {i j h : Nat} (hh : h = (i + j) / 2) (hb : i + j ≤ 4000000000000) : wrap64 (IntKind.u64.wrap (wrap64 ((i : Int) + (j : Int))) / 2) = (h : Int) := by
 rw [wrap_in (n := (i : Int) + j) (by omega) (by omega)]
 have e : IntKind.u64.wrap ((i : Int) + (j : Int)) = (i : Int) + j := by
  simp [IntKind.wrap, IntKind.bits, IntKind.signed]
  omega
 rw [e, wrap_in (by omega) (by omega)]
 omega
section
variable {P : Program} {ops : Array Oper} {Q : Exit → Act → World → Prop} {md : Region.Mode} {S : World → Prop} {ds : List Nat} {fuel : Nat} {l : Array Bool}
/-- A call of a function value, the last of what reads in a region that draws its order. -/
theorem lcv_ (i N : Nat) (l' : Array Bool) {oi : Oper} {a : Act} {w : World} {f : FuncId} {fn : Func} {t : Operand} {as0 : Array Operand} {ts : Array TypeId} (first captured args : Array Value)
  (hf : P.funcs[f]? = some fn) (hname : (fn.name == "runtime.NumGoroutine") = false) (hb : fn.body.isSome = true)
  (hi : ops[i]? = some oi) (hN : oi.dst = some N) (hc : readyB md ops l l' i = true) (hd : i ∈ ds) (hw : Region.wanted oi (yielded ops a.tmps) = true)
  (hop : oi.op = .call { callee := .value t, args := as0, argTypes := ts }) (hv : a.eval t = .func (.func f) first captured) (hargs : (first ++ as0.map a.eval) ++ captured = args)
  (h : Calls P f args w fun e w' => ∃ v, e = .returned v ∧ wpAnyLast P md ops Q S ds fuel l' (a.put (some N) v) w') : wpAnyLast P md ops Q S ds (fuel + 1) l a w := by
 refine last_ l' hi hN hc hd (fun K hK => ?_)
 rw [if_pos hw]
 have he := enters_ hf hname hb args w
 have hrun : (execOp a.eval oi).run P w = .ok (.enter f args) w := by
  unfold execOp
  simp only [hop, resolve, hv, Deferred.ofValue, Sem.run_bind, Sem.run_pure, Result.andThen_ok, invoke, hargs, he]
 unfold Oper.wp
 rw [hrun, Oper.upon_enter]
 refine h.mono fun e w'' hh => ?_
 obtain ⟨v, rfl, hk⟩ := hh
 rw [hN]
 exact hK.out _ _ hk
/-- The same, where it isn't wanted. -/
theorem loff_ (i N : Nat) (l' : Array Bool) {oi : Oper} {a a' : Act} {w : World} (hi : ops[i]? = some oi) (hN : oi.dst = some N) (hc : readyB md ops l l' i = true) (hd : i ∈ ds) (hw : Region.wanted oi (yielded ops a.tmps) = false) (ha : a.put (some N) undef = a')
  (h : wpAnyLast P md ops Q S ds fuel l' a' w) : wpAnyLast P md ops Q S ds (fuel + 1) l a w := by
 refine last_ l' hi hN hc hd (fun K hK => ?_)
 refine off_ hw ?_
 rw [ha]
 exact hK.out _ _ h
end
section
variable {α : Type} {d : Kd α} {e base n cap g : Nat} {ok : Nat → Prop} {W : World} {xs : List α}
/-- Cells behind a row's length are written. -/
theorem N_beyond (h : Kd.N d e W base ok (.slice (some ⟨g, 0, none⟩) n cap) xs) (o : Nat) (seg : List Value) (ho : n * d.sz ≤ o) (hl : o + seg.length ≤ cap * d.sz) :
  Kd.N d e (W.setCells g o seg) base ok (.slice (some ⟨g, 0, none⟩) n cap) xs ∧ Kept W (W.setCells g o seg) (fun k => k = g) := by
 obtain ⟨s1, s2, s3, s4⟩ := setCells_same g seg o W
 have hfar : ∀ k, k ≠ g → (W.setCells g o seg).heap[k]? = W.heap[k]? := fun k hk => setCells_far seg _ k hk
 refine ⟨?_, by rw [Kept, s4]; exact ⟨Nat.le_refl _, fun i _ hn => hfar i hn⟩⟩
 obtain ⟨h0, rows, hl2, ⟨hR0, inner, ho2, hr⟩, hf⟩ := h
 obtain ⟨ho3, ho4⟩ := ho2
 rcases ho4 with ⟨hv, _⟩ | ⟨g', cap', cur, hv, hb, hh, hnc', hcm, hcs, ht⟩
 ·
  cases hv
 injection hv with ha hn hc
 injection ha with ha
 injection ha with hg
 subst hg; subst hc
 obtain ⟨cur', h3, h4, h5⟩ := setCells_row seg o W cur hh (by show o + seg.length ≤ cur.size; rw [hcs]; exact hl)
 refine ⟨h0, rows, hl2, ⟨hR0, inner, ⟨ho3, .inr ⟨g, cap, cur', by rw [hn], hb, h3, hnc', hcm, by rw [h4]; exact hcs, ?_⟩⟩, hr⟩, fun j x c hx hc => ?_⟩
 ·
  have hno : rows.length * (Kd.raw d.sz).sz ≤ o := by rw [← hn]; exact ho
  have hco : o ≤ cur.size := by show o ≤ cur.size; rw [hcs]; exact Nat.le_trans (Nat.le_add_right _ _) hl
  rw [h5, List.append_assoc, List.take_append_of_le_length (by rw [List.length_take, Array.length_toList]; exact Nat.le_min.2 ⟨hno, Nat.le_trans hno hco⟩), List.take_take, Nat.min_eq_left hno, ht]
 ·
  exact Kd.FK_step (hf j x c hx hc) (fun k hk _ => hfar k (fun he => hk.2 (by rw [he]; rfl)))
end
end Go.Proofs.Ytobjkjmmkbhecaa.Sk

namespace Go.Proofs.Ytobjkjmmkbhecaa.Sk
open Go.RowKit Go.Proofs.YtobjkjmmkbhecaaW.PrintWords Go.Proofs.YtobjkjmmkbhecaaW.PrintLast Go.Proofs.YtobjkjmmkbhecaaW.PrintMore Go.Proofs.Ytobjkjmmkbhecaa.Px Go.Proofs.Ytobjkjmmkbhecaa.Sw
set_option linter.unusedVariables false
set_option linter.unusedSimpArgs false

theorem k36_C {W : World} {e : S36} {A0 : Option Addr} {c0 : Nat} {A3 : Option Addr} {c3 : Nat} (h : k36.K W e [.slice A0 e.f0.length c0, .int .i64 e.f1, .bool e.f2, .slice A3 e.f3.length c3]) : e.f0.length ≤ c0 ∧ Kd.C (Kd.int .u8) W A0 e.f0.length e.f0 ∧ e.f3.length ≤ c3 ∧ Kd.C (Kd.int .u8) W A3 e.f3.length e.f3 := by
 obtain ⟨B0, d0, B3, d3, he, l0, g0, l3, g3⟩ := k36_open h
 simp only [List.cons.injEq, Value.slice.injEq, true_and, and_true] at he
 obtain ⟨⟨rfl, rfl⟩, ⟨rfl, rfl⟩⟩ := he
 exact ⟨l0, g0, l3, g3⟩
/-- Element i of a row of the call's own. -/
theorem at_NE {W : World} {base n cap : Nat} {ok : Nat → Prop} {ad : Addr} {xs : List S36} (h : Kd.N k36 36 W base ok (.slice (some ad) n cap) xs) (i : Nat) (e : S36) (he : xs[i]? = some e) :
  ∃ A0 c0 A3 c3, W.cell? (ad.add (i * 4)) = some (.slice A0 e.f0.length c0) ∧ W.cell? ⟨(ad.add (i * 4)).block, (ad.add (i * 4)).off + 1, none⟩ = some (.int .i64 e.f1) ∧ W.cell? ⟨(ad.add (i * 4)).block, (ad.add (i * 4)).off + 2, none⟩ = some (.bool e.f2) ∧ W.cell? ⟨(ad.add (i * 4)).block, (ad.add (i * 4)).off + 3, none⟩ = some (.slice A3 e.f3.length c3) ∧
   Kd.FK k36 W (fun k => ok k ∧ k ≠ ad.block) e [.slice A0 e.f0.length c0, .int .i64 e.f1, .bool e.f2, .slice A3 e.f3.length c3] := by
 have hn := (Kd.N_reads' h).1
 have hi : i < xs.length := (List.getElem?_eq_some_iff.1 he).1
 obtain ⟨c, _, hFK, hcc⟩ := Kd.N_get h e (i : Int) (by omega) (by omega)
 rw [Int.toNat_natCast, List.getD_eq_getElem?_getD, he] at hFK
 replace hFK : Kd.FK k36 W _ e c := hFK
 obtain ⟨A0, c0, A3, c3, rfl, l0, g0, l3, g3⟩ := k36_open (Kd.FK_now hFK)
 have hc : ∀ j u, ([.slice A0 e.f0.length c0, .int .i64 e.f1, .bool e.f2, .slice A3 e.f3.length c3] : List Value)[j]? = some u → W.cell? (ad.add (i * 4 + j)) = some u := by
  intro j u hu
  have := hcc j u hu
  rwa [Int.toNat_natCast] at this
 refine ⟨A0, c0, A3, c3, hc 0 _ rfl, by rw [← add_field _ _ 1 (by omega)]; exact hc 1 _ rfl, by rw [← add_field _ _ 2 (by omega)]; exact hc 2 _ rfl, by rw [← add_field _ _ 3 (by omega)]; exact hc 3 _ rfl, Kd.FK_mono hFK (fun k hk => ⟨hk.1, fun he => hk.2 (by rw [he]; rfl)⟩)⟩
/-- The same of a row that is only read. -/
theorem at_CE {W : World} {A : Option Addr} {n : Nat} {xs : List S36} (h : Kd.C k36 W A n xs) (i : Nat) (e : S36) (he : xs[i]? = some e) :
  ∃ ad A0 c0 A3 c3, A = some ad ∧ W.cell? (ad.add (i * 4)) = some (.slice A0 e.f0.length c0) ∧ W.cell? ⟨(ad.add (i * 4)).block, (ad.add (i * 4)).off + 1, none⟩ = some (.int .i64 e.f1) ∧ W.cell? ⟨(ad.add (i * 4)).block, (ad.add (i * 4)).off + 2, none⟩ = some (.bool e.f2) ∧ W.cell? ⟨(ad.add (i * 4)).block, (ad.add (i * 4)).off + 3, none⟩ = some (.slice A3 e.f3.length c3) ∧ e.f0.length ≤ c0 ∧ Kd.C (Kd.int .u8) W A0 e.f0.length e.f0 ∧ e.f3.length ≤ c3 ∧ Kd.C (Kd.int .u8) W A3 e.f3.length e.f3 := by
 have hn := h.1
 have hi : i < xs.length := (List.getElem?_eq_some_iff.1 he).1
 obtain ⟨ad, c, e0, _, hK, hc0⟩ := Kd.C_get h e (i : Int) (by omega) (by omega)
 rw [Int.toNat_natCast, List.getD_eq_getElem?_getD, he] at hK
 replace hK : k36.K W e c := hK
 obtain ⟨A0, c0, A3, c3, rfl, l0, g0, l3, g3⟩ := k36_open hK
 have hc : ∀ j u, ([.slice A0 e.f0.length c0, .int .i64 e.f1, .bool e.f2, .slice A3 e.f3.length c3] : List Value)[j]? = some u → W.cell? (ad.add (i * 4 + j)) = some u := by
  intro j u hu
  have := hc0 j u hu
  rwa [Int.toNat_natCast] at this
 exact ⟨ad, A0, c0, A3, c3, e0, hc 0 _ rfl, by rw [← add_field _ _ 1 (by omega)]; exact hc 1 _ rfl, by rw [← add_field _ _ 2 (by omega)]; exact hc 2 _ rfl, by rw [← add_field _ _ 3 (by omega)]; exact hc 3 _ rfl, l0, g0, l3, g3⟩
/-- A function value that says of each element of G whether it is so, wherever all but S is kept. -/
def Says1 (w : World) (S : Nat → Prop) (G : S36 → Prop) (fid : Nat) (caps : Array Value) (q : S36 → Bool) : Prop :=
 ∀ (e : S36) (A0 : Option Addr) (c0 : Nat) (A3 : Option Addr) (c3 : Nat) (w1 : World), G e → Kept w w1 S → e.f0.length ≤ c0 → Kd.C (Kd.int .u8) w1 A0 e.f0.length e.f0 → e.f3.length ≤ c3 → Kd.C (Kd.int .u8) w1 A3 e.f3.length e.f3 →
  Calls Try.prog fid (#[.agg #[.slice A0 e.f0.length c0, .int .i64 e.f1, .bool e.f2, .slice A3 e.f3.length c3]] ++ caps) w1 fun ex w' => ex = .returned (.bool (q e)) ∧ Below w1.heap.size w1 w'
/-- A function value that says of two elements of G how they go. -/
def Says2 (w : World) (S : Nat → Prop) (G : S36 → Prop) (fid : Nat) (caps : Array Value) (q : S36 → S36 → Int) : Prop :=
 ∀ (e u : S36) (A0 : Option Addr) (c0 : Nat) (A3 : Option Addr) (c3 : Nat) (B0 : Option Addr) (d0 : Nat) (B3 : Option Addr) (d3 : Nat) (w1 : World), G e → G u → Kept w w1 S → e.f0.length ≤ c0 → Kd.C (Kd.int .u8) w1 A0 e.f0.length e.f0 → e.f3.length ≤ c3 → Kd.C (Kd.int .u8) w1 A3 e.f3.length e.f3 → u.f0.length ≤ d0 → Kd.C (Kd.int .u8) w1 B0 u.f0.length u.f0 → u.f3.length ≤ d3 → Kd.C (Kd.int .u8) w1 B3 u.f3.length u.f3 →
  Calls Try.prog fid (#[.agg #[.slice A0 e.f0.length c0, .int .i64 e.f1, .bool e.f2, .slice A3 e.f3.length c3], .agg #[.slice B0 u.f0.length d0, .int .i64 u.f1, .bool u.f2, .slice B3 u.f3.length d3]] ++ caps) w1 fun ex w' => ex = .returned (.int .i64 (q e u)) ∧ Below w1.heap.size w1 w'
theorem Says1.kept {w w1 : World} {S : Nat → Prop} {G : S36 → Prop} {fid : Nat} {caps : Array Value} {q : S36 → Bool} (h : Says1 w S G fid caps q) (hk : Kept w w1 S) : Says1 w1 S G fid caps q :=
 fun e A0 c0 A3 c3 w2 h1 h2 => h e A0 c0 A3 c3 w2 h1 (hk.then_ h2 (fun _ h => .inl h))
theorem Says2.kept {w w1 : World} {S : Nat → Prop} {G : S36 → Prop} {fid : Nat} {caps : Array Value} {q : S36 → S36 → Int} (h : Says2 w S G fid caps q) (hk : Kept w w1 S) : Says2 w1 S G fid caps q :=
 fun e u A0 c0 A3 c3 B0 d0 B3 d3 w2 h1 h2 h3 => h e u A0 c0 A3 c3 B0 d0 B3 d3 w2 h1 h2 (hk.then_ h3 (fun _ h => .inl h))
theorem ht_E : (Try.prog.info? 36).map (·.size) = some k36.sz := by kernel_rfl
theorem one_E (e : S36) (A0 : Option Addr) (c0 : Nat) (A3 : Option Addr) (c3 : Nat) : (.agg #[.slice A0 e.f0.length c0, .int .i64 e.f1, .bool e.f2, .slice A3 e.f3.length c3] : Value).cells.toList = [.slice A0 e.f0.length c0, .int .i64 e.f1, .bool e.f2, .slice A3 e.f3.length c3] := rfl
end Go.Proofs.Ytobjkjmmkbhecaa.Sk

namespace Go.Proofs.Ytobjkjmmkbhecaa.Sk
open Go.RowKit Go.Proofs.YtobjkjmmkbhecaaW.PrintWords Go.Proofs.YtobjkjmmkbhecaaW.PrintLast Go.Proofs.YtobjkjmmkbhecaaW.PrintMore Go.Proofs.Ytobjkjmmkbhecaa.Px Go.Proofs.Ytobjkjmmkbhecaa.Sw
set_option linter.unusedVariables false
set_option linter.unusedSimpArgs false
set_option maxHeartbeats 4000000 in
set_option maxRecDepth 100000 in
theorem swapR_calls {w : World} {base n cap : Nat} {ok : Nat → Prop} {ad : Addr} {P A M B S : List S36} (hn : Kd.N k36 36 w base ok (.slice (some ad) n cap) (P ++ (A ++ (M ++ (B ++ S))))) {a b m : Nat} (ha : a = P.length) (hb : b = P.length + (A.length + M.length)) (hm : m = A.length) (hm2 : m = B.length) (fv : Value) :
  Calls Try.prog 74 #[.slice (some ad) n cap, .int .i64 (a : Int), .int .i64 (b : Int), .int .i64 (m : Int), fv] w fun ex w' => ex = .returned (.tuple #[]) ∧ Kd.N k36 36 w' base ok (.slice (some ad) n cap) (P ++ (B ++ (M ++ (A ++ S)))) ∧ Chg w w' (fun k => some k = (Value.slice (some ad) n cap).ownBlock) := by
 have huE := Try.underlying36
 have HN := Aside0.mk hn
 have HMAX := Aside0.mk (show n ≤ 9223372036854775807 by rw [(Kd.N_reads' hn).1]; exact Kd.C_max (Kd.N_reads' hn).2.2)
 have HLEN := Aside0.mk (show n = P.length + (A.length + (M.length + (B.length + S.length))) by have := (Kd.N_reads' hn).1; simpa using this)
 obtain ⟨gv, hgv⟩ := N_head hn
 have HAD := Aside0.mk hgv
 have HA := Aside0.mk ha
 have HB := Aside0.mk hb
 have HM := Aside0.mk hm
 have HM2 := Aside0.mk hm2
 clear hn hgv ha hb hm hm2
 go_enter Try.func74, Try.ntmps74
 go_wp2
 go_loopg [10] m (fun kq v10 w' => ∃ A1 A2 B1 B2 : List S36, v10 = .int .i64 (A1.length : Int) ∧ Aside0 (kq = A2.length) ∧ Aside0 (A = A1 ++ A2 ∧ B = B1 ++ B2 ∧ B1.length = A1.length ∧ B2.length = A2.length) ∧ Aside0 (Kd.N k36 36 w' base ok (.slice (some ad) n cap) (P ++ (B1 ++ (A2 ++ (M ++ (A1 ++ (B2 ++ S))))))) ∧ Aside0 (Chg w w' (fun k => some k = (Value.slice (some ad) n cap).ownBlock)))
 case atStart => exact ⟨[], A, [], B, rfl, HM, ⟨rfl, rfl, rfl, HM2.out.symm.trans HM.out⟩, ⟨HN.out⟩, ⟨Chg.refl _ _⟩⟩
 case round =>
  obtain ⟨A1, A2, B1, B2, rfl, HK, HP, HNr, HCH⟩ := hrel
  cases gk with
  | zero =>
   have hlt : (A1.length < m) = False := eq_false (by have h1 := HK.out; have h2 := HM.out; rw [HP.out.1] at h2; simp only [List.length_append] at h2; omega)
   have HE := Aside0.mk (show P ++ (B1 ++ (A2 ++ (M ++ (A1 ++ (B2 ++ S))))) = P ++ (B ++ (M ++ (A ++ S))) by
    obtain ⟨h1, h2, h3, h4⟩ := HP.out
    have h5 : A2 = [] := List.length_eq_zero_iff.1 HK.out.symm
    have h6 : B2 = [] := List.length_eq_zero_iff.1 (by rw [h4]; exact HK.out.symm)
    rw [h1, h2, h5, h6]; simp)
   go_wp2
   go_end0
   exact ⟨rfl, HE.out ▸ HNr.out, HCH.out⟩
  | succ k1 =>
   obtain ⟨x, A2', rfl⟩ : ∃ x A', A2 = x :: A' := by
    cases A2 with
    | nil => exact absurd HK.out (by simp)
    | cons x A' => exact ⟨x, A', rfl⟩
   obtain ⟨y, B2', rfl⟩ : ∃ y B', B2 = y :: B' := by
    cases B2 with
    | nil => exact absurd HP.out.2.2.2 (by simp)
    | cons y B' => exact ⟨y, B', rfl⟩
   have HQ := Aside0.mk (show A.length = A1.length + (A2'.length + 1) ∧ B.length = A1.length + (A2'.length + 1) ∧ B1.length = A1.length ∧ B2'.length = A2'.length by
    obtain ⟨h1, h2, h3, h4⟩ := HP.out
    rw [h1, h2]; simp only [List.length_append, List.length_cons] at h4 ⊢; exact ⟨trivial, by omega, h3, by omega⟩)
   have hlt : (A1.length < m) = True := eq_true (by have h1 := HM.out; have h2 := HQ.out.1; omega)
   obtain ⟨ia, hia⟩ : ∃ i, i = a + A1.length := ⟨_, rfl⟩
   obtain ⟨ib, hib⟩ : ∃ i, i = b + A1.length := ⟨_, rfl⟩
   have HIA := Aside0.mk hia
   have HIB := Aside0.mk hib
   clear hia hib
   have HIX := Aside0.mk (show (P ++ (B1 ++ (x :: A2' ++ (M ++ (A1 ++ (y :: B2' ++ S))))))[ia]? = some x by
    have e : P ++ (B1 ++ (x :: A2' ++ (M ++ (A1 ++ (y :: B2' ++ S))))) = (P ++ B1) ++ x :: (A2' ++ (M ++ (A1 ++ (y :: B2' ++ S)))) := by simp
    rw [e]; exact get_app' (by rw [HIA.out, HA.out, List.length_append, HQ.out.2.2.1]))
   have HIY := Aside0.mk (show (P ++ (B1 ++ (x :: A2' ++ (M ++ (A1 ++ (y :: B2' ++ S))))))[ib]? = some y by
    have e : P ++ (B1 ++ (x :: A2' ++ (M ++ (A1 ++ (y :: B2' ++ S))))) = (P ++ (B1 ++ (x :: A2' ++ (M ++ A1)))) ++ y :: (B2' ++ S) := by simp
    rw [e]; exact get_app' (by rw [HIB.out, HB.out]; simp only [List.length_append, List.length_cons]; have := HQ.out; omega))
   have HWA := Aside0.mk (show ia < n ∧ ib < n by have h1 := HQ.out; have h2 := HLEN.out; have h3 := HA.out; have h4 := HB.out; have h5 := HIA.out; have h6 := HIB.out; omega)
   have hwa : wrap64 ((a : Int) + (A1.length : Int)) = (ia : Int) := by rw [wrap_in (by omega) (by have h1 := HMAX.out; have h2 := HWA.out; have h3 := HIA.out; omega)]; have h3 := HIA.out; omega
   have hwb : wrap64 ((b : Int) + (A1.length : Int)) = (ib : Int) := by rw [wrap_in (by omega) (by have h1 := HMAX.out; have h2 := HWA.out; have h3 := HIB.out; omega)]; have h3 := HIB.out; omega
   have HWI := Aside0.mk (show wrap64 ((A1.length : Int) + 1) = ((A1.length + 1 : Nat) : Int) by rw [wrap_in (by omega) (by have h1 := HMAX.out; have h2 := HWA.out; have h3 := HIA.out; omega)]; rfl)
   obtain ⟨X0, c0, X3, c3, hx0, hx1, hx2, hx3, hFX⟩ := at_NE HNr.out ia x HIX.out
   obtain ⟨Y0, d0, Y3, d3, hy0, hy1, hy2, hy3, hFY⟩ := at_NE HNr.out ib y HIY.out
   have HFX := Aside0.mk hFX
   have HFY := Aside0.mk hFY
   clear hFX hFY
   have hila : (ia < n) = True := eq_true HWA.out.1
   have hilb : (ib < n) = True := eq_true HWA.out.2
   have HSET := Aside0.mk (show ((P ++ (B1 ++ (x :: A2' ++ (M ++ (A1 ++ (y :: B2' ++ S)))))).set ia y).set ib x = P ++ (B1 ++ [y] ++ (A2' ++ (M ++ (A1 ++ [x] ++ (B2' ++ S))))) by
    have e : P ++ (B1 ++ (x :: A2' ++ (M ++ (A1 ++ (y :: B2' ++ S))))) = (P ++ B1) ++ x :: ((A2' ++ (M ++ A1)) ++ y :: (B2' ++ S)) := by simp
    rw [e, swap_app (by rw [HIA.out, HA.out, List.length_append, HQ.out.2.2.1]) (by rw [HIB.out, HB.out]; simp only [List.length_append]; have := HQ.out; omega)]
    simp)
   go_wp2
   refine s_ 24 [21, 23] (fun w' => w'.cell? (ad.add (ia * 4)) = some (.slice X0 x.f0.length c0) ∧ w'.cell? ⟨(ad.add (ia * 4)).block, (ad.add (ia * 4)).off + 1, none⟩ = some (.int .i64 x.f1) ∧ w'.cell? ⟨(ad.add (ia * 4)).block, (ad.add (ia * 4)).off + 2, none⟩ = some (.bool x.f2) ∧ w'.cell? ⟨(ad.add (ia * 4)).block, (ad.add (ia * 4)).off + 3, none⟩ = some (.slice X3 x.f3.length c3) ∧ w'.cell? (ad.add (ib * 4)) = some (.slice Y0 y.f0.length d0) ∧ w'.cell? ⟨(ad.add (ib * 4)).block, (ad.add (ib * 4)).off + 1, none⟩ = some (.int .i64 y.f1) ∧ w'.cell? ⟨(ad.add (ib * 4)).block, (ad.add (ib * 4)).off + 2, none⟩ = some (.bool y.f2) ∧ w'.cell? ⟨(ad.add (ib * 4)).block, (ad.add (ib * 4)).off + 3, none⟩ = some (.slice Y3 y.f3.length d3)) (hS := ⟨hx0, hx1, hx2, hx3, hy0, hy1, hy2, hy3⟩) (h := fun hHeld => ?_)
   refine p_ 0 16 (bb 24 1) (h := ?_)
   refine p_ 1 17 (bb 24 3) (h := ?_)
   refine p_ 2 18 (bb 24 7) (h := ?_)
   refine p_ 3 19 (bb 24 15) (h := ?_)
   refine p_ 4 20 (bb 24 31) (h := ?_)
   refine p_ 5 21 (bb 24 63) (h := ?_)
   refine p_ 6 22 (bb 24 127) (h := ?_)
   refine p_ 7 23 (bb 24 255) (h := ?_)
   refine p_ 8 24 (bb 24 511) (h := ?_)
   refine p_ 9 25 (bb 24 1023) (h := ?_)
   refine p_ 10 26 (bb 24 2047) (h := ?_)
   refine p_ 11 27 (bb 24 4095) (h := ?_)
   refine p_ 12 28 (bb 24 8191) (h := ?_)
   refine t_ 13 29 (bb 24 16383) hHeld (h := ?_)
   refine p_ 14 30 (bb 24 32767) (h := ?_)
   refine p_ 15 31 (bb 24 65535) (h := ?_)
   refine p_ 16 32 (bb 24 131071) (h := ?_)
   refine p_ 17 33 (bb 24 262143) (h := ?_)
   refine p_ 18 34 (bb 24 524287) (h := ?_)
   refine t_ 19 35 (bb 24 1048575) hHeld (h := ?_)
   refine p_ 20 36 (bb 24 2097151) (h := ?_)
   refine lN_ 21 (bb 24 4194303) 36 (.tmp 36) (.tmp 29) (ia) HAD.out (Kd.N_drew HNr.out) (by have h1 := HWA.out; omega) (Kd.FK_below HFY.out (below_drew (Below.refl _ _))) (fun k hk => ⟨hk.1, by have h2 := hk.2; rw [HAD.out] at h2; exact h2⟩) ht_E (one_E y Y0 d0 Y3 d3) (by rfl) (by rfl) (by kernel_rfl) (by decide) (by rfl) rfl (by first | rfl | (simp only [AtIdx]; rfl)) rfl (fun w4 hn4 hg4 => ?_)
   refine p_ 22 37 (bb 24 8388607) (h := ?_)
   refine lN_ 23 (bb 24 16777215) 36 (.tmp 37) (.tmp 35) (ib) HAD.out hn4 (by have h1 := HWA.out; omega) (Kd.FK_grown (Kd.FK_below HFX.out (below_drew (Below.refl _ _))) hg4 (fun k hk he => hk.2 (by rw [HAD.out]; injection he))) (fun k hk => ⟨hk.1, by have h2 := hk.2; rw [HAD.out] at h2; exact h2⟩) ht_E (one_E x X0 c0 X3 c3) (by rfl) (by rfl) (by kernel_rfl) (by decide) (by rfl) rfl (by first | rfl | (simp only [AtIdx]; rfl)) rfl (fun w5 hn5 hg5 => ?_)
   refine d_ (h := ?_)
   have HN5 := Aside0.mk hn5
   have HC5 := Aside0.mk (((HCH.out.drew).grown hg4 (fun k hk => .inl (by rw [HAD.out]; exact hk.symm))).grown hg5 (fun k hk => .inl (by rw [HAD.out]; exact hk.symm)))
   clear hn4 hg4 hn5 hg5 hHeld
   go_wp2
   go_roundg k1
   case measure => exact Nat.lt_succ_self _
   case rel => exact ⟨A1 ++ [x], A2', B1 ++ [y], B2', by rw [HWI.out, List.length_append]; rfl, ⟨by have h1 := HK.out; simp only [List.length_cons] at h1; omega⟩, ⟨by rw [HP.out.1]; simp, by rw [HP.out.2.1]; simp, by simp [HP.out.2.2.1], HQ.out.2.2.2⟩, ⟨HSET.out ▸ HN5.out⟩, HC5⟩
end Go.Proofs.Ytobjkjmmkbhecaa.Sk

namespace Go.Proofs.Ytobjkjmmkbhecaa.Sk
open Go.RowKit Go.Proofs.YtobjkjmmkbhecaaW.PrintWords Go.Proofs.YtobjkjmmkbhecaaW.PrintLast Go.Proofs.YtobjkjmmkbhecaaW.PrintMore Go.Proofs.Ytobjkjmmkbhecaa.Px Go.Proofs.Ytobjkjmmkbhecaa.Sw
set_option linter.unusedVariables false
set_option linter.unusedSimpArgs false
set_option maxHeartbeats 4000000 in
set_option maxRecDepth 100000 in
theorem rotate_calls {w : World} {base n cap : Nat} {ok : Nat → Prop} {ad : Addr} {P A B S : List S36} (hn : Kd.N k36 36 w base ok (.slice (some ad) n cap) (P ++ (A ++ (B ++ S)))) {a m b : Nat} (ha : a = P.length) (hm : m = P.length + A.length) (hb : b = P.length + (A.length + B.length)) (hA : 0 < A.length) (hB : 0 < B.length) (fv : Value) :
  Calls Try.prog 62 #[.slice (some ad) n cap, .int .i64 (a : Int), .int .i64 (m : Int), .int .i64 (b : Int), fv] w fun ex w' => ex = .returned (.tuple #[]) ∧ Kd.N k36 36 w' base ok (.slice (some ad) n cap) (P ++ (B ++ (A ++ S))) ∧ Chg w w' (fun k => some k = (Value.slice (some ad) n cap).ownBlock) := by
 have HN := Aside0.mk hn
 have HMAX := Aside0.mk (show n ≤ 9223372036854775807 by rw [(Kd.N_reads' hn).1]; exact Kd.C_max (Kd.N_reads' hn).2.2)
 have HLEN := Aside0.mk (show n = P.length + (A.length + (B.length + S.length)) by have := (Kd.N_reads' hn).1; simpa using this)
 have HM := Aside0.mk hm
 have HZ := Aside0.mk (show 0 < A.length ∧ 0 < B.length from ⟨hA, hB⟩)
 have hw1 : wrap64 ((m : Int) - (a : Int)) = ((A.length : Nat) : Int) := by rw [wrap_in (by omega) (by have h1 := HMAX.out; have h2 := HLEN.out; omega)]; omega
 have hw2 : wrap64 ((b : Int) - (m : Int)) = ((B.length : Nat) : Int) := by rw [wrap_in (by omega) (by have h1 := HMAX.out; have h2 := HLEN.out; omega)]; omega
 clear hn ha hm hb hA hB
 go_enter Try.func62, Try.ntmps62
 go_wp2
 go_loopg [10, 11] (A.length + B.length) (fun kq v10 v11 w' => ∃ P' A' B' S' : List S36, v10 = .int .i64 (A'.length : Int) ∧ v11 = .int .i64 (B'.length : Int) ∧ Aside0 (kq = A'.length + B'.length) ∧ Aside0 (0 < A'.length ∧ 0 < B'.length ∧ m = P'.length + A'.length ∧ n = P'.length + (A'.length + (B'.length + S'.length)) ∧ P' ++ (B' ++ (A' ++ S')) = P ++ (B ++ (A ++ S))) ∧ Aside0 (Kd.N k36 36 w' base ok (.slice (some ad) n cap) (P' ++ (A' ++ (B' ++ S')))) ∧ Aside0 (Chg w w' (fun k => some k = (Value.slice (some ad) n cap).ownBlock)))
 case atStart => exact ⟨P, A, B, S, by rw [hw1], by rw [hw2], ⟨rfl⟩, ⟨HZ.out.1, HZ.out.2, HM.out, HLEN.out, rfl⟩, HN, ⟨Chg.refl _ _⟩⟩
 case round =>
  clear hw1 hw2
  obtain ⟨P', A', B', S', rfl, rfl, HK, HP, HNr, HCH⟩ := hrel
  have hmi : wrap64 ((m : Int) - (A'.length : Int)) = ((P'.length : Nat) : Int) := by
   have h1 := HP.out.2.2.1
   rw [wrap_in (by omega) (by have h1 := HMAX.out; have h2 := HLEN.out; have h3 := HM.out; omega)]; omega
  by_cases heq : A'.length = B'.length
  ·
   have hne : ((A'.length : Int) != (B'.length : Int)) = false := by simp [heq]
   have HEQ := Aside0.mk heq
   clear heq
   go_wp2_with (first
    | ((with_reducible refine gate_callee (f := 74) rfl ?_); (try (refine gate_guard (by rfl) ?_; dsimp only)); refine goesL_ (some 57) rfl rfl Try.func74 (by kernel_rfl) rfl #[.slice (some ad) n cap, .int .i64 (wrap64 ((m : Int) - (A'.length : Int))), .int .i64 ((m : Int)), .int .i64 ((A'.length : Int)), fv] rfl (by (try simp only [List.map_toArray, List.map_cons, List.map_nil]); first | done | rfl) ?_; rw [hmi]; refine (swapR_calls (P := P') (A := A') (M := []) (B := B') (S := S') (by simpa using HNr.out) rfl (by simpa using HP.out.2.2.1) rfl HEQ.out fv).mono ?_; rintro ex w2 ⟨rfl, hn2, hc2⟩; refine ⟨_, rfl, ?_⟩; have n_ := Aside0.mk hn2; clear hn2; have hn2 := n_; clear n_; have n_ := Aside0.mk hc2; clear hc2; have hc2 := n_; clear n_))
   go_end0
   exact ⟨rfl, by rw [← HP.out.2.2.2.2]; exact hn2.out, HCH.out.trans hc2.out (fun k hk => .inl hk)⟩
  ·
   have hne : ((A'.length : Int) != (B'.length : Int)) = true := by simp only [bne_iff_ne, ne_eq]; omega
   by_cases hgt : B'.length < A'.length
   ·
    have hgt' : (B'.length < A'.length) = True := eq_true hgt
    obtain ⟨A1, A2, hA12, hl1⟩ : ∃ A1 A2, A' = A1 ++ A2 ∧ A1.length = B'.length := ⟨A'.take B'.length, A'.drop B'.length, (List.take_append_drop _ _).symm, by rw [List.length_take]; omega⟩
    have HL := Aside0.mk (show A'.length = B'.length + A2.length ∧ 0 < A2.length by rw [hA12, List.length_append] at hgt ⊢; omega)
    have HN1 := Aside0.mk (show Kd.N k36 36 wr base ok (.slice (some ad) n cap) (P' ++ (A1 ++ (A2 ++ (B' ++ S')))) by have h := HNr.out; rw [hA12] at h; simpa using h)
    have hws : wrap64 ((A'.length : Int) - (B'.length : Int)) = ((A2.length : Nat) : Int) := by rw [wrap_in (by omega) (by have h1 := HMAX.out; have h2 := HLEN.out; have h3 := HP.out.2.2.2.1; omega)]; have h1 := HL.out.1; omega
    have HL1 := Aside0.mk hl1
    have HA12 := Aside0.mk hA12
    clear heq hgt hA12 hl1
    go_wp2_with (first
     | ((with_reducible refine gate_callee (f := 74) rfl ?_); (try (refine gate_guard (by rfl) ?_; dsimp only)); refine goesL_ (some 31) rfl rfl Try.func74 (by kernel_rfl) rfl #[.slice (some ad) n cap, .int .i64 (wrap64 ((m : Int) - (A'.length : Int))), .int .i64 ((m : Int)), .int .i64 ((B'.length : Int)), fv] rfl (by (try simp only [List.map_toArray, List.map_cons, List.map_nil]); first | done | rfl) ?_; rw [hmi]; refine (swapR_calls (P := P') (A := A1) (M := A2) (B := B') (S := S') HN1.out rfl (by have h1 := HP.out.2.2.1; have h2 := HL.out.1; have h3 := HL1.out; omega) HL1.out.symm rfl fv).mono ?_; rintro ex w2 ⟨rfl, hn2, hc2⟩; refine ⟨_, rfl, ?_⟩; have n_ := Aside0.mk hn2; clear hn2; have hn2 := n_; clear n_; have n_ := Aside0.mk hc2; clear hc2; have hc2 := n_; clear n_))
    go_roundg (A2.length + B'.length)
    case measure => have h1 := HK.out; have h2 := HL.out; have h3 := HP.out.2.1; omega
    case rel => exact ⟨P' ++ B', A2, A1, S', by rw [hws], by rw [HL1.out], ⟨by rw [HL1.out]⟩, ⟨HL.out.2, by rw [HL1.out]; exact HP.out.2.1, by rw [List.length_append]; have h1 := HP.out.2.2.1; have h2 := HL.out.1; omega, by rw [List.length_append]; have h1 := HP.out.2.2.2.1; have h2 := HL.out.1; have h3 := HL1.out; omega, by rw [← HP.out.2.2.2.2, HA12.out]; simp⟩, ⟨by simpa using hn2.out⟩, ⟨HCH.out.trans hc2.out (fun k hk => .inl hk)⟩⟩
   ·
    have hgt' : (B'.length < A'.length) = False := eq_false hgt
    obtain ⟨B1, B2, hB12, hl1⟩ : ∃ B1 B2, B' = B1 ++ B2 ∧ B2.length = A'.length := ⟨B'.take (B'.length - A'.length), B'.drop (B'.length - A'.length), (List.take_append_drop _ _).symm, by rw [List.length_drop]; omega⟩
    have HL := Aside0.mk (show B'.length = B1.length + A'.length ∧ 0 < B1.length by have h := congrArg List.length hB12; rw [List.length_append] at h; omega)
    have HN1 := Aside0.mk (show Kd.N k36 36 wr base ok (.slice (some ad) n cap) (P' ++ (A' ++ (B1 ++ (B2 ++ S')))) by have h := HNr.out; rw [hB12] at h; simpa using h)
    have hws : wrap64 ((B'.length : Int) - (A'.length : Int)) = ((B1.length : Nat) : Int) := by rw [wrap_in (by omega) (by have h1 := HMAX.out; have h2 := HLEN.out; have h3 := HP.out.2.2.2.1; omega)]; have h1 := HL.out.1; omega
    have HBD := Aside0.mk (show m + B'.length ≤ n by have h1 := HP.out.2.2.1; have h2 := HP.out.2.2.2.1; omega)
    obtain ⟨j, hj⟩ : ∃ j, j = m + B1.length := ⟨_, rfl⟩
    have hmj : wrap64 ((m : Int) + (B'.length : Int)) = ((m + B'.length : Nat) : Int) := by rw [wrap_in (by omega) (by have h1 := HMAX.out; have h2 := HBD.out; omega)]; rfl
    have hmj2 : wrap64 ((m : Int) + (B'.length : Int) - (A'.length : Int)) = (j : Int) := by rw [wrap_in (by omega) (by have h1 := HMAX.out; have h2 := HBD.out; omega)]; have h1 := HL.out.1; omega
    have HJ := Aside0.mk hj
    have HL1 := Aside0.mk hl1
    have HB12 := Aside0.mk hB12
    clear heq hgt hB12 hl1 hj
    go_wp2_with (first
     | ((with_reducible refine gate_callee (f := 74) rfl ?_); (try (refine gate_guard (by rfl) ?_; dsimp only)); refine goesL_ (some 46) rfl rfl Try.func74 (by kernel_rfl) rfl #[.slice (some ad) n cap, .int .i64 (wrap64 ((m : Int) - (A'.length : Int))), .int .i64 (wrap64 ((m : Int) + (B'.length : Int) - (A'.length : Int))), .int .i64 ((A'.length : Int)), fv] rfl (by (try simp only [List.map_toArray, List.map_cons, List.map_nil]); first | done | rfl) ?_; rw [hmi, hmj2]; refine (swapR_calls (P := P') (A := A') (M := B1) (B := B2) (S := S') HN1.out rfl (by have h1 := HP.out.2.2.1; have h2 := HJ.out; omega) rfl HL1.out.symm fv).mono ?_; rintro ex w2 ⟨rfl, hn2, hc2⟩; refine ⟨_, rfl, ?_⟩; have n_ := Aside0.mk hn2; clear hn2; have hn2 := n_; clear n_; have n_ := Aside0.mk hc2; clear hc2; have hc2 := n_; clear n_))
    go_roundg (A'.length + B1.length)
    case measure => have h1 := HK.out; have h2 := HL.out; have h3 := HP.out.1; omega
    case rel => exact ⟨P', B2, B1, A' ++ S', by rw [HL1.out], by rw [hws], ⟨by rw [HL1.out]⟩, ⟨by rw [HL1.out]; exact HP.out.1, HL.out.2, by rw [HL1.out]; exact HP.out.2.2.1, by rw [List.length_append, HL1.out]; have h1 := HP.out.2.2.2.1; have h2 := HL.out.1; omega, by rw [← HP.out.2.2.2.2, HB12.out]; simp⟩, ⟨by simpa using hn2.out⟩, ⟨HCH.out.trans hc2.out (fun k hk => .inl hk)⟩⟩
end Go.Proofs.Ytobjkjmmkbhecaa.Sk
