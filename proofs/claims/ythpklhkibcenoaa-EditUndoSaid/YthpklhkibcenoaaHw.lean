/- General words: calls of function values, what a call may turn, and stores of whole elements into rows. Conditions: those of each theorem. -/
import Derived.Test.YthpklhkibcenoaaPx0
import Derived.Test.YthpklhkibcenoaaCore
import Derived.Test.YthpklhkibcenoaaHz
namespace Go.Proofs.Ythpklhkibcenoaa.Sk
open Go.RowKit Go.Proofs.YthpklhkibcenoaaW.PrintWords Go.Proofs.YthpklhkibcenoaaW.PrintLast Go.Proofs.YthpklhkibcenoaaW.PrintMore Go.Proofs.Ythpklhkibcenoaa.Px Go.Proofs.Ythpklhkibcenoaa.Sw
set_option linter.unusedVariables false
set_option linter.unusedSimpArgs false

theorem goesF_ {P : Program} {ops : Array Oper} {Q : Exit → Act → World → Prop} {rest : List Oper} {oi : Oper} {a : Act} {w : World} (N : Option Tmp) (hd : oi.dst = N) (hg : oi.guard = none) {f : FuncId} {fn : Func} {t : Operand} {as0 : Array Operand} {ts : Array TypeId} (hf : P.funcs[f]? = some fn) (hname : (fn.name == "runtime.NumGoroutine") = false) (hb : fn.body.isSome = true) (first captured args : Array Value)
  (hop : oi.op = .call { callee := .value t, args := as0, argTypes := ts }) (hv : a.eval t = .func (.func f) first captured) (hargs : (first ++ as0.map a.eval) ++ captured = args)
  (h : Calls P f args w fun e w' => ∃ v, e = .returned v ∧ wpList P ops Q rest (a.put N v) w') : wpList P ops Q (oi :: rest) a w := by
 refine wpList_plain hg fun K hK => ?_
 have he := enters_ hf hname hb args w
 have hrun : (execOp a.eval oi).run P w = .ok (.enter f args) w := by
  unfold execOp
  simp only [hop, resolve, hv, Deferred.ofValue, Sem.run_bind, Sem.run_pure, Result.andThen_ok, invoke, hargs, he]
 unfold Oper.wp
 rw [hrun, Oper.upon_enter]
 refine h.mono fun e w'' hh => ?_
 obtain ⟨v, rfl, hk⟩ := hh
 subst hd
 exact hK _ _ hk
/-- The blocks in S may have turned, and there may be new ones; nothing else. -/
structure Chg (w w' : World) (S : Nat → Prop) : Prop where
 os : w'.os = w.os
 tape : w'.tape = w.tape
 output : w'.output = w.output
 kept : Kept w w' S
theorem Chg.of_below {w w' : World} (h : Below w.heap.size w w') (S : Nat → Prop) : Chg w w' S := ⟨h.os, h.tape, h.output, Kept.of_below h S⟩
theorem Chg.drew {w w' : World} {S : Nat → Prop} (h : Chg w w' S) : Chg w w'.drew S := ⟨h.os, h.tape, h.output, h.kept.drew⟩
theorem Chg.set {w w' : World} {S : Nat → Prop} (h : Chg w w' S) {p : Addr} (hp : S p.block ∨ w.heap.size ≤ p.block) (u : Value) : Chg w (w'.setCell p u) S := ⟨h.os, h.tape, h.output, h.kept.setCell hp u⟩
theorem Chg.mono {w w' : World} {S S' : Nat → Prop} (h : Chg w w' S) (hs : ∀ k, S k → S' k) : Chg w w' S' := ⟨h.os, h.tape, h.output, h.kept.mono hs⟩
theorem Chg.trans {w w1 w2 : World} {S S2 : Nat → Prop} (h : Chg w w1 S) (h2 : Chg w1 w2 S2) (hs : ∀ k, S2 k → S k ∨ w.heap.size ≤ k) : Chg w w2 S := ⟨h2.os.trans h.os, h2.tape.trans h.tape, h2.output.trans h.output, h.kept.then_ h2.kept hs⟩
theorem Chg.below {w w' : World} {S : Nat → Prop} {base : Nat} (h : Chg w w' S) (hs : ∀ k, S k → base ≤ k) (hb : base ≤ w.heap.size) : Below base w w' := ⟨h.os, h.tape, h.output, h.kept.1, fun k hk => h.kept.2 k (by omega) (fun h2 => by have := hs k h2; omega)⟩
theorem Chg.grown {w w' w2 : World} {S : Nat → Prop} {row : Option Nat} (h : Chg w w' S) (hg : w'.grownBy w2 row) (hS : ∀ k, row = some k → S k ∨ w.heap.size ≤ k) : Chg w w2 S := ⟨hg.os.trans h.os, hg.tape.trans h.tape, hg.output.trans h.output, Kept.of_grown hg h.kept hS⟩
theorem Chg.below_step {w w' w2 : World} {S : Nat → Prop} (h : Chg w w' S) (hb : Below w'.heap.size w' w2) : Chg w w2 S := h.trans (Chg.of_below hb (fun _ => False)) (fun _ hk => hk.elim)
section
variable {P : Program} {ops : Array Oper} {rest : List Oper} {o : Oper} {a : Act} {Q : Exit → Act → World → Prop}
theorem clear_event {W w1 : World} {v u : Value} (hg : o.guard = none) (hd : o.dst = none) (s : Operand) (t : TypeId) (ho : o.op = .call { callee := .builtin .clear, args := #[s], argTypes := #[t] }) (hs : a.eval s = u)
  (hrun : ∀ ty, (Builtin.clear_ #[t] ty #[u]).run P W = .ok v w1) (h : wpList P ops Q rest a w1) : wpList P ops Q (o :: rest) a W := by
 refine wpList_plain hg fun K hK => ?_
 unfold Oper.wp execOp
 simp only [ho, resolve, invoke, builtin, Sem.run_bind, Sem.run_pure, Result.andThen_ok, List.map_toArray, List.map_cons, List.map_nil, hs, hrun]
 refine hK _ _ ?_
 rw [hd]
 exact h
end

theorem Chg.refl (w : World) (S : Nat → Prop) : Chg w w S := Chg.of_below (Below.refl _ _) S
theorem Chg.drewN {w w' : World} {S : Nat → Prop} (h : Chg w w' S) (m : Nat) : Chg w (w'.drewN m) S := ⟨h.os, h.tape, h.output, h.kept.drewN m⟩
section
variable {α : Type} {d : Kd α} {e base n cap g : Nat} {ok okp : Nat → Prop} {W : World} {xs : List α}
theorem N_blk (h : Kd.N d e W base ok (.slice (some ⟨g, 0, none⟩) n cap) xs) : ∃ cur, W.heap[g]? = some (.cells cur e (0, 0)) ∧ cur.size = cap * d.sz := by
 obtain ⟨_, rows, hl2, ⟨hR0, inner, ho2, hr⟩, hf⟩ := h
 obtain ⟨ho3, ho4⟩ := ho2
 rcases ho4 with ⟨hv, _⟩ | ⟨g', cap', cur, hv, hb, hh, hnc', hcm, hcs, ht⟩
 ·
  cases hv
 injection hv with ha hn hc
 injection ha with ha
 injection ha with hg
 subst hg; subst hc
 exact ⟨cur, hh, hcs⟩
theorem N_head {ad : Addr} (h : Kd.N d e W base ok (.slice (some ad) n cap) xs) : ∃ g, ad = ⟨g, 0, none⟩ := by
 obtain ⟨_, rows, _, hR, _⟩ := h
 exact Kd.R_head hR
/-- Element i is written whole. -/
theorem N_put (h : Kd.N d e W base ok (.slice (some ⟨g, 0, none⟩) n cap) xs) (i : Nat) (hi : i < n) {seg : List Value} {x' : α} (hM : Kd.FK d W okp x' seg) (hokp : ∀ k, okp k → ok k ∧ k ≠ g) :
  Kd.N d e (W.setCells g (i * d.sz) seg) base ok (.slice (some ⟨g, 0, none⟩) n cap) (xs.set i x') ∧ W.grownBy (W.setCells g (i * d.sz) seg) (some g) := by
 have hn := (Kd.N_reads' h).1
 obtain ⟨c, hcl, _, hcc, _⟩ := Kd.N_elem h x' (i : Int) (by omega) (by omega)
 have hs : seg.length = d.sz := d.K_len (Kd.FK_now hM)
 have h2 := Kd.N_seg h (i : Int) (by omega) (by omega) (c := c) (seg := seg) (j := 0) hcl hcc (by omega) (x' := x') (okp := okp) (by
  have e0 : c.take 0 ++ seg ++ c.drop (0 + seg.length) = seg := by rw [List.take_zero, List.nil_append, Nat.zero_add, List.drop_eq_nil_of_le (by omega), List.append_nil]
  rw [e0]; exact hM) hokp
 rw [Int.toNat_natCast, Nat.add_zero] at h2
 exact h2
theorem N_put_run {P : Program} (h : Kd.N d e W base ok (.slice (some ⟨g, 0, none⟩) n cap) xs) (i : Nat) (hi : i < n) {seg : List Value} {x' : α} (hM : Kd.FK d W okp x' seg) (t : TypeId) (u : Value) (hu : u.cells.toList = seg) (ht : (P.info? t).map (·.size) = some d.sz) :
  (Instr.storeAt t (.pointer (some ⟨g, i * d.sz, none⟩)) u).run P W = .ok () (W.setCells g (i * d.sz) seg) := by
 obtain ⟨cur, hh, hcs⟩ := N_blk h
 have hc := (Kd.N_reads' h).2.1
 have hs : seg.length = d.sz := d.K_len (Kd.FK_now hM)
 refine run_store_run t u seg hh hu (by rw [hs]; exact ht) ?_ (d.K_one (Kd.FK_now hM))
 have h2 : i * d.sz + d.sz ≤ n * d.sz := by rw [← Nat.succ_mul]; exact Nat.mul_le_mul_right _ hi
 have h3 : n * d.sz ≤ cap * d.sz := Nat.mul_le_mul_right _ hc
 omega
section
variable {P : Program} {ops : Array Oper} {Q : Exit → Act → World → Prop} {md : Region.Mode} {S : World → Prop} {ds : List Nat} {fuel : Nat} {l : Array Bool} {a : Act} {oi : Oper} {rest : List Oper}
/-- One of the last stores of a region that draws its order: a whole element of a row. -/
theorem lN_ (i : Nat) (l' : Array Bool) (t : TypeId) (p x : Operand) (k : Nat) {ad : Addr} {x' : α} {u : Value} {seg : List Value} (had : ad = ⟨g, 0, none⟩) (HN : Kd.N d e W base ok (.slice (some ad) n cap) xs) (hk : k < n) (hM : Kd.FK d W okp x' seg) (hokp : ∀ k, okp k → ok k ∧ k ≠ g)
  (ht : (P.info? t).map (·.size) = some d.sz) (hu : u.cells.toList = seg) (hi : ops[i]? = some oi) (hN : oi.dst = none) (hc : readyB md ops l l' i = true) (hd : i ∈ ds) (hw : Region.wanted oi (yielded ops a.tmps) = true)
  (hop : oi.op = .store t p x) (hp : a.eval p = .pointer (some (ad.add (k * d.sz)))) (hx : a.eval x = u)
  (h : ∀ w1, Kd.N d e w1 base ok (.slice (some ad) n cap) (xs.set k x') → W.grownBy w1 (some g) → wpAnyLast P md ops Q S ds fuel l' a w1) : wpAnyLast P md ops Q S ds (fuel + 1) l a W := by
 subst had
 obtain ⟨h1, h2⟩ := N_put HN k hk hM hokp
 have hr := N_put_run (P := P) HN k hk hM t u hu ht
 refine l_ i l' (w1 := W.setCells g (k * d.sz) seg) hi hN hc hd hw ?_ (h _ h1 h2)
 rw [add_at, Nat.zero_add] at hp
 unfold execOp
 simp only [hop, hp, hx, Sem.run_bind, Sem.run_pure, Result.andThen_ok, hr]
end
end

theorem wadd {x y z : Nat} (h : x + y = z) (hb : z ≤ 9000000000000000000) : wrap64 ((x : Int) + (y : Int)) = (z : Int) := by
 rw [wrap_in (by omega) (by omega)]; omega
theorem wsub {x y z : Nat} (h : z + y = x) (hb : x ≤ 9000000000000000000) : wrap64 ((x : Int) - (y : Int)) = (z : Int) := by
 rw [wrap_in (by omega) (by omega)]; omega
theorem wadd1 {x z : Nat} (h : x + 1 = z) (hb : z ≤ 9000000000000000000) : wrap64 ((x : Int) + 1) = (z : Int) := by
 rw [wrap_in (by omega) (by omega)]; omega
theorem wsub1 {x z : Nat} (h : z + 1 = x) (hb : x ≤ 9000000000000000000) : wrap64 ((x : Int) - 1) = (z : Int) := by
 rw [wrap_in (by omega) (by omega)]; omega
theorem mid_eq {i j h : Nat} (hh : h = (i + j) / 2) (hb : i + j ≤ 4000000000000) : wrap64 (IntKind.u64.wrap (wrap64 ((i : Int) + (j : Int))) / 2) = (h : Int) := by
 rw [wrap_in (n := (i : Int) + j) (by omega) (by omega)]
 have e : IntKind.u64.wrap ((i : Int) + (j : Int)) = (i : Int) + j := by
  simp [IntKind.wrap, IntKind.bits, IntKind.signed]
  omega
 rw [e, wrap_in (by omega) (by omega)]
 omega
section
variable {P : Program} {ops : Array Oper} {Q : Exit → Act → World → Prop} {md : Region.Mode} {S : World → Prop} {ds : List Nat} {fuel : Nat} {l : Array Bool}
/-- A call of a function value, the last of what reads in a region that draws its order. -/
theorem lcv_ (i N : Nat) (l' : Array Bool) {oi : Oper} {a : Act} {w : World} {f : FuncId} {fn : Func} {t : Operand} {as0 : Array Operand} {ts : Array TypeId} (first captured args : Array Value)
  (hf : P.funcs[f]? = some fn) (hname : (fn.name == "runtime.NumGoroutine") = false) (hb : fn.body.isSome = true)
  (hi : ops[i]? = some oi) (hN : oi.dst = some N) (hc : readyB md ops l l' i = true) (hd : i ∈ ds) (hw : Region.wanted oi (yielded ops a.tmps) = true)
  (hop : oi.op = .call { callee := .value t, args := as0, argTypes := ts }) (hv : a.eval t = .func (.func f) first captured) (hargs : (first ++ as0.map a.eval) ++ captured = args)
  (h : Calls P f args w fun e w' => ∃ v, e = .returned v ∧ wpAnyLast P md ops Q S ds fuel l' (a.put (some N) v) w') : wpAnyLast P md ops Q S ds (fuel + 1) l a w := by
 refine last_ l' hi hN hc hd (fun K hK => ?_)
 rw [if_pos hw]
 have he := enters_ hf hname hb args w
 have hrun : (execOp a.eval oi).run P w = .ok (.enter f args) w := by
  unfold execOp
  simp only [hop, resolve, hv, Deferred.ofValue, Sem.run_bind, Sem.run_pure, Result.andThen_ok, invoke, hargs, he]
 unfold Oper.wp
 rw [hrun, Oper.upon_enter]
 refine h.mono fun e w'' hh => ?_
 obtain ⟨v, rfl, hk⟩ := hh
 rw [hN]
 exact hK.out _ _ hk
/-- The same, where it isn't wanted. -/
theorem loff_ (i N : Nat) (l' : Array Bool) {oi : Oper} {a a' : Act} {w : World} (hi : ops[i]? = some oi) (hN : oi.dst = some N) (hc : readyB md ops l l' i = true) (hd : i ∈ ds) (hw : Region.wanted oi (yielded ops a.tmps) = false) (ha : a.put (some N) undef = a')
  (h : wpAnyLast P md ops Q S ds fuel l' a' w) : wpAnyLast P md ops Q S ds (fuel + 1) l a w := by
 refine last_ l' hi hN hc hd (fun K hK => ?_)
 refine off_ hw ?_
 rw [ha]
 exact hK.out _ _ h
end
section
variable {α : Type} {d : Kd α} {e base n cap g : Nat} {ok : Nat → Prop} {W : World} {xs : List α}
/-- Cells behind a row's length are written. -/
theorem N_beyond (h : Kd.N d e W base ok (.slice (some ⟨g, 0, none⟩) n cap) xs) (o : Nat) (seg : List Value) (ho : n * d.sz ≤ o) (hl : o + seg.length ≤ cap * d.sz) :
  Kd.N d e (W.setCells g o seg) base ok (.slice (some ⟨g, 0, none⟩) n cap) xs ∧ Kept W (W.setCells g o seg) (fun k => k = g) := by
 obtain ⟨s1, s2, s3, s4⟩ := setCells_same g seg o W
 have hfar : ∀ k, k ≠ g → (W.setCells g o seg).heap[k]? = W.heap[k]? := fun k hk => setCells_far seg _ k hk
 refine ⟨?_, by rw [Kept, s4]; exact ⟨Nat.le_refl _, fun i _ hn => hfar i hn⟩⟩
 obtain ⟨h0, rows, hl2, ⟨hR0, inner, ho2, hr⟩, hf⟩ := h
 obtain ⟨ho3, ho4⟩ := ho2
 rcases ho4 with ⟨hv, _⟩ | ⟨g', cap', cur, hv, hb, hh, hnc', hcm, hcs, ht⟩
 ·
  cases hv
 injection hv with ha hn hc
 injection ha with ha
 injection ha with hg
 subst hg; subst hc
 obtain ⟨cur', h3, h4, h5⟩ := setCells_row seg o W cur hh (by show o + seg.length ≤ cur.size; rw [hcs]; exact hl)
 refine ⟨h0, rows, hl2, ⟨hR0, inner, ⟨ho3, .inr ⟨g, cap, cur', by rw [hn], hb, h3, hnc', hcm, by rw [h4]; exact hcs, ?_⟩⟩, hr⟩, fun j x c hx hc => ?_⟩
 ·
  have hno : rows.length * (Kd.raw d.sz).sz ≤ o := by rw [← hn]; exact ho
  have hco : o ≤ cur.size := by show o ≤ cur.size; rw [hcs]; exact Nat.le_trans (Nat.le_add_right _ _) hl
  rw [h5, List.append_assoc, List.take_append_of_le_length (by rw [List.length_take, Array.length_toList]; exact Nat.le_min.2 ⟨hno, Nat.le_trans hno hco⟩), List.take_take, Nat.min_eq_left hno, ht]
 ·
  exact Kd.FK_step (hf j x c hx hc) (fun k hk _ => hfar k (fun he => hk.2 (by rw [he]; rfl)))
end
end Go.Proofs.Ythpklhkibcenoaa.Sk
