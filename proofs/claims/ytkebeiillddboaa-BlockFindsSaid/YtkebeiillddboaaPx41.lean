-- Printed by a program of ours (px) out of the translation; Lean checks it.
import Derived.Test.YtkebeiillddboaaPx0
import Derived.Test.YtkebeiillddboaaPx2
import Derived.Test.YtkebeiillddboaaPx7
namespace Go.Proofs.Ytkebeiillddboaa.Px
open Go.RowKit Go.Proofs.YtkebeiillddboaaW.PrintWords Go.Proofs.YtkebeiillddboaaW.PrintLast Go.Proofs.YtkebeiillddboaaW.PrintMore
attribute [local go_sem] max2_int min2_int max_two min_two max_three min_three max_four min_four   -- for this text's walks alone
set_option linter.unusedVariables false
set_option linter.unusedSimpArgs false
set_option linter.unnecessarySimpa false

/-! ### block_Find: function 17 -/
theorem goesF_ {P : Program} {ops : Array Oper} {Q : Exit → Act → World → Prop} {rest : List Oper} {oi : Oper} {a : Act} {w : World} (N : Option Tmp) (hd : oi.dst = N) (hg : oi.guard = none) {f : FuncId} {fn : Func} {t : Operand} {as0 : Array Operand} {ts : Array TypeId} (hf : P.funcs[f]? = some fn) (hname : (fn.name == "runtime.NumGoroutine") = false) (hb : fn.body.isSome = true) (first captured args : Array Value)
    (hop : oi.op = .call { callee := .value t, args := as0, argTypes := ts }) (hv : a.eval t = .func (.func f) first captured) (hargs : (first ++ as0.map a.eval) ++ captured = args)
    (h : Calls P f args w fun e w' => ∃ v, e = .returned v ∧ wpList P ops Q rest (a.put N v) w') : wpList P ops Q (oi :: rest) a w := by
  refine wpList_plain hg fun K hK => ?_
  have he := enters_ hf hname hb args w
  have hrun : (execOp a.eval oi).run P w = .ok (.enter f args) w := by
    unfold execOp
    simp only [hop, resolve, hv, Deferred.ofValue, Sem.run_bind, Sem.run_pure, Result.andThen_ok, invoke, hargs, he]
  unfold Oper.wp
  rw [hrun, Oper.upon_enter]
  refine h.mono fun e w'' hh => ?_
  obtain ⟨v, rfl, hk⟩ := hh
  subst hd
  exact hK _ _ hk
theorem fsets4 {w : World} {g9 : Nat} {c0 c1 c2 c3 a b c d : Value} {t : TypeId} (h : w.heap[g9]? = some (.cells #[c0, c1, c2, c3] t (0, 0))) : ((((w.setCell ⟨g9, 0, none⟩ a).setCell ⟨g9, 1, none⟩ b).setCell ⟨g9, 2, none⟩ c).setCell ⟨g9, 3, none⟩ d).heap[g9]? = some (.cells #[a, b, c, d] t (0, 0)) :=
  blk_put (cs := #[a, b, c, c3]) (blk_put (cs := #[a, b, c2, c3]) (blk_put (cs := #[a, c1, c2, c3]) (blk_put (cs := #[c0, c1, c2, c3]) h 0 a rfl) 1 b rfl) 2 c rfl) 3 d rfl
theorem fbelow4 {w0 w : World} {g9 : Nat} (h : Below w0.heap.size w0 w) (hg : w0.heap.size ≤ g9) (a b c d : Value) : Below w0.heap.size w0 ((((w.setCell ⟨g9, 0, none⟩ a).setCell ⟨g9, 1, none⟩ b).setCell ⟨g9, 2, none⟩ c).setCell ⟨g9, 3, none⟩ d) :=
  below_set (below_set (below_set (below_set h hg) hg) hg) hg

theorem fkeep4 (w : World) (g9 : Nat) (a b c d : Value) : KeepBut w ((((w.setCell ⟨g9, 0, none⟩ a).setCell ⟨g9, 1, none⟩ b).setCell ⟨g9, 2, none⟩ c).setCell ⟨g9, 3, none⟩ d) g9 none :=
  KeepBut.set_ (KeepBut.set_ (KeepBut.set_ (KeepBut.set_ (KeepBut.refl w g9 none) 0 a) 1 b) 2 c) 3 d
theorem fC_sets {w4 w5 : World} {g9 : Nat} {A : Option Addr} {n : Nat} {xs : List Int} {a b c d : Value} (_h : Kd.C (Kd.int .u8) w5 A n xs) (hg : g9 = w4.heap.size) (h4 : Kd.C (Kd.int .u8) w4 A n xs) (hb : Below w4.heap.size w4 w5) : Kd.C (Kd.int .u8) ((((w5.setCell ⟨g9, 0, none⟩ a).setCell ⟨g9, 1, none⟩ b).setCell ⟨g9, 2, none⟩ c).setCell ⟨g9, 3, none⟩ d) A n xs :=
  Kd.C_below h4 (below_set (below_set (below_set (below_set hb (by omega)) (by omega)) (by omega)) (by omega))

def block_Find.hit (e : S38) (kk : List Int) (sq : Int) : Bool := if ((strOfNums e.f0).toList == (strOfNums kk).toList) = true then decide (e.f1 ≤ sq) else false
def block_Find.l0 : Nat → List S38 → List Int → Int → Int → Option Int
  | 0, _, _, _, _ => none
  | k + 1, l, kk, sq, i => if i < (l.length : Int) then (if 0 ≤ i then (if block_Find.hit (rd_T38 l i) kk sq = true then some i else block_Find.l0 k l kk sq (wrap64 (i + 1))) else none) else some (-1)
def block_Find.f (k : Nat) (l0 : List S38) (l1 : List Int) (a2 : Int) : Option (List Int × Int × Bool × List Int × Bool) :=
  (block_Find.l0 k l0 l1 a2 0).bind fun i => if i < 0 then some ([], 0, false, [], false) else (if i < (l0.length : Int) then (slices_Clone_byte_byte.f (rd_T38 l0 i).f0).bind fun y0 => (slices_Clone_byte_byte.f (rd_T38 l0 i).f3).bind fun y3 => some (y0, (rd_T38 l0 i).f1, (rd_T38 l0 i).f2, y3, true) else none)
theorem block_Find.mono_l : ∀ k, (∀ y0 y1 y2 y3, LeO (block_Find.l0 k y0 y1 y2 y3) (block_Find.l0 (k + 1) y0 y1 y2 y3))
  | 0 => fun _ _ _ _ r h => by simp [block_Find.l0] at h
  | k + 1 => by
    have ih0 := block_Find.mono_l k
    intro y0 y1 y2 y3
    unfold block_Find.l0
    repeat' first
      | (with_reducible exact ih0 _ _ _ _)
      | (with_reducible exact LeO.refl _)
      | (with_reducible refine LeO.ite ?_ ?_)
theorem block_Find.mono : ∀ a0 a1 a2 k, LeO (block_Find.f k a0 a1 a2) (block_Find.f (k + 1) a0 a1 a2) := by
  intro a0 a1 a2 k
  have ih0 := block_Find.mono_l k
  unfold block_Find.f
  repeat' first
      | (with_reducible exact ih0 _ _ _ _)
      | (with_reducible exact LeO.refl _)
      | (with_reducible refine LeO.bind ?_ (fun _ => ?_))

set_option maxHeartbeats 4000000 in
set_option maxRecDepth 100000 in
theorem find_one (ga gb : Nat) (A0 : Option Addr) (c0 : Nat) (e : S38) (A3 : Option Addr) (c3 : Nat) (A1 : Option Addr) (c1 : Nat) (kk : List Int) (sq : Int) (w : World)
    (hga : w.heap[ga]? = some (.cells #[.slice A1 kk.length c1] 24 (0, 0))) (hgb : w.heap[gb]? = some (.cells #[.int .i64 sq] 3 (0, 0)))
    (hr0 : Kd.C (Kd.int .u8) w A0 e.f0.length e.f0) (hc0 : e.f0.length ≤ c0) (hr1 : Kd.C (Kd.int .u8) w A1 kk.length kk) (hc1 : kk.length ≤ c1) :
    Calls Try.prog 38 #[.agg #[.slice A0 e.f0.length c0, .int .i64 e.f1, .bool e.f2, .slice A3 e.f3.length c3], .pointer (some ⟨ga, 0, none⟩), .pointer (some ⟨gb, 0, none⟩)] w fun ex w' => ex = .returned (.bool (block_Find.hit e kk sq)) ∧ Below w.heap.size w w' := by
  have hu38 := Try.underlying38
  have HGA := Aside0.mk hga; have HGB := Aside0.mk hgb; have HR0 := Aside0.mk hr0; have HR1 := Aside0.mk hr1; clear hga hgb hr0 hr1
  obtain ⟨b, hb0⟩ : ∃ b : Bool, b = ((strOfNums e.f0).toList == (strOfNums kk).toList) := ⟨_, rfl⟩
  have hf : bytes_Equal.f e.f0 kk = some b := by rw [hb0]; rfl
  unfold block_Find.hit
  rw [← hb0]
  have HB0 := Aside0.mk hb0; clear hb0
  cases b with
  | true =>
    go_enter Try.func38, Try.ntmps38
    go_wp2_with (first
      | ((with_reducible refine gate_dst (N := 3) rfl ?_); refine box_event ?hg (N := 3) ?hd (cs := #[.slice A0 e.f0.length c0, .int .i64 e.f1, .bool e.f2, .slice A3 e.f3.length c3]) (t := 38) ?hr ?_; (case hd => rfl); (case hg => rfl); (case hr => first | (go_simp; done) | (go_simp; rfl)); intro g3 hq3 w1 hx3 hbx; have HX3 := Aside0.mk hx3; have hbx := Aside0.mk hbx; clear hq3 hx3; have hca : w1.cell? ⟨ga, 0, none⟩ = some (.slice A1 kk.length c1) := (blk_cell (blk_below HGA.out hbx.out) 0).trans rfl; have hcb : w1.cell? ⟨gb, 0, none⟩ = some (.int .i64 sq) := (blk_cell (blk_below HGB.out hbx.out) 0).trans rfl; have hce : w1.cell? ⟨g3, 0, none⟩ = some (.slice A0 e.f0.length c0) := (blk_cell HX3.out 0).trans rfl; have hcf : w1.cell? ⟨g3, 1, none⟩ = some (.int .i64 e.f1) := (blk_cell HX3.out 1).trans rfl)
      | ((with_reducible refine gate_callee (f := 34) rfl ?_); refine goesL_ (some 8) rfl rfl Try.func34 (by kernel_rfl) rfl #[.slice A0 e.f0.length c0, .slice A1 kk.length c1] rfl (by (try simp only [List.map_toArray, List.map_cons, List.map_nil]); first | done | rfl) ?_; refine (bytes_Equal.calls _ _ e.f0 _ _ kk true w1 (Kd.C_below HR0.out hbx.out) hc0 (Kd.C_below HR1.out hbx.out) hc1 hf).mono ?_; rintro ex w2 ⟨rfl, ⟨nd, rfl⟩⟩; refine ⟨_, rfl, ?_⟩; have hcf2 : (w1.drewN nd).cell? ⟨g3, 1, none⟩ = some (.int .i64 e.f1) := hcf; have hcb2 : (w1.drewN nd).cell? ⟨gb, 0, none⟩ = some (.int .i64 sq) := hcb))
    go_ret
    exact ⟨by simp, pw_below_drewN hbx.out _⟩
  | false =>
    go_enter Try.func38, Try.ntmps38
    go_wp2_with (first
      | ((with_reducible refine gate_dst (N := 3) rfl ?_); refine box_event ?hg (N := 3) ?hd (cs := #[.slice A0 e.f0.length c0, .int .i64 e.f1, .bool e.f2, .slice A3 e.f3.length c3]) (t := 38) ?hr ?_; (case hd => rfl); (case hg => rfl); (case hr => first | (go_simp; done) | (go_simp; rfl)); intro g3 hq3 w1 hx3 hbx; have HX3 := Aside0.mk hx3; have hbx := Aside0.mk hbx; clear hq3 hx3; have hca : w1.cell? ⟨ga, 0, none⟩ = some (.slice A1 kk.length c1) := (blk_cell (blk_below HGA.out hbx.out) 0).trans rfl; have hcb : w1.cell? ⟨gb, 0, none⟩ = some (.int .i64 sq) := (blk_cell (blk_below HGB.out hbx.out) 0).trans rfl; have hce : w1.cell? ⟨g3, 0, none⟩ = some (.slice A0 e.f0.length c0) := (blk_cell HX3.out 0).trans rfl; have hcf : w1.cell? ⟨g3, 1, none⟩ = some (.int .i64 e.f1) := (blk_cell HX3.out 1).trans rfl)
      | ((with_reducible refine gate_callee (f := 34) rfl ?_); refine goesL_ (some 8) rfl rfl Try.func34 (by kernel_rfl) rfl #[.slice A0 e.f0.length c0, .slice A1 kk.length c1] rfl (by (try simp only [List.map_toArray, List.map_cons, List.map_nil]); first | done | rfl) ?_; refine (bytes_Equal.calls _ _ e.f0 _ _ kk false w1 (Kd.C_below HR0.out hbx.out) hc0 (Kd.C_below HR1.out hbx.out) hc1 hf).mono ?_; rintro ex w2 ⟨rfl, ⟨nd, rfl⟩⟩; refine ⟨_, rfl, ?_⟩; have hcf2 : (w1.drewN nd).cell? ⟨g3, 1, none⟩ = some (.int .i64 e.f1) := hcf; have hcb2 : (w1.drewN nd).cell? ⟨gb, 0, none⟩ = some (.int .i64 sq) := hcb))
    go_ret
    exact ⟨by simp, pw_below_drewN hbx.out _⟩

set_option maxHeartbeats 4000000 in
set_option maxRecDepth 100000 in
theorem find_index (k : Nat) (ga gb : Nat) (A0 : Option Addr) (c0 : Nat) (l0 : List S38) (A1 : Option Addr) (c1 : Nat) (kk : List Int) (sq : Int) (r : Int) (w : World)
    (hga : w.heap[ga]? = some (.cells #[.slice A1 kk.length c1] 24 (0, 0))) (hgb : w.heap[gb]? = some (.cells #[.int .i64 sq] 3 (0, 0)))
    (hr0 : Kd.C k38 w A0 l0.length l0) (hc0 : l0.length ≤ c0) (hr1 : Kd.C (Kd.int .u8) w A1 kk.length kk) (hc1 : kk.length ≤ c1) (h : block_Find.l0 k l0 kk sq 0 = some r) :
    Calls Try.prog 37 #[.slice A0 l0.length c0, .func (.func 38) #[] #[.pointer (some ⟨ga, 0, none⟩), .pointer (some ⟨gb, 0, none⟩)]] w fun ex w' => ex = .returned (.int .i64 r) ∧ Below w.heap.size w w' := by
  have hu38 := Try.underlying38
  have HGA := Aside0.mk hga; have HGB := Aside0.mk hgb; have HR0 := Aside0.mk hr0; have HR1 := Aside0.mk hr1; have HC0 := Aside0.mk hc0
  have H0 := Aside0.mk h
  clear hga hgb hr0 hr1 h hc0
  go_enter Try.func37, Try.ntmps37
  go_wp2
  go_loopg [8] k (fun kq v8 w' => ∃ (i : Int), v8 = .int .i64 i ∧ Aside0 (block_Find.l0 kq l0 kk sq i = some r) ∧ Aside0 (kq ≤ k) ∧ Aside0 (Below w.heap.size w w'))
  case atStart => exact ⟨0, rfl, H0, ⟨Nat.le_refl _⟩, ⟨Below.refl _ _⟩⟩
  case round =>
    clear H0
    obtain ⟨i, rfl, HA, HK1, HB⟩ := hrel
    cases gk with
    | zero => exact absurd HA.out (by simp [block_Find.l0])
    | succ k1 =>
      have H := HA.out
      clear HA
      simp only [block_Find.l0] at H
      by_cases c2 : i < (l0.length : Int)
      · rw [if_pos c2] at H
        have c2b : decide (i < (l0.length : Int)) = true := decide_eq_true c2
        by_cases c3 : 0 ≤ i
        · rw [if_pos c3] at H
          obtain ⟨ad, A2, c2', A3, c3', e1, hx0, hx1, hx2, hx3, hl1, hi1, hl3, hi3⟩ := at_T38 (Kd.C_below HR0.out HB.out) i c3 c2
          subst e1
          have HI1 := Aside0.mk hi1; have HL1 := Aside0.mk hl1; clear hi1 hl1 hi3 hl3
          have p1 := eq_true c3
          have q1 := eq_true c2
          clear c2 c3
          by_cases ch : block_Find.hit (rd_T38 l0 i) kk sq = true
          · rw [if_pos ch] at H
            obtain rfl := Option.some.inj H
            go_wp2_with ((with_reducible refine gate_dst (N := 16) rfl ?_); refine goesF_ (some 16) rfl rfl Try.func38 (by kernel_rfl) rfl #[] #[.pointer (some ⟨ga, 0, none⟩), .pointer (some ⟨gb, 0, none⟩)] #[.agg #[.slice A2 (rd_T38 l0 i).f0.length c2', .int .i64 (rd_T38 l0 i).f1, .bool (rd_T38 l0 i).f2, .slice A3 (rd_T38 l0 i).f3.length c3'], .pointer (some ⟨ga, 0, none⟩), .pointer (some ⟨gb, 0, none⟩)] rfl rfl (by (try simp only [List.map_toArray, List.map_cons, List.map_nil]); first | done | rfl) ?_; refine (find_one ga gb A2 c2' (rd_T38 l0 i) A3 c3' A1 c1 kk sq wr (blk_below HGA.out HB.out) (blk_below HGB.out HB.out) HI1.out HL1.out (Kd.C_below HR1.out HB.out) hc1).mono ?_; rintro ex w2 ⟨rfl, hb2⟩; refine ⟨_, rfl, ?_⟩; rw [ch]; have hb2 := Aside0.mk hb2)
            go_ret
            exact ⟨rfl, below_step HB.out hb2.out⟩
          · rw [if_neg ch] at H
            have ch := Bool.eq_false_iff.mpr ch
            have H := Aside0.mk H
            go_wp2_with ((with_reducible refine gate_dst (N := 16) rfl ?_); refine goesF_ (some 16) rfl rfl Try.func38 (by kernel_rfl) rfl #[] #[.pointer (some ⟨ga, 0, none⟩), .pointer (some ⟨gb, 0, none⟩)] #[.agg #[.slice A2 (rd_T38 l0 i).f0.length c2', .int .i64 (rd_T38 l0 i).f1, .bool (rd_T38 l0 i).f2, .slice A3 (rd_T38 l0 i).f3.length c3'], .pointer (some ⟨ga, 0, none⟩), .pointer (some ⟨gb, 0, none⟩)] rfl rfl (by (try simp only [List.map_toArray, List.map_cons, List.map_nil]); first | done | rfl) ?_; refine (find_one ga gb A2 c2' (rd_T38 l0 i) A3 c3' A1 c1 kk sq wr (blk_below HGA.out HB.out) (blk_below HGB.out HB.out) HI1.out HL1.out (Kd.C_below HR1.out HB.out) hc1).mono ?_; rintro ex w2 ⟨rfl, hb2⟩; refine ⟨_, rfl, ?_⟩; rw [ch]; have hb2 := Aside0.mk hb2)
            go_roundg k1
            case measure => omega
            case rel => exact ⟨wrap64 (i + 1), rfl, H, ⟨Nat.le_of_succ_le HK1.out⟩, ⟨below_step HB.out hb2.out⟩⟩
        · rw [if_neg c3] at H
          cases H
      · rw [if_neg c2] at H
        have c2b : decide (i < (l0.length : Int)) = false := decide_eq_false c2
        obtain rfl := Option.some.inj H
        go_wp2
        go_ret
        exact ⟨rfl, HB.out⟩

set_option maxHeartbeats 8000000 in
set_option maxRecDepth 100000 in
theorem block_Find.calls (k : Nat) (A0 : Option Addr) (c0 : Nat) (l0 : List S38) (A1 : Option Addr) (c1 : Nat) (l1 : List Int) (a2 : Int) (r1 : List Int) (r2 : Int) (r3 : Bool) (r4 : List Int) (r5 : Bool) (w : World) (hr0 : Kd.C k38 w A0 l0.length l0) (hc0 : l0.length ≤ c0) (hr1 : Kd.C (Kd.int .u8) w A1 l1.length l1) (hc1 : l1.length ≤ c1) (h : block_Find.f k l0 l1 a2 = some (r1, r2, r3, r4, r5)) :
    Calls Try.prog 17 #[.slice A0 l0.length c0, .slice A1 l1.length c1, .int .i64 a2] w fun e w' => ∃ v0_ v3_ : Value, e = .returned (.tuple #[.agg #[v0_, .int .i64 r2, .bool r3, v3_], .bool r5]) ∧ Kd.R (Kd.int .u8) 5 w' w.heap.size (fun k_ => some k_ ≠ (v3_ : Value).ownBlock) v0_ r1 ∧ Kd.R (Kd.int .u8) 5 w' w.heap.size (fun k_ => some k_ ≠ (v0_ : Value).ownBlock) v3_ r4 ∧ Below w.heap.size w w' := by
  have hu38 := Try.underlying38
  unfold block_Find.f at h
  replace h := Option.bind_eq_some_iff.mp h
  obtain ⟨i, hi, H⟩ := h
  have HR0 := Aside0.mk hr0; have HC0 := Aside0.mk hc0; have HR1 := Aside0.mk hr1; have HC1 := Aside0.mk hc1; have HI := Aside0.mk hi; clear hr0 hc0 hr1 hc1 hi
  by_cases c2 : i < 0
  · rw [if_pos c2] at H
    have c2b : decide (i < 0) = true := decide_eq_true c2
    simp only [Option.some.injEq, Prod.mk.injEq] at H
    obtain ⟨rfl, rfl, rfl, rfl, rfl⟩ := H
    go_enter Try.func17, Try.ntmps17
    go_wp2_with (first
      | ((with_reducible refine gate_dst (N := 4) rfl ?_); refine box_event ?hg (N := 4) ?hd (cs := #[.slice A1 l1.length c1]) (t := 24) ?hr ?_; (case hd => rfl); (case hg => rfl); (case hr => first | (go_simp; done) | (go_simp; rfl)); intro ga hqga w1 hxga hbga; have n_ := Aside0.mk hqga; clear hqga; have hqga := n_; clear n_; have n_ := Aside0.mk hxga; clear hxga; have hxga := n_; clear n_; have n_ := Aside0.mk hbga; clear hbga; have hbga := n_; clear n_)
      | ((with_reducible refine gate_dst (N := 5) rfl ?_); refine box_event ?hg (N := 5) ?hd (cs := #[.int .i64 a2]) (t := 3) ?hr ?_; (case hd => rfl); (case hg => rfl); (case hr => first | (go_simp; done) | (go_simp; rfl)); intro gb hqgb w2 hxgb hbgb; have n_ := Aside0.mk hqgb; clear hqgb; have hqgb := n_; clear n_; have n_ := Aside0.mk hxgb; clear hxgb; have hxgb := n_; clear n_; have n_ := Aside0.mk hbgb; clear hbgb; have hbgb := n_; clear n_; have hxa2 := Aside0.mk (blk_below hxga.out hbgb.out); have hB2 := Aside0.mk (below_step hbga.out hbgb.out))
      | ((with_reducible refine gate_dst (N := 6) rfl ?_); refine box_event ?hg (N := 6) ?hd (cs := #[.slice none 0 0, .int .i64 0, .bool false, .slice none 0 0]) (t := 38) ?hr ?_; (case hd => rfl); (case hg => rfl); (case hr => first | (go_simp; done) | (go_simp; rfl)); intro g6 hqg6 w3 hxg6 hbg6; have n_ := Aside0.mk hqg6; clear hqg6; have hqg6 := n_; clear n_; have n_ := Aside0.mk hxg6; clear hxg6; have hxg6 := n_; clear n_; have n_ := Aside0.mk hbg6; clear hbg6; have hbg6 := n_; clear n_; have hxa3 := Aside0.mk (blk_below hxa2.out hbg6.out); have hxb3 := Aside0.mk (blk_below hxgb.out hbg6.out); have hB3 := Aside0.mk (below_step hB2.out hbg6.out); have hg60 := Aside0.mk (show w.heap.size ≤ g6 from (by have h1 := hqg6.out; have h2 := (hB2.out).size; omega)))
      | ((with_reducible refine gate_callee (f := 37) rfl ?_); refine goesL_ (some 12) rfl rfl Try.func37 (by kernel_rfl) rfl #[.slice A0 l0.length c0, .func (.func 38) #[] #[.pointer (some ⟨ga, 0, none⟩), .pointer (some ⟨gb, 0, none⟩)]] rfl (by (try simp only [List.map_toArray, List.map_cons, List.map_nil]); first | done | rfl) ?_; refine (find_index k ga gb A0 c0 l0 A1 c1 l1 a2 i w3 hxa3.out hxb3.out (Kd.C_below HR0.out hB3.out) HC0.out (Kd.C_below HR1.out hB3.out) HC1.out HI.out).mono ?_; rintro ex w4 ⟨rfl, hb4⟩; refine ⟨_, rfl, ?_⟩; have n_ := Aside0.mk hb4; clear hb4; have hb4 := n_; clear n_; have hx6b := Aside0.mk (blk_below hxg6.out hb4.out); have hB4 := Aside0.mk (below_step hB3.out hb4.out); have hcv0 : w4.cell? ⟨g6, 0, none⟩ = some (.slice none 0 0) := (blk_cell hx6b.out 0).trans rfl; have hcv1 : w4.cell? ⟨g6, 1, none⟩ = some (.int .i64 0) := (blk_cell hx6b.out 1).trans rfl; have hcv2 : w4.cell? ⟨g6, 2, none⟩ = some (.bool false) := (blk_cell hx6b.out 2).trans rfl; have hcv3 : w4.cell? ⟨g6, 3, none⟩ = some (.slice none 0 0) := (blk_cell hx6b.out 3).trans rfl; have hfv0 := blk_frozen hx6b.out 0; have hfv1 := blk_frozen hx6b.out 1; have hfv2 := blk_frozen hx6b.out 2; have hfv3 := blk_frozen hx6b.out 3))
    refine bodyPost_ret (results_ct rfl _ _ g6 38 #[.slice none 0 0, .int .i64 0, .bool false, .slice none 0 0] (0, 0) _ rfl (fsets4 hx6b.out) Try.underlying38 rfl (by kernel_rfl)) rfl ?_
    exact ⟨.slice none 0 0, .slice none 0 0, rfl, Kd.R_nil _ _ _ _ _, Kd.R_nil _ _ _ _ _, fbelow4 hB4.out hg60.out _ _ _ _⟩
  · rw [if_neg c2] at H
    have c2b : decide (i < 0) = false := decide_eq_false c2
    by_cases c3 : i < (l0.length : Int)
    · rw [if_pos c3] at H
      replace H := Option.bind_eq_some_iff.mp H
      obtain ⟨y0, hy0, H⟩ := H
      replace H := Option.bind_eq_some_iff.mp H
      obtain ⟨y3, hy3, H⟩ := H
      simp only [Option.some.injEq, Prod.mk.injEq] at H
      obtain ⟨rfl, rfl, rfl, rfl, rfl⟩ := H
      have C2 := Aside0.mk (show 0 ≤ i by omega)
      have C3 := Aside0.mk c3
      clear c2 c3
      go_enter Try.func17, Try.ntmps17
      go_wp2_with (first
        | ((with_reducible refine gate_dst (N := 4) rfl ?_); refine box_event ?hg (N := 4) ?hd (cs := #[.slice A1 l1.length c1]) (t := 24) ?hr ?_; (case hd => rfl); (case hg => rfl); (case hr => first | (go_simp; done) | (go_simp; rfl)); intro ga hqga w1 hxga hbga; have n_ := Aside0.mk hqga; clear hqga; have hqga := n_; clear n_; have n_ := Aside0.mk hxga; clear hxga; have hxga := n_; clear n_; have n_ := Aside0.mk hbga; clear hbga; have hbga := n_; clear n_)
        | ((with_reducible refine gate_dst (N := 5) rfl ?_); refine box_event ?hg (N := 5) ?hd (cs := #[.int .i64 a2]) (t := 3) ?hr ?_; (case hd => rfl); (case hg => rfl); (case hr => first | (go_simp; done) | (go_simp; rfl)); intro gb hqgb w2 hxgb hbgb; have n_ := Aside0.mk hqgb; clear hqgb; have hqgb := n_; clear n_; have n_ := Aside0.mk hxgb; clear hxgb; have hxgb := n_; clear n_; have n_ := Aside0.mk hbgb; clear hbgb; have hbgb := n_; clear n_; have hxa2 := Aside0.mk (blk_below hxga.out hbgb.out); have hB2 := Aside0.mk (below_step hbga.out hbgb.out))
        | ((with_reducible refine gate_dst (N := 6) rfl ?_); refine box_event ?hg (N := 6) ?hd (cs := #[.slice none 0 0, .int .i64 0, .bool false, .slice none 0 0]) (t := 38) ?hr ?_; (case hd => rfl); (case hg => rfl); (case hr => first | (go_simp; done) | (go_simp; rfl)); intro g6 hqg6 w3 hxg6 hbg6; have n_ := Aside0.mk hqg6; clear hqg6; have hqg6 := n_; clear n_; have n_ := Aside0.mk hxg6; clear hxg6; have hxg6 := n_; clear n_; have n_ := Aside0.mk hbg6; clear hbg6; have hbg6 := n_; clear n_; have hxa3 := Aside0.mk (blk_below hxa2.out hbg6.out); have hxb3 := Aside0.mk (blk_below hxgb.out hbg6.out); have hB3 := Aside0.mk (below_step hB2.out hbg6.out); have hg60 := Aside0.mk (show w.heap.size ≤ g6 from (by have h1 := hqg6.out; have h2 := (hB2.out).size; omega)))
        | ((with_reducible refine gate_callee (f := 37) rfl ?_); refine goesL_ (some 12) rfl rfl Try.func37 (by kernel_rfl) rfl #[.slice A0 l0.length c0, .func (.func 38) #[] #[.pointer (some ⟨ga, 0, none⟩), .pointer (some ⟨gb, 0, none⟩)]] rfl (by (try simp only [List.map_toArray, List.map_cons, List.map_nil]); first | done | rfl) ?_; refine (find_index k ga gb A0 c0 l0 A1 c1 l1 a2 i w3 hxa3.out hxb3.out (Kd.C_below HR0.out hB3.out) HC0.out (Kd.C_below HR1.out hB3.out) HC1.out HI.out).mono ?_; rintro ex w4 ⟨rfl, hb4⟩; refine ⟨_, rfl, ?_⟩; have n_ := Aside0.mk hb4; clear hb4; have hb4 := n_; clear n_; have hx6b := Aside0.mk (blk_below hxg6.out hb4.out); have hB4 := Aside0.mk (below_step hB3.out hb4.out); obtain ⟨ad, A2, c2', A3, c3', e1, hy0', hy1', hy2', hy3', hl1, hi1, hl3, hi3⟩ := at_T38 (Kd.C_below HR0.out hB4.out) i C2.out C3.out; subst e1; have p1 := eq_true C2.out; have q1 := eq_true C3.out; have n_ := Aside0.mk hl1; clear hl1; have hl1 := n_; clear n_; have n_ := Aside0.mk hi1; clear hi1; have hi1 := n_; clear n_; have n_ := Aside0.mk hl3; clear hl3; have hl3 := n_; clear n_; have n_ := Aside0.mk hi3; clear hi3; have hi3 := n_; clear n_)
        | ((with_reducible refine gate_dst (N := 9) rfl ?_); refine box_event ?hg (N := 9) ?hd (cs := #[.slice none 0 0, .int .i64 0, .bool false, .slice none 0 0]) (t := 38) ?hr ?_; (case hd => rfl); (case hg => rfl); (case hr => first | (go_simp; done) | (go_simp; rfl)); intro g9 hqg9 w5 hxg9 hbg9; have n_ := Aside0.mk hqg9; clear hqg9; have hqg9 := n_; clear n_; have n_ := Aside0.mk hxg9; clear hxg9; have hxg9 := n_; clear n_; have n_ := Aside0.mk hbg9; clear hbg9; have hbg9 := n_; clear n_; have Z9 := Aside0.mk (show g9 = w4.heap.size ∧ g6 < w4.heap.size ∧ w.heap.size ≤ w4.heap.size from ⟨hqg9.out, blk_lt hx6b.out, (hB4.out).size⟩); have hx65 := Aside0.mk (blk_below hx6b.out hbg9.out); have hn96 : g9 ≠ g6 := (by have h1 := Z9.out; omega); have hn69 : g6 ≠ g9 := (by have h1 := Z9.out; omega); have hB5 := Aside0.mk (below_step hB4.out hbg9.out); have hcz0 : w5.cell? ⟨g9, 0, none⟩ = some (.slice none 0 0) := (blk_cell hxg9.out 0).trans rfl; have hcz1 : w5.cell? ⟨g9, 1, none⟩ = some (.int .i64 0) := (blk_cell hxg9.out 1).trans rfl; have hcz2 : w5.cell? ⟨g9, 2, none⟩ = some (.bool false) := (blk_cell hxg9.out 2).trans rfl; have hcz3 : w5.cell? ⟨g9, 3, none⟩ = some (.slice none 0 0) := (blk_cell hxg9.out 3).trans rfl; have hfz0 := blk_frozen hxg9.out 0; have hfz1 := blk_frozen hxg9.out 1; have hfz2 := blk_frozen hxg9.out 2; have hfz3 := blk_frozen hxg9.out 3))
      have hg90 := Aside0.mk (show w.heap.size ≤ g9 from (by have h1 := Z9.out; omega))
      have BK := Aside0.mk (show ((((w5.setCell ⟨g9, 0, none⟩ (.slice A2 (rd_T38 l0 i).f0.length c2')).setCell ⟨g9, 1, none⟩ (.int .i64 (rd_T38 l0 i).f1)).setCell ⟨g9, 2, none⟩ (.bool (rd_T38 l0 i).f2)).setCell ⟨g9, 3, none⟩ (.slice A3 (rd_T38 l0 i).f3.length c3')).heap[g9]? = some (.cells #[.slice A2 (rd_T38 l0 i).f0.length c2', .int .i64 (rd_T38 l0 i).f1, .bool (rd_T38 l0 i).f2, .slice A3 (rd_T38 l0 i).f3.length c3'] 38 (0, 0)) from fsets4 hxg9.out)
      have K9 := Aside0.mk (show KeepBut w5 ((((w5.setCell ⟨g9, 0, none⟩ (.slice A2 (rd_T38 l0 i).f0.length c2')).setCell ⟨g9, 1, none⟩ (.int .i64 (rd_T38 l0 i).f1)).setCell ⟨g9, 2, none⟩ (.bool (rd_T38 l0 i).f2)).setCell ⟨g9, 3, none⟩ (.slice A3 (rd_T38 l0 i).f3.length c3')) g9 none from fkeep4 _ _ _ _ _ _)
      have hx66 := Aside0.mk (KeepBut.blk K9.out hx65.out hn69 (by simp))
      have hB6 := Aside0.mk (show Below w.heap.size w ((((w5.setCell ⟨g9, 0, none⟩ (.slice A2 (rd_T38 l0 i).f0.length c2')).setCell ⟨g9, 1, none⟩ (.int .i64 (rd_T38 l0 i).f1)).setCell ⟨g9, 2, none⟩ (.bool (rd_T38 l0 i).f2)).setCell ⟨g9, 3, none⟩ (.slice A3 (rd_T38 l0 i).f3.length c3')) from fbelow4 hB5.out hg90.out _ _ _ _)
      refine start_ (n := 10) (S := fun w' => w'.cell? ⟨g9, 0, none⟩ = some (.slice A2 (rd_T38 l0 i).f0.length c2') ∧ w'.cell? ⟨g9, 1, none⟩ = some (.int .i64 (rd_T38 l0 i).f1) ∧ w'.cell? ⟨g9, 2, none⟩ = some (.bool (rd_T38 l0 i).f2) ∧ w'.cell? ⟨g9, 3, none⟩ = some (.slice A3 (rd_T38 l0 i).f3.length c3') ∧ (∀ q_, w'.frozen? ⟨g9, q_, none⟩ = false)) (ds := [7, 9]) #[false, false, false, false, false, false, false, false, false, false] (by kernel_rfl) rfl rfl ⟨(blk_cell (blk_drew BK.out) 0).trans rfl, (blk_cell (blk_drew BK.out) 1).trans rfl, (blk_cell (blk_drew BK.out) 2).trans rfl, (blk_cell (blk_drew BK.out) 3).trans rfl, fun q_ => blk_frozen (blk_drew BK.out) q_⟩ (fun hHeld => ?_)
      have BK5 := Aside0.mk (blk_drew BK.out)
      have hx67 := Aside0.mk (blk_drew hx66.out)
      have hB7 := Aside0.mk (below_drew hB6.out)
      have HI1b := Aside0.mk (show Kd.C (Kd.int .u8) ((((w5.setCell ⟨g9, 0, none⟩ (.slice A2 (rd_T38 l0 i).f0.length c2')).setCell ⟨g9, 1, none⟩ (.int .i64 (rd_T38 l0 i).f1)).setCell ⟨g9, 2, none⟩ (.bool (rd_T38 l0 i).f2)).setCell ⟨g9, 3, none⟩ (.slice A3 (rd_T38 l0 i).f3.length c3')).drew A2 (rd_T38 l0 i).f0.length (rd_T38 l0 i).f0 from Kd.C_drew (fC_sets (Kd.C_below hi1.out hbg9.out) hqg9.out hi1.out hbg9.out))
      have HI3b := Aside0.mk (show Kd.C (Kd.int .u8) ((((w5.setCell ⟨g9, 0, none⟩ (.slice A2 (rd_T38 l0 i).f0.length c2')).setCell ⟨g9, 1, none⟩ (.int .i64 (rd_T38 l0 i).f1)).setCell ⟨g9, 2, none⟩ (.bool (rd_T38 l0 i).f2)).setCell ⟨g9, 3, none⟩ (.slice A3 (rd_T38 l0 i).f3.length c3')).drew A3 (rd_T38 l0 i).f3.length (rd_T38 l0 i).f3 from Kd.C_drew (fC_sets (Kd.C_below hi3.out hbg9.out) hqg9.out hi3.out hbg9.out))
      clear BK hx66 hB6
      generalize ((((w5.setCell ⟨g9, 0, none⟩ (.slice A2 (rd_T38 l0 i).f0.length c2')).setCell ⟨g9, 1, none⟩ (.int .i64 (rd_T38 l0 i).f1)).setCell ⟨g9, 2, none⟩ (.bool (rd_T38 l0 i).f2)).setCell ⟨g9, 3, none⟩ (.slice A3 (rd_T38 l0 i).f3.length c3')).drew = w6 at BK5 hx67 hB7 HI1b HI3b hHeld ⊢
      refine pure_ (i := 0) (N := some 20) (v := ?_) (a' := ?_) #[true, false, false, false, false, false, false, false, false, false] rfl rfl (by kernel_rfl) (fun _ _ _ h => h) (Or.inl ⟨by rfl, ?_⟩) ?_ ?_
      rotate_left
      · intro w'
        go_simp
        with_reducible rfl
      rotate_left
      · simp only [Act.put, List.setIfInBounds_toArray, List.set_cons_zero, List.set_cons_succ, i64_w, i32_w]
        rfl
      refine pure_ (i := 3) (N := some 23) (v := ?_) (a' := ?_) #[true, false, false, true, false, false, false, false, false, false] rfl rfl (by kernel_rfl) (fun _ _ _ h => h) (Or.inl ⟨by rfl, ?_⟩) ?_ ?_
      rotate_left
      · intro w'
        go_simp
        with_reducible rfl
      rotate_left
      · simp only [Act.put, List.setIfInBounds_toArray, List.set_cons_zero, List.set_cons_succ, i64_w, i32_w]
        rfl
      refine take_ (i := 1) (N := some 21) (v := ?_) (a' := ?_) #[true, true, false, true, false, false, false, false, false, false] rfl rfl (by kernel_rfl) (fun _ _ _ h => h) (Or.inl ⟨by rfl, ?_⟩) hHeld ?_ ?_
      rotate_left
      · rintro w' ⟨s0, s1, s2, s3, s4⟩
        go_simp
        with_reducible rfl
      rotate_left
      · simp only [Act.put, List.setIfInBounds_toArray, List.set_cons_zero, List.set_cons_succ, i64_w, i32_w]
        rfl
      refine take_ (i := 4) (N := some 24) (v := ?_) (a' := ?_) #[true, true, false, true, true, false, false, false, false, false] rfl rfl (by kernel_rfl) (fun _ _ _ h => h) (Or.inl ⟨by rfl, ?_⟩) hHeld ?_ ?_
      rotate_left
      · rintro w' ⟨s0, s1, s2, s3, s4⟩
        go_simp
        with_reducible rfl
      rotate_left
      · simp only [Act.put, List.setIfInBounds_toArray, List.set_cons_zero, List.set_cons_succ, i64_w, i32_w]
        rfl
      refine one_ (i := 2) (N := some 22) #[true, true, true, true, true, false, false, false, false, false] rfl rfl (by kernel_rfl) (by decide) (fun K hK => ?_)
      refine goes_ Try.func39 (by kernel_rfl) rfl #[.slice A2 (rd_T38 l0 i).f0.length c2'] (by rfl) rfl rfl (by (try simp only [List.map_toArray, List.map_cons, List.map_nil]); first | done | rfl) ?_
      refine (slices_Clone_byte_byte.calls _ _ (rd_T38 l0 i).f0 y0 _ HI1b.out hl1.out hy0).mono ?_
      rintro ex w7 ⟨v7, rfl, ho7, hb7⟩
      refine ⟨_, rfl, ?_⟩
      have HO7 := Aside0.mk ho7; have HB7 := Aside0.mk hb7
      have BK7 := Aside0.mk (blk_below BK5.out hb7)
      clear ho7 hb7
      refine hK.out _ _ ⟨(blk_cell BK7.out 0).trans rfl, (blk_cell BK7.out 1).trans rfl, (blk_cell BK7.out 2).trans rfl, (blk_cell BK7.out 3).trans rfl, fun q_ => blk_frozen BK7.out q_⟩ (fun hHeld => ?_)
      clear hK K
      refine norm_ (a' := ?_) ?_ ?_
      rotate_left
      · show Act.put _ (some 22) _ = _
        simp only [Act.put, List.setIfInBounds_toArray, List.set_cons_zero, List.set_cons_succ, i64_w, i32_w]
        rfl
      refine pure_ (i := 6) (N := some 26) (v := ?_) (a' := ?_) #[true, true, true, true, true, false, true, false, false, false] rfl rfl (by kernel_rfl) (fun _ _ _ h => h) (Or.inl ⟨by rfl, ?_⟩) ?_ ?_
      rotate_left
      · intro w'
        go_simp
        with_reducible rfl
      rotate_left
      · simp only [Act.put, List.setIfInBounds_toArray, List.set_cons_zero, List.set_cons_succ, i64_w, i32_w]
        rfl
      refine one_ (i := 5) (N := some 25) #[true, true, true, true, true, true, true, false, false, false] rfl rfl (by kernel_rfl) (by decide) (fun K hK => ?_)
      refine goes_ Try.func39 (by kernel_rfl) rfl #[.slice A3 (rd_T38 l0 i).f3.length c3'] (by rfl) rfl rfl (by (try simp only [List.map_toArray, List.map_cons, List.map_nil]); first | done | rfl) ?_
      refine (slices_Clone_byte_byte.calls _ _ (rd_T38 l0 i).f3 y3 _ (Kd.C_below HI3b.out HB7.out) hl3.out hy3).mono ?_
      rintro ex w8 ⟨v8, rfl, ho8, hb8⟩
      refine ⟨_, rfl, ?_⟩
      have HO8 := Aside0.mk ho8; have HB8 := Aside0.mk hb8
      have BK8 := Aside0.mk (blk_below BK7.out hb8)
      clear ho8 hb8
      refine hK.out _ _ ⟨(blk_cell BK8.out 0).trans rfl, (blk_cell BK8.out 1).trans rfl, (blk_cell BK8.out 2).trans rfl, (blk_cell BK8.out 3).trans rfl, fun q_ => blk_frozen BK8.out q_⟩ (fun hHeld => ?_)
      clear hK K
      refine norm_ (a' := ?_) ?_ ?_
      rotate_left
      · show Act.put _ (some 25) _ = _
        simp only [Act.put, List.setIfInBounds_toArray, List.set_cons_zero, List.set_cons_succ, i64_w, i32_w]
        rfl
      have fx6 := Aside0.mk (blk_below (blk_below hx67.out HB7.out) HB8.out)
      obtain ⟨Ak, ck, rfl⟩ := Kd.R_slice HO7.out
      obtain ⟨Av, cv, rfl⟩ := Kd.R_slice HO8.out
      have hc80 : w8.cell? ⟨g9, 0, none⟩ = some (.slice A2 (rd_T38 l0 i).f0.length c2') := (blk_cell BK8.out 0).trans rfl
      have hf80 := blk_frozen BK8.out 0
      have hc83 : w8.cell? ⟨g9, 3, none⟩ = some (.slice A3 (rd_T38 l0 i).f3.length c3') := (blk_cell BK8.out 3).trans rfl
      have hf83 := blk_frozen BK8.out 3
      have hc81 : w8.cell? ⟨g9, 1, none⟩ = some (.int .i64 (rd_T38 l0 i).f1) := (blk_cell BK8.out 1).trans rfl
      have hc82 : w8.cell? ⟨g9, 2, none⟩ = some (.bool (rd_T38 l0 i).f2) := (blk_cell BK8.out 2).trans rfl
      refine last_ (i := 7) (N := none) #[true, true, true, true, true, true, true, true, false, false] rfl rfl (by kernel_rfl) (by decide) (fun K hK => ?_)
      refine skip_ (w1 := ?_) (by rfl) rfl ?_ ?_
      rotate_left
      · go_simp
        rfl
      refine hK.out _ _ ?_
      clear hK K
      refine pure_ (i := 8) (N := some 27) (v := ?_) (a' := ?_) #[true, true, true, true, true, true, true, true, true, false] rfl rfl (by kernel_rfl) (fun _ _ _ h => h) (Or.inl ⟨by rfl, ?_⟩) ?_ ?_
      rotate_left
      · intro w'
        go_simp
        with_reducible rfl
      rotate_left
      · simp only [Act.put, List.setIfInBounds_toArray, List.set_cons_zero, List.set_cons_succ, i64_w, i32_w]
        rfl
      refine last_ (i := 9) (N := none) #[true, true, true, true, true, true, true, true, true, true] rfl rfl (by kernel_rfl) (by decide) (fun K hK => ?_)
      refine skip_ (w1 := ?_) (by rfl) rfl ?_ ?_
      rotate_left
      · go_simp
        rfl
      refine hK.out _ _ ?_
      clear hK K
      refine done_ (by kernel_rfl) ?_
      have hcu0 : w8.cell? ⟨g6, 0, none⟩ = some (.slice none 0 0) := (blk_cell (fx6.out) 0).trans rfl
      have hcu1 : w8.cell? ⟨g6, 1, none⟩ = some (.int .i64 0) := (blk_cell (fx6.out) 1).trans rfl
      have hcu2 : w8.cell? ⟨g6, 2, none⟩ = some (.bool false) := (blk_cell (fx6.out) 2).trans rfl
      have hcu3 : w8.cell? ⟨g6, 3, none⟩ = some (.slice none 0 0) := (blk_cell (fx6.out) 3).trans rfl
      have hfu0 := blk_frozen (fx6.out) 0
      have hfu1 := blk_frozen (fx6.out) 1
      have hfu2 := blk_frozen (fx6.out) 2
      have hfu3 := blk_frozen (fx6.out) 3
      go_wp2
      have hkm : KeepBut w8 ((w8.setCell ⟨g9, 0, none⟩ (.slice Ak y0.length ck)).setCell ⟨g9, 3, none⟩ (.slice Av y3.length cv)) g9 none := KeepBut.set_ (KeepBut.set_ (KeepBut.refl w8 g9 none) 0 _) 3 _
      have hkf : KeepBut ((w8.setCell ⟨g9, 0, none⟩ (.slice Ak y0.length ck)).setCell ⟨g9, 3, none⟩ (.slice Av y3.length cv)) ((((((w8.setCell ⟨g9, 0, none⟩ (.slice Ak y0.length ck)).setCell ⟨g9, 3, none⟩ (.slice Av y3.length cv)).setCell ⟨g6, 0, none⟩ (.slice Ak y0.length ck)).setCell ⟨g6, 1, none⟩ (.int .i64 (rd_T38 l0 i).f1)).setCell ⟨g6, 2, none⟩ (.bool (rd_T38 l0 i).f2)).setCell ⟨g6, 3, none⟩ (.slice Av y3.length cv)) g6 none := fkeep4 _ _ _ _ _ _
      have hz9 : g9 < w6.heap.size := blk_lt BK5.out
      have hz6 : g6 < w6.heap.size := blk_lt hx67.out
      have hz7 := HB7.out.size
      refine bodyPost_ret (results_ct rfl _ _ g6 38 #[.slice Ak y0.length ck, .int .i64 (rd_T38 l0 i).f1, .bool (rd_T38 l0 i).f2, .slice Av y3.length cv] (0, 0) _ rfl (fsets4 (KeepBut.blk hkm fx6.out hn69 (by simp))) Try.underlying38 rfl (by kernel_rfl)) rfl ?_
      have hwz : w.heap.size ≤ w6.heap.size := hB7.out.size
      refine ⟨.slice Ak y0.length ck, .slice Av y3.length cv, rfl, ?_, ?_, ?_⟩
      · exact Kd.R_lower (Kd.R_mono (Kd.R_keep (Kd.R_keep (Kd.R_bound (Kd.R_elder' HO7.out (Kd.R_base HO8.out) HB8.out)) hkm (fun k_ hk => by have h1 := hk.2.1; omega)) hkf (fun k_ hk => by have h1 := hk.2.1; omega)) (fun k_ hk => hk.1.2)) hwz
      · exact Kd.R_lower (Kd.R_mono (Kd.R_keep (Kd.R_keep (Kd.R_bound (Kd.R_new' HO8.out (Kd.R_lt HO7.out))) hkm (fun k_ hk => by have h1 := hk.2.1; omega)) hkf (fun k_ hk => by have h1 := hk.2.1; omega)) (fun k_ hk => hk.1.2)) (by omega)
      · exact fbelow4 (below_set (below_set (below_step (below_step hB7.out HB7.out) HB8.out) hg90.out) hg90.out) hg60.out _ _ _ _
    · rw [if_neg c3] at H
      cases H


end Go.Proofs.Ytkebeiillddboaa.Px
