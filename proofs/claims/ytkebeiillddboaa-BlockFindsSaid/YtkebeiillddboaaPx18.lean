-- Printed by a program of ours (px) out of the translation; Lean checks it.
import Derived.Test.YtkebeiillddboaaPx0
import Derived.Test.YtkebeiillddboaaPx2
import Derived.Test.YtkebeiillddboaaPx7
import Derived.Test.YtkebeiillddboaaPx15
import Derived.Test.YtkebeiillddboaaPx16
import Derived.Test.YtkebeiillddboaaPx17
namespace Go.Proofs.Ytkebeiillddboaa.Px
open Go.RowKit Go.Proofs.YtkebeiillddboaaW.PrintWords Go.Proofs.YtkebeiillddboaaW.PrintLast Go.Proofs.YtkebeiillddboaaW.PrintMore
attribute [local go_sem] max2_int min2_int max_two min_two max_three min_three max_four min_four   -- for this text's walks alone
set_option linter.unusedVariables false
set_option linter.unusedSimpArgs false
set_option linter.unnecessarySimpa false

/-! ### block_Parse: function 14 -/
theorem goesV_ {P : Program} {ops : Array Oper} {Q : Exit → Act → World → Prop} {rest : List Oper} {oi : Oper} {a : Act} {w : World} (N : Option Tmp) (hd : oi.dst = N) (hg : oi.guard = none) {f : FuncId} {fn : Func} {t : Operand} {as0 : Array Operand} {ts : Array TypeId} (hf : P.funcs[f]? = some fn) (hname : (fn.name == "runtime.NumGoroutine") = false) (hb : fn.body.isSome = true) (first captured args : Array Value)
    (hop : oi.op = .call { callee := .value t, args := as0, argTypes := ts }) (hv : a.eval t = .func (.func f) first captured) (hargs : (first ++ as0.map a.eval) ++ captured = args)
    (h : Calls P f args w fun e w' => ∃ v, e = .returned v ∧ wpList P ops Q rest (a.put N v) w') : wpList P ops Q (oi :: rest) a w := by
  refine wpList_plain hg fun K hK => ?_
  have he := enters_ hf hname hb args w
  have hrun : (execOp a.eval oi).run P w = .ok (.enter f args) w := by
    unfold execOp
    simp only [hop, resolve, hv, Deferred.ofValue, Sem.run_bind, Sem.run_pure, Result.andThen_ok, invoke, hargs, he]
  unfold Oper.wp
  rw [hrun, Oper.upon_enter]
  refine h.mono fun e w'' hh => ?_
  obtain ⟨v, rfl, hk⟩ := hh
  subst hd
  exact hK _ _ hk

theorem sets4 {w : World} {g9 : Nat} {c0 c1 c2 c3 a b c d : Value} {t : TypeId} (h : w.heap[g9]? = some (.cells #[c0, c1, c2, c3] t (0, 0))) : ((((w.setCell ⟨g9, 0, none⟩ a).setCell ⟨g9, 1, none⟩ b).setCell ⟨g9, 2, none⟩ c).setCell ⟨g9, 3, none⟩ d).heap[g9]? = some (.cells #[a, b, c, d] t (0, 0)) :=
  blk_put (cs := #[a, b, c, c3]) (blk_put (cs := #[a, b, c2, c3]) (blk_put (cs := #[a, c1, c2, c3]) (blk_put (cs := #[c0, c1, c2, c3]) h 0 a rfl) 1 b rfl) 2 c rfl) 3 d rfl
theorem keep4 (w : World) (g9 : Nat) (a b c d : Value) : KeepBut w ((((w.setCell ⟨g9, 0, none⟩ a).setCell ⟨g9, 1, none⟩ b).setCell ⟨g9, 2, none⟩ c).setCell ⟨g9, 3, none⟩ d) g9 none :=
  KeepBut.set_ (KeepBut.set_ (KeepBut.set_ (KeepBut.set_ (KeepBut.refl w g9 none) 0 a) 1 b) 2 c) 3 d
theorem below4 {w0 w : World} {g9 : Nat} (h : Below w0.heap.size w0 w) (hg : w0.heap.size ≤ g9) (a b c d : Value) : Below w0.heap.size w0 ((((w.setCell ⟨g9, 0, none⟩ a).setCell ⟨g9, 1, none⟩ b).setCell ⟨g9, 2, none⟩ c).setCell ⟨g9, 3, none⟩ d) :=
  below_set (below_set (below_set (below_set h hg) hg) hg) hg
theorem sets12 {w : World} {g9 : Nat} {c0 c1 c2 c3 b c : Value} {t : TypeId} (h : w.heap[g9]? = some (.cells #[c0, c1, c2, c3] t (0, 0))) : ((w.setCell ⟨g9, 1, none⟩ b).setCell ⟨g9, 2, none⟩ c).heap[g9]? = some (.cells #[c0, b, c, c3] t (0, 0)) :=
  blk_put (cs := #[c0, b, c2, c3]) (blk_put (cs := #[c0, c1, c2, c3]) h 1 b rfl) 2 c rfl
theorem keep12 (w : World) (g9 : Nat) (b c : Value) : KeepBut w ((w.setCell ⟨g9, 1, none⟩ b).setCell ⟨g9, 2, none⟩ c) g9 none :=
  KeepBut.set_ (KeepBut.set_ (KeepBut.refl w g9 none) 1 b) 2 c
theorem set3 {w : World} {g9 : Nat} {c0 c1 c2 c3 d : Value} {t : TypeId} (h : w.heap[g9]? = some (.cells #[c0, c1, c2, c3] t (0, 0))) : (w.setCell ⟨g9, 3, none⟩ d).heap[g9]? = some (.cells #[c0, c1, c2, d] t (0, 0)) :=
  blk_put (cs := #[c0, c1, c2, c3]) h 3 d rfl
theorem keep_as_row {w W : World} {g9 : Nat} (h : KeepBut w W g9 none) (g : Nat) : KeepBut w W g (some g9) := ⟨h.1, fun i hi _ hr => h.2 i hi (fun e => hr (by rw [e])) (by simp)⟩

theorem rdr_sets {w0 w w1 : World} {g : Nat} {cs : Array Value} {v u : Value} {A : Option Addr} {n : Nat} {xs : List Int} (hB : Below w0.heap.size w0 w) (hg0 : w0.heap.size ≤ g) (hgl : g < w.heap.size) (hb : Below w.heap.size w w1)
    (BK : w1.heap[g]? = some (.cells cs 50 (0, 0))) (hcs : (cs.setIfInBounds 0 v).setIfInBounds 1 u = #[v, u]) (hf : Kd.F (Kd.int .u8) w1 (fun k_ => w.heap.size ≤ k_) A n xs) :
    ((w1.setCell ⟨g, 0, none⟩ v).setCell ⟨g, 1, none⟩ u).heap[g]? = some (.cells #[v, u] 50 (0, 0)) ∧ Kd.F (Kd.int .u8) ((w1.setCell ⟨g, 0, none⟩ v).setCell ⟨g, 1, none⟩ u) (fun k_ => w.heap.size ≤ k_) A n xs ∧ Below w0.heap.size w0 ((w1.setCell ⟨g, 0, none⟩ v).setCell ⟨g, 1, none⟩ u) ∧ KeepBut w ((w1.setCell ⟨g, 0, none⟩ v).setCell ⟨g, 1, none⟩ u) g none := by
  refine ⟨?_, ?_, ?_, ?_⟩
  · exact blk_put (blk_set BK 0 v) 1 u hcs
  · exact Kd.F_far (p := ⟨g, 1, none⟩) (Kd.F_far (p := ⟨g, 0, none⟩) hf (fun k hk => by show k ≠ g; have := hk; omega) v) (fun k hk => by show k ≠ g; have := hk; omega) u
  · exact below_set (below_set (below_step hB hb) hg0) hg0
  · exact KeepBut.set_ (KeepBut.set_ (KeepBut.of_below hb g none) 0 v) 1 u

set_option maxHeartbeats 4000000 in
set_option maxRecDepth 100000 in
theorem rdr_num (k : Nat) (g : Nat) (A : Option Addr) (c : Nat) (bs : List Int) (bad : Bool) (n : Int) (rest : List Int) (e : Int) (w0 w : World)
    (hB : Below w0.heap.size w0 w) (hg0 : w0.heap.size ≤ g)
    (hg : w.heap[g]? = some (.cells #[.slice A bs.length c, .bool bad] 50 (0, 0)))
    (hr : Kd.C (Kd.int .u8) w A bs.length bs) (hc : bs.length ≤ c) (h : code_TakeNum.f k bs = some (n, rest, e)) :
    Calls Try.prog 31 #[.pointer (some ⟨g, 0, none⟩)] w fun ex w' => ∃ (A' : Option Addr) (c' : Nat), ex = .returned (.int .i64 n) ∧ w'.heap[g]? = some (.cells #[.slice A' rest.length c', .bool (bad || e != 0)] 50 (0, 0)) ∧ rest.length ≤ c' ∧ Kd.F (Kd.int .u8) w' (fun k_ => w.heap.size ≤ k_) A' rest.length rest ∧ Below w0.heap.size w0 w' ∧ KeepBut w w' g none := by
  have hu50 := Try.underlying50
  have hcell0 : w.cell? ⟨g, 0, none⟩ = some (.slice A bs.length c) := (blk_cell hg 0).trans rfl
  have hgl := blk_lt hg
  cases bad with
  | true =>
    go_enter Try.func31, Try.ntmps31
    go_wp2_with ((with_reducible refine gate_callee (f := 48) rfl ?_); refine goesL_ (some 11) rfl rfl Try.func48 (by kernel_rfl) rfl #[.slice A bs.length c] rfl (by (try simp only [List.map_toArray, List.map_cons, List.map_nil]); first | done | rfl) ?_; (with_reducible refine (code_TakeNum.calls k _ _ bs n rest e _ ?side1 ?side2 h).mono ?_); (case side1 => repeat (first | exact hr | (with_reducible refine Kd.C_alloc ?_ _) | (with_reducible refine Kd.C_drewN ?_ _) | (with_reducible refine Kd.C_drew ?_))); (case side2 => exact hc); rintro ex w1 ⟨v1, rfl, ho, hb⟩; refine ⟨_, rfl, ?_⟩; obtain ⟨A1, c1, rfl⟩ := Kd.R_slice ho; have BK := blk_below hg hb; have hf1 := Kd.F_mono (Kd.R_F (Kd.R_bound ho)) (fun _ hk => hk.2.1); have hl1 := (Kd.R_reads' ho).2.1; clear ho; have hcz0 : w1.cell? ⟨g, 0, none⟩ = some (.slice A bs.length c) := (blk_cell BK 0).trans rfl; have hcz1 : w1.cell? ⟨g, 1, none⟩ = some (.bool true) := (blk_cell BK 1).trans rfl; have hfz0 := blk_frozen BK 0; have hfz1 := blk_frozen BK 1)
    go_ret
    have hz := rdr_sets (v := .slice A1 rest.length c1) (u := .bool true) hB hg0 hgl hb BK rfl hf1
    exact ⟨A1, c1, rfl, by simpa using hz.1, hl1, hz.2.1, hz.2.2.1, hz.2.2.2⟩
  | false =>
    by_cases he : e = 0
    · have he1 : (e == 0) = true := by simp [he]
      have he2 : (e != 0) = false := by simp [he]
      go_enter Try.func31, Try.ntmps31
      go_wp2_with ((with_reducible refine gate_callee (f := 48) rfl ?_); refine goesL_ (some 11) rfl rfl Try.func48 (by kernel_rfl) rfl #[.slice A bs.length c] rfl (by (try simp only [List.map_toArray, List.map_cons, List.map_nil]); first | done | rfl) ?_; (with_reducible refine (code_TakeNum.calls k _ _ bs n rest e _ ?side1 ?side2 h).mono ?_); (case side1 => repeat (first | exact hr | (with_reducible refine Kd.C_alloc ?_ _) | (with_reducible refine Kd.C_drewN ?_ _) | (with_reducible refine Kd.C_drew ?_))); (case side2 => exact hc); rintro ex w1 ⟨v1, rfl, ho, hb⟩; refine ⟨_, rfl, ?_⟩; obtain ⟨A1, c1, rfl⟩ := Kd.R_slice ho; have BK := blk_below hg hb; have hf1 := Kd.F_mono (Kd.R_F (Kd.R_bound ho)) (fun _ hk => hk.2.1); have hl1 := (Kd.R_reads' ho).2.1; clear ho; have hcz0 : w1.cell? ⟨g, 0, none⟩ = some (.slice A bs.length c) := (blk_cell BK 0).trans rfl; have hcz1 : w1.cell? ⟨g, 1, none⟩ = some (.bool false) := (blk_cell BK 1).trans rfl; have hfz0 := blk_frozen BK 0; have hfz1 := blk_frozen BK 1)
      go_ret
      have hz := rdr_sets (v := .slice A1 rest.length c1) (u := .bool false) hB hg0 hgl hb BK rfl hf1
      exact ⟨A1, c1, rfl, by simpa [he] using hz.1, hl1, hz.2.1, hz.2.2.1, hz.2.2.2⟩
    · have he1 : (e == 0) = false := by simp [he]
      have he2 : (e != 0) = true := by simp [he]
      go_enter Try.func31, Try.ntmps31
      go_wp2_with ((with_reducible refine gate_callee (f := 48) rfl ?_); refine goesL_ (some 11) rfl rfl Try.func48 (by kernel_rfl) rfl #[.slice A bs.length c] rfl (by (try simp only [List.map_toArray, List.map_cons, List.map_nil]); first | done | rfl) ?_; (with_reducible refine (code_TakeNum.calls k _ _ bs n rest e _ ?side1 ?side2 h).mono ?_); (case side1 => repeat (first | exact hr | (with_reducible refine Kd.C_alloc ?_ _) | (with_reducible refine Kd.C_drewN ?_ _) | (with_reducible refine Kd.C_drew ?_))); (case side2 => exact hc); rintro ex w1 ⟨v1, rfl, ho, hb⟩; refine ⟨_, rfl, ?_⟩; obtain ⟨A1, c1, rfl⟩ := Kd.R_slice ho; have BK := blk_below hg hb; have hf1 := Kd.F_mono (Kd.R_F (Kd.R_bound ho)) (fun _ hk => hk.2.1); have hl1 := (Kd.R_reads' ho).2.1; clear ho; have hcz0 : w1.cell? ⟨g, 0, none⟩ = some (.slice A bs.length c) := (blk_cell BK 0).trans rfl; have hcz1 : w1.cell? ⟨g, 1, none⟩ = some (.bool false) := (blk_cell BK 1).trans rfl; have hfz0 := blk_frozen BK 0; have hfz1 := blk_frozen BK 1)
      go_ret
      have hz := rdr_sets (v := .slice A1 rest.length c1) (u := .bool true) hB hg0 hgl hb BK rfl hf1
      exact ⟨A1, c1, rfl, by simpa [he2] using hz.1, hl1, hz.2.1, hz.2.2.1, hz.2.2.2⟩

set_option maxHeartbeats 4000000 in
set_option maxRecDepth 100000 in
theorem rdr_text (k : Nat) (g : Nat) (A : Option Addr) (c : Nat) (bs : List Int) (bad : Bool) (most : Int) (s : ByteArray) (rest : List Int) (e : Int) (w0 w : World)
    (hB : Below w0.heap.size w0 w) (hg0 : w0.heap.size ≤ g)
    (hg : w.heap[g]? = some (.cells #[.slice A bs.length c, .bool bad] 50 (0, 0)))
    (hr : Kd.C (Kd.int .u8) w A bs.length bs) (hc : bs.length ≤ c) (h : code_TakeText.f k bs most = some (s, rest, e)) (hs : s.size ≤ 140737488355328) :
    Calls Try.prog 32 #[.pointer (some ⟨g, 0, none⟩), .int .i64 most] w fun ex w' => ∃ (v0 : Value) (A' : Option Addr) (c' : Nat), ex = .returned v0 ∧ Kd.V (Kd.int .u8) 5 w' w.heap.size (fun k_ => w.heap.size ≤ k_) v0 (bytesOf s) ∧ w'.heap[g]? = some (.cells #[.slice A' rest.length c', .bool (bad || e != 0)] 50 (0, 0)) ∧ rest.length ≤ c' ∧ Kd.F (Kd.int .u8) w' (fun k_ => w.heap.size ≤ k_) A' rest.length rest ∧ Below w0.heap.size w0 w' ∧ KeepBut w w' g none := by
  have hu50 := Try.underlying50
  have hcell0 : w.cell? ⟨g, 0, none⟩ = some (.slice A bs.length c) := (blk_cell hg 0).trans rfl
  have hgl := blk_lt hg
  cases bad with
  | true =>
    go_enter Try.func32, Try.ntmps32
    go_wp2_with (first | ((with_reducible refine gate_callee (f := 49) rfl ?_); refine goesL_ (some 14) rfl rfl Try.func49 (by kernel_rfl) rfl #[.slice A bs.length c, .int .i64 most] rfl (by (try simp only [List.map_toArray, List.map_cons, List.map_nil]); first | done | rfl) ?_; (with_reducible refine (code_TakeText.calls k _ _ bs most s rest e _ ?side1 ?side2 h).mono ?_); (case side1 => repeat (first | exact hr | (with_reducible refine Kd.C_alloc ?_ _) | (with_reducible refine Kd.C_drewN ?_ _) | (with_reducible refine Kd.C_drew ?_))); (case side2 => exact hc); rintro ex w1 ⟨v1, rfl, ho, hb⟩; refine ⟨_, rfl, ?_⟩; obtain ⟨A1, c1, rfl, hl1⟩ := Kd.Q_slice ho; have BK := blk_below hg hb; have hf1 := Kd.F_mono (Kd.Q_F (Kd.Q_bound ho)) (fun _ hk => hk.2.1); clear ho; have hcz0 : w1.cell? ⟨g, 0, none⟩ = some (.slice A bs.length c) := (blk_cell BK 0).trans rfl; have hcz1 : w1.cell? ⟨g, 1, none⟩ = some (.bool true) := (blk_cell BK 1).trans rfl; have hfz0 := blk_frozen BK 0; have hfz1 := blk_frozen BK 1) | ((with_reducible refine gate_dst (N := 34) rfl ?_); have hz := rdr_sets (v := .slice A1 rest.length c1) (u := .bool true) hB hg0 hgl hb BK rfl hf1; refine Kd.V_bytes _ 5 ?hg (N := 34) ?hd s (ok := fun k_ => w.heap.size ≤ k_) hs ?hr ?hw (Below.refl _ _) (Nat.le_refl _) ?_; (case hd => rfl); (case hg => rfl); (case hr => show Sem.run Try.prog (do let v_ ← convert 9 24 (.string s); pure (Next.value v_)) _ = _; rw [Sem.run_bind, print_bytes 9 24 5 Try.underlying9 Try.underlying24 Try.underlying5]; rfl); (case hw => intro k_ h_; exact Nat.le_trans hz.2.2.2.1 h_); intro v2 w2 hv2 hb2 hgr2 hown2; clear hgr2 hown2))
    go_ret
    exact ⟨v2, A1, c1, rfl, hv2, blk_below (by simpa using hz.1) hb2, hl1, Kd.F_below hz.2.1 hb2, below_step hz.2.2.1 hb2, KeepBut.trans hz.2.2.2 (KeepBut.of_below hb2 g none) (.inl rfl)⟩
  | false =>
    by_cases he : e = 0
    · have he1 : (e == 0) = true := by simp [he]
      have he2 : (e != 0) = false := by simp [he]
      go_enter Try.func32, Try.ntmps32
      go_wp2_with (first | ((with_reducible refine gate_callee (f := 49) rfl ?_); refine goesL_ (some 14) rfl rfl Try.func49 (by kernel_rfl) rfl #[.slice A bs.length c, .int .i64 most] rfl (by (try simp only [List.map_toArray, List.map_cons, List.map_nil]); first | done | rfl) ?_; (with_reducible refine (code_TakeText.calls k _ _ bs most s rest e _ ?side1 ?side2 h).mono ?_); (case side1 => repeat (first | exact hr | (with_reducible refine Kd.C_alloc ?_ _) | (with_reducible refine Kd.C_drewN ?_ _) | (with_reducible refine Kd.C_drew ?_))); (case side2 => exact hc); rintro ex w1 ⟨v1, rfl, ho, hb⟩; refine ⟨_, rfl, ?_⟩; obtain ⟨A1, c1, rfl, hl1⟩ := Kd.Q_slice ho; have BK := blk_below hg hb; have hf1 := Kd.F_mono (Kd.Q_F (Kd.Q_bound ho)) (fun _ hk => hk.2.1); clear ho; have hcz0 : w1.cell? ⟨g, 0, none⟩ = some (.slice A bs.length c) := (blk_cell BK 0).trans rfl; have hcz1 : w1.cell? ⟨g, 1, none⟩ = some (.bool false) := (blk_cell BK 1).trans rfl; have hfz0 := blk_frozen BK 0; have hfz1 := blk_frozen BK 1) | ((with_reducible refine gate_dst (N := 34) rfl ?_); have hz := rdr_sets (v := .slice A1 rest.length c1) (u := .bool false) hB hg0 hgl hb BK rfl hf1; refine Kd.V_bytes _ 5 ?hg (N := 34) ?hd s (ok := fun k_ => w.heap.size ≤ k_) hs ?hr ?hw (Below.refl _ _) (Nat.le_refl _) ?_; (case hd => rfl); (case hg => rfl); (case hr => show Sem.run Try.prog (do let v_ ← convert 9 24 (.string s); pure (Next.value v_)) _ = _; rw [Sem.run_bind, print_bytes 9 24 5 Try.underlying9 Try.underlying24 Try.underlying5]; rfl); (case hw => intro k_ h_; exact Nat.le_trans hz.2.2.2.1 h_); intro v2 w2 hv2 hb2 hgr2 hown2; clear hgr2 hown2))
      go_ret
      exact ⟨v2, A1, c1, rfl, hv2, blk_below (by simpa [he] using hz.1) hb2, hl1, Kd.F_below hz.2.1 hb2, below_step hz.2.2.1 hb2, KeepBut.trans hz.2.2.2 (KeepBut.of_below hb2 g none) (.inl rfl)⟩
    · have he1 : (e == 0) = false := by simp [he]
      have he2 : (e != 0) = true := by simp [he]
      go_enter Try.func32, Try.ntmps32
      go_wp2_with (first | ((with_reducible refine gate_callee (f := 49) rfl ?_); refine goesL_ (some 14) rfl rfl Try.func49 (by kernel_rfl) rfl #[.slice A bs.length c, .int .i64 most] rfl (by (try simp only [List.map_toArray, List.map_cons, List.map_nil]); first | done | rfl) ?_; (with_reducible refine (code_TakeText.calls k _ _ bs most s rest e _ ?side1 ?side2 h).mono ?_); (case side1 => repeat (first | exact hr | (with_reducible refine Kd.C_alloc ?_ _) | (with_reducible refine Kd.C_drewN ?_ _) | (with_reducible refine Kd.C_drew ?_))); (case side2 => exact hc); rintro ex w1 ⟨v1, rfl, ho, hb⟩; refine ⟨_, rfl, ?_⟩; obtain ⟨A1, c1, rfl, hl1⟩ := Kd.Q_slice ho; have BK := blk_below hg hb; have hf1 := Kd.F_mono (Kd.Q_F (Kd.Q_bound ho)) (fun _ hk => hk.2.1); clear ho; have hcz0 : w1.cell? ⟨g, 0, none⟩ = some (.slice A bs.length c) := (blk_cell BK 0).trans rfl; have hcz1 : w1.cell? ⟨g, 1, none⟩ = some (.bool false) := (blk_cell BK 1).trans rfl; have hfz0 := blk_frozen BK 0; have hfz1 := blk_frozen BK 1) | ((with_reducible refine gate_dst (N := 34) rfl ?_); have hz := rdr_sets (v := .slice A1 rest.length c1) (u := .bool true) hB hg0 hgl hb BK rfl hf1; refine Kd.V_bytes _ 5 ?hg (N := 34) ?hd s (ok := fun k_ => w.heap.size ≤ k_) hs ?hr ?hw (Below.refl _ _) (Nat.le_refl _) ?_; (case hd => rfl); (case hg => rfl); (case hr => show Sem.run Try.prog (do let v_ ← convert 9 24 (.string s); pure (Next.value v_)) _ = _; rw [Sem.run_bind, print_bytes 9 24 5 Try.underlying9 Try.underlying24 Try.underlying5]; rfl); (case hw => intro k_ h_; exact Nat.le_trans hz.2.2.2.1 h_); intro v2 w2 hv2 hb2 hgr2 hown2; clear hgr2 hown2))
      go_ret
      exact ⟨v2, A1, c1, rfl, hv2, blk_below (by simpa [he2] using hz.1) hb2, hl1, Kd.F_below hz.2.1 hb2, below_step hz.2.2.1 hb2, KeepBut.trans hz.2.2.2 (KeepBut.of_below hb2 g none) (.inl rfl)⟩


set_option maxHeartbeats 2000000 in
set_option maxRecDepth 100000 in
theorem rdr_entry (k : Nat) (g : Nat) (A : Option Addr) (c : Nat) (bs : List Int) (bad : Bool) (A2 : Option Addr) (c2 : Nat) (last : List Int) (okl : Nat → Prop)
    (n : Int) (b1 : List Int) (e1 : Int) (cl : List Int) (s1 : ByteArray) (b2 : List Int) (e2 : Int) (q : Int) (b3 : List Int) (e3 : Int) (s2 : ByteArray) (b4 : List Int) (e4 : Int) (w0 w : World)
    (hB : Below w0.heap.size w0 w) (hg0 : w0.heap.size ≤ g)
    (hg : w.heap[g]? = some (.cells #[.slice A bs.length c, .bool bad] 50 (0, 0)))
    (hr : Kd.C (Kd.int .u8) w A bs.length bs) (hc : bs.length ≤ c)
    (hla : Kd.F (Kd.int .u8) w okl A2 last.length last) (hlg : ∀ k_, okl k_ → k_ ≠ g) (hc2 : last.length ≤ c2)
    (h1 : code_TakeNum.f k bs = some (n, b1, e1)) (hn0 : 0 ≤ n) (hn : n ≤ (last.length : Int)) (hcl : slices_Clone_byte_byte.f (last.take n.toNat) = some cl)
    (h2 : code_TakeText.f k b1 64 = some (s1, b2, e2)) (hs1 : s1.size ≤ 140737488355328) (hln : cl.length + (bytesOf s1).length < 140737488355328)
    (h3 : code_TakeNum.f k b2 = some (q, b3, e3)) (h4 : code_TakeText.f k b3 1024 = some (s2, b4, e4)) (hs2 : s2.size ≤ 140737488355328) :
    Calls Try.prog 33 #[.func (.func 31) #[.pointer (some ⟨g, 0, none⟩)] #[], .func (.func 32) #[.pointer (some ⟨g, 0, none⟩)] #[], .slice A2 last.length c2] w fun ex w' => ∃ (vk vv : Value) (A' : Option Addr) (c' : Nat), ex = .returned (.tuple #[.agg #[vk, .int .i64 (wrap64 (Int.tdiv q 2)), .bool (Int.tmod q 2 == 1), vv], .bool true]) ∧ Kd.V (Kd.int .u8) 5 w' w.heap.size (fun k_ => w.heap.size ≤ k_) vk (cl ++ bytesOf s1) ∧ Kd.V (Kd.int .u8) 5 w' w.heap.size (fun k_ => w.heap.size ≤ k_) vv (bytesOf s2) ∧ w'.heap[g]? = some (.cells #[.slice A' b4.length c', .bool ((((bad || e1 != 0) || e2 != 0) || e3 != 0) || e4 != 0)] 50 (0, 0)) ∧ b4.length ≤ c' ∧ Kd.F (Kd.int .u8) w' (fun k_ => w.heap.size ≤ k_) A' b4.length b4 ∧ Below w0.heap.size w0 w' ∧ KeepBut w w' g none := by
  have hu38 := Try.underlying38
  have hgt : decide ((last.length : Int) < n) = false := decide_eq_false (by omega)
  obtain ⟨i0, hi0, _, hsz0, _⟩ := info_parts info5
  have hcut := cut_to (P := Try.prog) 24 5 .i64 Try.underlying24 hi0 A2 last.length c2 n hn0 hn hc2
  obtain ⟨y0, hy0⟩ : ∃ y_ : List Int, y_ = last.take n.toNat := ⟨_, rfl⟩
  have hlt : y0.length = n.toNat := by rw [hy0, List.length_take]; omega
  rw [← hy0] at hcl
  rw [← hlt] at hcut
  have HLT := Aside0.mk hlt; have HY0 := Aside0.mk hy0; clear hy0; have HB0 := Aside0.mk hB; have HG := Aside0.mk hg; have HR := Aside0.mk hr; have HLA := Aside0.mk hla; clear hB hg hr hla hlt
  go_enter Try.func33, Try.ntmps33
  go_wp2_with (first
    | ((with_reducible refine gate_dst (N := 6) rfl ?_); refine box_event ?hg (N := 6) ?hd (cs := #[.slice none 0 0, .int .i64 0, .bool false, .slice none 0 0]) (t := 38) ?hr ?_; (case hd => rfl); (case hg => rfl); (case hr => first | (go_simp; done) | (go_simp; rfl)); intro g6 hqg6 w1 hxg6 hbg6; have n_ := Aside0.mk hqg6; clear hqg6; have hqg6 := n_; clear n_; have n_ := Aside0.mk hxg6; clear hxg6; have hxg6 := n_; clear n_; have n_ := Aside0.mk hbg6; clear hbg6; have hbg6 := n_; clear n_; have HGL := Aside0.mk (blk_lt HG.out); have hB1 := Aside0.mk (below_step HB0.out hbg6.out); have hgw1 := Aside0.mk (blk_below HG.out hbg6.out); have hr1 := Aside0.mk (Kd.C_below HR.out hbg6.out); have hla1 := Aside0.mk (Kd.F_below HLA.out hbg6.out); have Z6 := Aside0.mk (show g6 = w.heap.size ∧ w.heap.size ≤ w1.heap.size from ⟨hqg6.out, (hbg6.out).size⟩); have hne6 := Aside0.mk (show g6 ≠ g from (by have h1 := Z6.out; have h2 := HGL.out; omega)))
    | ((with_reducible refine gate_dst (N := 12) rfl ?_); refine goesV_ (some 12) rfl rfl Try.func31 (by kernel_rfl) rfl #[.pointer (some ⟨g, 0, none⟩)] #[] #[.pointer (some ⟨g, 0, none⟩)] rfl rfl (by (try simp only [List.map_toArray, List.map_cons, List.map_nil]); first | done | rfl) ?_; (with_reducible refine (rdr_num k g A c bs bad n b1 e1 w0 w1 hB1.out hg0 hgw1.out hr1.out hc h1).mono ?_); rintro ex w2 ⟨A3, c3, rfl, hgw2, hl3, hf3, hB2, hk2⟩; refine ⟨_, rfl, ?_⟩; have n_ := Aside0.mk hgw2; clear hgw2; have hgw2 := n_; clear n_; have n_ := Aside0.mk hl3; clear hl3; have hl3 := n_; clear n_; have n_ := Aside0.mk hf3; clear hf3; have hf3 := n_; clear n_; have n_ := Aside0.mk hB2; clear hB2; have hB2 := n_; clear n_; have n_ := Aside0.mk hk2; clear hk2; have hk2 := n_; clear n_; have hx6_2 := Aside0.mk (KeepBut.blk hk2.out hxg6.out hne6.out (by simp)); have hla2 := Aside0.mk (Kd.F_keep hla1.out hk2.out hlg))
    | ((with_reducible refine gate_callee (f := 39) rfl ?_); refine goesL_ (some 21) rfl rfl Try.func39 (by kernel_rfl) rfl #[.slice A2 y0.length c2] rfl (by (try simp only [List.map_toArray, List.map_cons, List.map_nil]); first | done | rfl) ?_; have hcc := slices_Clone_byte_byte.calls A2 c2 y0 cl w2 (by rw [HY0.out]; exact Kd.C_take (m := n.toNat) (Kd.F_now hla2.out) (by omega)) (by have := HLT.out; omega) hcl; refine hcc.mono ?_; clear hcc; rintro ex w3 ⟨vc, rfl, hoc, hb3⟩; refine ⟨_, rfl, ?_⟩; have n_ := Aside0.mk hoc; clear hoc; have hoc := n_; clear n_; have n_ := Aside0.mk hb3; clear hb3; have hb3 := n_; clear n_; have hB3 := Aside0.mk (below_step hB2.out hb3.out); have hgw3 := Aside0.mk (blk_below hgw2.out hb3.out); have hf3b := Aside0.mk (Kd.F_below hf3.out hb3.out); have hx6_3 := Aside0.mk (blk_below hx6_2.out hb3.out))
    | ((with_reducible refine gate_dst (N := 23) rfl ?_); refine goesV_ (some 23) rfl rfl Try.func32 (by kernel_rfl) rfl #[.pointer (some ⟨g, 0, none⟩)] #[] #[.pointer (some ⟨g, 0, none⟩), .int .i64 64] rfl rfl (by (try simp only [List.map_toArray, List.map_cons, List.map_nil]); first | done | rfl) ?_; (with_reducible refine (rdr_text k g A3 c3 b1 (bad || e1 != 0) 64 s1 b2 e2 w0 w3 hB3.out hg0 hgw3.out (Kd.F_now hf3b.out) hl3.out h2 hs1).mono ?_); rintro ex w4 ⟨vt, A4, c4, rfl, hvt, hgw4, hl4, hf4, hB4, hk4⟩; refine ⟨_, rfl, ?_⟩; obtain ⟨At, ct, rfl, hlct, hFt⟩ := hvt; have n_ := Aside0.mk hgw4; clear hgw4; have hgw4 := n_; clear n_; have n_ := Aside0.mk hl4; clear hl4; have hl4 := n_; clear n_; have n_ := Aside0.mk hf4; clear hf4; have hf4 := n_; clear n_; have n_ := Aside0.mk hB4; clear hB4; have hB4 := n_; clear n_; have n_ := Aside0.mk hk4; clear hk4; have hk4 := n_; clear n_; have n_ := Aside0.mk hlct; clear hlct; have hlct := n_; clear n_; have n_ := Aside0.mk hFt; clear hFt; have hFt := n_; clear n_; have hx6_4 := Aside0.mk (KeepBut.blk hk4.out hx6_3.out hne6.out (by simp)); have Z4 := Aside0.mk (show w.heap.size ≤ w1.heap.size ∧ w1.heap.size ≤ w2.heap.size ∧ w2.heap.size ≤ w3.heap.size ∧ w3.heap.size ≤ w4.heap.size ∧ w0.heap.size ≤ w2.heap.size from ⟨(hbg6.out).size, (hk2.out).1, (hb3.out).size, (hk4.out).1, (hB2.out).size⟩); have hoc4 := Aside0.mk (Kd.R_keep (Kd.R_mono (ok' := fun k_ => w2.heap.size ≤ k_) (Kd.R_bound hoc.out) (fun _ hk => hk.2.1)) hk4.out (fun k_ hk => by have h1 := Z4.out; have h2 := HGL.out; omega)))
    | ((with_reducible refine gate_builtin (b := .append) (xs := #[.tmp 21, .tmp 23]) rfl ?_); at_builtin; have hltc := Kd.R_lt hoc.out; refine Kd.R_append_rows (Kd.int .u8) (w0 := w0) w0.heap.size rfl (.tmp 21) (.tmp 23) 24 5 (.int .u8 0) 1 rfl Try.underlying24 info5 rfl (by decide) (by omega) vc cl (bytesOf s1) _ _ _ (fun k_ => w2.heap.size ≤ k_) (fun _ => False) rfl rfl ?aO ?aR (fun _ _ h => h) (fun _ h => h.elim) ?aF ?aB ?aS ?aL ?_; (case aR => exact Kd.F_now hFt.out); (case aB => exact hB4.out); (case aF => intro k_ hk_; have h1 := Z4.out; omega); (case aO => exact Kd.R_lower hoc4.out (by have h1 := Z4.out; omega)); (case aS => exact (hB4.out).size); (case aL => have h1 := hln; omega); intro v5 w5 ho5 hB5 hgr5 hat5; obtain ⟨y1, hy1⟩ : ∃ y_ : List Int, y_ = cl ++ bytesOf s1 := ⟨_, rfl⟩; rw [← hy1] at ho5; have Ny1 := Aside0.mk hy1; clear hy1; obtain ⟨Ak, ck, rfl⟩ := Kd.R_slice ho5; have n_ := Aside0.mk hltc; clear hltc; have hltc := n_; clear n_; have n_ := Aside0.mk ho5; clear ho5; have ho5 := n_; clear n_; have n_ := Aside0.mk hB5; clear hB5; have hB5 := n_; clear n_; have n_ := Aside0.mk hgr5; clear hgr5; have hgr5 := n_; clear n_ hat5; have hgw5 := Aside0.mk (blk_grown hgw4.out hgr5.out (Kd.R_away hoc4.out (fun k_ hk => by have h1 := Z4.out; have h2 := HGL.out; omega))); have hx6_5 := Aside0.mk (blk_grown hx6_4.out hgr5.out (Kd.R_away hoc4.out (fun k_ hk => by have h1 := Z4.out; have h2 := blk_lt hxg6.out; omega))); have hf5 := Aside0.mk (Kd.F_bound (Kd.F_grown hf4.out hgr5.out (fun k_ hk he => by have h1 := hltc.out k_ he.symm; have h2 := Z4.out; omega))); have hK5 := Aside0.mk (((((KeepBut.of_below hbg6.out g none).trans hk2.out (.inl rfl)).trans (KeepBut.of_below hb3.out g none) (.inl rfl)).trans hk4.out (.inl rfl)).trans (KeepBut.of_grown hgr5.out g) (Kd.R_base2 (Kd.R_mono (ok' := fun _ => True) (Kd.R_lower (base' := w.heap.size) hoc4.out (by have h1 := Z4.out; omega)) (fun _ _ => trivial)))); have Z5 := Aside0.mk (show w4.heap.size ≤ w5.heap.size ∧ w0.heap.size ≤ w5.heap.size from ⟨(hgr5.out).size, (hB5.out).size⟩); have hlk := Aside0.mk ((Kd.R_reads' ho5.out).2.1); have hFk5 := Aside0.mk (Kd.F_bound (Kd.R_F ho5.out)))
    | ((with_reducible refine gate_dst (N := 9) rfl ?_); refine box_event ?hg (N := 9) ?hd (cs := #[.slice none 0 0, .int .i64 0, .bool false, .slice none 0 0]) (t := 38) ?hr ?_; (case hd => rfl); (case hg => rfl); (case hr => first | (go_simp; done) | (go_simp; rfl)); intro g9 hqg9 w6 hxg9 hbg9; have n_ := Aside0.mk hqg9; clear hqg9; have hqg9 := n_; clear n_; have n_ := Aside0.mk hxg9; clear hxg9; have hxg9 := n_; clear n_; have n_ := Aside0.mk hbg9; clear hbg9; have hbg9 := n_; clear n_; have hB6 := Aside0.mk (below_step hB5.out hbg9.out); have hgw6 := Aside0.mk (blk_below hgw5.out hbg9.out); have hx6_6 := Aside0.mk (blk_below hx6_5.out hbg9.out); have hf6 := Aside0.mk (Kd.F_below hf5.out hbg9.out); have hFk6 := Aside0.mk (Kd.F_below hFk5.out hbg9.out); have hK6 := Aside0.mk ((hK5.out).trans (KeepBut.of_below hbg9.out g none) (.inl rfl)); have Z9 := Aside0.mk (show g9 = w5.heap.size ∧ g < w5.heap.size ∧ g6 < w5.heap.size ∧ w0.heap.size ≤ w5.heap.size ∧ w.heap.size ≤ w5.heap.size from ⟨hqg9.out, blk_lt hgw5.out, blk_lt hx6_5.out, (hB5.out).size, (hK5.out).1⟩); have hg9g := Aside0.mk (show g9 ≠ g from (by have h1 := Z9.out; omega)); have hg9g6 : g9 ≠ g6 := (by have h1 := Z9.out; omega); have hg6g9 : g6 ≠ g9 := (by have h1 := Z9.out; omega); have hg90 := Aside0.mk (show w0.heap.size ≤ g9 from (by have h1 := Z9.out; omega)); have hg9w := Aside0.mk (show w.heap.size ≤ g9 from (by have h1 := Z9.out; omega)); have hks := Aside0.mk (show KeepBut w6 ((((w6.setCell ⟨g9, 0, none⟩ (.slice Ak y1.length ck)).setCell ⟨g9, 1, none⟩ (.int .i64 0)).setCell ⟨g9, 2, none⟩ (.bool false)).setCell ⟨g9, 3, none⟩ (.slice none 0 0)) g9 none from keep4 _ _ _ _ _ _); have hBs := Aside0.mk (show Below w0.heap.size w0 ((((w6.setCell ⟨g9, 0, none⟩ (.slice Ak y1.length ck)).setCell ⟨g9, 1, none⟩ (.int .i64 0)).setCell ⟨g9, 2, none⟩ (.bool false)).setCell ⟨g9, 3, none⟩ (.slice none 0 0)) from below4 hB6.out hg90.out _ _ _ _); have hx9s := Aside0.mk (show ((((w6.setCell ⟨g9, 0, none⟩ (.slice Ak y1.length ck)).setCell ⟨g9, 1, none⟩ (.int .i64 0)).setCell ⟨g9, 2, none⟩ (.bool false)).setCell ⟨g9, 3, none⟩ (.slice none 0 0)).heap[g9]? = some (.cells #[.slice Ak y1.length ck, .int .i64 0, .bool false, .slice none 0 0] 38 (0, 0)) from sets4 hxg9.out); have hKs := Aside0.mk (KeepBut.trans hK6.out (keep_as_row hks.out g) (.inr ⟨g9, rfl, hg9w.out⟩)); have hgws := Aside0.mk (KeepBut.blk hks.out hgw6.out (Ne.symm hg9g.out) (by simp)); have hfs := Aside0.mk (Kd.F_keep hf6.out hks.out (fun k_ hk => by have h1 := Z9.out; have h2 := hk.2; omega)); have hFks := Aside0.mk (Kd.F_keep hFk6.out hks.out (fun k_ hk => by have h1 := Z9.out; have h2 := hk.2; omega)); have hx6_s := Aside0.mk (KeepBut.blk hks.out hx6_6.out hg6g9 (by simp)); have hcz0 : w6.cell? ⟨g9, 0, none⟩ = some (.slice none 0 0) := (blk_cell hxg9.out 0).trans rfl; have hcz1 : w6.cell? ⟨g9, 1, none⟩ = some (.int .i64 0) := (blk_cell hxg9.out 1).trans rfl; have hcz2 : w6.cell? ⟨g9, 2, none⟩ = some (.bool false) := (blk_cell hxg9.out 2).trans rfl; have hcz3 : w6.cell? ⟨g9, 3, none⟩ = some (.slice none 0 0) := (blk_cell hxg9.out 3).trans rfl; have hfz0 := blk_frozen hxg9.out 0; have hfz1 := blk_frozen hxg9.out 1; have hfz2 := blk_frozen hxg9.out 2; have hfz3 := blk_frozen hxg9.out 3)
    | ((with_reducible refine gate_dst (N := 27) rfl ?_); refine goesV_ (some 27) rfl rfl Try.func31 (by kernel_rfl) rfl #[.pointer (some ⟨g, 0, none⟩)] #[] #[.pointer (some ⟨g, 0, none⟩)] rfl rfl (by (try simp only [List.map_toArray, List.map_cons, List.map_nil]); first | done | rfl) ?_; (with_reducible refine (rdr_num k g A4 c4 b2 ((bad || e1 != 0) || e2 != 0) q b3 e3 w0 _ hBs.out hg0 hgws.out (Kd.F_now hfs.out) hl4.out h3).mono ?_); rintro ex w7 ⟨A7, c7, rfl, hgw7, hl7, hf7, hB7, hk7⟩; refine ⟨_, rfl, ?_⟩; have n_ := Aside0.mk hgw7; clear hgw7; have hgw7 := n_; clear n_; have n_ := Aside0.mk hl7; clear hl7; have hl7 := n_; clear n_; have n_ := Aside0.mk hf7; clear hf7; have hf7 := n_; clear n_; have n_ := Aside0.mk hB7; clear hB7; have hB7 := n_; clear n_; have n_ := Aside0.mk hk7; clear hk7; have hk7 := n_; clear n_; have hx9_7 := Aside0.mk (KeepBut.blk hk7.out hx9s.out hg9g.out (by simp)); have hx6_7 := Aside0.mk (KeepBut.blk hk7.out hx6_s.out hne6.out (by simp)); have hFk7 := Aside0.mk (Kd.F_keep hFks.out hk7.out (fun k_ hk => by have h1 := hk.1; have h2 := Z4.out; have h3 := HGL.out; omega)); have hK7 := Aside0.mk ((hKs.out).trans hk7.out (.inl rfl)); have hcy1 : w7.cell? ⟨g9, 1, none⟩ = some (.int .i64 0) := (blk_cell hx9_7.out 1).trans rfl; have hcy2 : w7.cell? ⟨g9, 2, none⟩ = some (.bool false) := (blk_cell hx9_7.out 2).trans rfl; have hfy1 := blk_frozen hx9_7.out 1; have hfy2 := blk_frozen hx9_7.out 2; have hkt := Aside0.mk (show KeepBut w7 ((w7.setCell ⟨g9, 1, none⟩ (.int .i64 (wrap64 (Int.tdiv q 2)))).setCell ⟨g9, 2, none⟩ (.bool (Int.tmod q 2 == 1))) g9 none from keep12 _ _ _ _); have hBt := Aside0.mk (show Below w0.heap.size w0 ((w7.setCell ⟨g9, 1, none⟩ (.int .i64 (wrap64 (Int.tdiv q 2)))).setCell ⟨g9, 2, none⟩ (.bool (Int.tmod q 2 == 1))) from below_set (below_set hB7.out hg90.out) hg90.out); have hx9t := Aside0.mk (show ((w7.setCell ⟨g9, 1, none⟩ (.int .i64 (wrap64 (Int.tdiv q 2)))).setCell ⟨g9, 2, none⟩ (.bool (Int.tmod q 2 == 1))).heap[g9]? = some (.cells #[.slice Ak y1.length ck, .int .i64 (wrap64 (Int.tdiv q 2)), .bool (Int.tmod q 2 == 1), .slice none 0 0] 38 (0, 0)) from sets12 hx9_7.out); have hgwt := Aside0.mk (KeepBut.blk hkt.out hgw7.out (Ne.symm hg9g.out) (by simp)); have hx6_t := Aside0.mk (KeepBut.blk hkt.out hx6_7.out hg6g9 (by simp)); have hft := Aside0.mk (Kd.F_keep hf7.out hkt.out (fun k_ hk => by have h1 := blk_lt hx9s.out; omega)); have hFkt := Aside0.mk (Kd.F_keep hFk7.out hkt.out (fun k_ hk => by have h1 := Z9.out; have h2 := hk.2; omega)); have hKt := Aside0.mk (KeepBut.trans hK7.out (keep_as_row hkt.out g) (.inr ⟨g9, rfl, hg9w.out⟩)))
    | ((with_reducible refine gate_dst (N := 36) rfl ?_); refine goesV_ (some 36) rfl rfl Try.func32 (by kernel_rfl) rfl #[.pointer (some ⟨g, 0, none⟩)] #[] #[.pointer (some ⟨g, 0, none⟩), .int .i64 1024] rfl rfl (by (try simp only [List.map_toArray, List.map_cons, List.map_nil]); first | done | rfl) ?_; (with_reducible refine (rdr_text k g A7 c7 b3 (((bad || e1 != 0) || e2 != 0) || e3 != 0) 1024 s2 b4 e4 w0 _ hBt.out hg0 hgwt.out (Kd.F_now hft.out) hl7.out h4 hs2).mono ?_); rintro ex w8 ⟨vv, A8, c8, rfl, hvv, hgw8, hl8, hf8, hB8, hk8⟩; refine ⟨_, rfl, ?_⟩; obtain ⟨Av, cv, rfl, hlv, hFv⟩ := hvv; have n_ := Aside0.mk hgw8; clear hgw8; have hgw8 := n_; clear n_; have n_ := Aside0.mk hl8; clear hl8; have hl8 := n_; clear n_; have n_ := Aside0.mk hf8; clear hf8; have hf8 := n_; clear n_; have n_ := Aside0.mk hB8; clear hB8; have hB8 := n_; clear n_; have n_ := Aside0.mk hk8; clear hk8; have hk8 := n_; clear n_; have n_ := Aside0.mk hlv; clear hlv; have hlv := n_; clear n_; have n_ := Aside0.mk hFv; clear hFv; have hFv := n_; clear n_; have hx9_8 := Aside0.mk (KeepBut.blk hk8.out hx9t.out hg9g.out (by simp)); have hx6_8 := Aside0.mk (KeepBut.blk hk8.out hx6_t.out hne6.out (by simp)); have hFk8 := Aside0.mk (Kd.F_keep hFkt.out hk8.out (fun k_ hk => by have h1 := hk.1; have h2 := Z4.out; have h3 := HGL.out; omega)); have hK8 := Aside0.mk ((hKt.out).trans hk8.out (.inl rfl)); have Z8 := Aside0.mk (show g9 < ((w7.setCell ⟨g9, 1, none⟩ (.int .i64 (wrap64 (Int.tdiv q 2)))).setCell ⟨g9, 2, none⟩ (.bool (Int.tmod q 2 == 1))).heap.size ∧ g6 < ((w7.setCell ⟨g9, 1, none⟩ (.int .i64 (wrap64 (Int.tdiv q 2)))).setCell ⟨g9, 2, none⟩ (.bool (Int.tmod q 2 == 1))).heap.size ∧ g < ((w7.setCell ⟨g9, 1, none⟩ (.int .i64 (wrap64 (Int.tdiv q 2)))).setCell ⟨g9, 2, none⟩ (.bool (Int.tmod q 2 == 1))).heap.size ∧ g6 < w1.heap.size ∧ w.heap.size ≤ w8.heap.size from ⟨blk_lt hx9t.out, blk_lt hx6_t.out, blk_lt hgwt.out, blk_lt hxg6.out, (hK8.out).1⟩); have hcu0 : w8.cell? ⟨g9, 0, none⟩ = some (.slice Ak y1.length ck) := (blk_cell hx9_8.out 0).trans rfl; have hcu1 : w8.cell? ⟨g9, 1, none⟩ = some (.int .i64 (wrap64 (Int.tdiv q 2))) := (blk_cell hx9_8.out 1).trans rfl; have hcu2 : w8.cell? ⟨g9, 2, none⟩ = some (.bool (Int.tmod q 2 == 1)) := (blk_cell hx9_8.out 2).trans rfl; have hcu3 : w8.cell? ⟨g9, 3, none⟩ = some (.slice none 0 0) := (blk_cell hx9_8.out 3).trans rfl; have hfu0 := blk_frozen hx9_8.out 0; have hfu1 := blk_frozen hx9_8.out 1; have hfu2 := blk_frozen hx9_8.out 2; have hfu3 := blk_frozen hx9_8.out 3; have hcv0 : w8.cell? ⟨g6, 0, none⟩ = some (.slice none 0 0) := (blk_cell hx6_8.out 0).trans rfl; have hcv1 : w8.cell? ⟨g6, 1, none⟩ = some (.int .i64 0) := (blk_cell hx6_8.out 1).trans rfl; have hcv2 : w8.cell? ⟨g6, 2, none⟩ = some (.bool false) := (blk_cell hx6_8.out 2).trans rfl; have hcv3 : w8.cell? ⟨g6, 3, none⟩ = some (.slice none 0 0) := (blk_cell hx6_8.out 3).trans rfl; have hfv0 := blk_frozen hx6_8.out 0; have hfv1 := blk_frozen hx6_8.out 1; have hfv2 := blk_frozen hx6_8.out 2; have hfv3 := blk_frozen hx6_8.out 3))
  have hk9 := Aside0.mk (show KeepBut w8 (w8.setCell ⟨g9, 3, none⟩ (.slice Av (bytesOf s2).length cv)) g9 none from KeepBut.set_ (KeepBut.refl w8 g9 none) 3 _)
  have hk10 := Aside0.mk (show KeepBut (w8.setCell ⟨g9, 3, none⟩ (.slice Av (bytesOf s2).length cv)) (((((w8.setCell ⟨g9, 3, none⟩ (.slice Av (bytesOf s2).length cv)).setCell ⟨g6, 0, none⟩ (.slice Ak y1.length ck)).setCell ⟨g6, 1, none⟩ (.int .i64 (wrap64 (Int.tdiv q 2)))).setCell ⟨g6, 2, none⟩ (.bool (Int.tmod q 2 == 1))).setCell ⟨g6, 3, none⟩ (.slice Av (bytesOf s2).length cv)) g6 none from keep4 _ _ _ _ _ _)
  have hx6_9 := Aside0.mk (show (((((w8.setCell ⟨g9, 3, none⟩ (.slice Av (bytesOf s2).length cv)).setCell ⟨g6, 0, none⟩ (.slice Ak y1.length ck)).setCell ⟨g6, 1, none⟩ (.int .i64 (wrap64 (Int.tdiv q 2)))).setCell ⟨g6, 2, none⟩ (.bool (Int.tmod q 2 == 1))).setCell ⟨g6, 3, none⟩ (.slice Av (bytesOf s2).length cv)).heap[g6]? = some (.cells #[.slice Ak y1.length ck, .int .i64 (wrap64 (Int.tdiv q 2)), .bool (Int.tmod q 2 == 1), .slice Av (bytesOf s2).length cv] 38 (0, 0)) from sets4 (KeepBut.blk hk9.out hx6_8.out hg6g9 (by simp)))
  refine bodyPost_ret (results_ct rfl _ _ g6 38 #[.slice Ak y1.length ck, .int .i64 (wrap64 (Int.tdiv q 2)), .bool (Int.tmod q 2 == 1), .slice Av (bytesOf s2).length cv] (0, 0) _ rfl hx6_9.out Try.underlying38 rfl (by kernel_rfl)) rfl ?_
  refine ⟨.slice Ak y1.length ck, .slice Av (bytesOf s2).length cv, A8, c8, rfl, ?_, ?_, ?_, hl8.out, ?_, ?_, ?_⟩
  · rw [← Ny1.out]; exact Kd.V_mk hlk.out (Kd.F_mono (Kd.F_keep (Kd.F_keep hFk8.out hk9.out (fun k_ hk => by have h1 := Z9.out; have h2 := hk.2; omega)) hk10.out (fun k_ hk => by have h1 := Z8.out; have h2 := hk.1; have h3 := Z4.out; omega)) (fun k_ hk => by have h2 := hk.1; have h3 := Z4.out; omega))
  · exact Kd.V_mk hlv.out (Kd.F_mono (Kd.F_keep (Kd.F_keep hFv.out hk9.out (fun k_ hk => by have h1 := Z8.out; omega)) hk10.out (fun k_ hk => by have h1 := Z8.out; omega)) (fun k_ hk => by have h1 := Z8.out; have h3 := (hKt.out).1; omega))
  · exact KeepBut.blk hk10.out (KeepBut.blk hk9.out hgw8.out (Ne.symm hg9g.out) (by simp)) (Ne.symm hne6.out) (by simp)
  · exact Kd.F_mono (Kd.F_keep (Kd.F_keep hf8.out hk9.out (fun k_ hk => by have h1 := Z8.out; omega)) hk10.out (fun k_ hk => by have h1 := Z8.out; omega)) (fun k_ hk => by have h1 := Z8.out; have h3 := (hKt.out).1; omega)
  · exact below4 (below_set hB8.out hg90.out) (by have h1 := Z6.out; have h2 := (HB0.out).size; omega) _ _ _ _
  · exact KeepBut.trans (KeepBut.trans hK8.out (keep_as_row hk9.out g) (.inr ⟨g9, rfl, hg9w.out⟩)) (keep_as_row hk10.out g) (.inr ⟨g6, rfl, (by have h1 := Z6.out; omega)⟩)

set_option maxHeartbeats 4000000 in
set_option maxRecDepth 100000 in
theorem rdr_entry_no (k : Nat) (g : Nat) (A : Option Addr) (c : Nat) (bs : List Int) (bad : Bool) (A2 : Option Addr) (c2 : Nat) (last : List Int) (n : Int) (b1 : List Int) (e1 : Int) (w0 w : World)
    (hB : Below w0.heap.size w0 w) (hg0 : w0.heap.size ≤ g)
    (hg : w.heap[g]? = some (.cells #[.slice A bs.length c, .bool bad] 50 (0, 0)))
    (hr : Kd.C (Kd.int .u8) w A bs.length bs) (hc : bs.length ≤ c)
    (h1 : code_TakeNum.f k bs = some (n, b1, e1)) (hn : ¬ n ≤ (last.length : Int)) :
    Calls Try.prog 33 #[.func (.func 31) #[.pointer (some ⟨g, 0, none⟩)] #[], .func (.func 32) #[.pointer (some ⟨g, 0, none⟩)] #[], .slice A2 last.length c2] w fun ex w' => ex = .returned (.tuple #[.agg #[.slice none 0 0, .int .i64 0, .bool false, .slice none 0 0], .bool false]) ∧ Below w0.heap.size w0 w' := by
  have hu38 := Try.underlying38
  have hgt : decide ((last.length : Int) < n) = true := decide_eq_true (by omega)
  have HB0 := Aside0.mk hB; have HG := Aside0.mk hg; have HR := Aside0.mk hr; clear hB hg hr
  go_enter Try.func33, Try.ntmps33
  go_wp2_with (first
    | ((with_reducible refine gate_dst (N := 6) rfl ?_); refine box_event ?hg (N := 6) ?hd (cs := #[.slice none 0 0, .int .i64 0, .bool false, .slice none 0 0]) (t := 38) ?hr ?_; (case hd => rfl); (case hg => rfl); (case hr => first | (go_simp; done) | (go_simp; rfl)); intro g6 hqg6 w1 hxg6 hbg6; have n_ := Aside0.mk hqg6; clear hqg6; have hqg6 := n_; clear n_; have n_ := Aside0.mk hxg6; clear hxg6; have hxg6 := n_; clear n_; have n_ := Aside0.mk hbg6; clear hbg6; have hbg6 := n_; clear n_; have HGL := Aside0.mk (blk_lt HG.out); have hB1 := Aside0.mk (below_step HB0.out hbg6.out); have hgw1 := Aside0.mk (blk_below HG.out hbg6.out); have hr1 := Aside0.mk (Kd.C_below HR.out hbg6.out); have Z6 := Aside0.mk (show g6 = w.heap.size ∧ w.heap.size ≤ w1.heap.size from ⟨hqg6.out, (hbg6.out).size⟩); have hne6 := Aside0.mk (show g6 ≠ g from (by have h1 := Z6.out; have h2 := HGL.out; omega)))
    | ((with_reducible refine gate_dst (N := 12) rfl ?_); refine goesV_ (some 12) rfl rfl Try.func31 (by kernel_rfl) rfl #[.pointer (some ⟨g, 0, none⟩)] #[] #[.pointer (some ⟨g, 0, none⟩)] rfl rfl (by (try simp only [List.map_toArray, List.map_cons, List.map_nil]); first | done | rfl) ?_; (with_reducible refine (rdr_num k g A c bs bad n b1 e1 w0 w1 hB1.out hg0 hgw1.out hr1.out hc h1).mono ?_); rintro ex w2 ⟨A3, c3, rfl, hgw2, hl3, hf3, hB2, hk2⟩; refine ⟨_, rfl, ?_⟩; have n_ := Aside0.mk hgw2; clear hgw2; have hgw2 := n_; clear n_; have n_ := Aside0.mk hl3; clear hl3; have hl3 := n_; clear n_; have n_ := Aside0.mk hf3; clear hf3; have hf3 := n_; clear n_; have n_ := Aside0.mk hB2; clear hB2; have hB2 := n_; clear n_; have n_ := Aside0.mk hk2; clear hk2; have hk2 := n_; clear n_; have hx6_2 := Aside0.mk (KeepBut.blk hk2.out hxg6.out hne6.out (by simp)); have hcv0 : w2.cell? ⟨g6, 0, none⟩ = some (.slice none 0 0) := (blk_cell hx6_2.out 0).trans rfl; have hcv1 : w2.cell? ⟨g6, 1, none⟩ = some (.int .i64 0) := (blk_cell hx6_2.out 1).trans rfl; have hcv2 : w2.cell? ⟨g6, 2, none⟩ = some (.bool false) := (blk_cell hx6_2.out 2).trans rfl; have hcv3 : w2.cell? ⟨g6, 3, none⟩ = some (.slice none 0 0) := (blk_cell hx6_2.out 3).trans rfl; have hfv0 := blk_frozen hx6_2.out 0; have hfv1 := blk_frozen hx6_2.out 1; have hfv2 := blk_frozen hx6_2.out 2; have hfv3 := blk_frozen hx6_2.out 3))
  refine bodyPost_ret (results_ct rfl _ _ g6 38 #[.slice none 0 0, .int .i64 0, .bool false, .slice none 0 0] (0, 0) _ rfl (sets4 hx6_2.out) Try.underlying38 rfl (by kernel_rfl)) rfl ?_
  exact ⟨rfl, below4 hB2.out (by have h1 := Z6.out; have h2 := HB0.out.size; omega) _ _ _ _⟩


def block_entry.f (k : Nat) (bs last : List Int) : Option (Bool × List Int × Int × Bool × List Int × List Int × Bool) :=
  (code_TakeNum.f k bs).bind fun t1 => if t1.1 ≤ (last.length : Int) then
    (if 0 ≤ t1.1 then (slices_Clone_byte_byte.f (last.take t1.1.toNat)).bind fun cl => (code_TakeText.f k t1.2.1 64).bind fun t2 =>
      (if t2.1.size ≤ 140737488355328 ∧ cl.length + (bytesOf t2.1).length < 140737488355328 then (code_TakeNum.f k t2.2.1).bind fun t3 => (code_TakeText.f k t3.2.1 1024).bind fun t4 =>
        (if t4.1.size ≤ 140737488355328 then some (true, cl ++ bytesOf t2.1, wrap64 (Int.tdiv t3.1 2), (Int.tmod t3.1 2 == 1), bytesOf t4.1, t4.2.1, (((t1.2.2 != 0) || t2.2.2 != 0) || t3.2.2 != 0) || t4.2.2 != 0) else none) else none) else none)
    else some (false, [], 0, false, [], [], false)
def block_Parse.fin (k : Nat) (out : List S38) (bs : List Int) (bad : Bool) (l : List Int) : Option (List S38 × Int) :=
  (block_Build.f k out).bind fun t => if bad = false then (if t.2 = 0 then (if bs.length = 4 then (bytes_Equal.f t.1 l).bind fun e => (if e = true then some (out, 0) else some ([], 2)) else some ([], 2)) else some ([], 2)) else some ([], 2)
def block_Parse.l0 : Nat → List S38 → List Int → Int → List Int → Bool → List Int → Option (List S38 × Int)
  | 0, _, _, _, _, _, _ => none
  | k + 1, out, last, n, bs, bad, l =>
    if 0 < n then (if n ≤ 8 then (if (out.length : Int) < n then (if bad = false then
      (block_entry.f k bs last).bind fun t => if t.1 = true then block_Parse.l0 k (out ++ [(⟨t.2.1, t.2.2.1, t.2.2.2.1, t.2.2.2.2.1⟩ : S38)]) t.2.1 n t.2.2.2.2.2.1 (bad || t.2.2.2.2.2.2) l else some ([], 2)
      else block_Parse.fin k out bs bad l) else block_Parse.fin k out bs bad l) else block_Parse.fin k out bs bad l) else block_Parse.fin k out bs bad l
def block_Parse.f (k : Nat) (l0 : List Int) : Option (List S38 × Int) := (code_TakeNum.f k l0).bind fun t => block_Parse.l0 k [] [] t.1 t.2.1 (t.2.2 != 0) l0
theorem block_entry.mono : ∀ a0 a1 k, LeO (block_entry.f k a0 a1) (block_entry.f (k + 1) a0 a1) := by
  intro a0 a1 k
  unfold block_entry.f
  repeat' first
      | (with_reducible exact code_TakeNum.mono _ _)
      | (with_reducible exact code_TakeText.mono _ _ _)
      | (with_reducible exact LeO.refl _)
      | (with_reducible exact LeO.none _)
      | (with_reducible refine LeO.ite ?_ ?_)
      | (with_reducible refine LeO.bind ?_ (fun _ => ?_))
theorem block_Parse.monoFin (out : List S38) (bs : List Int) (bad : Bool) (l : List Int) (k : Nat) : LeO (block_Parse.fin k out bs bad l) (block_Parse.fin (k + 1) out bs bad l) := by
  unfold block_Parse.fin
  repeat' first
      | (with_reducible exact block_Build.mono _ _)
      | (with_reducible exact LeO.refl _)
      | (with_reducible refine LeO.ite ?_ ?_)
      | (with_reducible refine LeO.bind ?_ (fun _ => ?_))
theorem block_Parse.mono_l : ∀ k, (∀ y0 y1 y2 y3 y4 y5, LeO (block_Parse.l0 k y0 y1 y2 y3 y4 y5) (block_Parse.l0 (k + 1) y0 y1 y2 y3 y4 y5))
  | 0 => fun _ _ _ _ _ _ r h => by simp [block_Parse.l0] at h
  | k + 1 => by
    have ih0 := block_Parse.mono_l k
    intro y0 y1 y2 y3 y4 y5
    unfold block_Parse.l0
    repeat' first
      | (with_reducible exact ih0 _ _ _ _ _ _)
      | (with_reducible exact block_Parse.monoFin _ _ _ _ _)
      | (with_reducible exact block_entry.mono _ _ _)
      | (with_reducible exact LeO.refl _)
      | (with_reducible refine LeO.ite ?_ ?_)
      | (with_reducible refine LeO.bind ?_ (fun _ => ?_))
theorem block_Parse.mono : ∀ a0 k, LeO (block_Parse.f k a0) (block_Parse.f (k + 1) a0) := by
  intro a0 k
  have ih0 := block_Parse.mono_l k
  unfold block_Parse.f
  repeat' first
      | (with_reducible exact ih0 _ _ _ _ _ _)
      | (with_reducible exact code_TakeNum.mono _ _)
      | (with_reducible refine LeO.bind ?_ (fun _ => ?_))

set_option maxHeartbeats 8000000 in
set_option maxRecDepth 100000 in
theorem block_Parse.calls (k : Nat) (A0 : Option Addr) (c0 : Nat) (l0 : List Int) (r1 : List S38) (r2 : Int) (w : World) (hr0 : Kd.C (Kd.int .u8) w A0 l0.length l0) (hc0 : l0.length ≤ c0) (h : block_Parse.f k l0 = some (r1, r2)) :
    Calls Try.prog 14 #[.slice A0 l0.length c0] w fun e w' => ∃ v0_ : Value, e = .returned (.tuple #[v0_, .int .i64 r2]) ∧ Kd.V k38 38 w' w.heap.size (fun k_ => (w.heap.size ≤ k_)) v0_ r1 ∧ Below w.heap.size w w' := by
  have hu50 := Try.underlying50
  have hu38 := Try.underlying38
  unfold block_Parse.f at h
  replace h := Option.bind_eq_some_iff.mp h
  obtain ⟨⟨n, b1, e1⟩, h1, H0⟩ := h
  have H := Aside0.mk H0
  clear H0; have HR0 := Aside0.mk hr0; have HC0 := Aside0.mk hc0; clear hr0 hc0
  have HB := Aside0.mk (Below.refl w.heap.size w)
  go_enter Try.func14, Try.ntmps14
  go_wp2_with (first
    | ((with_reducible refine gate_dst (N := 16) rfl ?_); refine box_event ?hg (N := 16) ?hd (cs := #[.slice A0 l0.length c0, .bool false]) (t := 50) ?hr ?_; (case hd => rfl); (case hg => rfl); (case hr => first | (go_simp; done) | (go_simp; rfl)); intro g hqg w1 hxg hbg; have n_ := Aside0.mk hqg; clear hqg; have hqg := n_; clear n_; have n_ := Aside0.mk hxg; clear hxg; have hxg := n_; clear n_; have n_ := Aside0.mk hbg; clear hbg; have hbg := n_; clear n_; have hr1 := Aside0.mk (Kd.C_below HR0.out hbg.out); have ZG := Aside0.mk (show g = w.heap.size ∧ g < w1.heap.size from ⟨hqg.out, blk_lt hxg.out⟩); have hg0 := Aside0.mk (show w.heap.size ≤ g from (by have h1 := ZG.out; omega)))
    | ((with_reducible refine gate_dst (N := 22) rfl ?_); refine goesV_ (some 22) rfl rfl Try.func31 (by kernel_rfl) rfl #[.pointer (some ⟨g, 0, none⟩)] #[] #[.pointer (some ⟨g, 0, none⟩)] rfl rfl (by (try simp only [List.map_toArray, List.map_cons, List.map_nil]); first | done | rfl) ?_; (with_reducible refine (rdr_num k g A0 c0 l0 false n b1 e1 w w1 hbg.out hg0.out hxg.out hr1.out HC0.out h1).mono ?_); rintro ex w2 ⟨A3, c3, rfl, hgw2, hl3, hf3, hB2, hk2⟩; refine ⟨_, rfl, ?_⟩; have n_ := Aside0.mk hgw2; clear hgw2; have hgw2 := n_; clear n_; have n_ := Aside0.mk hl3; clear hl3; have hl3 := n_; clear n_; have n_ := Aside0.mk hf3; clear hf3; have hf3 := n_; clear n_; have n_ := Aside0.mk hB2; clear hB2; have hB2 := n_; clear n_; have n_ := Aside0.mk hk2; clear hk2; have hk2 := n_; clear n_; have hxx := Aside0.mk (KeepBut.refl w2 g none)))
  go_loopg [7, 8] k (fun kq v7 v8 w' => ∃ (xo : List S38) (xl xb : List Int) (xd : Bool) (A8 : Option Addr) (c8 : Nat) (Ab : Option Addr) (cb : Nat), v8 = .slice A8 xl.length c8 ∧ Aside0 (block_Parse.l0 kq xo xl n xb xd l0 = some (r1, r2)) ∧ Aside0 (kq ≤ k) ∧ Aside0 (Kd.N k38 38 w' w.heap.size (fun k_ => w.heap.size ≤ k_ ∧ k_ ≠ g) v7 xo) ∧ Aside0 (Kd.F (Kd.int .u8) w' (fun k_ => w.heap.size ≤ k_ ∧ k_ ≠ g) A8 xl.length xl) ∧ Aside0 (xl.length ≤ c8) ∧ Aside0 (w'.heap[g]? = some (.cells #[.slice Ab xb.length cb, .bool xd] 50 (0, 0))) ∧ Aside0 (xb.length ≤ cb) ∧ Aside0 (Kd.F (Kd.int .u8) w' (fun k_ => w.heap.size ≤ k_ ∧ k_ ≠ g) Ab xb.length xb) ∧ Aside0 (Below w.heap.size w w'))
  case atStart => exact ⟨[], [], b1, (e1 != 0), none, 0, A3, c3, rfl, H, ⟨Nat.le_refl _⟩, ⟨Kd.N_nil _ _ _ _ _⟩, ⟨Kd.F_nil _ _ _⟩, ⟨Nat.le_refl _⟩, ⟨by simpa using hgw2.out⟩, hl3, ⟨Kd.F_mono hf3.out (fun k_ hk => by have h1 := ZG.out; omega)⟩, hB2⟩
  case round =>
    clear H hgw2 hl3 hf3 hB2 hk2 hxx hr1 hxg hbg
    obtain ⟨xo, xl, xb, xd, A8, c8, Ab, cb, rfl, HA, HK1, HN, HL, HLc, HGb, HBc, HF, HB⟩ := hrel
    cases gk with
    | zero => exact absurd HA.out (by simp [block_Parse.l0])
    | succ k1 =>
      have H := HA.out
      clear HA
      simp only [block_Parse.l0] at H
      obtain ⟨Ao, co, rfl⟩ := Kd.N_slice HN.out

      have hcg1 : wr.cell? ⟨g, 1, none⟩ = some (.bool xd) := (blk_cell HGb.out 1).trans rfl
      by_cases c1 : 0 < n
      · rw [if_pos c1] at H
        have c1b : decide (0 < n) = true := decide_eq_true c1
        by_cases c2 : n ≤ 8
        · rw [if_pos c2] at H
          have c2b : decide (n ≤ 8) = true := decide_eq_true c2
          by_cases c3 : (xo.length : Int) < n
          · rw [if_pos c3] at H
            have c3b : decide ((xo.length : Int) < n) = true := decide_eq_true c3
            cases xd with
            | false =>
              rw [if_pos rfl] at H
              replace H := Option.bind_eq_some_iff.mp H
              obtain ⟨t, ht, H⟩ := H
              unfold block_entry.f at ht
              replace ht := Option.bind_eq_some_iff.mp ht
              obtain ⟨⟨n1, b1', e1'⟩, g1, ht⟩ := ht
              dsimp only at ht
              by_cases hn : n1 ≤ (xl.length : Int)
              · rw [if_pos hn] at ht
                by_cases hn0 : 0 ≤ n1
                · rw [if_pos hn0] at ht
                  replace ht := Option.bind_eq_some_iff.mp ht
                  obtain ⟨cl, gcl, ht⟩ := ht
                  replace ht := Option.bind_eq_some_iff.mp ht
                  obtain ⟨⟨s1, b2, e2⟩, g2, ht⟩ := ht
                  dsimp only at ht
                  by_cases hs : s1.size ≤ 140737488355328 ∧ cl.length + (bytesOf s1).length < 140737488355328
                  · rw [if_pos hs] at ht
                    replace ht := Option.bind_eq_some_iff.mp ht
                    obtain ⟨⟨q, b3, e3⟩, g3, ht⟩ := ht
                    replace ht := Option.bind_eq_some_iff.mp ht
                    obtain ⟨⟨s2, b4, e4⟩, g4, ht⟩ := ht
                    dsimp only at ht
                    by_cases hs2 : s2.size ≤ 140737488355328
                    · rw [if_pos hs2] at ht
                      obtain rfl := Option.some.inj ht
                      dsimp only at H
                      rw [if_pos rfl] at H
                      obtain ⟨y1, hy1⟩ : ∃ y_ : List Int, y_ = cl ++ bytesOf s1 := ⟨_, rfl⟩
                      obtain ⟨y2, hy2⟩ : ∃ y_ : List Int, y_ = bytesOf s2 := ⟨_, rfl⟩
                      rw [← hy1, ← hy2] at H
                      have HY1 := Aside0.mk hy1; have HY2 := Aside0.mk hy2; clear hy1 hy2
                      have H' := Aside0.mk H
                      clear H ht
                      go_wp2_with (first
                        | ((with_reducible refine gate_callee (f := 33) rfl ?_); refine goesL_ (some 46) rfl rfl Try.func33 (by kernel_rfl) rfl #[.func (.func 31) #[.pointer (some ⟨g, 0, none⟩)] #[], .func (.func 32) #[.pointer (some ⟨g, 0, none⟩)] #[], .slice A8 xl.length c8] rfl (by (try simp only [List.map_toArray, List.map_cons, List.map_nil]); first | done | rfl) ?_; refine (rdr_entry k1 g Ab cb xb false A8 c8 xl _ n1 b1' e1' cl s1 b2 e2 q b3 e3 s2 b4 e4 w wr HB.out hg0.out HGb.out (Kd.F_now HF.out) HBc.out HL.out (fun _ hk => hk.2) HLc.out g1 hn0 hn gcl g2 hs.1 hs.2 g3 g4 hs2).mono ?_; rintro ex w3 ⟨vk, vv, A4, c4, rfl, hvk, hvv, hgw3, hl3, hf3, hB3, hk3⟩; refine ⟨_, rfl, ?_⟩; rw [← HY1.out] at hvk; rw [← HY2.out] at hvv; obtain ⟨Ak, ck, rfl, hlk, hFk⟩ := hvk; obtain ⟨Av, cv, rfl, hlv, hFv⟩ := hvv; have n_ := Aside0.mk hlk; clear hlk; have hlk := n_; clear n_; have n_ := Aside0.mk hFk; clear hFk; have hFk := n_; clear n_; have n_ := Aside0.mk hlv; clear hlv; have hlv := n_; clear n_; have n_ := Aside0.mk hFv; clear hFv; have hFv := n_; clear n_; have n_ := Aside0.mk hgw3; clear hgw3; have hgw3 := n_; clear n_; have n_ := Aside0.mk hl3; clear hl3; have hl3 := n_; clear n_; have n_ := Aside0.mk hf3; clear hf3; have hf3 := n_; clear n_; have n_ := Aside0.mk hB3; clear hB3; have hB3 := n_; clear n_; have n_ := Aside0.mk hk3; clear hk3; have hk3 := n_; clear n_; have HN3 := Aside0.mk (Kd.N_keep HN.out hk3.out (fun _ hk => hk.2)))
                        | ((with_reducible refine gate_dst (N := 10) rfl ?_); refine box_event ?hg (N := 10) ?hd (cs := #[.slice none 0 0, .int .i64 0, .bool false, .slice none 0 0]) (t := 38) ?hr ?_; (case hd => rfl); (case hg => rfl); (case hr => first | (go_simp; done) | (go_simp; rfl)); intro g10 hqg10 w4 hxg10 hbg10; have n_ := Aside0.mk hqg10; clear hqg10; have hqg10 := n_; clear n_; have n_ := Aside0.mk hxg10; clear hxg10; have hxg10 := n_; clear n_; have n_ := Aside0.mk hbg10; clear hbg10; have hbg10 := n_; clear n_; have hcz0 : w4.cell? ⟨g10, 0, none⟩ = some (.slice none 0 0) := (blk_cell hxg10.out 0).trans rfl; have hcz1 : w4.cell? ⟨g10, 1, none⟩ = some (.int .i64 0) := (blk_cell hxg10.out 1).trans rfl; have hcz2 : w4.cell? ⟨g10, 2, none⟩ = some (.bool false) := (blk_cell hxg10.out 2).trans rfl; have hcz3 : w4.cell? ⟨g10, 3, none⟩ = some (.slice none 0 0) := (blk_cell hxg10.out 3).trans rfl; have hfz0 := blk_frozen hxg10.out 0; have hfz1 := blk_frozen hxg10.out 1; have hfz2 := blk_frozen hxg10.out 2; have hfz3 := blk_frozen hxg10.out 3))
                      have BK := Aside0.mk (show ((((w4.setCell ⟨g10, 0, none⟩ (.slice Ak y1.length ck)).setCell ⟨g10, 1, none⟩ (.int .i64 (wrap64 (Int.tdiv q 2)))).setCell ⟨g10, 2, none⟩ (.bool (Int.tmod q 2 == 1))).setCell ⟨g10, 3, none⟩ (.slice Av y2.length cv)).heap[g10]? = some (.cells #[.slice Ak y1.length ck, .int .i64 (wrap64 (Int.tdiv q 2)), .bool (Int.tmod q 2 == 1), .slice Av y2.length cv] 38 (0, 0)) from sets4 hxg10.out)
                      have K10 := Aside0.mk (show KeepBut w4 ((((w4.setCell ⟨g10, 0, none⟩ (.slice Ak y1.length ck)).setCell ⟨g10, 1, none⟩ (.int .i64 (wrap64 (Int.tdiv q 2)))).setCell ⟨g10, 2, none⟩ (.bool (Int.tmod q 2 == 1))).setCell ⟨g10, 3, none⟩ (.slice Av y2.length cv)) g10 none from keep4 _ _ _ _ _ _)
                      have Z10 := Aside0.mk (show g10 = w3.heap.size ∧ g < w3.heap.size ∧ w3.heap.size ≤ w4.heap.size ∧ w.heap.size ≤ w3.heap.size ∧ wr.heap.size ≤ w3.heap.size from ⟨hqg10.out, blk_lt hgw3.out, (hbg10.out).size, (hB3.out).size, (hk3.out).1⟩)
                      have ZR := Aside0.mk (blk_lt HGb.out)
                      have HN4 := Aside0.mk (Kd.N_keep (Kd.N_below (Kd.N_bound HN3.out) hbg10.out) K10.out (fun k_ hk => by have h1 := Z10.out; have h2 := hk.2; omega))
                      have hFk4 := Aside0.mk (Kd.F_keep (Kd.F_below (Kd.F_bound hFk.out) hbg10.out) K10.out (fun k_ hk => by have h1 := Z10.out; have h2 := hk.2; omega))
                      have hFv4 := Aside0.mk (Kd.F_keep (Kd.F_below (Kd.F_bound hFv.out) hbg10.out) K10.out (fun k_ hk => by have h1 := Z10.out; have h2 := hk.2; omega))
                      have hf4 := Aside0.mk (Kd.F_keep (Kd.F_below (Kd.F_bound hf3.out) hbg10.out) K10.out (fun k_ hk => by have h1 := Z10.out; have h2 := hk.2; omega))
                      have hg4 := Aside0.mk (KeepBut.blk K10.out (blk_below hgw3.out hbg10.out) (by have h1 := Z10.out; omega) (by simp))
                      have hB4 := Aside0.mk (show Below w.heap.size w ((((w4.setCell ⟨g10, 0, none⟩ (.slice Ak y1.length ck)).setCell ⟨g10, 1, none⟩ (.int .i64 (wrap64 (Int.tdiv q 2)))).setCell ⟨g10, 2, none⟩ (.bool (Int.tmod q 2 == 1))).setCell ⟨g10, 3, none⟩ (.slice Av y2.length cv)) from below4 (below_step hB3.out hbg10.out) (by have h1 := Z10.out; omega) _ _ _ _)
                      have hlt := Kd.N_lt HN.out
                      have HLT := Aside0.mk hlt; clear hlt
                      refine start_ (n := 8) (S := fun w' => w'.cell? ⟨g10, 0, none⟩ = some (.slice Ak y1.length ck) ∧ w'.cell? ⟨g10, 1, none⟩ = some (.int .i64 (wrap64 (Int.tdiv q 2))) ∧ w'.cell? ⟨g10, 2, none⟩ = some (.bool (Int.tmod q 2 == 1)) ∧ w'.cell? ⟨g10, 3, none⟩ = some (.slice Av y2.length cv)) (ds := []) #[false, false, false, false, false, false, false, false] (by kernel_rfl) rfl rfl ⟨(blk_cell (blk_drew BK.out) 0).trans rfl, (blk_cell (blk_drew BK.out) 1).trans rfl, (blk_cell (blk_drew BK.out) 2).trans rfl, (blk_cell (blk_drew BK.out) 3).trans rfl⟩ (fun hHeld => ?_)
                      have BK5 := Aside0.mk (blk_drew BK.out)
                      have HN5 := Aside0.mk (Kd.N_drew HN4.out)
                      have hFk5 := Aside0.mk (Kd.F_drew hFk4.out)
                      have hFv5 := Aside0.mk (Kd.F_drew hFv4.out)
                      have hf5 := Aside0.mk (Kd.F_drew hf4.out)
                      have hg5 := Aside0.mk (blk_drew hg4.out)
                      have hB5 := Aside0.mk (below_drew hB4.out)
                      have Z11 := Aside0.mk (show w4.heap.size ≤ ((((w4.setCell ⟨g10, 0, none⟩ (.slice Ak y1.length ck)).setCell ⟨g10, 1, none⟩ (.int .i64 (wrap64 (Int.tdiv q 2)))).setCell ⟨g10, 2, none⟩ (.bool (Int.tmod q 2 == 1))).setCell ⟨g10, 3, none⟩ (.slice Av y2.length cv)).drew.heap.size ∧ w.heap.size ≤ ((((w4.setCell ⟨g10, 0, none⟩ (.slice Ak y1.length ck)).setCell ⟨g10, 1, none⟩ (.int .i64 (wrap64 (Int.tdiv q 2)))).setCell ⟨g10, 2, none⟩ (.bool (Int.tmod q 2 == 1))).setCell ⟨g10, 3, none⟩ (.slice Av y2.length cv)).heap.size from ⟨(keep4 w4 g10 _ _ _ _).1, (hB4.out).size⟩)
                      clear BK HN4 hFk4 hFv4 hf4 hg4 hB4
                      generalize ((((w4.setCell ⟨g10, 0, none⟩ (.slice Ak y1.length ck)).setCell ⟨g10, 1, none⟩ (.int .i64 (wrap64 (Int.tdiv q 2)))).setCell ⟨g10, 2, none⟩ (.bool (Int.tmod q 2 == 1))).setCell ⟨g10, 3, none⟩ (.slice Av y2.length cv)).drew = w5 at BK5 HN5 hFk5 hFv5 hf5 hg5 hB5 Z11 hHeld ⊢
                      refine pure_ (i := 0) (N := some 51) (v := ?_) (a' := ?_) #[true, false, false, false, false, false, false, false] rfl rfl (by kernel_rfl) (fun _ _ _ h => h) (Or.inl ⟨by rfl, ?_⟩) ?_ ?_
                      rotate_left
                      · intro w'
                        go_simp
                        with_reducible rfl
                      rotate_left
                      · simp only [Act.put, List.setIfInBounds_toArray, List.set_cons_zero, List.set_cons_succ, i64_w, i32_w]
                        rfl
                      refine pure_ (i := 4) (N := some 55) (v := ?_) (a' := ?_) #[true, false, false, false, true, false, false, false] rfl rfl (by kernel_rfl) (fun _ _ _ h => h) (Or.inl ⟨by rfl, ?_⟩) ?_ ?_
                      rotate_left
                      · intro w'
                        go_simp
                        with_reducible rfl
                      rotate_left
                      · simp only [Act.put, List.setIfInBounds_toArray, List.set_cons_zero, List.set_cons_succ, i64_w, i32_w]
                        rfl
                      refine take_ (i := 1) (N := some 52) (v := ?_) (a' := ?_) #[true, true, false, false, true, false, false, false] rfl rfl (by kernel_rfl) (fun _ _ _ h => h) (Or.inl ⟨by rfl, ?_⟩) hHeld ?_ ?_
                      rotate_left
                      · rintro w' ⟨s0, s1, s2, s3⟩
                        go_simp
                        with_reducible rfl
                      rotate_left
                      · simp only [Act.put, List.setIfInBounds_toArray, List.set_cons_zero, List.set_cons_succ, i64_w, i32_w]
                        rfl
                      refine take_ (i := 5) (N := some 56) (v := ?_) (a' := ?_) #[true, true, false, false, true, true, false, false] rfl rfl (by kernel_rfl) (fun _ _ _ h => h) (Or.inl ⟨by rfl, ?_⟩) hHeld ?_ ?_
                      rotate_left
                      · rintro w' ⟨s0, s1, s2, s3⟩
                        go_simp
                        with_reducible rfl
                      rotate_left
                      · simp only [Act.put, List.setIfInBounds_toArray, List.set_cons_zero, List.set_cons_succ, i64_w, i32_w]
                        rfl
                      refine one_ (i := 2) (N := some 53) #[true, true, true, false, true, true, false, false] rfl rfl (by kernel_rfl) (by decide) (fun K hK => ?_)
                      refine value_ (w1 := ?_) (v := ?_) (by rfl) rfl ?_ ?_
                      rotate_left 2
                      · go_simp
                        constructor
                        · rfl
                        · rfl
                      refine hK.out _ _ ⟨(blk_cell (blk_alloc BK5.out _) 0).trans rfl, (blk_cell (blk_alloc BK5.out _) 1).trans rfl, (blk_cell (blk_alloc BK5.out _) 2).trans rfl, (blk_cell (blk_alloc BK5.out _) 3).trans rfl⟩ (fun hHeld => ?_)
                      clear hK K
                      refine norm_ (a' := ?_) ?_ ?_
                      rotate_left
                      · show Act.put _ (some 53) _ = _
                        simp only [Act.put, List.setIfInBounds_toArray, List.set_cons_zero, List.set_cons_succ, i64_w, i32_w]
                        rfl
                      refine one_ (i := 3) (N := some 54) #[true, true, true, true, true, true, false, false] rfl rfl (by kernel_rfl) (by decide) (fun K hK => ?_)
                      refine Kd.N_append_step k38 (w0 := w) w.heap.size (by rfl) (.tmp 51) (.tmp 53) 22 38 (.agg #[(.slice none 0 0), (.int .i64 0), (.bool false), (.slice none 0 0)]) 64 rfl Try.underlying22 info38 rfl (by decide) (by omega) (.slice Ao xo.length co) xo (⟨y1, wrap64 (Int.tdiv q 2), (Int.tmod q 2 == 1), y2⟩ : S38) [.slice Ak y1.length ck, .int .i64 (wrap64 (Int.tdiv q 2)), .bool (Int.tmod q 2 == 1), .slice Av y2.length cv] (fun k_ => w.heap.size ≤ k_ ∧ k_ ≠ g) (fun k_ => wr.heap.size ≤ k_ ∧ k_ < w3.heap.size) rfl rfl ?aP ?aH ?aF ?aO ?aB ?aS ?aL ?_
                      (case aP => exact k38_mkF _ _ (⟨y1, wrap64 (Int.tdiv q 2), (Int.tmod q 2 == 1), y2⟩ : S38) hlk.out hFk5.out hlv.out hFv5.out)
                      (case aH => exact fun k_ hk => ⟨⟨by have h1 := Z10.out; have h2 := (HB.out).size; omega, by have h1 := ZR.out; omega⟩, fun he => by have h1 := HLT.out k_ he.symm; omega⟩)
                      (case aF => exact fun k_ hk => ⟨by have h1 := Z11.out; have h2 := (hB5.out).size; omega, by have h1 := blk_lt hg5.out; omega⟩)
                      (case aO => exact Kd.N_mono HN5.out (fun k_ hk => hk.1))
                      (case aB => exact hB5.out)
                      (case aS => exact (hB5.out).size)
                      (case aL => have h1 : (xo.length : Int) < 8 := (by omega); omega)
                      intro v6 w6 hn6 hb6 hgr6 hat6
                      refine hK.out _ _ ⟨(blk_cell (blk_grown BK5.out hgr6 (Kd.N_away (Kd.N_mono (ok' := fun k_ => k_ ≠ g10) HN5.out (fun k_ hk => by have h1 := Z10.out; have h2 := hk.2; omega)) (fun _ hk => hk))) 0).trans rfl, (blk_cell (blk_grown BK5.out hgr6 (Kd.N_away (Kd.N_mono (ok' := fun k_ => k_ ≠ g10) HN5.out (fun k_ hk => by have h1 := Z10.out; have h2 := hk.2; omega)) (fun _ hk => hk))) 1).trans rfl, (blk_cell (blk_grown BK5.out hgr6 (Kd.N_away (Kd.N_mono (ok' := fun k_ => k_ ≠ g10) HN5.out (fun k_ hk => by have h1 := Z10.out; have h2 := hk.2; omega)) (fun _ hk => hk))) 2).trans rfl, (blk_cell (blk_grown BK5.out hgr6 (Kd.N_away (Kd.N_mono (ok' := fun k_ => k_ ≠ g10) HN5.out (fun k_ hk => by have h1 := Z10.out; have h2 := hk.2; omega)) (fun _ hk => hk))) 3).trans rfl⟩ (fun hHeld => ?_)
                      clear hK K
                      refine norm_ (a' := ?_) ?_ ?_
                      rotate_left
                      · show Act.put _ (some 54) _ = _
                        simp only [Act.put, List.setIfInBounds_toArray, List.set_cons_zero, List.set_cons_succ, i64_w, i32_w]
                        rfl
                      refine pure_ (i := 6) (N := some 7) (v := ?_) (a' := ?_) #[true, true, true, true, true, true, true, false] rfl rfl (by kernel_rfl) (fun _ _ _ h => h) (Or.inl ⟨by rfl, ?_⟩) ?_ ?_
                      rotate_left
                      · intro w'
                        go_simp
                        with_reducible rfl
                      rotate_left
                      · simp only [Act.put, List.setIfInBounds_toArray, List.set_cons_zero, List.set_cons_succ, i64_w, i32_w]
                        rfl
                      refine pure_ (i := 7) (N := some 8) (v := ?_) (a' := ?_) #[true, true, true, true, true, true, true, true] rfl rfl (by kernel_rfl) (fun _ _ _ h => h) (Or.inl ⟨by rfl, ?_⟩) ?_ ?_
                      rotate_left
                      · intro w'
                        go_simp
                        with_reducible rfl
                      rotate_left
                      · simp only [Act.put, List.setIfInBounds_toArray, List.set_cons_zero, List.set_cons_succ, i64_w, i32_w]
                        rfl
                      refine done_ (by kernel_rfl) ?_
                      go_wp2
                      have hgne : some g ≠ (Value.slice Ao xo.length co).ownBlock := Kd.N_ne HN5.out hg5.out (by decide)
                      have hfr : ∀ k_, wr.heap.size ≤ k_ → some k_ ≠ (Value.slice Ao xo.length co).ownBlock := fun k_ hk he => by have h1 := HLT.out k_ he.symm; omega
                      go_roundg k1
                      case measure => omega
                      case rel => refine ⟨xo ++ [(⟨y1, wrap64 (Int.tdiv q 2), (Int.tmod q 2 == 1), y2⟩ : S38)], y1, b4, _, Ak, ck, A4, c4, rfl, H', ⟨Nat.le_of_succ_le HK1.out⟩, ⟨hn6⟩, ⟨Kd.F_mono (Kd.F_grown hFk5.out hgr6 (fun k_ hk => hfr k_ hk.1)) (fun k_ hk => ⟨by have h1 := (HB.out).size; have h2 := hk.1; omega, by have h1 := hk.1; have h2 := ZR.out; omega⟩)⟩, hlk, ⟨blk_grown hg5.out hgr6 hgne⟩, hl3, ⟨Kd.F_mono (Kd.F_grown hf5.out hgr6 (fun k_ hk => hfr k_ hk.1)) (fun k_ hk => ⟨by have h1 := (HB.out).size; have h2 := hk.1; omega, by have h1 := hk.1; have h2 := ZR.out; omega⟩)⟩, ⟨hb6⟩⟩
                    · rw [if_neg hs2] at ht
                      cases ht
                  · rw [if_neg hs] at ht
                    cases ht
                · rw [if_neg hn0] at ht
                  cases ht
              · rw [if_neg hn] at ht
                obtain rfl := Option.some.inj ht
                dsimp only at H
                rw [if_neg (by simp)] at H
                simp only [Option.some.injEq, Prod.mk.injEq] at H
                obtain ⟨rfl, rfl⟩ := H
                go_wp2_with (first
                  | ((with_reducible refine gate_callee (f := 33) rfl ?_); refine goesL_ (some 46) rfl rfl Try.func33 (by kernel_rfl) rfl #[.func (.func 31) #[.pointer (some ⟨g, 0, none⟩)] #[], .func (.func 32) #[.pointer (some ⟨g, 0, none⟩)] #[], .slice A8 xl.length c8] rfl (by (try simp only [List.map_toArray, List.map_cons, List.map_nil]); first | done | rfl) ?_; refine (rdr_entry_no k1 g Ab cb xb false A8 c8 xl n1 b1' e1' w wr HB.out hg0.out HGb.out (Kd.F_now HF.out) HBc.out g1 hn).mono ?_; rintro ex w3 ⟨rfl, hB3⟩; refine ⟨_, rfl, ?_⟩; have n_ := Aside0.mk hB3; clear hB3; have hB3 := n_; clear n_)
                  | ((with_reducible refine gate_dst (N := 10) rfl ?_); refine box_event ?hg (N := 10) ?hd (cs := #[.slice none 0 0, .int .i64 0, .bool false, .slice none 0 0]) (t := 38) ?hr ?_; (case hd => rfl); (case hg => rfl); (case hr => first | (go_simp; done) | (go_simp; rfl)); intro g10 hqg10 w4 hxg10 hbg10; have n_ := Aside0.mk hqg10; clear hqg10; have hqg10 := n_; clear n_; have n_ := Aside0.mk hxg10; clear hxg10; have hxg10 := n_; clear n_; have n_ := Aside0.mk hbg10; clear hbg10; have hbg10 := n_; clear n_; have hcz0 : w4.cell? ⟨g10, 0, none⟩ = some (.slice none 0 0) := (blk_cell hxg10.out 0).trans rfl; have hcz1 : w4.cell? ⟨g10, 1, none⟩ = some (.int .i64 0) := (blk_cell hxg10.out 1).trans rfl; have hcz2 : w4.cell? ⟨g10, 2, none⟩ = some (.bool false) := (blk_cell hxg10.out 2).trans rfl; have hcz3 : w4.cell? ⟨g10, 3, none⟩ = some (.slice none 0 0) := (blk_cell hxg10.out 3).trans rfl; have hfz0 := blk_frozen hxg10.out 0; have hfz1 := blk_frozen hxg10.out 1; have hfz2 := blk_frozen hxg10.out 2; have hfz3 := blk_frozen hxg10.out 3))
                go_ret2
                exact ⟨.slice none 0 0, rfl, Kd.V_nil _ _ _ _ _, below4 (below_step hB3.out hbg10.out) (by have h1 := hqg10.out; have h2 := hB3.out.size; omega) _ _ _ _⟩
            | true =>
              rw [if_neg (by simp)] at H
              unfold block_Parse.fin at H
              replace H := Option.bind_eq_some_iff.mp H
              obtain ⟨⟨own, e⟩, gb, H⟩ := H
              dsimp only at H
              rw [if_neg (by simp)] at H
              simp only [Option.some.injEq, Prod.mk.injEq] at H
              obtain ⟨rfl, rfl⟩ := H
              go_wp2_with (((with_reducible refine gate_callee (f := 9) rfl ?_); refine goesL_ (some 59) rfl rfl Try.func9 (by kernel_rfl) rfl #[.slice Ao xo.length co] rfl (by (try simp only [List.map_toArray, List.map_cons, List.map_nil]); first | done | rfl) ?_; refine (block_Build.calls k1 (fun k_ => w.heap.size ≤ k_ ∧ k_ ≠ g) Ao co xo own e wr (Kd.V_mk (Kd.N_reads' HN.out).2.1 (Kd.N_F HN.out)) gb).mono ?_; rintro ex w3 ⟨vO, rfl, hO, hb3⟩; refine ⟨_, rfl, ?_⟩; obtain ⟨AO, cO, rfl⟩ := Kd.R_slice hO; have hO := Aside0.mk hO; have hb3 := Aside0.mk hb3; have hgw3 := Aside0.mk (blk_below HGb.out hb3.out); have hcw0 : w3.cell? ⟨g, 0, none⟩ = some (.slice Ab xb.length cb) := (blk_cell hgw3.out 0).trans rfl; have hcw1 : w3.cell? ⟨g, 1, none⟩ = some (.bool true) := (blk_cell hgw3.out 1).trans rfl))
              go_ret2
              exact ⟨.slice none 0 0, rfl, Kd.V_nil _ _ _ _ _, below_step HB.out hb3.out⟩
          · rw [if_neg c3] at H
            have c3b : decide ((xo.length : Int) < n) = false := decide_eq_false c3
            cases xd with
            | true =>
              unfold block_Parse.fin at H
              replace H := Option.bind_eq_some_iff.mp H
              obtain ⟨⟨own, e⟩, gb, H⟩ := H
              dsimp only at H
              rw [if_neg (by simp)] at H
              simp only [Option.some.injEq, Prod.mk.injEq] at H
              obtain ⟨rfl, rfl⟩ := H
              go_wp2_with (((with_reducible refine gate_callee (f := 9) rfl ?_); refine goesL_ (some 59) rfl rfl Try.func9 (by kernel_rfl) rfl #[.slice Ao xo.length co] rfl (by (try simp only [List.map_toArray, List.map_cons, List.map_nil]); first | done | rfl) ?_; refine (block_Build.calls k1 (fun k_ => w.heap.size ≤ k_ ∧ k_ ≠ g) Ao co xo own e wr (Kd.V_mk (Kd.N_reads' HN.out).2.1 (Kd.N_F HN.out)) gb).mono ?_; rintro ex w3 ⟨vO, rfl, hO, hb3⟩; refine ⟨_, rfl, ?_⟩; obtain ⟨AO, cO, rfl⟩ := Kd.R_slice hO; have hO := Aside0.mk hO; have hb3 := Aside0.mk hb3; have hgw3 := Aside0.mk (blk_below HGb.out hb3.out); have hcw0 : w3.cell? ⟨g, 0, none⟩ = some (.slice Ab xb.length cb) := (blk_cell hgw3.out 0).trans rfl; have hcw1 : w3.cell? ⟨g, 1, none⟩ = some (.bool true) := (blk_cell hgw3.out 1).trans rfl))
              go_ret2
              exact ⟨.slice none 0 0, rfl, Kd.V_nil _ _ _ _ _, below_step HB.out hb3.out⟩
            | false =>
              unfold block_Parse.fin at H
              replace H := Option.bind_eq_some_iff.mp H
              obtain ⟨⟨own, e⟩, gb, H⟩ := H
              dsimp only at H
              rw [if_pos rfl] at H
              by_cases he : e = 0
              · rw [if_pos he] at H
                have he1 : (e == 0) = true := by simp [he]
                have he2 : (e != 0) = false := by simp [he]
                clear he
                by_cases hl4 : xb.length = 4
                · rw [if_pos hl4] at H
                  have hm1 : ((xb.length : Int) == 4) = true := by simp [hl4]
                  have hm2 : ((xb.length : Int) != 4) = false := by simp [hl4]
                  have HL4 := Aside0.mk hl4; clear hl4
                  replace H := Option.bind_eq_some_iff.mp H
                  obtain ⟨eq, geq, H⟩ := H
                  by_cases hq : eq = true
                  · subst hq
                    rw [if_pos rfl] at H
                    simp only [Option.some.injEq, Prod.mk.injEq] at H
                    obtain ⟨rfl, rfl⟩ := H
                    go_wp2_with (first
                      | ((with_reducible refine gate_callee (f := 9) rfl ?_); refine goesL_ (some 59) rfl rfl Try.func9 (by kernel_rfl) rfl #[.slice Ao xo.length co] rfl (by (try simp only [List.map_toArray, List.map_cons, List.map_nil]); first | done | rfl) ?_; refine (block_Build.calls k1 (fun k_ => w.heap.size ≤ k_ ∧ k_ ≠ g) Ao co xo own e wr (Kd.V_mk (Kd.N_reads' HN.out).2.1 (Kd.N_F HN.out)) gb).mono ?_; rintro ex w3 ⟨vO, rfl, hO, hb3⟩; refine ⟨_, rfl, ?_⟩; obtain ⟨AO, cO, rfl⟩ := Kd.R_slice hO; have hO := Aside0.mk hO; have hb3 := Aside0.mk hb3; have hgw3 := Aside0.mk (blk_below HGb.out hb3.out); have hcw0 : w3.cell? ⟨g, 0, none⟩ = some (.slice Ab xb.length cb) := (blk_cell hgw3.out 0).trans rfl; have hcw1 : w3.cell? ⟨g, 1, none⟩ = some (.bool false) := (blk_cell hgw3.out 1).trans rfl)
                      | (go_at_call 34; refine (bytes_Equal.calls AO cO own A0 c0 l0 true _ (Kd.R_reads' hO.out).2.2 (Kd.R_reads' hO.out).2.1 (Kd.C_below HR0.out (below_step HB.out hb3.out)) HC0.out geq).mono ?_; rintro ex w4 ⟨rfl, ⟨nd, rfl⟩⟩))
                    go_ret2
                    exact ⟨.slice Ao xo.length co, rfl, Kd.V_mk (Kd.N_reads' HN.out).2.1 (Kd.F_mono (Kd.F_drewN (Kd.F_below (Kd.N_F HN.out) hb3.out) _) (fun k_ hk => hk.1)), pw_below_drewN (below_step HB.out hb3.out) _⟩
                  · replace hq := Bool.eq_false_iff.mpr hq
                    subst hq
                    rw [if_neg (by simp)] at H
                    simp only [Option.some.injEq, Prod.mk.injEq] at H
                    obtain ⟨rfl, rfl⟩ := H
                    go_wp2_with (first
                      | ((with_reducible refine gate_callee (f := 9) rfl ?_); refine goesL_ (some 59) rfl rfl Try.func9 (by kernel_rfl) rfl #[.slice Ao xo.length co] rfl (by (try simp only [List.map_toArray, List.map_cons, List.map_nil]); first | done | rfl) ?_; refine (block_Build.calls k1 (fun k_ => w.heap.size ≤ k_ ∧ k_ ≠ g) Ao co xo own e wr (Kd.V_mk (Kd.N_reads' HN.out).2.1 (Kd.N_F HN.out)) gb).mono ?_; rintro ex w3 ⟨vO, rfl, hO, hb3⟩; refine ⟨_, rfl, ?_⟩; obtain ⟨AO, cO, rfl⟩ := Kd.R_slice hO; have hO := Aside0.mk hO; have hb3 := Aside0.mk hb3; have hgw3 := Aside0.mk (blk_below HGb.out hb3.out); have hcw0 : w3.cell? ⟨g, 0, none⟩ = some (.slice Ab xb.length cb) := (blk_cell hgw3.out 0).trans rfl; have hcw1 : w3.cell? ⟨g, 1, none⟩ = some (.bool false) := (blk_cell hgw3.out 1).trans rfl)
                      | (go_at_call 34; refine (bytes_Equal.calls AO cO own A0 c0 l0 false _ (Kd.R_reads' hO.out).2.2 (Kd.R_reads' hO.out).2.1 (Kd.C_below HR0.out (below_step HB.out hb3.out)) HC0.out geq).mono ?_; rintro ex w4 ⟨rfl, ⟨nd, rfl⟩⟩))
                    go_ret2
                    exact ⟨.slice none 0 0, rfl, Kd.V_nil _ _ _ _ _, pw_below_drewN (below_step HB.out hb3.out) _⟩
                · rw [if_neg hl4] at H
                  have hm0 : ¬ ((xb.length : Int) = 4) := by omega
                  have hm1 : ((xb.length : Int) == 4) = false := by simpa using hm0
                  have hm2 : ((xb.length : Int) != 4) = true := by simpa using hm0
                  clear hl4 hm0
                  simp only [Option.some.injEq, Prod.mk.injEq] at H
                  obtain ⟨rfl, rfl⟩ := H
                  go_wp2_with (((with_reducible refine gate_callee (f := 9) rfl ?_); refine goesL_ (some 59) rfl rfl Try.func9 (by kernel_rfl) rfl #[.slice Ao xo.length co] rfl (by (try simp only [List.map_toArray, List.map_cons, List.map_nil]); first | done | rfl) ?_; refine (block_Build.calls k1 (fun k_ => w.heap.size ≤ k_ ∧ k_ ≠ g) Ao co xo own e wr (Kd.V_mk (Kd.N_reads' HN.out).2.1 (Kd.N_F HN.out)) gb).mono ?_; rintro ex w3 ⟨vO, rfl, hO, hb3⟩; refine ⟨_, rfl, ?_⟩; obtain ⟨AO, cO, rfl⟩ := Kd.R_slice hO; have hO := Aside0.mk hO; have hb3 := Aside0.mk hb3; have hgw3 := Aside0.mk (blk_below HGb.out hb3.out); have hcw0 : w3.cell? ⟨g, 0, none⟩ = some (.slice Ab xb.length cb) := (blk_cell hgw3.out 0).trans rfl; have hcw1 : w3.cell? ⟨g, 1, none⟩ = some (.bool false) := (blk_cell hgw3.out 1).trans rfl))
                  go_ret2
                  exact ⟨.slice none 0 0, rfl, Kd.V_nil _ _ _ _ _, below_step HB.out hb3.out⟩
              · rw [if_neg he] at H
                have he1 : (e == 0) = false := by simp [he]
                have he2 : (e != 0) = true := by simp [he]
                clear he
                simp only [Option.some.injEq, Prod.mk.injEq] at H
                obtain ⟨rfl, rfl⟩ := H
                go_wp2_with (((with_reducible refine gate_callee (f := 9) rfl ?_); refine goesL_ (some 59) rfl rfl Try.func9 (by kernel_rfl) rfl #[.slice Ao xo.length co] rfl (by (try simp only [List.map_toArray, List.map_cons, List.map_nil]); first | done | rfl) ?_; refine (block_Build.calls k1 (fun k_ => w.heap.size ≤ k_ ∧ k_ ≠ g) Ao co xo own e wr (Kd.V_mk (Kd.N_reads' HN.out).2.1 (Kd.N_F HN.out)) gb).mono ?_; rintro ex w3 ⟨vO, rfl, hO, hb3⟩; refine ⟨_, rfl, ?_⟩; obtain ⟨AO, cO, rfl⟩ := Kd.R_slice hO; have hO := Aside0.mk hO; have hb3 := Aside0.mk hb3; have hgw3 := Aside0.mk (blk_below HGb.out hb3.out); have hcw0 : w3.cell? ⟨g, 0, none⟩ = some (.slice Ab xb.length cb) := (blk_cell hgw3.out 0).trans rfl; have hcw1 : w3.cell? ⟨g, 1, none⟩ = some (.bool false) := (blk_cell hgw3.out 1).trans rfl))
                go_ret2
                exact ⟨.slice none 0 0, rfl, Kd.V_nil _ _ _ _ _, below_step HB.out hb3.out⟩
        · rw [if_neg c2] at H
          have c2b : decide (n ≤ 8) = false := decide_eq_false c2
          cases xd with
          | true =>
            unfold block_Parse.fin at H
            replace H := Option.bind_eq_some_iff.mp H
            obtain ⟨⟨own, e⟩, gb, H⟩ := H
            dsimp only at H
            rw [if_neg (by simp)] at H
            simp only [Option.some.injEq, Prod.mk.injEq] at H
            obtain ⟨rfl, rfl⟩ := H
            go_wp2_with (((with_reducible refine gate_callee (f := 9) rfl ?_); refine goesL_ (some 59) rfl rfl Try.func9 (by kernel_rfl) rfl #[.slice Ao xo.length co] rfl (by (try simp only [List.map_toArray, List.map_cons, List.map_nil]); first | done | rfl) ?_; refine (block_Build.calls k1 (fun k_ => w.heap.size ≤ k_ ∧ k_ ≠ g) Ao co xo own e wr (Kd.V_mk (Kd.N_reads' HN.out).2.1 (Kd.N_F HN.out)) gb).mono ?_; rintro ex w3 ⟨vO, rfl, hO, hb3⟩; refine ⟨_, rfl, ?_⟩; obtain ⟨AO, cO, rfl⟩ := Kd.R_slice hO; have hO := Aside0.mk hO; have hb3 := Aside0.mk hb3; have hgw3 := Aside0.mk (blk_below HGb.out hb3.out); have hcw0 : w3.cell? ⟨g, 0, none⟩ = some (.slice Ab xb.length cb) := (blk_cell hgw3.out 0).trans rfl; have hcw1 : w3.cell? ⟨g, 1, none⟩ = some (.bool true) := (blk_cell hgw3.out 1).trans rfl))
            go_ret2
            exact ⟨.slice none 0 0, rfl, Kd.V_nil _ _ _ _ _, below_step HB.out hb3.out⟩
          | false =>
            unfold block_Parse.fin at H
            replace H := Option.bind_eq_some_iff.mp H
            obtain ⟨⟨own, e⟩, gb, H⟩ := H
            dsimp only at H
            rw [if_pos rfl] at H
            by_cases he : e = 0
            · rw [if_pos he] at H
              have he1 : (e == 0) = true := by simp [he]
              have he2 : (e != 0) = false := by simp [he]
              clear he
              by_cases hl4 : xb.length = 4
              · rw [if_pos hl4] at H
                have hm1 : ((xb.length : Int) == 4) = true := by simp [hl4]
                have hm2 : ((xb.length : Int) != 4) = false := by simp [hl4]
                have HL4 := Aside0.mk hl4; clear hl4
                replace H := Option.bind_eq_some_iff.mp H
                obtain ⟨eq, geq, H⟩ := H
                by_cases hq : eq = true
                · subst hq
                  rw [if_pos rfl] at H
                  simp only [Option.some.injEq, Prod.mk.injEq] at H
                  obtain ⟨rfl, rfl⟩ := H
                  go_wp2_with (first
                    | ((with_reducible refine gate_callee (f := 9) rfl ?_); refine goesL_ (some 59) rfl rfl Try.func9 (by kernel_rfl) rfl #[.slice Ao xo.length co] rfl (by (try simp only [List.map_toArray, List.map_cons, List.map_nil]); first | done | rfl) ?_; refine (block_Build.calls k1 (fun k_ => w.heap.size ≤ k_ ∧ k_ ≠ g) Ao co xo own e wr (Kd.V_mk (Kd.N_reads' HN.out).2.1 (Kd.N_F HN.out)) gb).mono ?_; rintro ex w3 ⟨vO, rfl, hO, hb3⟩; refine ⟨_, rfl, ?_⟩; obtain ⟨AO, cO, rfl⟩ := Kd.R_slice hO; have hO := Aside0.mk hO; have hb3 := Aside0.mk hb3; have hgw3 := Aside0.mk (blk_below HGb.out hb3.out); have hcw0 : w3.cell? ⟨g, 0, none⟩ = some (.slice Ab xb.length cb) := (blk_cell hgw3.out 0).trans rfl; have hcw1 : w3.cell? ⟨g, 1, none⟩ = some (.bool false) := (blk_cell hgw3.out 1).trans rfl)
                    | (go_at_call 34; refine (bytes_Equal.calls AO cO own A0 c0 l0 true _ (Kd.R_reads' hO.out).2.2 (Kd.R_reads' hO.out).2.1 (Kd.C_below HR0.out (below_step HB.out hb3.out)) HC0.out geq).mono ?_; rintro ex w4 ⟨rfl, ⟨nd, rfl⟩⟩))
                  go_ret2
                  exact ⟨.slice Ao xo.length co, rfl, Kd.V_mk (Kd.N_reads' HN.out).2.1 (Kd.F_mono (Kd.F_drewN (Kd.F_below (Kd.N_F HN.out) hb3.out) _) (fun k_ hk => hk.1)), pw_below_drewN (below_step HB.out hb3.out) _⟩
                · replace hq := Bool.eq_false_iff.mpr hq
                  subst hq
                  rw [if_neg (by simp)] at H
                  simp only [Option.some.injEq, Prod.mk.injEq] at H
                  obtain ⟨rfl, rfl⟩ := H
                  go_wp2_with (first
                    | ((with_reducible refine gate_callee (f := 9) rfl ?_); refine goesL_ (some 59) rfl rfl Try.func9 (by kernel_rfl) rfl #[.slice Ao xo.length co] rfl (by (try simp only [List.map_toArray, List.map_cons, List.map_nil]); first | done | rfl) ?_; refine (block_Build.calls k1 (fun k_ => w.heap.size ≤ k_ ∧ k_ ≠ g) Ao co xo own e wr (Kd.V_mk (Kd.N_reads' HN.out).2.1 (Kd.N_F HN.out)) gb).mono ?_; rintro ex w3 ⟨vO, rfl, hO, hb3⟩; refine ⟨_, rfl, ?_⟩; obtain ⟨AO, cO, rfl⟩ := Kd.R_slice hO; have hO := Aside0.mk hO; have hb3 := Aside0.mk hb3; have hgw3 := Aside0.mk (blk_below HGb.out hb3.out); have hcw0 : w3.cell? ⟨g, 0, none⟩ = some (.slice Ab xb.length cb) := (blk_cell hgw3.out 0).trans rfl; have hcw1 : w3.cell? ⟨g, 1, none⟩ = some (.bool false) := (blk_cell hgw3.out 1).trans rfl)
                    | (go_at_call 34; refine (bytes_Equal.calls AO cO own A0 c0 l0 false _ (Kd.R_reads' hO.out).2.2 (Kd.R_reads' hO.out).2.1 (Kd.C_below HR0.out (below_step HB.out hb3.out)) HC0.out geq).mono ?_; rintro ex w4 ⟨rfl, ⟨nd, rfl⟩⟩))
                  go_ret2
                  exact ⟨.slice none 0 0, rfl, Kd.V_nil _ _ _ _ _, pw_below_drewN (below_step HB.out hb3.out) _⟩
              · rw [if_neg hl4] at H
                have hm0 : ¬ ((xb.length : Int) = 4) := by omega
                have hm1 : ((xb.length : Int) == 4) = false := by simpa using hm0
                have hm2 : ((xb.length : Int) != 4) = true := by simpa using hm0
                clear hl4 hm0
                simp only [Option.some.injEq, Prod.mk.injEq] at H
                obtain ⟨rfl, rfl⟩ := H
                go_wp2_with (((with_reducible refine gate_callee (f := 9) rfl ?_); refine goesL_ (some 59) rfl rfl Try.func9 (by kernel_rfl) rfl #[.slice Ao xo.length co] rfl (by (try simp only [List.map_toArray, List.map_cons, List.map_nil]); first | done | rfl) ?_; refine (block_Build.calls k1 (fun k_ => w.heap.size ≤ k_ ∧ k_ ≠ g) Ao co xo own e wr (Kd.V_mk (Kd.N_reads' HN.out).2.1 (Kd.N_F HN.out)) gb).mono ?_; rintro ex w3 ⟨vO, rfl, hO, hb3⟩; refine ⟨_, rfl, ?_⟩; obtain ⟨AO, cO, rfl⟩ := Kd.R_slice hO; have hO := Aside0.mk hO; have hb3 := Aside0.mk hb3; have hgw3 := Aside0.mk (blk_below HGb.out hb3.out); have hcw0 : w3.cell? ⟨g, 0, none⟩ = some (.slice Ab xb.length cb) := (blk_cell hgw3.out 0).trans rfl; have hcw1 : w3.cell? ⟨g, 1, none⟩ = some (.bool false) := (blk_cell hgw3.out 1).trans rfl))
                go_ret2
                exact ⟨.slice none 0 0, rfl, Kd.V_nil _ _ _ _ _, below_step HB.out hb3.out⟩
            · rw [if_neg he] at H
              have he1 : (e == 0) = false := by simp [he]
              have he2 : (e != 0) = true := by simp [he]
              clear he
              simp only [Option.some.injEq, Prod.mk.injEq] at H
              obtain ⟨rfl, rfl⟩ := H
              go_wp2_with (((with_reducible refine gate_callee (f := 9) rfl ?_); refine goesL_ (some 59) rfl rfl Try.func9 (by kernel_rfl) rfl #[.slice Ao xo.length co] rfl (by (try simp only [List.map_toArray, List.map_cons, List.map_nil]); first | done | rfl) ?_; refine (block_Build.calls k1 (fun k_ => w.heap.size ≤ k_ ∧ k_ ≠ g) Ao co xo own e wr (Kd.V_mk (Kd.N_reads' HN.out).2.1 (Kd.N_F HN.out)) gb).mono ?_; rintro ex w3 ⟨vO, rfl, hO, hb3⟩; refine ⟨_, rfl, ?_⟩; obtain ⟨AO, cO, rfl⟩ := Kd.R_slice hO; have hO := Aside0.mk hO; have hb3 := Aside0.mk hb3; have hgw3 := Aside0.mk (blk_below HGb.out hb3.out); have hcw0 : w3.cell? ⟨g, 0, none⟩ = some (.slice Ab xb.length cb) := (blk_cell hgw3.out 0).trans rfl; have hcw1 : w3.cell? ⟨g, 1, none⟩ = some (.bool false) := (blk_cell hgw3.out 1).trans rfl))
              go_ret2
              exact ⟨.slice none 0 0, rfl, Kd.V_nil _ _ _ _ _, below_step HB.out hb3.out⟩
      · rw [if_neg c1] at H
        have c1b : decide (0 < n) = false := decide_eq_false c1
        cases xd with
        | true =>
          unfold block_Parse.fin at H
          replace H := Option.bind_eq_some_iff.mp H
          obtain ⟨⟨own, e⟩, gb, H⟩ := H
          dsimp only at H
          rw [if_neg (by simp)] at H
          simp only [Option.some.injEq, Prod.mk.injEq] at H
          obtain ⟨rfl, rfl⟩ := H
          go_wp2_with (((with_reducible refine gate_callee (f := 9) rfl ?_); refine goesL_ (some 59) rfl rfl Try.func9 (by kernel_rfl) rfl #[.slice Ao xo.length co] rfl (by (try simp only [List.map_toArray, List.map_cons, List.map_nil]); first | done | rfl) ?_; refine (block_Build.calls k1 (fun k_ => w.heap.size ≤ k_ ∧ k_ ≠ g) Ao co xo own e wr (Kd.V_mk (Kd.N_reads' HN.out).2.1 (Kd.N_F HN.out)) gb).mono ?_; rintro ex w3 ⟨vO, rfl, hO, hb3⟩; refine ⟨_, rfl, ?_⟩; obtain ⟨AO, cO, rfl⟩ := Kd.R_slice hO; have hO := Aside0.mk hO; have hb3 := Aside0.mk hb3; have hgw3 := Aside0.mk (blk_below HGb.out hb3.out); have hcw0 : w3.cell? ⟨g, 0, none⟩ = some (.slice Ab xb.length cb) := (blk_cell hgw3.out 0).trans rfl; have hcw1 : w3.cell? ⟨g, 1, none⟩ = some (.bool true) := (blk_cell hgw3.out 1).trans rfl))
          go_ret2
          exact ⟨.slice none 0 0, rfl, Kd.V_nil _ _ _ _ _, below_step HB.out hb3.out⟩
        | false =>
          unfold block_Parse.fin at H
          replace H := Option.bind_eq_some_iff.mp H
          obtain ⟨⟨own, e⟩, gb, H⟩ := H
          dsimp only at H
          rw [if_pos rfl] at H
          by_cases he : e = 0
          · rw [if_pos he] at H
            have he1 : (e == 0) = true := by simp [he]
            have he2 : (e != 0) = false := by simp [he]
            clear he
            by_cases hl4 : xb.length = 4
            · rw [if_pos hl4] at H
              have hm1 : ((xb.length : Int) == 4) = true := by simp [hl4]
              have hm2 : ((xb.length : Int) != 4) = false := by simp [hl4]
              have HL4 := Aside0.mk hl4; clear hl4
              replace H := Option.bind_eq_some_iff.mp H
              obtain ⟨eq, geq, H⟩ := H
              by_cases hq : eq = true
              · subst hq
                rw [if_pos rfl] at H
                simp only [Option.some.injEq, Prod.mk.injEq] at H
                obtain ⟨rfl, rfl⟩ := H
                go_wp2_with (first
                  | ((with_reducible refine gate_callee (f := 9) rfl ?_); refine goesL_ (some 59) rfl rfl Try.func9 (by kernel_rfl) rfl #[.slice Ao xo.length co] rfl (by (try simp only [List.map_toArray, List.map_cons, List.map_nil]); first | done | rfl) ?_; refine (block_Build.calls k1 (fun k_ => w.heap.size ≤ k_ ∧ k_ ≠ g) Ao co xo own e wr (Kd.V_mk (Kd.N_reads' HN.out).2.1 (Kd.N_F HN.out)) gb).mono ?_; rintro ex w3 ⟨vO, rfl, hO, hb3⟩; refine ⟨_, rfl, ?_⟩; obtain ⟨AO, cO, rfl⟩ := Kd.R_slice hO; have hO := Aside0.mk hO; have hb3 := Aside0.mk hb3; have hgw3 := Aside0.mk (blk_below HGb.out hb3.out); have hcw0 : w3.cell? ⟨g, 0, none⟩ = some (.slice Ab xb.length cb) := (blk_cell hgw3.out 0).trans rfl; have hcw1 : w3.cell? ⟨g, 1, none⟩ = some (.bool false) := (blk_cell hgw3.out 1).trans rfl)
                  | (go_at_call 34; refine (bytes_Equal.calls AO cO own A0 c0 l0 true _ (Kd.R_reads' hO.out).2.2 (Kd.R_reads' hO.out).2.1 (Kd.C_below HR0.out (below_step HB.out hb3.out)) HC0.out geq).mono ?_; rintro ex w4 ⟨rfl, ⟨nd, rfl⟩⟩))
                go_ret2
                exact ⟨.slice Ao xo.length co, rfl, Kd.V_mk (Kd.N_reads' HN.out).2.1 (Kd.F_mono (Kd.F_drewN (Kd.F_below (Kd.N_F HN.out) hb3.out) _) (fun k_ hk => hk.1)), pw_below_drewN (below_step HB.out hb3.out) _⟩
              · replace hq := Bool.eq_false_iff.mpr hq
                subst hq
                rw [if_neg (by simp)] at H
                simp only [Option.some.injEq, Prod.mk.injEq] at H
                obtain ⟨rfl, rfl⟩ := H
                go_wp2_with (first
                  | ((with_reducible refine gate_callee (f := 9) rfl ?_); refine goesL_ (some 59) rfl rfl Try.func9 (by kernel_rfl) rfl #[.slice Ao xo.length co] rfl (by (try simp only [List.map_toArray, List.map_cons, List.map_nil]); first | done | rfl) ?_; refine (block_Build.calls k1 (fun k_ => w.heap.size ≤ k_ ∧ k_ ≠ g) Ao co xo own e wr (Kd.V_mk (Kd.N_reads' HN.out).2.1 (Kd.N_F HN.out)) gb).mono ?_; rintro ex w3 ⟨vO, rfl, hO, hb3⟩; refine ⟨_, rfl, ?_⟩; obtain ⟨AO, cO, rfl⟩ := Kd.R_slice hO; have hO := Aside0.mk hO; have hb3 := Aside0.mk hb3; have hgw3 := Aside0.mk (blk_below HGb.out hb3.out); have hcw0 : w3.cell? ⟨g, 0, none⟩ = some (.slice Ab xb.length cb) := (blk_cell hgw3.out 0).trans rfl; have hcw1 : w3.cell? ⟨g, 1, none⟩ = some (.bool false) := (blk_cell hgw3.out 1).trans rfl)
                  | (go_at_call 34; refine (bytes_Equal.calls AO cO own A0 c0 l0 false _ (Kd.R_reads' hO.out).2.2 (Kd.R_reads' hO.out).2.1 (Kd.C_below HR0.out (below_step HB.out hb3.out)) HC0.out geq).mono ?_; rintro ex w4 ⟨rfl, ⟨nd, rfl⟩⟩))
                go_ret2
                exact ⟨.slice none 0 0, rfl, Kd.V_nil _ _ _ _ _, pw_below_drewN (below_step HB.out hb3.out) _⟩
            · rw [if_neg hl4] at H
              have hm0 : ¬ ((xb.length : Int) = 4) := by omega
              have hm1 : ((xb.length : Int) == 4) = false := by simpa using hm0
              have hm2 : ((xb.length : Int) != 4) = true := by simpa using hm0
              clear hl4 hm0
              simp only [Option.some.injEq, Prod.mk.injEq] at H
              obtain ⟨rfl, rfl⟩ := H
              go_wp2_with (((with_reducible refine gate_callee (f := 9) rfl ?_); refine goesL_ (some 59) rfl rfl Try.func9 (by kernel_rfl) rfl #[.slice Ao xo.length co] rfl (by (try simp only [List.map_toArray, List.map_cons, List.map_nil]); first | done | rfl) ?_; refine (block_Build.calls k1 (fun k_ => w.heap.size ≤ k_ ∧ k_ ≠ g) Ao co xo own e wr (Kd.V_mk (Kd.N_reads' HN.out).2.1 (Kd.N_F HN.out)) gb).mono ?_; rintro ex w3 ⟨vO, rfl, hO, hb3⟩; refine ⟨_, rfl, ?_⟩; obtain ⟨AO, cO, rfl⟩ := Kd.R_slice hO; have hO := Aside0.mk hO; have hb3 := Aside0.mk hb3; have hgw3 := Aside0.mk (blk_below HGb.out hb3.out); have hcw0 : w3.cell? ⟨g, 0, none⟩ = some (.slice Ab xb.length cb) := (blk_cell hgw3.out 0).trans rfl; have hcw1 : w3.cell? ⟨g, 1, none⟩ = some (.bool false) := (blk_cell hgw3.out 1).trans rfl))
              go_ret2
              exact ⟨.slice none 0 0, rfl, Kd.V_nil _ _ _ _ _, below_step HB.out hb3.out⟩
          · rw [if_neg he] at H
            have he1 : (e == 0) = false := by simp [he]
            have he2 : (e != 0) = true := by simp [he]
            clear he
            simp only [Option.some.injEq, Prod.mk.injEq] at H
            obtain ⟨rfl, rfl⟩ := H
            go_wp2_with (((with_reducible refine gate_callee (f := 9) rfl ?_); refine goesL_ (some 59) rfl rfl Try.func9 (by kernel_rfl) rfl #[.slice Ao xo.length co] rfl (by (try simp only [List.map_toArray, List.map_cons, List.map_nil]); first | done | rfl) ?_; refine (block_Build.calls k1 (fun k_ => w.heap.size ≤ k_ ∧ k_ ≠ g) Ao co xo own e wr (Kd.V_mk (Kd.N_reads' HN.out).2.1 (Kd.N_F HN.out)) gb).mono ?_; rintro ex w3 ⟨vO, rfl, hO, hb3⟩; refine ⟨_, rfl, ?_⟩; obtain ⟨AO, cO, rfl⟩ := Kd.R_slice hO; have hO := Aside0.mk hO; have hb3 := Aside0.mk hb3; have hgw3 := Aside0.mk (blk_below HGb.out hb3.out); have hcw0 : w3.cell? ⟨g, 0, none⟩ = some (.slice Ab xb.length cb) := (blk_cell hgw3.out 0).trans rfl; have hcw1 : w3.cell? ⟨g, 1, none⟩ = some (.bool false) := (blk_cell hgw3.out 1).trans rfl))
            go_ret2
            exact ⟨.slice none 0 0, rfl, Kd.V_nil _ _ _ _ _, below_step HB.out hb3.out⟩


end Go.Proofs.Ytkebeiillddboaa.Px
