-- Printed by a program of ours (px) out of the translation; Lean checks it.
import Derived.Test.YtkebeiillddboaaPx0
import Derived.Test.YtkebeiillddboaaPx30
import Derived.Test.YtkebeiillddboaaPx31
import Derived.Test.YtkebeiillddboaaPx33
import Derived.Test.YtkebeiillddboaaPx34
namespace Go.Proofs.Ytkebeiillddboaa.Px
open Go.RowKit Go.Proofs.YtkebeiillddboaaW.PrintWords Go.Proofs.YtkebeiillddboaaW.PrintLast Go.Proofs.YtkebeiillddboaaW.PrintMore
attribute [local go_sem] max2_int min2_int max_two min_two max_three min_three max_four min_four   -- for this text's walks alone
set_option linter.unusedVariables false
set_option linter.unusedSimpArgs false
set_option linter.unnecessarySimpa false

/-! ### sawyerref08_Parse: function 15 -/
section
open Go.Proofs.YtkebeiillddboaaW.PrintWords.Kd
variable {P : Program} {ops : Array Oper} {rest : List Oper} {o : Oper} {a : Act} {Q : Exit → Act → World → Prop} {α : Type}
theorem N_appendx (d : Kd α) {w0 W : World} (base : Nat) (hgd : o.guard = none) (s x : Operand) (t e : TypeId) (z : Value) (bytes : Nat)
    (ho : o.op = .call { callee := .builtin .append, args := #[s, x], argTypes := #[t, t] })
    (ht : P.underlying t = some (.slice e)) (hinfo : (P.info? e).map (fun i => (i.zero, i.size, i.bytes)) = some (some z, d.sz, bytes)) (hz : z.cells.size = d.sz) (hs0 : 0 < d.sz) (hb0 : 0 < bytes)
    (v : Value) (xs : List α) (p : α) (cs : List Value) (ok okp : Nat → Prop) (hs : a.eval s = v) (hx : a.eval x = .slice (some ⟨W.heap.size, 0, none⟩) 1 1) (hp : FK d W okp p cs) (hokp : ∀ k, okp k → ok k ∧ some k ≠ v.ownBlock) (hfresh : ∀ k, W.heap.size ≤ k → ok k)
    (HO : N d e W base ok v xs) (HB : Below base w0 W) (hbase : base ≤ W.heap.size) (hl : (xs.length + 1) * bytes ≤ 140737488355328)
    (h : ∀ v1 w1, N d e w1 base ok v1 (xs ++ [p]) → Below base w0 w1 → W.grownBy w1 v.ownBlock → (v1.ownBlock = v.ownBlock ∨ ∃ b, v1.ownBlock = some b ∧ W.heap.size ≤ b) → wpList P ops Q rest (a.put o.dst v1) w1) :
    wpList P ops Q (o :: rest) a (W.alloc (.cells cs.toArray e)) := by
  obtain ⟨h0, rows, hlr, hR, hf⟩ := HO
  refine R_append (raw d.sz) base hgd s x t e z bytes ho ht hinfo hz hs0 hb0 v rows cs cs (fun _ => True) (fun _ => False) hs hx (FK_raw hp) (fun _ hk => hk.elim) (fun _ _ => trivial) (raw_any hR) HB hbase (by rw [hlr]; exact hl) ?_
  intro v1 w1 hr hb hg hat
  exact h v1 w1 (N_appended h0 hlr hf (ys := [p]) (news := [cs]) rfl (fun j y c hy hc => by
    rcases j with _ | j
    · simp only [List.getElem?_cons_zero, Option.some.injEq] at hy hc
      rw [← hy, ← hc]; exact hp
    · simp at hy) hokp hfresh hr hg hat) hb hg hat
end

def sawyerref08_Parse.fin (k : Nat) (out : List S38) (l : List Int) : Option (List S38 × Int) :=
  (sawyerref08_Build.f k out).bind fun t => if t.2 = 0 then ((sawyerref02_Same.f t.1 l).bind fun e => (if e = true then some (out, 0) else some ([], 2))) else some ([], 2)
def sawyerref08_Parse.l0 : Nat → List S38 → List Int → Int → Int → List Int → List Int → Option (List S38 × Int)
  | 0, _, _, _, _, _, _ => none
  | k + 1, out, last, n, i, rest, l =>
    if i < n then
      (sawyerref02_TakeNum.f k rest).bind fun t1 => (sawyerref02_TakeText.f k t1.2.1 64).bind fun t2 => (sawyerref02_TakeNum.f k t2.2.1).bind fun t3 => (sawyerref02_TakeText.f k t3.2.1 1024).bind fun t4 =>
        if t1.2.2 = 0 then (if t2.2.2 = 0 then (if t3.2.2 = 0 then (if t4.2.2 = 0 then (if t1.1 ≤ (last.length : Int) then
          (if 0 ≤ t1.1 then (if (last.take t1.1.toNat).length + t2.1.size ≤ 140737488355327 ∧ t4.1.size ≤ 140737488355328 ∧ out.length < 1000000000 then
            sawyerref08_Parse.l0 k (out ++ [(⟨last.take t1.1.toNat ++ bytesOf t2.1, wrap64 (Int.tdiv t3.1 2), (Int.tmod t3.1 2 == 1), bytesOf t4.1⟩ : S38)]) (last.take t1.1.toNat ++ bytesOf t2.1) n (wrap64 (i + 1)) t4.2.1 l else none) else none)
          else some ([], 2)) else some ([], 2)) else some ([], 2)) else some ([], 2)) else some ([], 2)
    else sawyerref08_Parse.fin k out l
def sawyerref08_Parse.f (k : Nat) (l0 : List Int) : Option (List S38 × Int) := (sawyerref02_TakeNum.f k l0).bind fun t => if t.2.2 = 0 then (if t.1 ≤ 8 then sawyerref08_Parse.l0 k [] [] t.1 0 t.2.1 l0 else some ([], 2)) else some ([], 2)
theorem sawyerref08_Parse.monoFin (out : List S38) (l : List Int) (k : Nat) : LeO (sawyerref08_Parse.fin k out l) (sawyerref08_Parse.fin (k + 1) out l) := by
  unfold sawyerref08_Parse.fin
  repeat' first
      | (with_reducible exact sawyerref08_Build.mono _ _)
      | (with_reducible exact LeO.refl _)
      | (with_reducible refine LeO.ite ?_ ?_)
      | (with_reducible refine LeO.bind ?_ (fun _ => ?_))
theorem sawyerref08_Parse.mono_l : ∀ k, (∀ y0 y1 y2 y3 y4 y5, LeO (sawyerref08_Parse.l0 k y0 y1 y2 y3 y4 y5) (sawyerref08_Parse.l0 (k + 1) y0 y1 y2 y3 y4 y5))
  | 0 => fun _ _ _ _ _ _ r h => by simp [sawyerref08_Parse.l0] at h
  | k + 1 => by
    have ih0 := sawyerref08_Parse.mono_l k
    intro y0 y1 y2 y3 y4 y5
    unfold sawyerref08_Parse.l0
    repeat' first
      | (with_reducible exact ih0 _ _ _ _ _ _)
      | (with_reducible exact sawyerref08_Parse.monoFin _ _ _)
      | (with_reducible exact sawyerref02_TakeNum.mono _ _)
      | (with_reducible exact sawyerref02_TakeText.mono _ _ _)
      | (with_reducible exact LeO.refl _)
      | (with_reducible refine LeO.ite ?_ ?_)
      | (with_reducible refine LeO.bind ?_ (fun _ => ?_))
theorem sawyerref08_Parse.mono : ∀ a0 k, LeO (sawyerref08_Parse.f k a0) (sawyerref08_Parse.f (k + 1) a0) := by
  intro a0 k
  have ih0 := sawyerref08_Parse.mono_l k
  unfold sawyerref08_Parse.f
  repeat' first
      | (with_reducible exact ih0 _ _ _ _ _ _)
      | (with_reducible exact sawyerref02_TakeNum.mono _ _)
      | (with_reducible exact LeO.refl _)
      | (with_reducible refine LeO.ite ?_ ?_)
      | (with_reducible refine LeO.bind ?_ (fun _ => ?_))

set_option maxHeartbeats 8000000 in
set_option maxRecDepth 100000 in
theorem sawyerref08_Parse.calls (k : Nat) (A0 : Option Addr) (c0 : Nat) (l0 : List Int) (r1 : List S38) (r2 : Int) (w : World) (hr0 : Kd.C (Kd.int .u8) w A0 l0.length l0) (hc0 : l0.length ≤ c0) (h : sawyerref08_Parse.f k l0 = some (r1, r2)) :
    Calls Try.prog 15 #[.slice A0 l0.length c0] w fun e w' => ∃ v0_ : Value, e = .returned (.tuple #[v0_, .int .i64 r2]) ∧ Kd.V k38 38 w' w.heap.size (fun k_ => (w.heap.size ≤ k_)) v0_ r1 ∧ Below w.heap.size w w' := by
  have hu38 := Try.underlying38
  obtain ⟨i0, hi0, _, hsz0, _⟩ := info_parts info5
  unfold sawyerref08_Parse.f at h
  replace h := Option.bind_eq_some_iff.mp h
  obtain ⟨⟨n, b1, e1⟩, h1, H⟩ := h
  dsimp only at H
  have HR0 := Aside0.mk hr0; have HC0 := Aside0.mk hc0; clear hr0 hc0
  by_cases c_e1 : e1 = 0
  · rw [if_pos c_e1] at H
    have hee1a : (e1 == 0) = true := by simp [c_e1]
    have hee1b : (e1 != 0) = false := by simp [c_e1]
    clear c_e1
    
    by_cases c8 : n ≤ 8
    · rw [if_pos c8] at H
      have c8b : decide (8 < n) = false := decide_eq_false (by omega)
      have H := Aside0.mk H
      go_enter Try.func15, Try.ntmps15
      go_wp2_with ((with_reducible refine gate_callee (f := 35) rfl ?_); refine goesL_ (some 26) rfl rfl Try.func35 (by kernel_rfl) rfl #[.slice A0 l0.length c0] rfl (by (try simp only [List.map_toArray, List.map_cons, List.map_nil]); first | done | rfl) ?_; refine (sawyerref02_TakeNum.calls k _ _ l0 n b1 e1 _ HR0.out HC0.out h1).mono ?_; rintro ex w2 ⟨v2, rfl, ho, hb⟩; refine ⟨_, rfl, ?_⟩; obtain ⟨A2, c2, rfl⟩ := Kd.R_slice ho; have HO_w2 := Aside0.mk (Kd.F_mono (Kd.R_F (Kd.R_bound ho)) (fun _ hk => hk.2.1)); have HL_w2 := Aside0.mk (Kd.R_reads' ho).2.1; have HB_w2 := Aside0.mk hb; clear ho hb)
      go_loopg [5, 7, 8, 9] k (fun kq v5 v7 v8 v9 w' => ∃ (xo : List S38) (xl xr : List Int) (i : Int) (A8 : Option Addr) (c8 : Nat) (Ar : Option Addr) (cr : Nat), v8 = .slice A8 xl.length c8 ∧ v5 = .slice Ar xr.length cr ∧ v9 = .int .i64 i ∧ Aside0 (sawyerref08_Parse.l0 kq xo xl n i xr l0 = some (r1, r2)) ∧ Aside0 (kq ≤ k) ∧ Aside0 (Kd.N k38 38 w' w.heap.size (fun k_ => w.heap.size ≤ k_) v7 xo) ∧ Aside0 (Kd.F (Kd.int .u8) w' (fun k_ => w.heap.size ≤ k_) A8 xl.length xl) ∧ Aside0 (xl.length ≤ c8) ∧ Aside0 (Kd.F (Kd.int .u8) w' (fun k_ => w.heap.size ≤ k_) Ar xr.length xr) ∧ Aside0 (xr.length ≤ cr) ∧ Aside0 (Below w.heap.size w w'))
      case atStart => exact ⟨[], [], b1, 0, none, 0, A2, c2, rfl, rfl, rfl, H, ⟨Nat.le_refl _⟩, ⟨Kd.N_nil _ _ _ _ _⟩, ⟨Kd.F_nil _ _ _⟩, ⟨Nat.le_refl _⟩, HO_w2, HL_w2, HB_w2⟩
      case round =>
        clear H HO_w2 HL_w2 HB_w2
        obtain ⟨xo, xl, xr, i, A8, c8, Ar, cr, rfl, rfl, rfl, HA, HK1, HN, HL, HLc, HR, HRc, HB⟩ := hrel
        obtain ⟨Ao, co, rfl⟩ := Kd.N_slice HN.out
        cases gk with
        | zero => exact absurd HA.out (by simp [sawyerref08_Parse.l0])
        | succ k1 =>
          have H := HA.out
          clear HA
          simp only [sawyerref08_Parse.l0] at H
          by_cases c1 : i < n
          · rw [if_pos c1] at H
            have c1b : decide (i < n) = true := decide_eq_true c1
            clear c1
            replace H := Option.bind_eq_some_iff.mp H
            obtain ⟨⟨n1, b1, e1⟩, g1, H⟩ := H
            replace H := Option.bind_eq_some_iff.mp H
            obtain ⟨⟨s1, b2, e2⟩, g2, H⟩ := H
            replace H := Option.bind_eq_some_iff.mp H
            obtain ⟨⟨q, b3, e3⟩, g3, H⟩ := H
            replace H := Option.bind_eq_some_iff.mp H
            obtain ⟨⟨s2, b4, e4⟩, g4, H⟩ := H
            dsimp only at H
            by_cases c_e1 : e1 = 0
            · rw [if_pos c_e1] at H
              have hee1a : (e1 == 0) = true := by simp [c_e1]
              have hee1b : (e1 != 0) = false := by simp [c_e1]
              clear c_e1
              by_cases c_e2 : e2 = 0
              · rw [if_pos c_e2] at H
                have hee2a : (e2 == 0) = true := by simp [c_e2]
                have hee2b : (e2 != 0) = false := by simp [c_e2]
                clear c_e2
                by_cases c_e3 : e3 = 0
                · rw [if_pos c_e3] at H
                  have hee3a : (e3 == 0) = true := by simp [c_e3]
                  have hee3b : (e3 != 0) = false := by simp [c_e3]
                  clear c_e3
                  by_cases c_e4 : e4 = 0
                  · rw [if_pos c_e4] at H
                    have hee4a : (e4 == 0) = true := by simp [c_e4]
                    have hee4b : (e4 != 0) = false := by simp [c_e4]
                    clear c_e4
                    by_cases hn : n1 ≤ (xl.length : Int)
                    · rw [if_pos hn] at H
                      have hnb : decide ((xl.length : Int) < n1) = false := decide_eq_false (by omega)
                      by_cases hn0 : 0 ≤ n1
                      · rw [if_pos hn0] at H
                        by_cases hs : (xl.take n1.toNat).length + s1.size ≤ 140737488355327 ∧ s2.size ≤ 140737488355328 ∧ xo.length < 1000000000
                        · rw [if_pos hs] at H
                          obtain ⟨y0, hy0⟩ : ∃ y_ : List Int, y_ = xl.take n1.toNat := ⟨_, rfl⟩
                          have hlt : y0.length = n1.toNat := by rw [hy0, List.length_take]; omega
                          rw [← hy0] at H hs
                          obtain ⟨y1, hy1⟩ : ∃ y_ : List Int, y_ = y0 ++ bytesOf s1 := ⟨_, rfl⟩
                          obtain ⟨y2, hy2⟩ : ∃ y_ : List Int, y_ = bytesOf s2 := ⟨_, rfl⟩
                          rw [← hy1, ← hy2] at H
                          have hcut := cut_to (P := Try.prog) 24 5 .i64 Try.underlying24 hi0 A8 xl.length c8 n1 hn0 hn HLc.out
                          rw [← hlt] at hcut
                          have HY0 := Aside0.mk hy0; have HY1 := Aside0.mk hy1; have HY2 := Aside0.mk hy2
                          have HLT0 := Aside0.mk hs.1
                          have HLY := Aside0.mk hlt; clear hlt hy0 hy1 hy2
                          have H := Aside0.mk H
                          have HLT := Aside0.mk (Kd.N_lt HN.out)
                          go_wp2_with (first
                            | ((with_reducible refine gate_callee (f := 35) rfl ?_); refine goesL_ (some 43) rfl rfl Try.func35 (by kernel_rfl) rfl #[.slice Ar xr.length cr] rfl (by (try simp only [List.map_toArray, List.map_cons, List.map_nil]); first | done | rfl) ?_; refine (sawyerref02_TakeNum.calls k1 _ _ xr n1 b1 e1 _ (Kd.F_now HR.out) HRc.out g1).mono ?_; rintro ex w2 ⟨v2, rfl, ho, hb⟩; refine ⟨_, rfl, ?_⟩; obtain ⟨A2, c2, rfl⟩ := Kd.R_slice ho; have HO_w2 := Aside0.mk (Kd.F_mono (Kd.R_F (Kd.R_bound ho)) (fun _ hk => hk.2.1)); have HL_w2 := Aside0.mk (Kd.R_reads' ho).2.1; have HB_w2 := Aside0.mk hb; clear ho hb)
                            | ((with_reducible refine gate_callee (f := 36) rfl ?_); refine goesL_ (some 49) rfl rfl Try.func36 (by kernel_rfl) rfl #[.slice A2 b1.length c2, .int .i64 64] rfl (by (try simp only [List.map_toArray, List.map_cons, List.map_nil]); first | done | rfl) ?_; refine (sawyerref02_TakeText.calls k1 _ _ b1 64 s1 b2 e2 _ (Kd.F_now HO_w2.out) HL_w2.out g2).mono ?_; rintro ex w3 ⟨v3, rfl, ho, hb⟩; refine ⟨_, rfl, ?_⟩; obtain ⟨A3, c3, rfl, hl⟩ := Kd.Q_slice ho; have HO_w3 := Aside0.mk (Kd.F_mono (Kd.Q_F (Kd.Q_bound ho)) (fun _ hk => hk.2.1)); have HL_w3 := Aside0.mk hl; have HB_w3 := Aside0.mk hb; clear ho hb hl)
                            | ((with_reducible refine gate_callee (f := 35) rfl ?_); refine goesL_ (some 55) rfl rfl Try.func35 (by kernel_rfl) rfl #[.slice A3 b2.length c3] rfl (by (try simp only [List.map_toArray, List.map_cons, List.map_nil]); first | done | rfl) ?_; refine (sawyerref02_TakeNum.calls k1 _ _ b2 q b3 e3 _ (Kd.F_now HO_w3.out) HL_w3.out g3).mono ?_; rintro ex w4 ⟨v4, rfl, ho, hb⟩; refine ⟨_, rfl, ?_⟩; obtain ⟨A4, c4, rfl⟩ := Kd.R_slice ho; have HO_w4 := Aside0.mk (Kd.F_mono (Kd.R_F (Kd.R_bound ho)) (fun _ hk => hk.2.1)); have HL_w4 := Aside0.mk (Kd.R_reads' ho).2.1; have HB_w4 := Aside0.mk hb; clear ho hb)
                            | ((with_reducible refine gate_callee (f := 36) rfl ?_); refine goesL_ (some 61) rfl rfl Try.func36 (by kernel_rfl) rfl #[.slice A4 b3.length c4, .int .i64 1024] rfl (by (try simp only [List.map_toArray, List.map_cons, List.map_nil]); first | done | rfl) ?_; refine (sawyerref02_TakeText.calls k1 _ _ b3 1024 s2 b4 e4 _ (Kd.F_now HO_w4.out) HL_w4.out g4).mono ?_; rintro ex w5 ⟨v5, rfl, ho, hb⟩; refine ⟨_, rfl, ?_⟩; obtain ⟨A5, c5, rfl, hl⟩ := Kd.Q_slice ho; have HO_w5 := Aside0.mk (Kd.F_mono (Kd.Q_F (Kd.Q_bound ho)) (fun _ hk => hk.2.1)); have HL_w5 := Aside0.mk hl; have HB_w5 := Aside0.mk hb; clear ho hb hl)
                            | ((with_reducible refine gate_dst (N := 85) rfl ?_); have HB5 := Aside0.mk (below_step (below_step (below_step HB_w2.out HB_w3.out) HB_w4.out) HB_w5.out); have HN5 := Aside0.mk (Kd.N_below (Kd.N_bound HN.out) HB5.out); have HL5 := Aside0.mk (Kd.F_below HL.out HB5.out); have HBW := Aside0.mk (below_step HB.out HB5.out); refine Kd.R_lit (Kd.int .u8) _ 5 ?hg (N := 85) ?hd (xs := ([] : List Int)) (inner := []) (ok := fun _ => True) (okp := fun _ => True) ?hr ?hp (fun _ hk => hk) trivial (Below.refl _ _) (Nat.le_refl _) (by simp) ?_; (case hd => rfl); (case hg => rfl); (case hr => first | (go_simp; done) | (go_simp; rfl)); (case hp => exact (Reps.none _ _)); intro v6 w6 ho6 hb6 hg_ hnew_; clear hg_ hnew_; obtain ⟨z0, hz0⟩ : ∃ z_ : List Int, z_ = [] := ⟨_, rfl⟩; rw [← hz0] at ho6; have HZ0 := Aside0.mk hz0; clear hz0; have HO6 := Aside0.mk ho6; have HB6 := Aside0.mk hb6; clear ho6 hb6)
                            | ((with_reducible refine gate_builtin (b := .append) (xs := #[.tmp 85, .tmp 88]) rfl ?_); at_builtin; refine Kd.R_append_rows (Kd.int .u8) (w0 := w5) w5.heap.size rfl (.tmp 85) (.tmp 88) 24 5 (.int .u8 0) 1 rfl Try.underlying24 info5 rfl (by decide) (by omega) v6 z0 y0 _ _ _ (fun _ => True) (fun _ => False) rfl rfl ?aO ?aR (fun _ _ h => h) (fun _ h => h.elim) ?aF ?aB ?aS ?aL ?_; (case aR => rw [HY0.out]; exact Kd.C_take (m := n1.toNat) (Kd.C_below (Kd.F_now HL5.out) HB6.out) (by omega)); (case aB => exact HB6.out); (case aF => exact fun _ _ => trivial); (case aO => exact HO6.out); (case aS => exact HB6.out.size); (case aL => have h1 := HLT0.out; rw [HZ0.out]; simp; omega); intro v7 w7 ho7 hb7 hgr7 hat7; rw [HZ0.out, List.nil_append] at ho7; have HO7 := Aside0.mk ho7; have HB7 := Aside0.mk hb7; clear ho7 hb7 hgr7 hat7)
                            | ((with_reducible refine gate_builtin (b := .append) (xs := #[.tmp 89, .tmp 90]) rfl ?_); at_builtin; refine Kd.R_append_str (w0 := w5) w5.heap.size rfl (.tmp 89) _ 24 9 5 rfl Try.underlying24 Try.underlying9 info5 v7 y0 s1 (fun _ => True) rfl rfl ?aO ?aF ?aB ?aS ?aL ?_; (case aB => exact HB7.out); (case aF => exact fun _ _ => trivial); (case aO => exact HO7.out); (case aS => exact HB7.out.size); (case aL => have h1 := HLT0.out; omega); intro v8 w8 ho8 hb8 hgr8 hat8; rw [← HY1.out] at ho8; obtain ⟨A8', c8', rfl⟩ := Kd.R_slice ho8; have HFk := Aside0.mk (Kd.F_mono (Kd.R_F (Kd.R_bound ho8)) (fun _ hk => hk.2.1)); have HLk := Aside0.mk (Kd.R_reads' ho8).2.1; have HB8 := Aside0.mk hb8; clear ho8 hb8 hgr8 hat8)
                            | ((with_reducible refine gate_dst (N := 100) rfl ?_); refine Kd.V_bytes _ 5 ?hg (N := 100) ?hd s2 (ok := fun k_ => w8.heap.size ≤ k_) hs.2.1 ?hr (fun _ h_ => h_) (Below.refl _ _) (Nat.le_refl _) ?_; (case hd => rfl); (case hg => rfl); (case hr => show Sem.run Try.prog (do let v_ ← convert 9 24 (.string s2); pure (Next.value v_)) _ = _; rw [Sem.run_bind, print_bytes 9 24 5 Try.underlying9 Try.underlying24 Try.underlying5]; rfl); intro v9 w9 ho9 hb9 hg9 hown9; clear hg9 hown9; rw [← HY2.out] at ho9; obtain ⟨A9, c9, rfl, hl9, hf9⟩ := ho9; have HF9 := Aside0.mk hf9; have HL9 := Aside0.mk hl9; have HB9 := Aside0.mk (below_step HB8.out hb9); have hb9 := Aside0.mk hb9; clear hf9 hl9)
                            | ((with_reducible refine gate_builtin (b := .append) (xs := #[.tmp 92, .tmp 102]) rfl ?_); at_builtin; refine N_appendx k38 (w0 := w) w.heap.size rfl (.tmp 92) (.tmp 102) 22 38 (.agg #[(.slice none 0 0), (.int .i64 0), (.bool false), (.slice none 0 0)]) 64 rfl Try.underlying22 info38 rfl (by decide) (by omega) (.slice Ao xo.length co) xo (⟨y1, wrap64 (Int.tdiv q 2), (Int.tmod q 2 == 1), y2⟩ : S38) [.slice A8' y1.length c8', .int .i64 (wrap64 (Int.tdiv q 2)), .bool (Int.tmod q 2 == 1), .slice A9 y2.length c9] (fun k_ => w.heap.size ≤ k_) (fun k_ => w5.heap.size ≤ k_) rfl (by first | rfl | (go_simp; done) | (go_simp; rfl)) ?aP ?aH ?aF ?aO ?aB ?aS ?aL ?_; (case aP => exact k38_mkF _ _ (⟨y1, wrap64 (Int.tdiv q 2), (Int.tmod q 2 == 1), y2⟩ : S38) HLk.out (Kd.F_below HFk.out hb9.out) HL9.out (Kd.F_mono HF9.out (fun k_ hk => by have h1 := HB8.out.size; omega))); (case aH => exact fun k_ hk => ⟨by have h1 := HBW.out.size; omega, fun he => by have h1 := HLT.out k_ he.symm; have h2 := HB5.out.size; omega⟩); (case aF => exact fun k_ hk => by have h1 := (below_step HBW.out HB9.out).size; omega); (case aO => exact Kd.N_mono (Kd.N_below HN5.out HB9.out) (fun k_ hk => hk.1)); (case aB => exact below_step HBW.out HB9.out); (case aS => exact (below_step HBW.out HB9.out).size); (case aL => have h1 := hs.2.2; omega); intro v10 w10 hn10 hb10 hgr10 hat10; have HN10 := Aside0.mk hn10; have HB10 := Aside0.mk hb10; have HG10 := Aside0.mk hgr10; clear hn10 hb10 hgr10 hat10))
                          go_roundg k1
                          case measure => omega
                          case rel =>
                            have hfr : ∀ k_, wr.heap.size ≤ k_ → some k_ ≠ (Value.slice Ao xo.length co).ownBlock := fun k_ hk he => by have h1 := HLT.out k_ he.symm; omega
                            have hw5 := HB5.out.size
                            have hw4 : wr.heap.size ≤ w4.heap.size := (below_step (below_step HB_w2.out HB_w3.out) HB_w4.out).size
                            exact ⟨xo ++ [(⟨y1, wrap64 (Int.tdiv q 2), (Int.tmod q 2 == 1), y2⟩ : S38)], y1, b4, (wrap64 (i + 1)), A8', c8', A5, c5, rfl, rfl, rfl, H, ⟨Nat.le_of_succ_le HK1.out⟩, HN10, ⟨Kd.F_mono (Kd.F_grown (Kd.F_below HFk.out hb9.out) HG10.out (fun k_ hk => hfr k_ (by omega))) (fun k_ hk => by have h1 := HBW.out.size; omega)⟩, HLk, ⟨Kd.F_mono (Kd.F_grown (Kd.F_below HO_w5.out HB9.out) HG10.out (fun k_ hk => hfr k_ (by omega))) (fun k_ hk => by have h1 := HB.out.size; omega)⟩, HL_w5, HB10⟩
                        · rw [if_neg hs] at H
                          cases H
                      · rw [if_neg hn0] at H
                        cases H
                    · rw [if_neg hn] at H
                      have hnb : decide ((xl.length : Int) < n1) = true := decide_eq_true (by omega)
                      simp only [Option.some.injEq, Prod.mk.injEq] at H
                      obtain ⟨rfl, rfl⟩ := H
                      go_wp2_with (first
                        | ((with_reducible refine gate_callee (f := 35) rfl ?_); refine goesL_ (some 43) rfl rfl Try.func35 (by kernel_rfl) rfl #[.slice Ar xr.length cr] rfl (by (try simp only [List.map_toArray, List.map_cons, List.map_nil]); first | done | rfl) ?_; refine (sawyerref02_TakeNum.calls k1 _ _ xr n1 b1 e1 _ (Kd.F_now HR.out) HRc.out g1).mono ?_; rintro ex w2 ⟨v2, rfl, ho, hb⟩; refine ⟨_, rfl, ?_⟩; obtain ⟨A2, c2, rfl⟩ := Kd.R_slice ho; have HO_w2 := Aside0.mk (Kd.F_mono (Kd.R_F (Kd.R_bound ho)) (fun _ hk => hk.2.1)); have HL_w2 := Aside0.mk (Kd.R_reads' ho).2.1; have HB_w2 := Aside0.mk hb; clear ho hb)
                        | ((with_reducible refine gate_callee (f := 36) rfl ?_); refine goesL_ (some 49) rfl rfl Try.func36 (by kernel_rfl) rfl #[.slice A2 b1.length c2, .int .i64 64] rfl (by (try simp only [List.map_toArray, List.map_cons, List.map_nil]); first | done | rfl) ?_; refine (sawyerref02_TakeText.calls k1 _ _ b1 64 s1 b2 e2 _ (Kd.F_now HO_w2.out) HL_w2.out g2).mono ?_; rintro ex w3 ⟨v3, rfl, ho, hb⟩; refine ⟨_, rfl, ?_⟩; obtain ⟨A3, c3, rfl, hl⟩ := Kd.Q_slice ho; have HO_w3 := Aside0.mk (Kd.F_mono (Kd.Q_F (Kd.Q_bound ho)) (fun _ hk => hk.2.1)); have HL_w3 := Aside0.mk hl; have HB_w3 := Aside0.mk hb; clear ho hb hl)
                        | ((with_reducible refine gate_callee (f := 35) rfl ?_); refine goesL_ (some 55) rfl rfl Try.func35 (by kernel_rfl) rfl #[.slice A3 b2.length c3] rfl (by (try simp only [List.map_toArray, List.map_cons, List.map_nil]); first | done | rfl) ?_; refine (sawyerref02_TakeNum.calls k1 _ _ b2 q b3 e3 _ (Kd.F_now HO_w3.out) HL_w3.out g3).mono ?_; rintro ex w4 ⟨v4, rfl, ho, hb⟩; refine ⟨_, rfl, ?_⟩; obtain ⟨A4, c4, rfl⟩ := Kd.R_slice ho; have HO_w4 := Aside0.mk (Kd.F_mono (Kd.R_F (Kd.R_bound ho)) (fun _ hk => hk.2.1)); have HL_w4 := Aside0.mk (Kd.R_reads' ho).2.1; have HB_w4 := Aside0.mk hb; clear ho hb)
                        | ((with_reducible refine gate_callee (f := 36) rfl ?_); refine goesL_ (some 61) rfl rfl Try.func36 (by kernel_rfl) rfl #[.slice A4 b3.length c4, .int .i64 1024] rfl (by (try simp only [List.map_toArray, List.map_cons, List.map_nil]); first | done | rfl) ?_; refine (sawyerref02_TakeText.calls k1 _ _ b3 1024 s2 b4 e4 _ (Kd.F_now HO_w4.out) HL_w4.out g4).mono ?_; rintro ex w5 ⟨v5, rfl, ho, hb⟩; refine ⟨_, rfl, ?_⟩; obtain ⟨A5, c5, rfl, hl⟩ := Kd.Q_slice ho; have HO_w5 := Aside0.mk (Kd.F_mono (Kd.Q_F (Kd.Q_bound ho)) (fun _ hk => hk.2.1)); have HL_w5 := Aside0.mk hl; have HB_w5 := Aside0.mk hb; clear ho hb hl))
                      go_ret2
                      exact ⟨.slice none 0 0, rfl, Kd.V_nil _ _ _ _ _, below_step HB.out (below_step (below_step (below_step HB_w2.out HB_w3.out) HB_w4.out) HB_w5.out)⟩
                  · rw [if_neg c_e4] at H
                    have hee4a : (e4 == 0) = false := by simp [c_e4]
                    have hee4b : (e4 != 0) = true := by simp [c_e4]
                    clear c_e4
                    simp only [Option.some.injEq, Prod.mk.injEq] at H
                    obtain ⟨rfl, rfl⟩ := H
                    go_wp2_with (first
                      | ((with_reducible refine gate_callee (f := 35) rfl ?_); refine goesL_ (some 43) rfl rfl Try.func35 (by kernel_rfl) rfl #[.slice Ar xr.length cr] rfl (by (try simp only [List.map_toArray, List.map_cons, List.map_nil]); first | done | rfl) ?_; refine (sawyerref02_TakeNum.calls k1 _ _ xr n1 b1 e1 _ (Kd.F_now HR.out) HRc.out g1).mono ?_; rintro ex w2 ⟨v2, rfl, ho, hb⟩; refine ⟨_, rfl, ?_⟩; obtain ⟨A2, c2, rfl⟩ := Kd.R_slice ho; have HO_w2 := Aside0.mk (Kd.F_mono (Kd.R_F (Kd.R_bound ho)) (fun _ hk => hk.2.1)); have HL_w2 := Aside0.mk (Kd.R_reads' ho).2.1; have HB_w2 := Aside0.mk hb; clear ho hb)
                      | ((with_reducible refine gate_callee (f := 36) rfl ?_); refine goesL_ (some 49) rfl rfl Try.func36 (by kernel_rfl) rfl #[.slice A2 b1.length c2, .int .i64 64] rfl (by (try simp only [List.map_toArray, List.map_cons, List.map_nil]); first | done | rfl) ?_; refine (sawyerref02_TakeText.calls k1 _ _ b1 64 s1 b2 e2 _ (Kd.F_now HO_w2.out) HL_w2.out g2).mono ?_; rintro ex w3 ⟨v3, rfl, ho, hb⟩; refine ⟨_, rfl, ?_⟩; obtain ⟨A3, c3, rfl, hl⟩ := Kd.Q_slice ho; have HO_w3 := Aside0.mk (Kd.F_mono (Kd.Q_F (Kd.Q_bound ho)) (fun _ hk => hk.2.1)); have HL_w3 := Aside0.mk hl; have HB_w3 := Aside0.mk hb; clear ho hb hl)
                      | ((with_reducible refine gate_callee (f := 35) rfl ?_); refine goesL_ (some 55) rfl rfl Try.func35 (by kernel_rfl) rfl #[.slice A3 b2.length c3] rfl (by (try simp only [List.map_toArray, List.map_cons, List.map_nil]); first | done | rfl) ?_; refine (sawyerref02_TakeNum.calls k1 _ _ b2 q b3 e3 _ (Kd.F_now HO_w3.out) HL_w3.out g3).mono ?_; rintro ex w4 ⟨v4, rfl, ho, hb⟩; refine ⟨_, rfl, ?_⟩; obtain ⟨A4, c4, rfl⟩ := Kd.R_slice ho; have HO_w4 := Aside0.mk (Kd.F_mono (Kd.R_F (Kd.R_bound ho)) (fun _ hk => hk.2.1)); have HL_w4 := Aside0.mk (Kd.R_reads' ho).2.1; have HB_w4 := Aside0.mk hb; clear ho hb)
                      | ((with_reducible refine gate_callee (f := 36) rfl ?_); refine goesL_ (some 61) rfl rfl Try.func36 (by kernel_rfl) rfl #[.slice A4 b3.length c4, .int .i64 1024] rfl (by (try simp only [List.map_toArray, List.map_cons, List.map_nil]); first | done | rfl) ?_; refine (sawyerref02_TakeText.calls k1 _ _ b3 1024 s2 b4 e4 _ (Kd.F_now HO_w4.out) HL_w4.out g4).mono ?_; rintro ex w5 ⟨v5, rfl, ho, hb⟩; refine ⟨_, rfl, ?_⟩; obtain ⟨A5, c5, rfl, hl⟩ := Kd.Q_slice ho; have HO_w5 := Aside0.mk (Kd.F_mono (Kd.Q_F (Kd.Q_bound ho)) (fun _ hk => hk.2.1)); have HL_w5 := Aside0.mk hl; have HB_w5 := Aside0.mk hb; clear ho hb hl))
                    go_ret2
                    exact ⟨.slice none 0 0, rfl, Kd.V_nil _ _ _ _ _, below_step HB.out (below_step (below_step (below_step HB_w2.out HB_w3.out) HB_w4.out) HB_w5.out)⟩
                · rw [if_neg c_e3] at H
                  have hee3a : (e3 == 0) = false := by simp [c_e3]
                  have hee3b : (e3 != 0) = true := by simp [c_e3]
                  clear c_e3
                  simp only [Option.some.injEq, Prod.mk.injEq] at H
                  obtain ⟨rfl, rfl⟩ := H
                  go_wp2_with (first
                    | ((with_reducible refine gate_callee (f := 35) rfl ?_); refine goesL_ (some 43) rfl rfl Try.func35 (by kernel_rfl) rfl #[.slice Ar xr.length cr] rfl (by (try simp only [List.map_toArray, List.map_cons, List.map_nil]); first | done | rfl) ?_; refine (sawyerref02_TakeNum.calls k1 _ _ xr n1 b1 e1 _ (Kd.F_now HR.out) HRc.out g1).mono ?_; rintro ex w2 ⟨v2, rfl, ho, hb⟩; refine ⟨_, rfl, ?_⟩; obtain ⟨A2, c2, rfl⟩ := Kd.R_slice ho; have HO_w2 := Aside0.mk (Kd.F_mono (Kd.R_F (Kd.R_bound ho)) (fun _ hk => hk.2.1)); have HL_w2 := Aside0.mk (Kd.R_reads' ho).2.1; have HB_w2 := Aside0.mk hb; clear ho hb)
                    | ((with_reducible refine gate_callee (f := 36) rfl ?_); refine goesL_ (some 49) rfl rfl Try.func36 (by kernel_rfl) rfl #[.slice A2 b1.length c2, .int .i64 64] rfl (by (try simp only [List.map_toArray, List.map_cons, List.map_nil]); first | done | rfl) ?_; refine (sawyerref02_TakeText.calls k1 _ _ b1 64 s1 b2 e2 _ (Kd.F_now HO_w2.out) HL_w2.out g2).mono ?_; rintro ex w3 ⟨v3, rfl, ho, hb⟩; refine ⟨_, rfl, ?_⟩; obtain ⟨A3, c3, rfl, hl⟩ := Kd.Q_slice ho; have HO_w3 := Aside0.mk (Kd.F_mono (Kd.Q_F (Kd.Q_bound ho)) (fun _ hk => hk.2.1)); have HL_w3 := Aside0.mk hl; have HB_w3 := Aside0.mk hb; clear ho hb hl)
                    | ((with_reducible refine gate_callee (f := 35) rfl ?_); refine goesL_ (some 55) rfl rfl Try.func35 (by kernel_rfl) rfl #[.slice A3 b2.length c3] rfl (by (try simp only [List.map_toArray, List.map_cons, List.map_nil]); first | done | rfl) ?_; refine (sawyerref02_TakeNum.calls k1 _ _ b2 q b3 e3 _ (Kd.F_now HO_w3.out) HL_w3.out g3).mono ?_; rintro ex w4 ⟨v4, rfl, ho, hb⟩; refine ⟨_, rfl, ?_⟩; obtain ⟨A4, c4, rfl⟩ := Kd.R_slice ho; have HO_w4 := Aside0.mk (Kd.F_mono (Kd.R_F (Kd.R_bound ho)) (fun _ hk => hk.2.1)); have HL_w4 := Aside0.mk (Kd.R_reads' ho).2.1; have HB_w4 := Aside0.mk hb; clear ho hb)
                    | ((with_reducible refine gate_callee (f := 36) rfl ?_); refine goesL_ (some 61) rfl rfl Try.func36 (by kernel_rfl) rfl #[.slice A4 b3.length c4, .int .i64 1024] rfl (by (try simp only [List.map_toArray, List.map_cons, List.map_nil]); first | done | rfl) ?_; refine (sawyerref02_TakeText.calls k1 _ _ b3 1024 s2 b4 e4 _ (Kd.F_now HO_w4.out) HL_w4.out g4).mono ?_; rintro ex w5 ⟨v5, rfl, ho, hb⟩; refine ⟨_, rfl, ?_⟩; obtain ⟨A5, c5, rfl, hl⟩ := Kd.Q_slice ho; have HO_w5 := Aside0.mk (Kd.F_mono (Kd.Q_F (Kd.Q_bound ho)) (fun _ hk => hk.2.1)); have HL_w5 := Aside0.mk hl; have HB_w5 := Aside0.mk hb; clear ho hb hl))
                  go_ret2
                  exact ⟨.slice none 0 0, rfl, Kd.V_nil _ _ _ _ _, below_step HB.out (below_step (below_step (below_step HB_w2.out HB_w3.out) HB_w4.out) HB_w5.out)⟩
              · rw [if_neg c_e2] at H
                have hee2a : (e2 == 0) = false := by simp [c_e2]
                have hee2b : (e2 != 0) = true := by simp [c_e2]
                clear c_e2
                simp only [Option.some.injEq, Prod.mk.injEq] at H
                obtain ⟨rfl, rfl⟩ := H
                go_wp2_with (first
                  | ((with_reducible refine gate_callee (f := 35) rfl ?_); refine goesL_ (some 43) rfl rfl Try.func35 (by kernel_rfl) rfl #[.slice Ar xr.length cr] rfl (by (try simp only [List.map_toArray, List.map_cons, List.map_nil]); first | done | rfl) ?_; refine (sawyerref02_TakeNum.calls k1 _ _ xr n1 b1 e1 _ (Kd.F_now HR.out) HRc.out g1).mono ?_; rintro ex w2 ⟨v2, rfl, ho, hb⟩; refine ⟨_, rfl, ?_⟩; obtain ⟨A2, c2, rfl⟩ := Kd.R_slice ho; have HO_w2 := Aside0.mk (Kd.F_mono (Kd.R_F (Kd.R_bound ho)) (fun _ hk => hk.2.1)); have HL_w2 := Aside0.mk (Kd.R_reads' ho).2.1; have HB_w2 := Aside0.mk hb; clear ho hb)
                  | ((with_reducible refine gate_callee (f := 36) rfl ?_); refine goesL_ (some 49) rfl rfl Try.func36 (by kernel_rfl) rfl #[.slice A2 b1.length c2, .int .i64 64] rfl (by (try simp only [List.map_toArray, List.map_cons, List.map_nil]); first | done | rfl) ?_; refine (sawyerref02_TakeText.calls k1 _ _ b1 64 s1 b2 e2 _ (Kd.F_now HO_w2.out) HL_w2.out g2).mono ?_; rintro ex w3 ⟨v3, rfl, ho, hb⟩; refine ⟨_, rfl, ?_⟩; obtain ⟨A3, c3, rfl, hl⟩ := Kd.Q_slice ho; have HO_w3 := Aside0.mk (Kd.F_mono (Kd.Q_F (Kd.Q_bound ho)) (fun _ hk => hk.2.1)); have HL_w3 := Aside0.mk hl; have HB_w3 := Aside0.mk hb; clear ho hb hl)
                  | ((with_reducible refine gate_callee (f := 35) rfl ?_); refine goesL_ (some 55) rfl rfl Try.func35 (by kernel_rfl) rfl #[.slice A3 b2.length c3] rfl (by (try simp only [List.map_toArray, List.map_cons, List.map_nil]); first | done | rfl) ?_; refine (sawyerref02_TakeNum.calls k1 _ _ b2 q b3 e3 _ (Kd.F_now HO_w3.out) HL_w3.out g3).mono ?_; rintro ex w4 ⟨v4, rfl, ho, hb⟩; refine ⟨_, rfl, ?_⟩; obtain ⟨A4, c4, rfl⟩ := Kd.R_slice ho; have HO_w4 := Aside0.mk (Kd.F_mono (Kd.R_F (Kd.R_bound ho)) (fun _ hk => hk.2.1)); have HL_w4 := Aside0.mk (Kd.R_reads' ho).2.1; have HB_w4 := Aside0.mk hb; clear ho hb)
                  | ((with_reducible refine gate_callee (f := 36) rfl ?_); refine goesL_ (some 61) rfl rfl Try.func36 (by kernel_rfl) rfl #[.slice A4 b3.length c4, .int .i64 1024] rfl (by (try simp only [List.map_toArray, List.map_cons, List.map_nil]); first | done | rfl) ?_; refine (sawyerref02_TakeText.calls k1 _ _ b3 1024 s2 b4 e4 _ (Kd.F_now HO_w4.out) HL_w4.out g4).mono ?_; rintro ex w5 ⟨v5, rfl, ho, hb⟩; refine ⟨_, rfl, ?_⟩; obtain ⟨A5, c5, rfl, hl⟩ := Kd.Q_slice ho; have HO_w5 := Aside0.mk (Kd.F_mono (Kd.Q_F (Kd.Q_bound ho)) (fun _ hk => hk.2.1)); have HL_w5 := Aside0.mk hl; have HB_w5 := Aside0.mk hb; clear ho hb hl))
                go_ret2
                exact ⟨.slice none 0 0, rfl, Kd.V_nil _ _ _ _ _, below_step HB.out (below_step (below_step (below_step HB_w2.out HB_w3.out) HB_w4.out) HB_w5.out)⟩
            · rw [if_neg c_e1] at H
              have hee1a : (e1 == 0) = false := by simp [c_e1]
              have hee1b : (e1 != 0) = true := by simp [c_e1]
              clear c_e1
              simp only [Option.some.injEq, Prod.mk.injEq] at H
              obtain ⟨rfl, rfl⟩ := H
              go_wp2_with (first
                | ((with_reducible refine gate_callee (f := 35) rfl ?_); refine goesL_ (some 43) rfl rfl Try.func35 (by kernel_rfl) rfl #[.slice Ar xr.length cr] rfl (by (try simp only [List.map_toArray, List.map_cons, List.map_nil]); first | done | rfl) ?_; refine (sawyerref02_TakeNum.calls k1 _ _ xr n1 b1 e1 _ (Kd.F_now HR.out) HRc.out g1).mono ?_; rintro ex w2 ⟨v2, rfl, ho, hb⟩; refine ⟨_, rfl, ?_⟩; obtain ⟨A2, c2, rfl⟩ := Kd.R_slice ho; have HO_w2 := Aside0.mk (Kd.F_mono (Kd.R_F (Kd.R_bound ho)) (fun _ hk => hk.2.1)); have HL_w2 := Aside0.mk (Kd.R_reads' ho).2.1; have HB_w2 := Aside0.mk hb; clear ho hb)
                | ((with_reducible refine gate_callee (f := 36) rfl ?_); refine goesL_ (some 49) rfl rfl Try.func36 (by kernel_rfl) rfl #[.slice A2 b1.length c2, .int .i64 64] rfl (by (try simp only [List.map_toArray, List.map_cons, List.map_nil]); first | done | rfl) ?_; refine (sawyerref02_TakeText.calls k1 _ _ b1 64 s1 b2 e2 _ (Kd.F_now HO_w2.out) HL_w2.out g2).mono ?_; rintro ex w3 ⟨v3, rfl, ho, hb⟩; refine ⟨_, rfl, ?_⟩; obtain ⟨A3, c3, rfl, hl⟩ := Kd.Q_slice ho; have HO_w3 := Aside0.mk (Kd.F_mono (Kd.Q_F (Kd.Q_bound ho)) (fun _ hk => hk.2.1)); have HL_w3 := Aside0.mk hl; have HB_w3 := Aside0.mk hb; clear ho hb hl)
                | ((with_reducible refine gate_callee (f := 35) rfl ?_); refine goesL_ (some 55) rfl rfl Try.func35 (by kernel_rfl) rfl #[.slice A3 b2.length c3] rfl (by (try simp only [List.map_toArray, List.map_cons, List.map_nil]); first | done | rfl) ?_; refine (sawyerref02_TakeNum.calls k1 _ _ b2 q b3 e3 _ (Kd.F_now HO_w3.out) HL_w3.out g3).mono ?_; rintro ex w4 ⟨v4, rfl, ho, hb⟩; refine ⟨_, rfl, ?_⟩; obtain ⟨A4, c4, rfl⟩ := Kd.R_slice ho; have HO_w4 := Aside0.mk (Kd.F_mono (Kd.R_F (Kd.R_bound ho)) (fun _ hk => hk.2.1)); have HL_w4 := Aside0.mk (Kd.R_reads' ho).2.1; have HB_w4 := Aside0.mk hb; clear ho hb)
                | ((with_reducible refine gate_callee (f := 36) rfl ?_); refine goesL_ (some 61) rfl rfl Try.func36 (by kernel_rfl) rfl #[.slice A4 b3.length c4, .int .i64 1024] rfl (by (try simp only [List.map_toArray, List.map_cons, List.map_nil]); first | done | rfl) ?_; refine (sawyerref02_TakeText.calls k1 _ _ b3 1024 s2 b4 e4 _ (Kd.F_now HO_w4.out) HL_w4.out g4).mono ?_; rintro ex w5 ⟨v5, rfl, ho, hb⟩; refine ⟨_, rfl, ?_⟩; obtain ⟨A5, c5, rfl, hl⟩ := Kd.Q_slice ho; have HO_w5 := Aside0.mk (Kd.F_mono (Kd.Q_F (Kd.Q_bound ho)) (fun _ hk => hk.2.1)); have HL_w5 := Aside0.mk hl; have HB_w5 := Aside0.mk hb; clear ho hb hl))
              go_ret2
              exact ⟨.slice none 0 0, rfl, Kd.V_nil _ _ _ _ _, below_step HB.out (below_step (below_step (below_step HB_w2.out HB_w3.out) HB_w4.out) HB_w5.out)⟩
          · rw [if_neg c1] at H
            have c1b : decide (i < n) = false := decide_eq_false c1
            clear c1
            unfold sawyerref08_Parse.fin at H
            replace H := Option.bind_eq_some_iff.mp H
            obtain ⟨⟨own, e⟩, gb, H⟩ := H
            dsimp only at H
            by_cases he : e = 0
            · rw [if_pos he] at H
              have he1 : (e == 0) = true := by simp [he]
              have he2 : (e != 0) = false := by simp [he]
              clear he
              replace H := Option.bind_eq_some_iff.mp H
              obtain ⟨eq, geq, H⟩ := H
              by_cases hq : eq = true
              · subst hq
                rw [if_pos rfl] at H
                simp only [Option.some.injEq, Prod.mk.injEq] at H
                obtain ⟨rfl, rfl⟩ := H
                go_wp2_with (first
                  | ((with_reducible refine gate_callee (f := 10) rfl ?_); refine goesL_ (some 107) rfl rfl Try.func10 (by kernel_rfl) rfl #[.slice Ao xo.length co] rfl (by (try simp only [List.map_toArray, List.map_cons, List.map_nil]); first | done | rfl) ?_; refine (sawyerref08_Build.calls k1 Ao co xo own e wr (Kd.N_reads' HN.out).2.2 (Kd.N_reads' HN.out).2.1 gb).mono ?_; rintro ex w3 ⟨vO, rfl, hO, hb3⟩; refine ⟨_, rfl, ?_⟩; obtain ⟨AO, cO, rfl⟩ := Kd.R_slice hO; have hO := Aside0.mk hO; have hb3 := Aside0.mk hb3)
                  | (go_at_call 11; refine (sawyerref02_Same.calls AO cO own A0 c0 l0 true _ (Kd.R_reads' hO.out).2.2 (Kd.R_reads' hO.out).2.1 (Kd.C_below HR0.out (below_step HB.out hb3.out)) HC0.out geq).mono ?_; rintro ex w4 ⟨rfl, ⟨nd, rfl⟩⟩))
                go_ret2
                exact ⟨.slice Ao xo.length co, rfl, Kd.V_mk (Kd.N_reads' HN.out).2.1 (Kd.F_drewN (Kd.F_below (Kd.N_F HN.out) hb3.out) _), pw_below_drewN (below_step HB.out hb3.out) _⟩
              · replace hq := Bool.eq_false_iff.mpr hq
                subst hq
                rw [if_neg (by simp)] at H
                simp only [Option.some.injEq, Prod.mk.injEq] at H
                obtain ⟨rfl, rfl⟩ := H
                go_wp2_with (first
                  | ((with_reducible refine gate_callee (f := 10) rfl ?_); refine goesL_ (some 107) rfl rfl Try.func10 (by kernel_rfl) rfl #[.slice Ao xo.length co] rfl (by (try simp only [List.map_toArray, List.map_cons, List.map_nil]); first | done | rfl) ?_; refine (sawyerref08_Build.calls k1 Ao co xo own e wr (Kd.N_reads' HN.out).2.2 (Kd.N_reads' HN.out).2.1 gb).mono ?_; rintro ex w3 ⟨vO, rfl, hO, hb3⟩; refine ⟨_, rfl, ?_⟩; obtain ⟨AO, cO, rfl⟩ := Kd.R_slice hO; have hO := Aside0.mk hO; have hb3 := Aside0.mk hb3)
                  | (go_at_call 11; refine (sawyerref02_Same.calls AO cO own A0 c0 l0 false _ (Kd.R_reads' hO.out).2.2 (Kd.R_reads' hO.out).2.1 (Kd.C_below HR0.out (below_step HB.out hb3.out)) HC0.out geq).mono ?_; rintro ex w4 ⟨rfl, ⟨nd, rfl⟩⟩))
                go_ret2
                exact ⟨.slice none 0 0, rfl, Kd.V_nil _ _ _ _ _, pw_below_drewN (below_step HB.out hb3.out) _⟩
            · rw [if_neg he] at H
              have he1 : (e == 0) = false := by simp [he]
              have he2 : (e != 0) = true := by simp [he]
              clear he
              simp only [Option.some.injEq, Prod.mk.injEq] at H
              obtain ⟨rfl, rfl⟩ := H
              go_wp2_with ((with_reducible refine gate_callee (f := 10) rfl ?_); refine goesL_ (some 107) rfl rfl Try.func10 (by kernel_rfl) rfl #[.slice Ao xo.length co] rfl (by (try simp only [List.map_toArray, List.map_cons, List.map_nil]); first | done | rfl) ?_; refine (sawyerref08_Build.calls k1 Ao co xo own e wr (Kd.N_reads' HN.out).2.2 (Kd.N_reads' HN.out).2.1 gb).mono ?_; rintro ex w3 ⟨vO, rfl, hO, hb3⟩; refine ⟨_, rfl, ?_⟩; obtain ⟨AO, cO, rfl⟩ := Kd.R_slice hO; have hO := Aside0.mk hO; have hb3 := Aside0.mk hb3)
              go_ret2
              exact ⟨.slice none 0 0, rfl, Kd.V_nil _ _ _ _ _, below_step HB.out hb3.out⟩
    · rw [if_neg c8] at H
      have c8b : decide (8 < n) = true := decide_eq_true (by omega)
      simp only [Option.some.injEq, Prod.mk.injEq] at H
      obtain ⟨rfl, rfl⟩ := H
      go_enter Try.func15, Try.ntmps15
      go_wp2_with ((with_reducible refine gate_callee (f := 35) rfl ?_); refine goesL_ (some 26) rfl rfl Try.func35 (by kernel_rfl) rfl #[.slice A0 l0.length c0] rfl (by (try simp only [List.map_toArray, List.map_cons, List.map_nil]); first | done | rfl) ?_; refine (sawyerref02_TakeNum.calls k _ _ l0 n b1 e1 _ HR0.out HC0.out h1).mono ?_; rintro ex w2 ⟨v2, rfl, ho, hb⟩; refine ⟨_, rfl, ?_⟩; obtain ⟨A2, c2, rfl⟩ := Kd.R_slice ho; have HO_w2 := Aside0.mk (Kd.F_mono (Kd.R_F (Kd.R_bound ho)) (fun _ hk => hk.2.1)); have HL_w2 := Aside0.mk (Kd.R_reads' ho).2.1; have HB_w2 := Aside0.mk hb; clear ho hb)
      go_ret2
      exact ⟨.slice none 0 0, rfl, Kd.V_nil _ _ _ _ _, HB_w2.out⟩
  · rw [if_neg c_e1] at H
    have hee1a : (e1 == 0) = false := by simp [c_e1]
    have hee1b : (e1 != 0) = true := by simp [c_e1]
    clear c_e1
    
    simp only [Option.some.injEq, Prod.mk.injEq] at H
    obtain ⟨rfl, rfl⟩ := H
    go_enter Try.func15, Try.ntmps15
    go_wp2_with ((with_reducible refine gate_callee (f := 35) rfl ?_); refine goesL_ (some 26) rfl rfl Try.func35 (by kernel_rfl) rfl #[.slice A0 l0.length c0] rfl (by (try simp only [List.map_toArray, List.map_cons, List.map_nil]); first | done | rfl) ?_; refine (sawyerref02_TakeNum.calls k _ _ l0 n b1 e1 _ HR0.out HC0.out h1).mono ?_; rintro ex w2 ⟨v2, rfl, ho, hb⟩; refine ⟨_, rfl, ?_⟩; obtain ⟨A2, c2, rfl⟩ := Kd.R_slice ho; have HO_w2 := Aside0.mk (Kd.F_mono (Kd.R_F (Kd.R_bound ho)) (fun _ hk => hk.2.1)); have HL_w2 := Aside0.mk (Kd.R_reads' ho).2.1; have HB_w2 := Aside0.mk hb; clear ho hb)
    go_ret2
    exact ⟨.slice none 0 0, rfl, Kd.V_nil _ _ _ _ _, HB_w2.out⟩


end Go.Proofs.Ytkebeiillddboaa.Px
