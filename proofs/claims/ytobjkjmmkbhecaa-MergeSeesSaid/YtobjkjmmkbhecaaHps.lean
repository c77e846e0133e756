/- Rows of rows of which the last one grows. Conditions: those of each theorem. -/
import Derived.Test.YtobjkjmmkbhecaaCore
import Derived.Test.YtobjkjmmkbhecaaMF
import Derived.Test.YtobjkjmmkbhecaaPx0
import Derived.Test.YtobjkjmmkbhecaaSpecA
import Derived.Test.YtobjkjmmkbhecaaME
namespace Go.Proofs.Ytobjkjmmkbhecaa.Sk
open Go.RowKit Go.Proofs.YtobjkjmmkbhecaaW.PrintWords Go.Proofs.YtobjkjmmkbhecaaW.PrintLast Go.Proofs.YtobjkjmmkbhecaaW.PrintMore Go.Proofs.Ytobjkjmmkbhecaa.Px Go.Proofs.Ytobjkjmmkbhecaa.Sw
set_option linter.unusedVariables false
set_option linter.unusedSimpArgs false

section
variable {P : Program} {ops : Array Oper} {Q : Exit → Act → World → Prop} {rest : List Oper} {o : Oper} {a : Act}
theorem row_event {W : World} (hgd : o.guard = none) {N : Tmp} (_hd : o.dst = some N) {cs : Array Value} {t : TypeId} {n : Nat}
  (hrun : (execOp a.eval o).run P W = .ok (.value (.slice (some ⟨W.heap.size, 0, none⟩) n n)) (W.alloc (.cells cs t (0, 0))))
  (h : ∀ g, g = W.heap.size → ∀ w1, w1.heap[g]? = some (.cells cs t (0, 0)) → Below W.heap.size W w1 → wpList P ops Q rest (a.put o.dst (.slice (some ⟨g, 0, none⟩) n n)) w1) : wpList P ops Q (o :: rest) a W :=
 Kd.event_run hgd hrun (h _ rfl _ (blk_new W _) (below_alloc (Below.refl _ _) _))
end
/-- What a row of rows leads to: what is older than the last one's begin is only read, the last one is the call's own. -/
structure Pcs (w : World) (B T : Nat) (ob : Option Nat) (rows : List (List Value)) (X : List (List S36)) : Prop where
 len : rows.length = X.length
 lo : B ≤ T
 hi : T ≤ w.heap.size
 old : ∀ j x c, j + 1 < X.length → X[j]? = some x → rows[j]? = some c → Kd.FK (Kd.slice 36 k36) w (fun k => k < T ∧ some k ≠ ob) x c
 last : ∀ j x c, j + 1 = X.length → X[j]? = some x → rows[j]? = some c → ∃ u, c = [u] ∧ Kd.N k36 36 w T (fun k => some k ≠ ob) u x
section
variable {w w1 w2 wc : World} {B T : Nat} {ob : Option Nat} {rows : List (List Value)} {X : List (List S36)}
theorem Pcs.nil (w : World) (ob : Option Nat) {B : Nat} (h : B ≤ w.heap.size) : Pcs w B w.heap.size ob [] [] := ⟨rfl, h, Nat.le_refl _, fun j x c h => by simp at h, fun j x c h => by simp at h⟩
theorem Pcs.below (h : Pcs w B T ob rows X) (hb : Below w.heap.size w w1) : Pcs w1 B T ob rows X :=
 ⟨h.len, h.lo, Nat.le_trans h.hi hb.size, fun j x c h1 h2 h3 => Kd.FK_below (h.old j x c h1 h2 h3) hb, fun j x c h1 h2 h3 => by
  obtain ⟨u, hu, hn⟩ := h.last j x c h1 h2 h3
  exact ⟨u, hu, Kd.N_below hn hb⟩⟩
/-- All of it, only read. -/
theorem Pcs.closed (h : Pcs w B T ob rows X) {j : Nat} {x : List S36} {c : List Value} (hx : X[j]? = some x) (hc : rows[j]? = some c) : Kd.FK (Kd.slice 36 k36) w (fun k => k < w.heap.size ∧ some k ≠ ob) x c := by
 have hj := (List.getElem?_eq_some_iff.1 hx).1
 by_cases h1 : j + 1 < X.length
 ·
  exact Kd.FK_mono (h.old j x c h1 hx hc) (fun k hk => ⟨Nat.lt_of_lt_of_le hk.1 h.hi, hk.2⟩)
 ·
  obtain ⟨u, rfl, hn⟩ := h.last j x c (by omega) hx hc
  obtain ⟨A, n, rfl⟩ := Kd.N_slice hn
  exact Kd.FK_slice_mk (Kd.N_reads' hn).2.1 (Kd.F_mono (Kd.F_bound (Kd.N_F hn)) (fun k hk => ⟨hk.2, hk.1⟩))
/-- A row of rows as one that is only read. -/
theorem Pcs.toN {ok ok' : Nat → Prop} {v : Value} (h : Pcs w B T v.ownBlock rows X) (hN : Kd.N (Kd.raw 1) 24 w B ok v rows) (hok : ∀ k, k < w.heap.size → ok' k) : Kd.N (Kd.slice 36 k36) 24 w B ok' v X := by
 have hlt := Kd.N_lt hN
 obtain ⟨h0, rows2, hl, hR, hf⟩ := hN
 refine ⟨fun k hk => hok k (hlt k hk), rows2, by rw [hl, h.len], hR, fun j x c hx hc => ?_⟩
 have hj2 := (List.getElem?_eq_some_iff.1 hc).1
 have hj : j < rows.length := by omega
 have hr : rows[j]? = some rows[j] := List.getElem?_eq_getElem hj
 have hK : c = rows[j] := (Kd.FK_now (hf j rows[j] c hr hc)).1
 exact Kd.FK_mono (h.closed hx (by rw [hr, hK])) (fun k hk => ⟨hok k hk.1, hk.2⟩)
/-- A row more. -/
theorem Pcs.push {ob1 : Option Nat} {okU : Nat → Prop} {u : Value} {p : List S36} (h : Pcs w B T ob rows X) (hb : Below w.heap.size w wc) (hu : Kd.N k36 36 wc w.heap.size okU u p) (hU : ∀ k, okU k → some k ≠ ob) (hg : wc.grownBy w1 ob) (hat : ob1 = ob ∨ ∃ b, ob1 = some b ∧ wc.heap.size ≤ b) :
  Pcs w1 B w.heap.size ob1 (rows ++ [[u]]) (X ++ [p]) := by
 have hne : ∀ k, k < wc.heap.size → some k ≠ ob → some k ≠ ob1 := by
  intro k hk hko he
  rcases hat with e | ⟨b, e, hbk⟩
  ·
   exact hko (by rw [← e]; exact he)
  ·
   rw [e] at he; injection he with he; omega
 refine ⟨by simp [h.len], Nat.le_trans h.lo h.hi, Nat.le_trans hb.size hg.size, fun j x c h1 h2 h3 => ?_, fun j x c h1 h2 h3 => ?_⟩
 ·
  have hj : j < X.length := by simp at h1; omega
  rw [List.getElem?_append_left hj] at h2
  rw [List.getElem?_append_left (by rw [h.len]; exact hj)] at h3
  refine Kd.FK_mono (Kd.FK_grown (Kd.FK_below (h.closed h2 h3) hb) hg (fun k hk => hk.2)) (fun k hk => ⟨hk.1, hne k (Nat.lt_of_lt_of_le hk.1 hb.size) hk.2⟩)
 ·
  have hj : j = X.length := by simp at h1; omega
  subst hj
  rw [List.getElem?_append_right (Nat.le_refl _), Nat.sub_self] at h2
  rw [List.getElem?_append_right (by rw [h.len]; exact Nat.le_refl _), h.len, Nat.sub_self] at h3
  injection h2 with h2
  injection h3 with h3
  subst h2; subst h3
  exact ⟨u, rfl, Kd.N_mono (Kd.N_grown (Kd.N_mono (ok' := fun k => some k ≠ ob ∧ k < wc.heap.size) (Kd.N_bound hu) (fun k hk => ⟨hU k hk.1, hk.2⟩)) hg (fun k hk => hk.1)) (fun k hk => hne k hk.2 hk.1)⟩
/-- The last one has grown, and is laid where it was. -/
theorem Pcs.grown {okN : Nat → Prop} {u u1 : Value} {X0 : List (List S36)} {rows0 : List (List Value)} {x y : List S36} (h : Pcs w B T ob (rows0 ++ [[u]]) (X0 ++ [x])) (hb : Below w.heap.size w wc) (hbase : ∀ k, u.ownBlock = some k → T ≤ k) (hg : wc.grownBy w1 u.ownBlock) (hu : Kd.N k36 36 w1 T okN u1 y) (hN : ∀ k, okN k → some k ≠ ob) (hg2 : w1.grownBy w2 ob) :
  Pcs w2 B T ob (rows0 ++ [[u1]]) (X0 ++ [y]) := by
 have hl : rows0.length = X0.length := by have := h.len; simp at this; exact this
 refine ⟨by simp [hl], h.lo, Nat.le_trans h.hi (Nat.le_trans hb.size (Nat.le_trans hg.size hg2.size)), fun j x' c h1 h2 h3 => ?_, fun j x' c h1 h2 h3 => ?_⟩
 ·
  have hj : j < X0.length := by simp at h1; omega
  rw [List.getElem?_append_left hj] at h2
  rw [List.getElem?_append_left (by rw [hl]; exact hj)] at h3
  have := h.old j x' c (by simp; omega) (by rw [List.getElem?_append_left hj]; exact h2) (by rw [List.getElem?_append_left (by rw [hl]; exact hj)]; exact h3)
  exact Kd.FK_grown (Kd.FK_grown (Kd.FK_below this hb) hg (fun k hk he => by have := hbase k he.symm; have := hk.1; omega)) hg2 (fun k hk => hk.2)
 ·
  have hj : j = X0.length := by simp at h1; omega
  subst hj
  rw [List.getElem?_append_right (Nat.le_refl _), Nat.sub_self] at h2
  rw [List.getElem?_append_right (by rw [hl]; exact Nat.le_refl _), hl, Nat.sub_self] at h3
  injection h2 with h2
  injection h3 with h3
  subst h2; subst h3
  exact ⟨u1, rfl, Kd.N_grown (Kd.N_mono hu hN) hg2 (fun k hk => hk)⟩
/-- The last one, out of the row. -/
theorem Pcs.open_ {X0 : List (List S36)} {x : List S36} (h : Pcs w B T ob rows (X0 ++ [x])) : ∃ rows0 A c, rows = rows0 ++ [[.slice A x.length c]] ∧ rows0.length = X0.length ∧ x.length ≤ c ∧ Kd.N k36 36 w T (fun k => some k ≠ ob) (.slice A x.length c) x := by
 have hl := h.len
 rw [List.length_append] at hl
 obtain ⟨r0, c, rfl⟩ : ∃ r0 c, rows = r0 ++ [c] := by
  rcases List.eq_nil_or_concat rows with e | ⟨r0, c, e⟩
  ·
   subst e; simp at hl
  ·
   exact ⟨r0, c, by rw [e, List.concat_eq_append]⟩
 have hl0 : r0.length = X0.length := by simpa using hl
 obtain ⟨u, rfl, hn⟩ := h.last X0.length x c (by simp) (by simp) (by rw [← hl0]; simp)
 obtain ⟨A, n, rfl⟩ := Kd.N_slice hn
 exact ⟨r0, A, n, rfl, hl0, (Kd.N_reads' hn).2.1, hn⟩
theorem raw_cell {ok : Nat → Prop} {ad : Addr} {n cap : Nat} {u : Value} (h : Kd.N (Kd.raw 1) 24 w B ok (.slice (some ad) n cap) rows) {j : Nat} (hr : rows[j]? = some [u]) : w.cell? (ad.add j) = some u := by
 have hn := (Kd.N_reads' h).1
 have hj := (List.getElem?_eq_some_iff.1 hr).1
 obtain ⟨c, hcl, hFK, hcc⟩ := Kd.N_get h ([] : List Value) (j : Int) (by omega) (by omega)
 rw [Int.toNat_natCast, List.getD_eq_getElem?_getD, hr] at hFK
 have hK : c = [u] := (Kd.FK_now hFK).1
 subst hK
 have h1 := hcc 0 _ rfl
 have hsz : (Kd.raw 1).sz = 1 := rfl
 rw [Int.toNat_natCast, hsz, Nat.mul_one, Nat.add_zero] at h1
 exact h1
theorem FK_raw1 {W : World} {ok : Nat → Prop} {u : Value} (h : u.oneCell' = true) : Kd.FK (Kd.raw 1) W ok [u] [u] := fun W' hW => ⟨rfl, rfl, fun v hv => by rw [List.mem_singleton.1 hv]; exact h⟩
theorem rows1 {W : World} {okF : Nat → Prop} {g : Nat} {A : Option Addr} {c : Nat} {xa : List S36} (hg : W.heap[g]? = some (.cells #[.slice A xa.length c] 24 (0, 0))) (la : xa.length ≤ c) (ha : Kd.F k36 W okF A xa.length xa) :
  Rows W okF (some ⟨g, 0, none⟩) [xa] := by
 intro i xs hi
 match i, hi with
 | 0, hi =>
  obtain rfl := Option.some.inj hi
  exact ⟨_, A, c, rfl, (blk_cell hg 0).trans rfl, la, ha⟩
 | (j + 1), hi => cases hi
end
end Go.Proofs.Ytobjkjmmkbhecaa.Sk
