/- slices.Sort and slices.Compact at a row of numbers of the call's own. Conditions: those of each theorem. -/
import Derived.Test.YtobjkjmmkbhecaaPx0
import Derived.Test.YtobjkjmmkbhecaaHsl
import Derived.Test.YtobjkjmmkbhecaaME
namespace Go.Proofs.Ytobjkjmmkbhecaa.Sk
open Go.RowKit Go.Proofs.YtobjkjmmkbhecaaW.PrintWords Go.Proofs.Ytobjkjmmkbhecaa.Px
open Go.Sort (putRow Holds grow putCells mapBlock)
set_option linter.unusedVariables false
set_option linter.unusedSimpArgs false
theorem encI (x : Int) : (Value.int .i64 x).oneCell' = true := rfl
theorem put_heap {w : World} {g : Nat} {cur : Array Value} {e : TypeId} (hh : w.heap[g]? = some (.cells cur e (0, 0))) (d : Array Int) (q : Nat) (os : Array Obj) :
  (grow (putRow (Value.int .i64) (Go.Sort.ahead w q) g 0 d) os).heap[g]? = some (.cells (putCells (Value.int .i64) 0 d cur) e (0, 0)) ∧ Kept w (grow (putRow (Value.int .i64) (Go.Sort.ahead w q) g 0 d) os) (fun k => k = g) := by
 have hl : g < w.heap.size := blk_lt hh
 have hk : ∀ k, k < w.heap.size → (grow (putRow (Value.int .i64) (Go.Sort.ahead w q) g 0 d) os).heap[k]? = (w.heap.modify g (Go.Sort.onCells (putCells (Value.int .i64) 0 d)))[k]? := by
  intro k hk
  rw [Go.Sort.heap_grow_old _ _ (by simpa using hk)]
  rfl
 refine ⟨?_, by simp, fun k hlt hne => ?_⟩
 ·
  rw [hk g hl, Array.getElem?_modify, if_pos rfl, hh]
  rfl
 ·
  rw [hk k hlt, Array.getElem?_modify, if_neg (fun h => hne h.symm)]
theorem take_put {cur : Array Value} (d : List Int) (h : d.length ≤ cur.size) : (putCells (Value.int .i64) 0 d.toArray cur).toList.take d.length = encs (Value.int .i64) d := by
 apply List.ext_getElem?
 intro j
 by_cases hj : j < d.length
 ·
  rw [List.getElem?_take, if_pos hj, Array.getElem?_toList]
  unfold putCells encs
  rw [Array.getElem?_mapIdx, Array.getElem?_eq_getElem (by omega), List.getElem?_map, List.getElem?_eq_getElem hj]
  simp only [Option.map_some]
  rw [if_pos ⟨Nat.zero_le _, by simpa using hj⟩]
  simp [hj]
 ·
  rw [List.getElem?_eq_none (by simp; omega), List.getElem?_eq_none (by rw [encs_length]; omega)]
theorem holds_R {w : World} {base n cap g : Nat} {ok : Nat → Prop} {zs : List Int} (h : Kd.R (Kd.int .i64) 3 w base ok (.slice (some ⟨g, 0, none⟩) n cap) zs) : Holds (Value.int .i64) w g 0 zs.toArray := by
 intro j hj
 have hj : j < zs.length := by simpa using hj
 have hn := (Kd.R_reads' h).1
 obtain ⟨c, hcl, hM, hcc, hfr⟩ := Kd.R_elem h (0 : Int) (j : Int) (by omega) (by omega)
 rw [Int.toNat_natCast] at hM hcc hfr
 have hM : c = [Value.int .i64 (zs.getD j 0)] := hM
 have hsz : (Kd.int .i64).sz = 1 := rfl
 rw [hsz, Nat.mul_one] at hcc hfr
 subst hM
 have h1 := hcc 0 _ rfl
 have h2 := hfr 0
 rw [Nat.add_zero] at h1 h2
 refine ⟨?_, by rw [Nat.zero_add]; exact h2⟩
 rw [Nat.zero_add, h1, List.getD_eq_getElem?_getD, List.getElem?_eq_getElem hj]
 simp [hj]
/-- What is left of a row of the call's own where its first cells were written. -/
theorem R_putRow {w : World} {base n cap g : Nat} {ok : Nat → Prop} {zs : List Int} (h : Kd.R (Kd.int .i64) 3 w base ok (.slice (some ⟨g, 0, none⟩) n cap) zs) (d ys : List Int) (hd : d.length = n) (m : Nat) (hm : m ≤ n) (hy : ys = d.take m) (q : Nat) (os : Array Obj) :
  Kd.R (Kd.int .i64) 3 (grow (putRow (Value.int .i64) (Go.Sort.ahead w q) g 0 d.toArray) os) base ok (.slice (some ⟨g, 0, none⟩) m cap) ys ∧ Kept w (grow (putRow (Value.int .i64) (Go.Sort.ahead w q) g 0 d.toArray) os) (fun k => k = g) := by
 have hn := (Kd.R_reads' h).1
 have ho := Kd.own_of_R h
 obtain ⟨h1, h2⟩ := ho
 rcases h2 with ⟨hv, _⟩ | ⟨g', cap', cur, hv, hb, hh, hnc, hcm, hcs, ht⟩
 ·
  cases hv
 injection hv with ha hn' hc
 injection ha with ha
 injection ha with hg
 subst hg; subst hc
 obtain ⟨p1, p2⟩ := put_heap hh d.toArray q os
 refine ⟨?_, p2⟩
 have hml : ys.length = m := by rw [hy, List.length_take]; omega
 refine Kd.R_of_own (h1 := encI) ⟨?_, .inr ⟨g, cap, _, by rw [hml], hb, p1, by omega, hcm, ?_, ?_⟩⟩ (fun k hk => h.1 k (by rw [← hk]; rfl))
 ·
  rw [encs_length, Nat.mul_one]
 ·
  rw [← hcs]; simp [putCells]
 ·
  have e := take_put (cur := cur) d (by omega)
  rw [Nat.mul_one, hml, hy]
  have : (encs (Value.int .i64) d).take m = encs (Value.int .i64) (d.take m) := by unfold encs; rw [List.map_take]
  rw [← this, ← e, List.take_take, Nat.min_eq_left (by omega)]
theorem sortR_calls {w0 w : World} {P0 : Nat → Prop} {u : Value} {l : List Int} (hB : Below w0.heap.size w0 w) (ho : Kd.R (Kd.int .i64) 3 w w0.heap.size P0 u l) (h0 : 0 < l.length) (h1 : l.length ≤ 1000000000000) :
  Calls Try.prog 53 #[u] w fun e w' => e = .returned (.tuple #[]) ∧ Kd.R (Kd.int .i64) 3 w' w0.heap.size (fun k => (P0 k ∨ w.heap.size ≤ k)) u (l.mergeSort fun x y => decide (x ≤ y)) ∧ Below w0.heap.size w0 w' ∧ Kept w w' (fun k => P0 k) := by
 obtain ⟨ad, c, rfl⟩ := Kd.R_slice1 ho h0
 obtain ⟨g, rfl⟩ := Kd.R_head ho
 have hlt := Kd.R_lt ho g rfl
 have hbase := Kd.R_base ho g rfl
 refine (sortI_calls g 0 c l w (holds_R ho) hlt (by omega)).mono ?_
 rintro e w' ⟨rfl, n, os, rfl⟩
 have hl : (l.mergeSort fun x y => decide (x ≤ y)).length = l.length := List.length_mergeSort _
 obtain ⟨r1, r2⟩ := R_putRow ho (l.mergeSort fun x y => decide (x ≤ y)) (l.mergeSort fun x y => decide (x ≤ y)) hl l.length (Nat.le_refl _) (by rw [← hl, List.take_length]) n os
 refine ⟨rfl, ?_, ?_, r2.mono (fun k hk => by rw [hk]; exact ho.1 g rfl)⟩
 ·
  exact Kd.R_mono r1 (fun k hk => .inl hk)
 ·
  exact ⟨hB.os, hB.tape, hB.output, Nat.le_trans hB.size r2.1, fun k hk => (r2.2 k (Nat.lt_of_lt_of_le hk hB.size) (fun he => by omega)).trans (hB.block k hk)⟩
theorem compactR_calls {w0 w : World} {P0 : Nat → Prop} {u : Value} {l : List Int} (hB : Below w0.heap.size w0 w) (ho : Kd.R (Kd.int .i64) 3 w w0.heap.size P0 u l) (h0 : 0 < l.length) (h1 : l.length ≤ 1000000000000) :
  Calls Try.prog 54 #[u] w fun e w' => ∃ v : Value, e = .returned v ∧ Kd.R (Kd.int .i64) 3 w' w0.heap.size (fun k => (P0 k ∨ w.heap.size ≤ k)) v (Lib.compact l) ∧ Below w0.heap.size w0 w' ∧ Kept w w' (fun k => P0 k) := by
 obtain ⟨ad, c, rfl⟩ := Kd.R_slice1 ho h0
 obtain ⟨g, rfl⟩ := Kd.R_head ho
 have hlt := Kd.R_lt ho g rfl
 have hbase := Kd.R_base ho g rfl
 have hcl := (Kd.R_reads' ho).2.1
 refine (compactI_calls g 0 c l w (holds_R ho) (by omega) hcl).mono ?_
 rintro e w' ⟨rfl, q, rfl⟩
 have hm : (Lib.compact l).length ≤ l.length := by
  unfold Lib.compact Lib.compactUpTo
  rw [List.length_map]
  refine Nat.le_trans (List.length_filter_le _ _) ?_
  rw [List.length_range]; exact Nat.le_refl _
 obtain ⟨r1, r2⟩ := R_putRow ho (Lib.compact l ++ List.replicate (l.length - (Lib.compact l).length) 0) (Lib.compact l) (by simp; omega) (Lib.compact l).length hm (by simp) q #[]
 rw [Go.Sort.grow_empty] at r1 r2
 refine ⟨_, rfl, ?_, ?_, r2.mono (fun k hk => by rw [hk]; exact ho.1 g rfl)⟩
 ·
  exact Kd.R_mono r1 (fun k hk => .inl hk)
 ·
  exact ⟨hB.os, hB.tape, hB.output, Nat.le_trans hB.size r2.1, fun k hk => (r2.2 k (Nat.lt_of_lt_of_le hk hB.size) (fun he => by omega)).trans (hB.block k hk)⟩
end Go.Proofs.Ytobjkjmmkbhecaa.Sk
