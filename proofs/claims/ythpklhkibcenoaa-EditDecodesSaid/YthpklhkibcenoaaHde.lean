/- slices.DeleteFunc over a row. Conditions: those of each theorem. -/
import Derived.Test.YthpklhkibcenoaaCore
import Derived.Test.YthpklhkibcenoaaME
import Derived.Test.YthpklhkibcenoaaMF
import Derived.Test.YthpklhkibcenoaaPx0
import Derived.Test.YthpklhkibcenoaaSpecA
namespace Go.Proofs.Ythpklhkibcenoaa.Sk
open Go.RowKit Go.Proofs.YthpklhkibcenoaaW.PrintWords Go.Proofs.YthpklhkibcenoaaW.PrintLast Go.Proofs.YthpklhkibcenoaaW.PrintMore Go.Proofs.Ythpklhkibcenoaa.Px Go.Proofs.Ythpklhkibcenoaa.Sw
set_option linter.unusedVariables false
set_option linter.unusedSimpArgs false
theorem setsE {w : World} {g : Nat} {c0 c1 c2 c3 c4 v0 v1 v2 v3 v4 : Value} {t : TypeId} (h : w.heap[g]? = some (.cells #[c0, c1, c2, c3, c4] t (0, 0))) : (((((w.setCell ⟨g, 0, none⟩ v0).setCell ⟨g, 1, none⟩ v1).setCell ⟨g, 2, none⟩ v2).setCell ⟨g, 3, none⟩ v3).setCell ⟨g, 4, none⟩ v4).heap[g]? = some (.cells #[v0, v1, v2, v3, v4] t (0, 0)) :=
 blk_put (cs := #[v0, v1, v2, v3, c4]) (blk_put (cs := #[v0, v1, v2, c3, c4]) (blk_put (cs := #[v0, v1, c2, c3, c4]) (blk_put (cs := #[v0, c1, c2, c3, c4]) (blk_put (cs := #[c0, c1, c2, c3, c4]) (h) 0 v0 rfl) 1 v1 rfl) 2 v2 rfl) 3 v3 rfl) 4 v4 rfl
theorem zeroE (w : World) : (zeroValue 57).run Try.prog w = .ok (.agg #[.int .i64 0, .int .i64 0, .int .i64 0, .slice none 0 0, .slice none 0 0]) w := by
 obtain ⟨i0, hi0, hz0, hsz0, _⟩ := info_parts info57
 simp [zeroValue, typeInfo, hi0, hz0]
theorem zeroCells_len (z : Array Value) (n : Nat) : (Builtin.zeroCells z n).toList.length = n * z.size := by
 simp [Builtin.zeroCells]
theorem clear_N {W : World} {base cap n : Nat} {ok : Nat → Prop} {ad : Addr} {xs : List S57} (h : Kd.N k57 57 W base ok (.slice (some ad) n cap) xs) (i c2 : Nat) (hi : i < n) :
  ∃ w1, (∀ ty, (Builtin.clear_ #[26] ty #[.slice (some (ad.add (i * 5))) (n - i) c2]).run Try.prog W = .ok (.tuple #[]) w1) ∧ Kd.N k57 57 w1 base ok (.slice (some ad) i cap) (xs.take i) ∧ Chg W w1 (fun k => k = ad.block) := by
 have hu26 := Try.underlying26
 obtain ⟨g, rfl⟩ : ∃ g, ad = ⟨g, 0, none⟩ := by
  obtain ⟨_, rows, _, hR, _⟩ := h
  exact Kd.R_head hR
 have hr := Kd.N_reads' h
 have hcells : ∃ cur, W.heap[g]? = some (.cells cur 57 (0, 0)) ∧ cur.size = cap * 5 := by
  obtain ⟨_, rows, hl2, ⟨hR0, inner, ho2, hr⟩, hf⟩ := h
  obtain ⟨ho3, ho4⟩ := ho2
  rcases ho4 with ⟨hv, _⟩ | ⟨g', cap', cur, hv, hb, hh, hnc', hcm, hcs, ht⟩
  ·
   cases hv
  injection hv with ha hn hc
  injection ha with ha
  injection ha with hg
  subst hg; subst hc
  exact ⟨cur, hh, hcs⟩
 obtain ⟨cur, hh, hcs⟩ := hcells
 have hlen := zeroCells_len #[.int .i64 0, .int .i64 0, .int .i64 0, .slice none 0 0, .slice none 0 0] (n - i)
 have hone : ∀ v ∈ (Builtin.zeroCells #[.int .i64 0, .int .i64 0, .int .i64 0, .slice none 0 0, .slice none 0 0] (n - i)).toList, v.oneCell' = true := by
  intro v hv
  obtain ⟨j, hj, he⟩ := List.mem_iff_getElem.1 hv
  simp [Builtin.zeroCells] at he
  have h4 : j % 5 < 5 := Nat.mod_lt _ (by omega)
  have : ∀ k : Nat, (hk : k < 5) → (([.int .i64 0, .int .i64 0, .int .i64 0, .slice none 0 0, .slice none 0 0] : List Value)[k]?.getD default).oneCell' = true := by
   intro k hk
   match k, hk with
   | 0, _ => rfl
   | 1, _ => rfl
   | 2, _ => rfl
   | 3, _ => rfl
   | 4, _ => rfl
  rw [← he]
  exact this _ h4
 obtain ⟨seg, hseg⟩ : ∃ seg, seg = (Builtin.zeroCells #[.int .i64 0, .int .i64 0, .int .i64 0, .slice none 0 0, .slice none 0 0] (n - i)).toList := ⟨_, rfl⟩
 rw [← hseg] at hlen hone
 have hlen4 : seg.length = (n - i) * 5 := hlen
 have hfit : i * 5 + seg.length ≤ cap * 5 := by rw [hlen4]; omega
 have hst := run_storeCells_cells (P := Try.prog) g (i * 5) seg 0 W (fun j hj => by
  rw [cell_of_row W g _ _ 57 (0, 0) hh]
  simp
  omega) (fun j _ => blk_frozen hh _) hone
 refine ⟨W.setCells g (i * 5) seg, fun ty => ?_, ?_, ?_⟩
 ·
  obtain ⟨m, hm⟩ : ∃ m, n - i = m + 1 := ⟨n - i - 1, by omega⟩
  rw [add_at, Nat.zero_add]
  rw [hm] at hseg ⊢
  have hzc : (Value.agg #[.int .i64 0, .int .i64 0, .int .i64 0, .slice none 0 0, .slice none 0 0]).cells = #[.int .i64 0, .int .i64 0, .int .i64 0, .slice none 0 0, .slice none 0 0] := rfl
  simp only [Nat.add_zero] at hst
  simp [Builtin.clear_, run_underlying hu26, zeroE]
  first | rw [← hseg, hst] | (rw [hzc, ← hseg, hst])
  rfl
 ·
  have ht := Kd.N_take (m := i) h (by omega)
  have h2 := N_beyond (xs := xs.take i) ht (i * 5) seg (by show i * 5 ≤ i * 5; omega) hfit
  exact h2.1
 ·
  obtain ⟨s1, s2, s3, s4⟩ := setCells_same g seg (i * 5) W
  exact ⟨s1, s2, s3, by rw [s4]; exact Nat.le_refl _, fun k _ hn => setCells_far seg _ k hn⟩
theorem cutE_from (A : Option Addr) (n c i : Nat) (hi : i ≤ n) (hc : c ≠ i) : ∀ W : World, (Instr.slice 26 (.slice A n c) (some (.int .i64 (i : Int))) none none).run Try.prog W = .ok (.slice (A.map (·.add (i * 5))) (n - i) (c - i)) W := by
 intro W
 obtain ⟨i0, hi0, _, hsz0, _⟩ := info_parts info57
 have h := cut_from (P := Try.prog) 26 57 .i64 Try.underlying26 hi0 5 hsz0 A n c (i : Int) (by omega) (by omega) W
 rw [Int.toNat_natCast, if_neg hc] at h
 exact h
theorem cutE_to (A : Option Addr) (n c i : Nat) (hi : i ≤ n) (hc : n ≤ c) : ∀ W : World, (Instr.slice 26 (.slice A n c) none (some (.int .i64 (i : Int))) none).run Try.prog W = .ok (.slice A i c) W := by
 intro W
 obtain ⟨i0, hi0, _, hsz0, _⟩ := info_parts info57
 have h := cut_to (P := Try.prog) 26 57 .i64 Try.underlying26 hi0 A n c (i : Int) (by omega) (by omega) hc W
 rw [Int.toNat_natCast] at h
 exact h
theorem take_snoc' {α : Type} {xs : List α} {j : Nat} {z : α} (h : xs[j]? = some z) : xs.take (j + 1) = xs.take j ++ [z] := by
 rw [List.take_add_one, h]
 rfl
theorem del_start {q : S57 → Bool} : ∀ {xs : List S57}, preN q xs < xs.length → xs.take (preN q xs) = (xs.take (preN q xs + 1)).filter (fun e => !q e)
 | [], h => by simp at h
 | a :: L, h => by
  unfold preN at h ⊢
  rw [List.takeWhile_cons] at h ⊢
  by_cases ha : (!q a) = true
  ·
   rw [if_pos ha] at h ⊢
   simp only [List.length_cons] at h ⊢
   have ih := del_start (q := q) (xs := L) (by unfold preN; omega)
   unfold preN at ih
   rw [List.take_succ_cons, List.take_succ_cons, List.filter_cons_of_pos (p := fun e => !q e) ha, ih]
  ·
   rw [if_neg ha]
   simp only [List.length_nil, List.take_zero, Nat.zero_add, List.take_succ_cons]
   rw [List.filter_cons_of_neg (p := fun e => !q e) ha]
   rfl
theorem del_none {q : S57 → Bool} : ∀ {xs : List S57}, ¬ preN q xs < xs.length → xs = xs.filter (fun e => !q e)
 | [], _ => rfl
 | a :: L, h => by
  unfold preN at h
  rw [List.takeWhile_cons] at h
  by_cases ha : (!q a) = true
  ·
   rw [if_pos ha] at h
   simp only [List.length_cons] at h
   rw [List.filter_cons_of_pos (p := fun e => !q e) ha, ← del_none (q := q) (xs := L) (by unfold preN; omega)]
  ·
   rw [if_neg ha] at h
   simp at h
/-- Where the sweep stands: i are kept of j. -/
structure Swept (q : S57 → Bool) (xs ys : List S57) (i j : Nat) : Prop where
 lt : i < j
 le : j ≤ xs.length
 len : ys.length = xs.length
 kept : ys.take i = (xs.take j).filter (fun e => !q e)
 rest : ys.drop j = xs.drop j
theorem Swept.at_ {q : S57 → Bool} {xs ys : List S57} {i j : Nat} (h : Swept q xs ys i j) (k : Nat) : ys[j + k]? = xs[j + k]? := by
 have := congrArg (fun l => l[k]?) h.rest
 simpa [List.getElem?_drop] using this
theorem Swept.out {q : S57 → Bool} {xs ys : List S57} {i j : Nat} (h : Swept q xs ys i j) {z : S57} (hz : xs[j]? = some z) (hq : q z = true) : Swept q xs ys i (j + 1) := by
 have hj := (List.getElem?_eq_some_iff.1 hz).1
 have := h.lt
 refine ⟨by omega, hj, h.len, ?_, ?_⟩
 ·
  rw [take_snoc' hz, List.filter_append, ← h.kept, List.filter_cons_of_neg (by simp [hq])]
  simp
 ·
  rw [← List.drop_drop, ← List.drop_drop, h.rest]
theorem Swept.keep {q : S57 → Bool} {xs ys : List S57} {i j : Nat} (h : Swept q xs ys i j) {z : S57} (hz : xs[j]? = some z) (hq : q z = false) : Swept q xs (ys.set i z) (i + 1) (j + 1) := by
 have hj := (List.getElem?_eq_some_iff.1 hz).1
 have h1 := h.lt
 have h2 := h.len
 refine ⟨by omega, hj, by rw [List.length_set, h.len], ?_, ?_⟩
 ·
  rw [take_snoc' hz, List.filter_append, ← h.kept, List.filter_cons_of_pos (by simp [hq]), take_snoc' (z := z) (by rw [List.getElem?_set_self (by omega)]), List.take_set_of_le (by omega)]
  rfl
 ·
  rw [List.drop_set_of_lt (by omega), ← List.drop_drop, ← List.drop_drop, h.rest]
theorem Swept.end_ {q : S57 → Bool} {xs ys : List S57} {i : Nat} (h : Swept q xs ys i xs.length) : ys.take i = xs.filter (fun e => !q e) := by
 rw [h.kept, List.take_length]
theorem seg_id {α : Type} {c seg : List α} {n : Nat} (h : c.length = n) (h2 : seg.length = n) : c.take 0 ++ seg ++ c.drop (0 + seg.length) = seg := by
 rw [List.take_zero, List.nil_append, Nat.zero_add, List.drop_eq_nil_of_le (by omega), List.append_nil]
set_option maxHeartbeats 4000000 in
set_option maxRecDepth 100000 in
theorem delete_calls {w : World} {base : Nat} {ok : Nat → Prop} {v : Value} {xs : List S57} (hn : Kd.N k57 57 w base ok v xs) (hmx : xs.length ≤ 1000000000000) {G : S57 → Prop} (hG : ∀ e, e ∈ xs → G e) {q : S57 → Bool} (fid : Nat) (fn : Func) (caps : Array Value) (hf : Try.prog.funcs[fid]? = some fn) (hfn : (fn.name == "runtime.NumGoroutine") = false) (hfb : fn.body.isSome = true) (hsay : Says1 w (fun k => some k = v.ownBlock) G fid caps q) :
  Calls Try.prog 30 #[v, .func (.func fid) #[] caps] w fun ex w' => ∃ v', ex = .returned v' ∧ Kd.N k57 57 w' base ok v' (xs.filter (fun e => !q e)) ∧ Chg w w' (fun k => some k = v.ownBlock) := by
 have huE := Try.underlying57
 obtain ⟨A, c, rfl⟩ := Kd.N_slice hn
 have HN := Aside0.mk hn
 have HG := Aside0.mk hG
 have HSAY := Aside0.mk hsay
 have HMAX := Aside0.mk (Kd.C_max (Kd.N_reads' hn).2.2)
 have HCAP := Aside0.mk (Kd.N_reads' hn).2.1
 clear hG hsay
 by_cases hp : preN q xs < xs.length
 ·
  obtain ⟨i0, hi0⟩ : ∃ i0, i0 = preN q xs := ⟨_, rfl⟩
  have HI := Aside0.mk (show idxN q xs = (i0 : Int) by unfold idxN; rw [if_pos hp, hi0])
  have HSW := Aside0.mk (show Swept q xs xs i0 (i0 + 1) from ⟨by omega, by omega, rfl, by rw [hi0]; exact del_start hp, rfl⟩)
  have HW1 := Aside0.mk (show wrap64 ((i0 : Int) + 1) = ((i0 + 1 : Nat) : Int) by rw [wrap_in (by omega) (by have := HMAX.out; omega)]; rfl)
  obtain ⟨ad, hA⟩ : ∃ ad, A = some ad := by
   obtain ⟨ad, _, _, _, _, h1, _⟩ := at_T57 (Kd.N_reads' HN.out).2.2 (i0 : Int) (by omega) (by omega)
   exact ⟨ad, h1⟩
  subst hA
  obtain ⟨gv, hgv⟩ : ∃ g, ad = ⟨g, 0, none⟩ := by
   obtain ⟨_, rows, _, hR, _⟩ := hn
   exact Kd.R_head hR
  have HAD := Aside0.mk hgv
  have hne1 : ((i0 : Int) == -1) = false := by rw [beq_eq_false_iff_ne]; omega
  have htE : (Try.prog.info? 57).map (·.size) = some 5 := by kernel_rfl
  clear hp hi0 hgv hn
  go_enter Try.func30, Try.ntmps30
  go_wp2_with ((with_reducible refine gate_callee (f := 50) rfl ?_); (try (refine gate_guard (by rfl) ?_; dsimp only)); refine goesL_ (some 10) rfl rfl Try.func50 (by kernel_rfl) rfl #[.slice (some ad) xs.length c, .func (.func fid) #[] caps] rfl (by (try simp only [List.map_toArray, List.map_cons, List.map_nil]); first | done | rfl) ?_; refine (index_calls (Kd.N_reads' HN.out).2.2 hmx HG.out fid fn caps hf hfn hfb HSAY.out).mono ?_; rintro ex w2 ⟨rfl, hb2⟩; refine ⟨_, rfl, ?_⟩; rw [HI.out]; have n_ := Aside0.mk hb2; clear hb2; have hb2 := n_; clear n_)
  go_loopg [5, 6] (xs.length - (i0 + 1)) (fun kq v5 v6 w' => ∃ (i j : Nat) (ys : List S57), v5 = .int .i64 (i : Int) ∧ v6 = .int .i64 (j : Int) ∧ Aside0 (kq + j = xs.length) ∧ Aside0 (Swept q xs ys i j) ∧ Aside0 (Kd.N k57 57 w' base ok (.slice (some ad) xs.length c) ys) ∧ Aside0 (Chg w w' (fun k => some k = (Value.slice (some ad) xs.length c).ownBlock)))
  case atStart => exact ⟨i0, i0 + 1, xs, rfl, by first | rfl | rw [HW1.out], ⟨by have h1 := HSW.out.le; have h2 := HSW.out.lt; omega⟩, HSW, ⟨Kd.N_below HN.out hb2.out⟩, ⟨Chg.of_below hb2.out _⟩⟩
  case round =>
   obtain ⟨i, j, ys, rfl, rfl, HK, HSWj, HN1, HCH⟩ := hrel
   cases gk with
   | zero =>
    have hj : j = xs.length := by have h1 := HK.out; omega
    subst hj
    have HIL := Aside0.mk HSWj.out.lt
    have HRES := Aside0.mk HSWj.out.end_
    have hcf := cutE_from (some ad) xs.length c i (by have := HIL.out; omega) (by have h1 := HIL.out; have h2 := HCAP.out; omega)
    have hct := cutE_to (some ad) xs.length c i (by have := HIL.out; omega) HCAP.out
    obtain ⟨w1, hrun, hn1, hch1⟩ := clear_N HN1.out i (c - i) HIL.out
    have HRUN := Aside0.mk hrun
    have HN2 := Aside0.mk hn1
    have HC2 := Aside0.mk (HCH.out.trans hch1 (fun k hk => .inl (by rw [hk]; rfl)))
    clear hrun hn1 hch1
    go_wp2_with ((with_reducible refine gate_builtin (b := .clear) (xs := #[.tmp 38]) rfl ?_); refine clear_event rfl rfl (.tmp 38) 26 rfl rfl HRUN.out ?_)
    go_ret
    exact ⟨_, rfl, HRES.out ▸ HN2.out, HC2.out⟩
   | succ k1 =>
    have hnl : j < xs.length := by have h1 := HK.out; omega
    have hlt : (j < xs.length) = True := eq_true hnl
    obtain ⟨z, hz⟩ : ∃ z, xs[j]? = some z := ⟨_, List.getElem?_eq_getElem hnl⟩
    have HZ := Aside0.mk hz
    have HW := Aside0.mk (show wrap64 ((j : Int) + 1) = ((j + 1 : Nat) : Int) by rw [wrap_in (by omega) (by have := HMAX.out; omega)]; rfl)
    have HLT := Aside0.mk HSWj.out.lt
    obtain ⟨B3, b3, B4, b4, hd0, hd1, hd2, hd3, hd4, hFK⟩ := at_NE HN1.out j z ((HSWj.out.at_ 0).trans hz)
    have HFK := Aside0.mk hFK
    clear hFK
    clear hz hnl
    cases hqz : q z with
    | true =>
     go_wp2_with (first
      | ((with_reducible refine gate_dst (N := 7) rfl ?_); (try (refine gate_guard (by rfl) ?_; dsimp only)); refine box_event ?hg (N := 7) ?hd (cs := #[.int .i64 0, .int .i64 0, .int .i64 0, .slice none 0 0, .slice none 0 0]) (t := 57) ?hr ?_; (case hd => rfl); (case hg => rfl); (case hr => first | (go_simp; done) | (go_simp; rfl)); intro g7 hqg7 w3 hxg7 hbg7; have n_ := Aside0.mk hqg7; clear hqg7; have hqg7 := n_; clear n_; have n_ := Aside0.mk hxg7; clear hxg7; have hxg7 := n_; clear n_; have n_ := Aside0.mk hbg7; clear hbg7; have hbg7 := n_; clear n_; have hcy0 : w3.cell? ⟨g7, 0, none⟩ = some (.int .i64 0) := (blk_cell hxg7.out 0).trans rfl; have hcy1 : w3.cell? ⟨g7, 1, none⟩ = some (.int .i64 0) := (blk_cell hxg7.out 1).trans rfl; have hcy2 : w3.cell? ⟨g7, 2, none⟩ = some (.int .i64 0) := (blk_cell hxg7.out 2).trans rfl; have hcy3 : w3.cell? ⟨g7, 3, none⟩ = some (.slice none 0 0) := (blk_cell hxg7.out 3).trans rfl; have hcy4 : w3.cell? ⟨g7, 4, none⟩ = some (.slice none 0 0) := (blk_cell hxg7.out 4).trans rfl; have hfy0 : w3.frozen? ⟨g7, 0, none⟩ = false := blk_frozen hxg7.out 0; have hfy1 : w3.frozen? ⟨g7, 1, none⟩ = false := blk_frozen hxg7.out 1; have hfy2 : w3.frozen? ⟨g7, 2, none⟩ = false := blk_frozen hxg7.out 2; have hfy3 : w3.frozen? ⟨g7, 3, none⟩ = false := blk_frozen hxg7.out 3; have hfy4 : w3.frozen? ⟨g7, 4, none⟩ = false := blk_frozen hxg7.out 4)
      | ((with_reducible refine gate_dst (N := 28) rfl ?_); have X4 := Aside0.mk (setsE (v0 := .int .i64 z.f0) (v1 := .int .i64 z.f1) (v2 := .int .i64 z.f2) (v3 := .slice B3 z.f3.length b3) (v4 := .slice B4 z.f4.length b4) hxg7.out); have BEL4 := Aside0.mk (show Below wr.heap.size wr (((((w3.setCell ⟨g7, 0, none⟩ (.int .i64 z.f0)).setCell ⟨g7, 1, none⟩ (.int .i64 z.f1)).setCell ⟨g7, 2, none⟩ (.int .i64 z.f2)).setCell ⟨g7, 3, none⟩ (.slice B3 z.f3.length b3)).setCell ⟨g7, 4, none⟩ (.slice B4 z.f4.length b4)) from below_set (below_set (below_set (below_set (below_set (hbg7.out) (Nat.le_of_eq hqg7.out.symm)) (Nat.le_of_eq hqg7.out.symm)) (Nat.le_of_eq hqg7.out.symm)) (Nat.le_of_eq hqg7.out.symm)) (Nat.le_of_eq hqg7.out.symm)); clear hcy0 hfy0 hcy1 hfy1 hcy2 hfy2 hcy3 hfy3 hcy4 hfy4; generalize (((((w3.setCell ⟨g7, 0, none⟩ (.int .i64 z.f0)).setCell ⟨g7, 1, none⟩ (.int .i64 z.f1)).setCell ⟨g7, 2, none⟩ (.int .i64 z.f2)).setCell ⟨g7, 3, none⟩ (.slice B3 z.f3.length b3)).setCell ⟨g7, 4, none⟩ (.slice B4 z.f4.length b4)) = w4 at X4 BEL4 ⊢; have CH4 := Aside0.mk (HCH.out.below_step BEL4.out); have HF4 := Aside0.mk (Kd.FK_below HFK.out BEL4.out); have HN4 := Aside0.mk (Kd.N_below HN1.out BEL4.out); (try (refine gate_guard (by rfl) ?_; dsimp only)); refine goesF_ (some 28) rfl rfl hf hfn hfb #[] caps (#[.agg #[.int .i64 z.f0, .int .i64 z.f1, .int .i64 z.f2, .slice B3 z.f3.length b3, .slice B4 z.f4.length b4]] ++ caps) rfl rfl (by (try simp only [List.map_toArray, List.map_cons, List.map_nil]); first | done | rfl) ?_; refine (HSAY.out z B3 b3 B4 b4 w4 (HG.out z (List.mem_of_getElem? HZ.out)) CH4.out.kept (k57_C (Kd.FK_now HF4.out)).1 (k57_C (Kd.FK_now HF4.out)).2.1 (k57_C (Kd.FK_now HF4.out)).2.2.1 (k57_C (Kd.FK_now HF4.out)).2.2.2).mono ?_; rintro ex w5 ⟨rfl, hb5⟩; refine ⟨_, rfl, ?_⟩; rw [hqz]; have n_ := Aside0.mk hb5; clear hb5; have hb5 := n_; clear n_; have X5 := Aside0.mk (blk_below X4.out hb5.out); have hce0 : w5.cell? ⟨g7, 0, none⟩ = some (.int .i64 z.f0) := (blk_cell X5.out 0).trans rfl; have hce1 : w5.cell? ⟨g7, 1, none⟩ = some (.int .i64 z.f1) := (blk_cell X5.out 1).trans rfl; have hce2 : w5.cell? ⟨g7, 2, none⟩ = some (.int .i64 z.f2) := (blk_cell X5.out 2).trans rfl; have hce3 : w5.cell? ⟨g7, 3, none⟩ = some (.slice B3 z.f3.length b3) := (blk_cell X5.out 3).trans rfl; have hce4 : w5.cell? ⟨g7, 4, none⟩ = some (.slice B4 z.f4.length b4) := (blk_cell X5.out 4).trans rfl; have CH5 := Aside0.mk (CH4.out.below_step hb5.out); have HN5 := Aside0.mk (Kd.N_below HN4.out hb5.out)))
     go_roundg k1
     case measure => exact Nat.lt_succ_self _
     case rel => exact ⟨i, j + 1, ys, rfl, by first | rfl | rw [HW.out], ⟨by have h1 := HK.out; omega⟩, ⟨HSWj.out.out HZ.out hqz⟩, HN5, CH5⟩
    | false =>
     have HWI := Aside0.mk (show wrap64 ((i : Int) + 1) = ((i + 1 : Nat) : Int) by rw [wrap_in (by omega) (by have h1 := HMAX.out; have h2 := HLT.out; have h3 := HSWj.out.le; omega)]; rfl)
     have hic := Aside0.mk (show (i : Int) < xs.length by have h2 := HLT.out; have h3 := HSWj.out.le; omega)
     have hil : (i < xs.length) = True := eq_true (by have h2 := hic.out; omega)
     go_wp2_with (first
      | ((with_reducible refine gate_dst (N := 7) rfl ?_); (try (refine gate_guard (by rfl) ?_; dsimp only)); refine box_event ?hg (N := 7) ?hd (cs := #[.int .i64 0, .int .i64 0, .int .i64 0, .slice none 0 0, .slice none 0 0]) (t := 57) ?hr ?_; (case hd => rfl); (case hg => rfl); (case hr => first | (go_simp; done) | (go_simp; rfl)); intro g7 hqg7 w3 hxg7 hbg7; have n_ := Aside0.mk hqg7; clear hqg7; have hqg7 := n_; clear n_; have n_ := Aside0.mk hxg7; clear hxg7; have hxg7 := n_; clear n_; have n_ := Aside0.mk hbg7; clear hbg7; have hbg7 := n_; clear n_; have hcy0 : w3.cell? ⟨g7, 0, none⟩ = some (.int .i64 0) := (blk_cell hxg7.out 0).trans rfl; have hcy1 : w3.cell? ⟨g7, 1, none⟩ = some (.int .i64 0) := (blk_cell hxg7.out 1).trans rfl; have hcy2 : w3.cell? ⟨g7, 2, none⟩ = some (.int .i64 0) := (blk_cell hxg7.out 2).trans rfl; have hcy3 : w3.cell? ⟨g7, 3, none⟩ = some (.slice none 0 0) := (blk_cell hxg7.out 3).trans rfl; have hcy4 : w3.cell? ⟨g7, 4, none⟩ = some (.slice none 0 0) := (blk_cell hxg7.out 4).trans rfl; have hfy0 : w3.frozen? ⟨g7, 0, none⟩ = false := blk_frozen hxg7.out 0; have hfy1 : w3.frozen? ⟨g7, 1, none⟩ = false := blk_frozen hxg7.out 1; have hfy2 : w3.frozen? ⟨g7, 2, none⟩ = false := blk_frozen hxg7.out 2; have hfy3 : w3.frozen? ⟨g7, 3, none⟩ = false := blk_frozen hxg7.out 3; have hfy4 : w3.frozen? ⟨g7, 4, none⟩ = false := blk_frozen hxg7.out 4)
      | ((with_reducible refine gate_dst (N := 28) rfl ?_); have X4 := Aside0.mk (setsE (v0 := .int .i64 z.f0) (v1 := .int .i64 z.f1) (v2 := .int .i64 z.f2) (v3 := .slice B3 z.f3.length b3) (v4 := .slice B4 z.f4.length b4) hxg7.out); have BEL4 := Aside0.mk (show Below wr.heap.size wr (((((w3.setCell ⟨g7, 0, none⟩ (.int .i64 z.f0)).setCell ⟨g7, 1, none⟩ (.int .i64 z.f1)).setCell ⟨g7, 2, none⟩ (.int .i64 z.f2)).setCell ⟨g7, 3, none⟩ (.slice B3 z.f3.length b3)).setCell ⟨g7, 4, none⟩ (.slice B4 z.f4.length b4)) from below_set (below_set (below_set (below_set (below_set (hbg7.out) (Nat.le_of_eq hqg7.out.symm)) (Nat.le_of_eq hqg7.out.symm)) (Nat.le_of_eq hqg7.out.symm)) (Nat.le_of_eq hqg7.out.symm)) (Nat.le_of_eq hqg7.out.symm)); clear hcy0 hfy0 hcy1 hfy1 hcy2 hfy2 hcy3 hfy3 hcy4 hfy4; generalize (((((w3.setCell ⟨g7, 0, none⟩ (.int .i64 z.f0)).setCell ⟨g7, 1, none⟩ (.int .i64 z.f1)).setCell ⟨g7, 2, none⟩ (.int .i64 z.f2)).setCell ⟨g7, 3, none⟩ (.slice B3 z.f3.length b3)).setCell ⟨g7, 4, none⟩ (.slice B4 z.f4.length b4)) = w4 at X4 BEL4 ⊢; have CH4 := Aside0.mk (HCH.out.below_step BEL4.out); have HF4 := Aside0.mk (Kd.FK_below HFK.out BEL4.out); have HN4 := Aside0.mk (Kd.N_below HN1.out BEL4.out); (try (refine gate_guard (by rfl) ?_; dsimp only)); refine goesF_ (some 28) rfl rfl hf hfn hfb #[] caps (#[.agg #[.int .i64 z.f0, .int .i64 z.f1, .int .i64 z.f2, .slice B3 z.f3.length b3, .slice B4 z.f4.length b4]] ++ caps) rfl rfl (by (try simp only [List.map_toArray, List.map_cons, List.map_nil]); first | done | rfl) ?_; refine (HSAY.out z B3 b3 B4 b4 w4 (HG.out z (List.mem_of_getElem? HZ.out)) CH4.out.kept (k57_C (Kd.FK_now HF4.out)).1 (k57_C (Kd.FK_now HF4.out)).2.1 (k57_C (Kd.FK_now HF4.out)).2.2.1 (k57_C (Kd.FK_now HF4.out)).2.2.2).mono ?_; rintro ex w5 ⟨rfl, hb5⟩; refine ⟨_, rfl, ?_⟩; rw [hqz]; have n_ := Aside0.mk hb5; clear hb5; have hb5 := n_; clear n_; have X5 := Aside0.mk (blk_below X4.out hb5.out); have hce0 : w5.cell? ⟨g7, 0, none⟩ = some (.int .i64 z.f0) := (blk_cell X5.out 0).trans rfl; have hce1 : w5.cell? ⟨g7, 1, none⟩ = some (.int .i64 z.f1) := (blk_cell X5.out 1).trans rfl; have hce2 : w5.cell? ⟨g7, 2, none⟩ = some (.int .i64 z.f2) := (blk_cell X5.out 2).trans rfl; have hce3 : w5.cell? ⟨g7, 3, none⟩ = some (.slice B3 z.f3.length b3) := (blk_cell X5.out 3).trans rfl; have hce4 : w5.cell? ⟨g7, 4, none⟩ = some (.slice B4 z.f4.length b4) := (blk_cell X5.out 4).trans rfl; have CH5 := Aside0.mk (CH4.out.below_step hb5.out); have HN5 := Aside0.mk (Kd.N_below HN4.out hb5.out); obtain ⟨cold, hcl, _, hcc, _⟩ := Kd.N_elem (HAD.out ▸ HN5.out) z57 (i : Int) (by omega) hic.out; have HNg := Aside0.mk (HAD.out ▸ HN5.out); have HCL := Aside0.mk hcl; have HCC := Aside0.mk hcc; clear hcl hcc)
      | ((with_reducible refine gate_store (p := 33) rfl ?_); refine Kd.N_store k57 (w0 := w5) base rfl rfl 57 (.tmp 33) (.tmp 32) rfl 57 (g := gv) (n := xs.length) (cap := c) (o' := i * 5) (i : Int) 0 ys z (.agg #[.int .i64 z.f0, .int .i64 z.f1, .int .i64 z.f2, .slice B3 z.f3.length b3, .slice B4 z.f4.length b4]) [.int .i64 z.f0, .int .i64 z.f1, .int .i64 z.f2, .slice B3 z.f3.length b3, .slice B4 z.f4.length b4] cold ok (fun k => ok k ∧ k ≠ ad.block) (by show Value.pointer (some (ad.add (i * 5))) = _; rw [HAD.out, add_at, Nat.zero_add]) rfl rfl rfl htE (by intro v hv; simp only [List.mem_cons, List.mem_nil_iff, or_false] at hv; rcases hv with rfl | rfl | rfl | rfl | rfl <;> rfl) HNg.out (by omega) hic.out HCL.out HCC.out (by show 0 + 5 ≤ 5; omega) (by rw [seg_id (n := 5) HCL.out rfl]; exact Kd.FK_below HF4.out hb5.out) (fun k hk => ⟨hk.1, by rw [HAD.out] at hk; exact hk.2⟩) (Below.refl base w5) ?_; intro w6 hn6 hb6 hg6; rw [← HAD.out] at hn6; have HN6 := Aside0.mk hn6; have CH6 := Aside0.mk (CH5.out.grown hg6 (fun k hk => .inl (by rw [← hk]; show some gv = some ad.block; rw [HAD.out]))); clear hn6 hb6 hg6))
     go_roundg k1
     case measure => exact Nat.lt_succ_self _
     case rel => exact ⟨i + 1, j + 1, ys.set i z, by first | rfl | rw [HWI.out], by first | rfl | rw [HW.out], ⟨by have h1 := HK.out; omega⟩, ⟨HSWj.out.keep HZ.out hqz⟩, HN6, CH6⟩
 ·
  have HI := Aside0.mk (show idxN q xs = -1 by unfold idxN; rw [if_neg hp])
  have HF := Aside0.mk (del_none hp)
  clear hp
  go_enter Try.func30, Try.ntmps30
  go_wp2_with ((with_reducible refine gate_callee (f := 50) rfl ?_); (try (refine gate_guard (by rfl) ?_; dsimp only)); refine goesL_ (some 10) rfl rfl Try.func50 (by kernel_rfl) rfl #[.slice A xs.length c, .func (.func fid) #[] caps] rfl (by (try simp only [List.map_toArray, List.map_cons, List.map_nil]); first | done | rfl) ?_; refine (index_calls (Kd.N_reads' HN.out).2.2 hmx HG.out fid fn caps hf hfn hfb HSAY.out).mono ?_; rintro ex w2 ⟨rfl, hb2⟩; refine ⟨_, rfl, ?_⟩; rw [HI.out]; have n_ := Aside0.mk hb2; clear hb2; have hb2 := n_; clear n_)
  go_ret
  exact ⟨_, rfl, HF.out ▸ Kd.N_below HN.out hb2.out, Chg.of_below hb2.out _⟩
end Go.Proofs.Ythpklhkibcenoaa.Sk
