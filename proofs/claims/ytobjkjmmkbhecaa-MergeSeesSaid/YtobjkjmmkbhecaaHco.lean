/- slices.CompactFunc over a row. Conditions: those of each theorem. -/
import Derived.Test.YtobjkjmmkbhecaaCore
import Derived.Test.YtobjkjmmkbhecaaME
import Derived.Test.YtobjkjmmkbhecaaMF
import Derived.Test.YtobjkjmmkbhecaaPx0
import Derived.Test.YtobjkjmmkbhecaaSpecA
namespace Go.Proofs.Ytobjkjmmkbhecaa.Sk
open Go.RowKit Go.Proofs.YtobjkjmmkbhecaaW.PrintWords Go.Proofs.YtobjkjmmkbhecaaW.PrintLast Go.Proofs.YtobjkjmmkbhecaaW.PrintMore Go.Proofs.Ytobjkjmmkbhecaa.Px Go.Proofs.Ytobjkjmmkbhecaa.Sw
set_option linter.unusedVariables false
set_option linter.unusedSimpArgs false
theorem zeroE (w : World) : (zeroValue 36).run Try.prog w = .ok (.agg #[.slice none 0 0, .int .i64 0, .bool false, .slice none 0 0]) w := by
 obtain ⟨i0, hi0, hz0, hsz0, _⟩ := info_parts info36
 simp [zeroValue, typeInfo, hi0, hz0]
theorem zeroCells_len (z : Array Value) (n : Nat) : (Builtin.zeroCells z n).toList.length = n * z.size := by
 simp [Builtin.zeroCells]
theorem clear_N {W : World} {base cap n : Nat} {ok : Nat → Prop} {ad : Addr} {xs : List S36} (h : Kd.N k36 36 W base ok (.slice (some ad) n cap) xs) (i c2 : Nat) (hi : i < n) :
  ∃ w1, (∀ ty, (Builtin.clear_ #[24] ty #[.slice (some (ad.add (i * 4))) (n - i) c2]).run Try.prog W = .ok (.tuple #[]) w1) ∧ Kd.N k36 36 w1 base ok (.slice (some ad) i cap) (xs.take i) ∧ Chg W w1 (fun k => k = ad.block) := by
 have hu27 := Try.underlying24
 obtain ⟨g, rfl⟩ : ∃ g, ad = ⟨g, 0, none⟩ := by
  obtain ⟨_, rows, _, hR, _⟩ := h
  exact Kd.R_head hR
 have hr := Kd.N_reads' h
 have hcells : ∃ cur, W.heap[g]? = some (.cells cur 36 (0, 0)) ∧ cur.size = cap * 4 := by
  obtain ⟨_, rows, hl2, ⟨hR0, inner, ho2, hr⟩, hf⟩ := h
  obtain ⟨ho3, ho4⟩ := ho2
  rcases ho4 with ⟨hv, _⟩ | ⟨g', cap', cur, hv, hb, hh, hnc', hcm, hcs, ht⟩
  ·
   cases hv
  injection hv with ha hn hc
  injection ha with ha
  injection ha with hg
  subst hg; subst hc
  exact ⟨cur, hh, hcs⟩
 obtain ⟨cur, hh, hcs⟩ := hcells
 have hlen := zeroCells_len #[.slice none 0 0, .int .i64 0, .bool false, .slice none 0 0] (n - i)
 have hone : ∀ v ∈ (Builtin.zeroCells #[.slice none 0 0, .int .i64 0, .bool false, .slice none 0 0] (n - i)).toList, v.oneCell' = true := by
  intro v hv
  obtain ⟨j, hj, he⟩ := List.mem_iff_getElem.1 hv
  simp [Builtin.zeroCells] at he
  have h4 : j % 4 < 4 := Nat.mod_lt _ (by omega)
  have : ∀ k : Nat, (hk : k < 4) → (([.slice none 0 0, .int .i64 0, .bool false, .slice none 0 0] : List Value)[k]?.getD default).oneCell' = true := by
   intro k hk
   match k, hk with
   | 0, _ => rfl
   | 1, _ => rfl
   | 2, _ => rfl
   | 3, _ => rfl
  rw [← he]
  exact this _ h4
 obtain ⟨seg, hseg⟩ : ∃ seg, seg = (Builtin.zeroCells #[.slice none 0 0, .int .i64 0, .bool false, .slice none 0 0] (n - i)).toList := ⟨_, rfl⟩
 rw [← hseg] at hlen hone
 have hlen4 : seg.length = (n - i) * 4 := hlen
 have hfit : i * 4 + seg.length ≤ cap * 4 := by rw [hlen4]; omega
 have hst := run_storeCells_cells (P := Try.prog) g (i * 4) seg 0 W (fun j hj => by
  rw [cell_of_row W g _ _ 36 (0, 0) hh]
  simp
  omega) (fun j _ => blk_frozen hh _) hone
 refine ⟨W.setCells g (i * 4) seg, fun ty => ?_, ?_, ?_⟩
 ·
  obtain ⟨m, hm⟩ : ∃ m, n - i = m + 1 := ⟨n - i - 1, by omega⟩
  rw [add_at, Nat.zero_add]
  rw [hm] at hseg ⊢
  have hzc : (Value.agg #[.slice none 0 0, .int .i64 0, .bool false, .slice none 0 0]).cells = #[.slice none 0 0, .int .i64 0, .bool false, .slice none 0 0] := rfl
  simp only [Nat.add_zero] at hst
  simp [Builtin.clear_, run_underlying hu27, zeroE]
  first | rw [← hseg, hst] | (rw [hzc, ← hseg, hst])
  rfl
 ·
  have ht := Kd.N_take (m := i) h (by omega)
  have h2 := N_beyond (xs := xs.take i) ht (i * 4) seg (by show i * 4 ≤ i * 4; omega) hfit
  exact h2.1
 ·
  obtain ⟨s1, s2, s3, s4⟩ := setCells_same g seg (i * 4) W
  exact ⟨s1, s2, s3, by rw [s4]; exact Nat.le_refl _, fun k _ hn => setCells_far seg _ k hn⟩
theorem cutE_from (A : Option Addr) (n c i : Nat) (hi : i ≤ n) (hc : c ≠ i) : ∀ W : World, (Instr.slice 24 (.slice A n c) (some (.int .i64 (i : Int))) none none).run Try.prog W = .ok (.slice (A.map (·.add (i * 4))) (n - i) (c - i)) W := by
 intro W
 obtain ⟨i0, hi0, _, hsz0, _⟩ := info_parts info36
 have h := cut_from (P := Try.prog) 24 36 .i64 Try.underlying24 hi0 4 hsz0 A n c (i : Int) (by omega) (by omega) W
 rw [Int.toNat_natCast, if_neg hc] at h
 exact h
theorem cutE_to (A : Option Addr) (n c i : Nat) (hi : i ≤ n) (hc : n ≤ c) : ∀ W : World, (Instr.slice 24 (.slice A n c) none (some (.int .i64 (i : Int))) none).run Try.prog W = .ok (.slice A i c) W := by
 intro W
 obtain ⟨i0, hi0, _, hsz0, _⟩ := info_parts info36
 have h := cut_to (P := Try.prog) 24 36 .i64 Try.underlying24 hi0 A n c (i : Int) (by omega) (by omega) hc W
 rw [Int.toNat_natCast] at h
 exact h
theorem take_snoc' {α : Type} {xs : List α} {j : Nat} {z : α} (h : xs[j]? = some z) : xs.take (j + 1) = xs.take j ++ [z] := by
 rw [List.take_add_one, h]
 rfl
theorem del_start {q : S36 → Bool} : ∀ {xs : List S36}, preN q xs < xs.length → xs.take (preN q xs) = (xs.take (preN q xs + 1)).filter (fun e => !q e)
 | [], h => by simp at h
 | a :: L, h => by
  unfold preN at h ⊢
  rw [List.takeWhile_cons] at h ⊢
  by_cases ha : (!q a) = true
  ·
   rw [if_pos ha] at h ⊢
   simp only [List.length_cons] at h ⊢
   have ih := del_start (q := q) (xs := L) (by unfold preN; omega)
   unfold preN at ih
   rw [List.take_succ_cons, List.take_succ_cons, List.filter_cons_of_pos (p := fun e => !q e) ha, ih]
  ·
   rw [if_neg ha]
   simp only [List.length_nil, List.take_zero, Nat.zero_add, List.take_succ_cons]
   rw [List.filter_cons_of_neg (p := fun e => !q e) ha]
   rfl
theorem del_none {q : S36 → Bool} : ∀ {xs : List S36}, ¬ preN q xs < xs.length → xs = xs.filter (fun e => !q e)
 | [], _ => rfl
 | a :: L, h => by
  unfold preN at h
  rw [List.takeWhile_cons] at h
  by_cases ha : (!q a) = true
  ·
   rw [if_pos ha] at h
   simp only [List.length_cons] at h
   rw [List.filter_cons_of_pos (p := fun e => !q e) ha, ← del_none (q := q) (xs := L) (by unfold preN; omega)]
  ·
   rw [if_neg ha] at h
   simp at h
/-- Where the sweep stands: i are kept of j. -/
structure Swept (q : S36 → Bool) (xs ys : List S36) (i j : Nat) : Prop where
 lt : i < j
 le : j ≤ xs.length
 len : ys.length = xs.length
 kept : ys.take i = (xs.take j).filter (fun e => !q e)
 rest : ys.drop j = xs.drop j
theorem Swept.at_ {q : S36 → Bool} {xs ys : List S36} {i j : Nat} (h : Swept q xs ys i j) (k : Nat) : ys[j + k]? = xs[j + k]? := by
 have := congrArg (fun l => l[k]?) h.rest
 simpa [List.getElem?_drop] using this
theorem Swept.out {q : S36 → Bool} {xs ys : List S36} {i j : Nat} (h : Swept q xs ys i j) {z : S36} (hz : xs[j]? = some z) (hq : q z = true) : Swept q xs ys i (j + 1) := by
 have hj := (List.getElem?_eq_some_iff.1 hz).1
 have := h.lt
 refine ⟨by omega, hj, h.len, ?_, ?_⟩
 ·
  rw [take_snoc' hz, List.filter_append, ← h.kept, List.filter_cons_of_neg (by simp [hq])]
  simp
 ·
  rw [← List.drop_drop, ← List.drop_drop, h.rest]
theorem Swept.keep {q : S36 → Bool} {xs ys : List S36} {i j : Nat} (h : Swept q xs ys i j) {z : S36} (hz : xs[j]? = some z) (hq : q z = false) : Swept q xs (ys.set i z) (i + 1) (j + 1) := by
 have hj := (List.getElem?_eq_some_iff.1 hz).1
 have h1 := h.lt
 have h2 := h.len
 refine ⟨by omega, hj, by rw [List.length_set, h.len], ?_, ?_⟩
 ·
  rw [take_snoc' hz, List.filter_append, ← h.kept, List.filter_cons_of_pos (by simp [hq]), take_snoc' (z := z) (by rw [List.getElem?_set_self (by omega)]), List.take_set_of_le (by omega)]
  rfl
 ·
  rw [List.drop_set_of_lt (by omega), ← List.drop_drop, ← List.drop_drop, h.rest]
theorem Swept.end_ {q : S36 → Bool} {xs ys : List S36} {i : Nat} (h : Swept q xs ys i xs.length) : ys.take i = xs.filter (fun e => !q e) := by
 rw [h.kept, List.take_length]
theorem seg_id {α : Type} {c seg : List α} {n : Nat} (h : c.length = n) (h2 : seg.length = n) : c.take 0 ++ seg ++ c.drop (0 + seg.length) = seg := by
 rw [List.take_zero, List.nil_append, Nat.zero_add, List.drop_eq_nil_of_le (by omega), List.append_nil]
section
variable {P : Program} {ops : Array Oper} {Q : Exit → Act → World → Prop}
theorem goesv_ {oi : Oper} {N : Option Tmp} {a : Act} {w : World} {K : Act → World → Prop} {f : FuncId} {fn : Func} {t : Operand} {as_ : Array Operand} {ts : Array TypeId} (hf : P.funcs[f]? = some fn) (hname : (fn.name == "runtime.NumGoroutine") = false) (hb : fn.body.isSome = true) (first captured args : Array Value)
  (hw : Region.wanted oi (yielded ops a.tmps) = true) (hN : oi.dst = N) (hop : oi.op = .call { callee := .value t, args := as_, argTypes := ts }) (hv : a.eval t = .func (.func f) first captured) (hargs : (first ++ as_.map a.eval) ++ captured = args)
  (h : Calls P f args w fun e w' => ∃ v, e = .returned v ∧ K (a.put N v) w') : if Region.wanted oi (yielded ops a.tmps) = true then Oper.wp P oi a w K Q else K (a.put N undef) w := by
 refine call_ f args hw hN ?_ h
 have he := enters_ hf hname hb args w
 unfold execOp
 simp only [hop, resolve, hv, Deferred.ofValue, Sem.run_bind, Sem.run_pure, Result.andThen_ok, invoke, hargs, he]
end
/-- A function value that says of two entries of G whether they are the same, wherever all but S is kept. -/
def SaysE (w : World) (S : Nat → Prop) (G : S36 → Prop) (fid : Nat) (caps : Array Value) (q : S36 → S36 → Bool) : Prop :=
 ∀ (e : S36) (A0 : Option Addr) (c0 : Nat) (A3 : Option Addr) (c3 : Nat) (u : S36) (B0 : Option Addr) (d0 : Nat) (B3 : Option Addr) (d3 : Nat) (w1 : World), G e → G u → Kept w w1 S → e.f0.length ≤ c0 → Kd.C (Kd.int .u8) w1 A0 e.f0.length e.f0 → e.f3.length ≤ c3 → Kd.C (Kd.int .u8) w1 A3 e.f3.length e.f3 →
  u.f0.length ≤ d0 → Kd.C (Kd.int .u8) w1 B0 u.f0.length u.f0 → u.f3.length ≤ d3 → Kd.C (Kd.int .u8) w1 B3 u.f3.length u.f3 →
  Calls Try.prog fid (#[.agg #[.slice A0 e.f0.length c0, .int .i64 e.f1, .bool e.f2, .slice A3 e.f3.length c3], .agg #[.slice B0 u.f0.length d0, .int .i64 u.f1, .bool u.f2, .slice B3 u.f3.length d3]] ++ caps) w1 fun ex w' => ex = .returned (.bool (q e u)) ∧ Below w1.heap.size w1 w'
/-- What follows p, each that isn't as the one ahead of it. -/
def uniqA (q : S36 → S36 → Bool) : S36 → List S36 → List S36
 | _, [] => []
 | p, x :: r => if q x p = true then uniqA q x r else x :: uniqA q x r
def uniq (q : S36 → S36 → Bool) : List S36 → List S36
 | [] => []
 | x :: r => x :: uniqA q x r
theorem uniqA_snoc (q : S36 → S36 → Bool) (b : S36) : ∀ (r : List S36) (p : S36), uniqA q p (r ++ [b]) = uniqA q p r ++ (if q b ((p :: r).getLast (by simp)) = true then [] else [b])
 | [], p => by
  show (if q b p = true then uniqA q b [] else b :: uniqA q b []) = _
  simp only [uniqA, List.getLast_singleton, List.nil_append]
  rfl
 | x :: r, p => by
  have ih := uniqA_snoc q b r x
  rw [List.getLast_cons (by simp)]
  show (if q x p = true then uniqA q x (r ++ [b]) else x :: uniqA q x (r ++ [b])) = (if q x p = true then uniqA q x r else x :: uniqA q x r) ++ _
  rw [ih]
  split <;> simp
theorem uniq_snoc (q : S36 → S36 → Bool) {xs : List S36} {m : Nat} {a b : S36} (ha : xs[m]? = some a) (hb : xs[m + 1]? = some b) : uniq q (xs.take (m + 1 + 1)) = uniq q (xs.take (m + 1)) ++ (if q b a = true then [] else [b]) := by
 rw [take_snoc' hb]
 cases xs with
 | nil => simp at ha
 | cons x r =>
  rw [List.take_succ_cons, List.cons_append]
  show x :: uniqA q x (r.take m ++ [b]) = (x :: uniqA q x (r.take m)) ++ _
  rw [uniqA_snoc]
  have : (x :: r.take m).getLast (by simp) = a := by
   have h1 : x :: r.take m = (x :: r).take m ++ [a] := by rw [← take_snoc' ha, List.take_succ_cons]
   simp only [h1, List.getLast_concat]
  rw [this]
  rfl
/-- Where the second sweep stands: i are kept of p. -/
structure Swept2 (q : S36 → S36 → Bool) (xs ys : List S36) (i p : Nat) : Prop where
 lt : i < p
 le : p ≤ xs.length
 len : ys.length = xs.length
 kept : ys.take i = uniq q (xs.take p)
 rest : ys.drop (p - 1) = xs.drop (p - 1)
theorem Swept2.at_ {q : S36 → S36 → Bool} {xs ys : List S36} {i p : Nat} (h : Swept2 q xs ys i p) (k : Nat) (hk : p - 1 ≤ k) : ys[k]? = xs[k]? := by
 have := congrArg (fun l => l[k - (p - 1)]?) h.rest
 simp only [List.getElem?_drop] at this
 rwa [show p - 1 + (k - (p - 1)) = k by omega] at this
theorem Swept2.out {q : S36 → S36 → Bool} {xs ys : List S36} {i m : Nat} (h : Swept2 q xs ys i (m + 1)) {a z : S36} (ha : xs[m]? = some a) (hz : xs[m + 1]? = some z) (hq : q z a = true) : Swept2 q xs ys i (m + 1 + 1) := by
 have hj := (List.getElem?_eq_some_iff.1 hz).1
 have := h.lt
 refine ⟨by omega, hj, h.len, ?_, ?_⟩
 ·
  rw [uniq_snoc q ha hz, ← h.kept, if_pos hq, List.append_nil]
 ·
  have h2 := congrArg (List.drop 1) h.rest
  simp only [List.drop_drop] at h2
  exact h2
theorem Swept2.keep {q : S36 → S36 → Bool} {xs ys : List S36} {i m : Nat} (h : Swept2 q xs ys i (m + 1)) {a z : S36} (ha : xs[m]? = some a) (hz : xs[m + 1]? = some z) (hq : q z a = false) : Swept2 q xs (ys.set i z) (i + 1) (m + 1 + 1) := by
 have hj := (List.getElem?_eq_some_iff.1 hz).1
 have h1 := h.lt
 have h2 := h.len
 refine ⟨by omega, hj, by rw [List.length_set, h.len], ?_, ?_⟩
 ·
  rw [uniq_snoc q ha hz, ← h.kept, if_neg (by simp [hq]), take_snoc' (z := z) (by rw [List.getElem?_set_self (by omega)]), List.take_set_of_le (by omega)]
 ·
  rw [List.drop_set_of_lt (by omega)]
  have h3 := congrArg (List.drop 1) h.rest
  simp only [List.drop_drop] at h3
  exact h3
theorem Swept2.end_ {q : S36 → S36 → Bool} {xs ys : List S36} {i : Nat} (h : Swept2 q xs ys i xs.length) : ys.take i = uniq q xs := by
 rw [h.kept, List.take_length]

theorem addr_shift {ad ad2 : Addr} {gv k j p : Nat} (h : ad = ⟨gv, 0, none⟩) (h2 : ad2 = ad.add (k * 4)) (hp : p = k + j) : ad.add (p * 4) = ad2.add (j * 4) := by
 subst h
 subst h2
 subst hp
 rw [add_at, add_at, add_at]
 congr 1
 omega
set_option maxHeartbeats 4000000 in
set_option maxRecDepth 100000 in
theorem compact_calls {w : World} {base : Nat} {ok : Nat → Prop} {v : Value} {xs : List S36} (hn : Kd.N k36 36 w base ok v xs) {G : S36 → Prop} (hG : ∀ e, e ∈ xs → G e) {q : S36 → S36 → Bool} (fid : Nat) (fn : Func) (caps : Array Value) (hf : Try.prog.funcs[fid]? = some fn) (hfn : (fn.name == "runtime.NumGoroutine") = false) (hfb : fn.body.isSome = true) (hsay : SaysE w (fun k => some k = v.ownBlock) G fid caps q) :
  Calls Try.prog 29 #[v, .func (.func fid) #[] caps] w fun ex w' => ∃ v', ex = .returned v' ∧ Kd.N k36 36 w' base ok v' (uniq q xs) ∧ Chg w w' (fun k => some k = v.ownBlock) := by
 have hu34 := Try.underlying36
 obtain ⟨A, c, rfl⟩ := Kd.N_slice hn
 have HN := Aside0.mk hn
 have HG := Aside0.mk hG
 have HSAY := Aside0.mk hsay
 have HMAX := Aside0.mk (Kd.C_max (Kd.N_reads' hn).2.2)
 have HCAP := Aside0.mk (Kd.N_reads' hn).2.1
 clear hG hsay
 by_cases h2 : xs.length < 2
 ·
  have HR := Aside0.mk (show uniq q xs = xs by
   match xs, h2 with
   | [], _ => rfl
   | [x], _ => rfl
   | x :: y :: r, h => simp only [List.length_cons] at h; omega)
  have hlt2 := eq_true h2
  have hlt3 : decide ((xs.length : Int) < 2) = true := decide_eq_true (by omega)
  clear h2 hn
  go_enter Try.func29, Try.ntmps29
  go_wp2
  go_ret
  exact ⟨_, rfl, HR.out.symm ▸ HN.out, Chg.of_below (Below.refl _ _) _⟩
 ·
  have hlt2 := eq_false h2
  have hlt3 : decide ((xs.length : Int) < 2) = false := decide_eq_false (by omega)
  obtain ⟨ad, hA⟩ : ∃ ad, A = some ad := by
   obtain ⟨ad, _, _, _, _, h1, _⟩ := at_T36 (Kd.N_reads' HN.out).2.2 0 (by omega) (by omega)
   exact ⟨ad, h1⟩
  subst hA
  obtain ⟨gv, hgv⟩ : ∃ g, ad = ⟨g, 0, none⟩ := by
   obtain ⟨_, rows, _, hR, _⟩ := hn
   exact Kd.R_head hR
  have HAD := Aside0.mk hgv
  have htE : (Try.prog.info? 36).map (·.size) = some 4 := by kernel_rfl
  have HST := Aside0.mk (show uniq q (xs.take 1) = xs.take 1 by
   cases xs with
   | nil => rfl
   | cons x r => rfl)
  have HL1 := Aside0.mk (show 1 ≤ xs.length by omega)
  clear h2 hgv hn
  go_enter Try.func29, Try.ntmps29
  go_wp2
  go_loopg [5] (xs.length - 1) (fun kq v5 w' => ∃ (k : Nat), v5 = .int .i64 (k : Int) ∧ Aside0 (kq + k = xs.length) ∧ Aside0 (1 ≤ k) ∧ Aside0 (uniq q (xs.take k) = xs.take k) ∧ Aside0 (Below w.heap.size w w'))
  case atStart => exact ⟨1, rfl, ⟨by have h1 := HL1.out; omega⟩, ⟨Nat.le_refl _⟩, HST, ⟨Below.refl _ _⟩⟩
  case round =>
   obtain ⟨k, rfl, HK, HK1, HU, HB⟩ := hrel
   cases gk with
   | zero =>
    have hk : k = xs.length := by have h1 := HK.out; omega
    subst hk
    have HR := Aside0.mk (show uniq q xs = xs by have h1 := HU.out; rwa [List.take_length] at h1)
    go_wp2
    go_ret
    exact ⟨_, rfl, HR.out.symm ▸ Kd.N_below HN.out HB.out, Chg.of_below HB.out _⟩
   | succ k1 =>
    have hnl : k < xs.length := by have h1 := HK.out; omega
    have hlt : (k < xs.length) = True := eq_true hnl
    obtain ⟨m, hm⟩ : ∃ m, k = m + 1 := ⟨k - 1, by have h1 := HK1.out; omega⟩
    have HM := Aside0.mk hm
    have hml : m < xs.length := by omega
    have hmt : (m < xs.length) = True := eq_true hml
    obtain ⟨z, hz⟩ : ∃ z, xs[k]? = some z := ⟨_, List.getElem?_eq_getElem hnl⟩
    obtain ⟨a, ha⟩ : ∃ a, xs[m]? = some a := ⟨_, List.getElem?_eq_getElem hml⟩
    have HZ := Aside0.mk hz
    have HA := Aside0.mk ha
    have hwm : wrap64 ((k : Int) - 1) = (m : Int) := by rw [wrap_in (by omega) (by have := HMAX.out; omega)]; omega
    have HW := Aside0.mk (show wrap64 ((k : Int) + 1) = ((k + 1 : Nat) : Int) by rw [wrap_in (by omega) (by have := HMAX.out; omega)]; rfl)
    obtain ⟨B0, b0, B3, b3, hb0, hb1, hb2_, hb3_, hFB⟩ := at_NE (Kd.N_below HN.out HB.out) k z hz
    obtain ⟨D0, d0, D3, d3, hd0, hd1, hd2, hd3, hFD⟩ := at_NE (Kd.N_below HN.out HB.out) m a ha
    have HFB := Aside0.mk (Kd.FK_below hFB (below_drew (Below.refl _ _)))
    have HFD := Aside0.mk (Kd.FK_below hFD (below_drew (Below.refl _ _)))
    clear hFB hFD
    clear hz ha hnl hml hm
    cases hqz : q z a with
    | true =>
     go_wp2
     refine s_ 11 [] (fun w' => w'.cell? (ad.add (k * 4)) = some (.slice B0 z.f0.length b0) ∧ w'.cell? ⟨(ad.add (k * 4)).block, (ad.add (k * 4)).off + 1, none⟩ = some (.int .i64 z.f1) ∧ w'.cell? ⟨(ad.add (k * 4)).block, (ad.add (k * 4)).off + 2, none⟩ = some (.bool z.f2) ∧ w'.cell? ⟨(ad.add (k * 4)).block, (ad.add (k * 4)).off + 3, none⟩ = some (.slice B3 z.f3.length b3) ∧ w'.cell? (ad.add (m * 4)) = some (.slice D0 a.f0.length d0) ∧ w'.cell? ⟨(ad.add (m * 4)).block, (ad.add (m * 4)).off + 1, none⟩ = some (.int .i64 a.f1) ∧ w'.cell? ⟨(ad.add (m * 4)).block, (ad.add (m * 4)).off + 2, none⟩ = some (.bool a.f2) ∧ w'.cell? ⟨(ad.add (m * 4)).block, (ad.add (m * 4)).off + 3, none⟩ = some (.slice D3 a.f3.length d3)) (hS := ⟨(show wr.drew.cell? _ = _ from hb0), (show wr.drew.cell? _ = _ from hb1), (show wr.drew.cell? _ = _ from hb2_), (show wr.drew.cell? _ = _ from hb3_), (show wr.drew.cell? _ = _ from hd0), (show wr.drew.cell? _ = _ from hd1), (show wr.drew.cell? _ = _ from hd2), (show wr.drew.cell? _ = _ from hd3)⟩) (h := fun hHeld => ?_)
     refine p_ 0 18 (bb 11 1) (h := ?_)
     refine p_ 1 19 (bb 11 3) (h := ?_)
     refine p_ 2 20 (bb 11 7) (h := ?_)
     refine p_ 3 21 (bb 11 15) (h := ?_)
     refine t_ 4 22 (bb 11 31) hHeld (h := ?_)
     refine p_ 5 23 (bb 11 63) (h := ?_)
     refine p_ 6 24 (bb 11 127) (h := ?_)
     refine p_ 7 25 (bb 11 255) (h := ?_)
     refine p_ 8 26 (bb 11 511) (h := ?_)
     refine t_ 9 27 (bb 11 1023) hHeld (h := ?_)
     refine n_ 10 28 (bb 11 2047) (h := fun K hK => ?_)
     refine goesv_ hf hfn hfb #[] caps (#[.agg #[.slice B0 z.f0.length b0, .int .i64 z.f1, .bool z.f2, .slice B3 z.f3.length b3], .agg #[.slice D0 a.f0.length d0, .int .i64 a.f1, .bool a.f2, .slice D3 a.f3.length d3]] ++ caps) (by rfl) rfl rfl rfl (by (try simp only [List.map_toArray, List.map_cons, List.map_nil]); first | done | rfl) ?_
     refine (HSAY.out z B0 b0 B3 b3 a D0 d0 D3 d3 wr.drew (HG.out z (List.mem_of_getElem? HZ.out)) (HG.out a (List.mem_of_getElem? HA.out)) (Kept.of_below (below_drew HB.out) _) (k36_C (Kd.FK_now HFB.out)).1 (k36_C (Kd.FK_now HFB.out)).2.1 (k36_C (Kd.FK_now HFB.out)).2.2.1 (k36_C (Kd.FK_now HFB.out)).2.2.2 (k36_C (Kd.FK_now HFD.out)).1 (k36_C (Kd.FK_now HFD.out)).2.1 (k36_C (Kd.FK_now HFD.out)).2.2.1 (k36_C (Kd.FK_now HFD.out)).2.2.2).mono ?_
     rintro ex w5 ⟨rfl, hb5⟩
     refine ⟨_, rfl, ?_⟩
     rw [hqz]
     have hb5 := Aside0.mk hb5
     refine hK.out _ _ ⟨pw_cell_below hb5.out hHeld.1, pw_cell_below hb5.out hHeld.2.1, pw_cell_below hb5.out hHeld.2.2.1, pw_cell_below hb5.out hHeld.2.2.2.1, pw_cell_below hb5.out hHeld.2.2.2.2.1, pw_cell_below hb5.out hHeld.2.2.2.2.2.1, pw_cell_below hb5.out hHeld.2.2.2.2.2.2.1, pw_cell_below hb5.out hHeld.2.2.2.2.2.2.2⟩ (fun hHeld => ?_)
     clear hK K
     refine m_ 28 (h := ?_)
     refine d_ (h := ?_)

     clear hwm hHeld hb0 hb1 hb2_ hb3_ hd0 hd1 hd2 hd3 hlt hmt
     have HB5 := Aside0.mk (below_step (below_drew HB.out) hb5.out)
     obtain ⟨ad2, had2⟩ : ∃ ad2, ad2 = ad.add (k * 4) := ⟨_, rfl⟩
     have hcf : ∀ W : World, (Instr.slice 24 (.slice (some ad) xs.length c) (some (.int .i64 (k : Int))) none none).run Try.prog W = .ok (.slice (some ad2) (xs.length - k) (c - k)) W := by
      rw [had2]
      exact cutE_from (some ad) xs.length c k (by have := HK.out; omega) (by have h1 := HK.out; have h2 := HCAP.out; omega)
     have HA2 := Aside0.mk had2
     clear had2
     have HSW := Aside0.mk (show Swept2 q xs xs k (k + 1) from ⟨by omega, by have := HK.out; omega, rfl, by have h1 := HU.out; have h2 := HM.out; subst h2; rw [uniq_snoc q HA.out HZ.out, hqz, h1, if_pos rfl, List.append_nil], rfl⟩)
     clear hqz
     go_wp2
     clear hcf
     go_loopg [5, 7] (xs.length - (k + 1)) (fun kq v5 v7 w' => ∃ (i j p : Nat) (ys : List S36), v5 = .int .i64 (i : Int) ∧ v7 = .int .i64 (j : Int) ∧ Aside0 (p = k + j ∧ 1 ≤ j) ∧ Aside0 (kq + p = xs.length) ∧ Aside0 (Swept2 q xs ys i p) ∧ Aside0 (Kd.N k36 36 w' base ok (.slice (some ad) xs.length c) ys) ∧ Aside0 (Chg w w' (fun k => some k = (Value.slice (some ad) xs.length c).ownBlock)))
     case atStart => exact ⟨k, 1, k + 1, xs, rfl, rfl, ⟨rfl, Nat.le_refl _⟩, ⟨by have := HK.out; omega⟩, HSW, ⟨Kd.N_below HN.out HB5.out⟩, ⟨Chg.of_below HB5.out _⟩⟩
     case round =>
      clear HZ HA HSW HU HB HB5 hb5 HM HFB HFD
      obtain ⟨i, j, p, ys, rfl, rfl, HPJ, HKP, HSWj, HN1, HCH⟩ := hrel
      have HIP := Aside0.mk HSWj.out.lt
      have HPL := Aside0.mk HSWj.out.le
      cases gk with
      | zero =>
       have hj : p = xs.length := by have h1 := HKP.out; omega
       subst hj
       have hlt : (j < xs.length - k) = False := eq_false (by have h1 := HPJ.out; omega)
       have HRES := Aside0.mk HSWj.out.end_
       have hcf := cutE_from (some ad) xs.length c i (by have := HIP.out; omega) (by have h1 := HIP.out; have h2 := HCAP.out; omega)
       have hct := cutE_to (some ad) xs.length c i (by have := HIP.out; omega) HCAP.out
       obtain ⟨w1, hrun, hn1, hch1⟩ := clear_N HN1.out i (c - i) HIP.out
       have HRUN := Aside0.mk hrun
       have HN2 := Aside0.mk hn1
       have HC2 := Aside0.mk (HCH.out.trans hch1 (fun k hk => .inl (by rw [hk]; rfl)))
       clear hrun hn1 hch1
       go_wp2_with ((with_reducible refine gate_builtin (b := .clear) (xs := #[.tmp 61]) rfl ?_); refine clear_event rfl rfl (.tmp 61) 24 rfl rfl HRUN.out ?_)
       go_ret
       exact ⟨_, rfl, HRES.out ▸ HN2.out, HC2.out⟩
      | succ k2 =>
       have hpl : p < xs.length := by have h1 := HKP.out; omega
       obtain ⟨l, hl⟩ : ∃ l, j = l + 1 := ⟨j - 1, by have h1 := HPJ.out; omega⟩
       obtain ⟨m', hm'⟩ : ∃ m', p = m' + 1 := ⟨p - 1, by have h1 := HPJ.out; omega⟩
       have HMP := Aside0.mk hm'
       have hlt : (j < xs.length - k) = True := eq_true (by have h1 := HPJ.out; omega)
       have hmt : (l < xs.length - k) = True := eq_true (by have h1 := HPJ.out; omega)
       obtain ⟨z, hz⟩ : ∃ z, xs[p]? = some z := ⟨_, List.getElem?_eq_getElem hpl⟩
       obtain ⟨a, ha⟩ : ∃ a, xs[m']? = some a := ⟨_, List.getElem?_eq_getElem (show m' < xs.length by omega)⟩
       have HZ := Aside0.mk hz
       have HA := Aside0.mk ha
       have hwm : wrap64 ((j : Int) - 1) = (l : Int) := by rw [wrap_in (by omega) (by have := HMAX.out; have := HPJ.out; omega)]; omega
       have HW := Aside0.mk (show wrap64 ((j : Int) + 1) = ((j + 1 : Nat) : Int) by rw [wrap_in (by omega) (by have := HMAX.out; have := HPJ.out; omega)]; rfl)
       obtain ⟨B0, b0, B3, b3, hb0, hb1, hb2_, hb3_, hFB⟩ := at_NE HN1.out p z ((HSWj.out.at_ p (by omega)).trans hz)
       obtain ⟨D0, d0, D3, d3, hd0, hd1, hd2, hd3, hFD⟩ := at_NE HN1.out m' a ((HSWj.out.at_ m' (by omega)).trans ha)
       have HFB := Aside0.mk (Kd.FK_below hFB (below_drew (Below.refl _ _)))
       have HFD := Aside0.mk (Kd.FK_below hFD (below_drew (Below.refl _ _)))
       clear hFB hFD
       have hsh1 := addr_shift HAD.out HA2.out HPJ.out.1
       have hsh2 : ad.add (m' * 4) = ad2.add (l * 4) := addr_shift HAD.out HA2.out (by have h1 := HPJ.out; omega)
       rw [hsh1] at hb0 hb1 hb2_ hb3_
       rw [hsh2] at hd0 hd1 hd2 hd3
       clear hsh1 hsh2 hz ha hm' hl hpl
       cases hqz : q z a with
       | true =>
        go_wp2
        refine s_ 12 [] (fun w' => w'.cell? (ad2.add (j * 4)) = some (.slice B0 z.f0.length b0) ∧ w'.cell? ⟨(ad2.add (j * 4)).block, (ad2.add (j * 4)).off + 1, none⟩ = some (.int .i64 z.f1) ∧ w'.cell? ⟨(ad2.add (j * 4)).block, (ad2.add (j * 4)).off + 2, none⟩ = some (.bool z.f2) ∧ w'.cell? ⟨(ad2.add (j * 4)).block, (ad2.add (j * 4)).off + 3, none⟩ = some (.slice B3 z.f3.length b3) ∧ w'.cell? (ad2.add (l * 4)) = some (.slice D0 a.f0.length d0) ∧ w'.cell? ⟨(ad2.add (l * 4)).block, (ad2.add (l * 4)).off + 1, none⟩ = some (.int .i64 a.f1) ∧ w'.cell? ⟨(ad2.add (l * 4)).block, (ad2.add (l * 4)).off + 2, none⟩ = some (.bool a.f2) ∧ w'.cell? ⟨(ad2.add (l * 4)).block, (ad2.add (l * 4)).off + 3, none⟩ = some (.slice D3 a.f3.length d3)) (hS := ⟨(show wr.drew.cell? _ = _ from hb0), (show wr.drew.cell? _ = _ from hb1), (show wr.drew.cell? _ = _ from hb2_), (show wr.drew.cell? _ = _ from hb3_), (show wr.drew.cell? _ = _ from hd0), (show wr.drew.cell? _ = _ from hd1), (show wr.drew.cell? _ = _ from hd2), (show wr.drew.cell? _ = _ from hd3)⟩) (h := fun hHeld => ?_)
        refine p_ 0 38 (bb 12 1) (h := ?_)
        refine p_ 1 39 (bb 12 3) (h := ?_)
        refine p_ 2 40 (bb 12 7) (h := ?_)
        refine p_ 3 41 (bb 12 15) (h := ?_)
        refine t_ 4 42 (bb 12 31) hHeld (h := ?_)
        refine p_ 5 43 (bb 12 63) (h := ?_)
        refine p_ 6 44 (bb 12 127) (h := ?_)
        refine p_ 7 45 (bb 12 255) (h := ?_)
        refine p_ 8 46 (bb 12 511) (h := ?_)
        refine t_ 9 47 (bb 12 1023) hHeld (h := ?_)
        refine n_ 10 48 (bb 12 2047) (h := fun K hK => ?_)
        refine goesv_ hf hfn hfb #[] caps (#[.agg #[.slice B0 z.f0.length b0, .int .i64 z.f1, .bool z.f2, .slice B3 z.f3.length b3], .agg #[.slice D0 a.f0.length d0, .int .i64 a.f1, .bool a.f2, .slice D3 a.f3.length d3]] ++ caps) (by rfl) rfl rfl rfl (by (try simp only [List.map_toArray, List.map_cons, List.map_nil]); first | done | rfl) ?_
        refine (HSAY.out z B0 b0 B3 b3 a D0 d0 D3 d3 wr.drew (HG.out z (List.mem_of_getElem? HZ.out)) (HG.out a (List.mem_of_getElem? HA.out)) HCH.out.drew.kept (k36_C (Kd.FK_now HFB.out)).1 (k36_C (Kd.FK_now HFB.out)).2.1 (k36_C (Kd.FK_now HFB.out)).2.2.1 (k36_C (Kd.FK_now HFB.out)).2.2.2 (k36_C (Kd.FK_now HFD.out)).1 (k36_C (Kd.FK_now HFD.out)).2.1 (k36_C (Kd.FK_now HFD.out)).2.2.1 (k36_C (Kd.FK_now HFD.out)).2.2.2).mono ?_
        rintro ex w5 ⟨rfl, hb5⟩
        refine ⟨_, rfl, ?_⟩
        rw [hqz]
        have hb5 := Aside0.mk hb5
        refine hK.out _ _ ⟨pw_cell_below hb5.out hHeld.1, pw_cell_below hb5.out hHeld.2.1, pw_cell_below hb5.out hHeld.2.2.1, pw_cell_below hb5.out hHeld.2.2.2.1, pw_cell_below hb5.out hHeld.2.2.2.2.1, pw_cell_below hb5.out hHeld.2.2.2.2.2.1, pw_cell_below hb5.out hHeld.2.2.2.2.2.2.1, pw_cell_below hb5.out hHeld.2.2.2.2.2.2.2⟩ (fun hHeld => ?_)
        clear hK K
        refine m_ 48 (h := ?_)
        refine p_ 11 49 (bb 12 4095) (h := ?_)
        refine d_ (h := ?_)

        clear hwm
        go_wp2
        go_roundg k2
        case measure => exact Nat.lt_succ_self _
        case rel => exact ⟨i, j + 1, p + 1, ys, rfl, by first | rfl | rw [HW.out], ⟨by have h1 := HPJ.out; omega, by omega⟩, ⟨by have h1 := HKP.out; omega⟩, ⟨by have h2 := HMP.out; subst h2; exact HSWj.out.out HA.out HZ.out hqz⟩, ⟨Kd.N_below HN1.out (below_step (below_drew (Below.refl _ _)) hb5.out)⟩, ⟨HCH.out.drew.below_step hb5.out⟩⟩
       | false =>
        have HWI := Aside0.mk (show wrap64 ((i : Int) + 1) = ((i + 1 : Nat) : Int) by rw [wrap_in (by omega) (by have h1 := HMAX.out; have h2 := HIP.out; have h3 := HPL.out; omega)]; rfl)
        have hic := Aside0.mk (show (i : Int) < xs.length by have h2 := HIP.out; have h3 := HPL.out; omega)
        have hil : (i < xs.length) = True := eq_true (by have h2 := hic.out; omega)
        go_wp2
        refine s_ 12 [] (fun w' => w'.cell? (ad2.add (j * 4)) = some (.slice B0 z.f0.length b0) ∧ w'.cell? ⟨(ad2.add (j * 4)).block, (ad2.add (j * 4)).off + 1, none⟩ = some (.int .i64 z.f1) ∧ w'.cell? ⟨(ad2.add (j * 4)).block, (ad2.add (j * 4)).off + 2, none⟩ = some (.bool z.f2) ∧ w'.cell? ⟨(ad2.add (j * 4)).block, (ad2.add (j * 4)).off + 3, none⟩ = some (.slice B3 z.f3.length b3) ∧ w'.cell? (ad2.add (l * 4)) = some (.slice D0 a.f0.length d0) ∧ w'.cell? ⟨(ad2.add (l * 4)).block, (ad2.add (l * 4)).off + 1, none⟩ = some (.int .i64 a.f1) ∧ w'.cell? ⟨(ad2.add (l * 4)).block, (ad2.add (l * 4)).off + 2, none⟩ = some (.bool a.f2) ∧ w'.cell? ⟨(ad2.add (l * 4)).block, (ad2.add (l * 4)).off + 3, none⟩ = some (.slice D3 a.f3.length d3)) (hS := ⟨(show wr.drew.cell? _ = _ from hb0), (show wr.drew.cell? _ = _ from hb1), (show wr.drew.cell? _ = _ from hb2_), (show wr.drew.cell? _ = _ from hb3_), (show wr.drew.cell? _ = _ from hd0), (show wr.drew.cell? _ = _ from hd1), (show wr.drew.cell? _ = _ from hd2), (show wr.drew.cell? _ = _ from hd3)⟩) (h := fun hHeld => ?_)
        refine p_ 0 38 (bb 12 1) (h := ?_)
        refine p_ 1 39 (bb 12 3) (h := ?_)
        refine p_ 2 40 (bb 12 7) (h := ?_)
        refine p_ 3 41 (bb 12 15) (h := ?_)
        refine t_ 4 42 (bb 12 31) hHeld (h := ?_)
        refine p_ 5 43 (bb 12 63) (h := ?_)
        refine p_ 6 44 (bb 12 127) (h := ?_)
        refine p_ 7 45 (bb 12 255) (h := ?_)
        refine p_ 8 46 (bb 12 511) (h := ?_)
        refine t_ 9 47 (bb 12 1023) hHeld (h := ?_)
        refine n_ 10 48 (bb 12 2047) (h := fun K hK => ?_)
        refine goesv_ hf hfn hfb #[] caps (#[.agg #[.slice B0 z.f0.length b0, .int .i64 z.f1, .bool z.f2, .slice B3 z.f3.length b3], .agg #[.slice D0 a.f0.length d0, .int .i64 a.f1, .bool a.f2, .slice D3 a.f3.length d3]] ++ caps) (by rfl) rfl rfl rfl (by (try simp only [List.map_toArray, List.map_cons, List.map_nil]); first | done | rfl) ?_
        refine (HSAY.out z B0 b0 B3 b3 a D0 d0 D3 d3 wr.drew (HG.out z (List.mem_of_getElem? HZ.out)) (HG.out a (List.mem_of_getElem? HA.out)) HCH.out.drew.kept (k36_C (Kd.FK_now HFB.out)).1 (k36_C (Kd.FK_now HFB.out)).2.1 (k36_C (Kd.FK_now HFB.out)).2.2.1 (k36_C (Kd.FK_now HFB.out)).2.2.2 (k36_C (Kd.FK_now HFD.out)).1 (k36_C (Kd.FK_now HFD.out)).2.1 (k36_C (Kd.FK_now HFD.out)).2.2.1 (k36_C (Kd.FK_now HFD.out)).2.2.2).mono ?_
        rintro ex w5 ⟨rfl, hb5⟩
        refine ⟨_, rfl, ?_⟩
        rw [hqz]
        have hb5 := Aside0.mk hb5
        refine hK.out _ _ ⟨pw_cell_below hb5.out hHeld.1, pw_cell_below hb5.out hHeld.2.1, pw_cell_below hb5.out hHeld.2.2.1, pw_cell_below hb5.out hHeld.2.2.2.1, pw_cell_below hb5.out hHeld.2.2.2.2.1, pw_cell_below hb5.out hHeld.2.2.2.2.2.1, pw_cell_below hb5.out hHeld.2.2.2.2.2.2.1, pw_cell_below hb5.out hHeld.2.2.2.2.2.2.2⟩ (fun hHeld => ?_)
        clear hK K
        refine m_ 48 (h := ?_)
        refine p_ 11 49 (bb 12 4095) (h := ?_)
        refine d_ (h := ?_)

        clear hwm
        obtain ⟨e0, e1, e2, e3, _, _, _, _⟩ := hHeld
        have HN5 := Aside0.mk (Kd.N_below HN1.out (below_step (below_drew (Below.refl _ _)) hb5.out))
        have CH5 := Aside0.mk (HCH.out.drew.below_step hb5.out)
        obtain ⟨cold, hcl, _, hcc, _⟩ := Kd.N_elem (HAD.out ▸ HN5.out) z36 (i : Int) (by omega) hic.out
        have HNg := Aside0.mk (HAD.out ▸ HN5.out)
        have HCL := Aside0.mk hcl
        have HCC := Aside0.mk hcc
        clear hcl hcc
        go_wp2_with ((with_reducible refine gate_store (p := 56) rfl ?_); refine Kd.N_store k36 (w0 := w5) base rfl rfl 36 (.tmp 56) (.tmp 55) rfl 36 (g := gv) (n := xs.length) (cap := c) (o' := i * 4) (i : Int) 0 ys z (.agg #[.slice B0 z.f0.length b0, .int .i64 z.f1, .bool z.f2, .slice B3 z.f3.length b3]) [.slice B0 z.f0.length b0, .int .i64 z.f1, .bool z.f2, .slice B3 z.f3.length b3] cold ok (fun k => ok k ∧ k ≠ ad.block) (by show Value.pointer (some (ad.add (i * 4))) = _; rw [HAD.out, add_at, Nat.zero_add]) rfl rfl rfl htE (by intro v hv; simp only [List.mem_cons, List.mem_nil_iff, or_false] at hv; rcases hv with rfl | rfl | rfl | rfl <;> rfl) HNg.out (by omega) hic.out HCL.out HCC.out (by show 0 + 4 ≤ 4; omega) (by rw [seg_id (n := 4) HCL.out rfl]; exact Kd.FK_below HFB.out hb5.out) (fun k hk => ⟨hk.1, by rw [HAD.out] at hk; exact hk.2⟩) (Below.refl base w5) ?_; intro w6 hn6 hb6 hg6; rw [← HAD.out] at hn6; have HN6 := Aside0.mk hn6; have CH6 := Aside0.mk (CH5.out.grown hg6 (fun k hk => .inl (by rw [← hk]; show some gv = some ad.block; rw [HAD.out]))); clear hn6 hb6 hg6)
        go_roundg k2
        case measure => exact Nat.lt_succ_self _
        case rel => exact ⟨i + 1, j + 1, p + 1, ys.set i z, by first | rfl | rw [HWI.out], by first | rfl | rw [HW.out], ⟨by have h1 := HPJ.out; omega, by omega⟩, ⟨by have h1 := HKP.out; omega⟩, ⟨by have h2 := HMP.out; subst h2; exact HSWj.out.keep HA.out HZ.out hqz⟩, HN6, CH6⟩
    | false =>
     go_wp2
     refine s_ 11 [] (fun w' => w'.cell? (ad.add (k * 4)) = some (.slice B0 z.f0.length b0) ∧ w'.cell? ⟨(ad.add (k * 4)).block, (ad.add (k * 4)).off + 1, none⟩ = some (.int .i64 z.f1) ∧ w'.cell? ⟨(ad.add (k * 4)).block, (ad.add (k * 4)).off + 2, none⟩ = some (.bool z.f2) ∧ w'.cell? ⟨(ad.add (k * 4)).block, (ad.add (k * 4)).off + 3, none⟩ = some (.slice B3 z.f3.length b3) ∧ w'.cell? (ad.add (m * 4)) = some (.slice D0 a.f0.length d0) ∧ w'.cell? ⟨(ad.add (m * 4)).block, (ad.add (m * 4)).off + 1, none⟩ = some (.int .i64 a.f1) ∧ w'.cell? ⟨(ad.add (m * 4)).block, (ad.add (m * 4)).off + 2, none⟩ = some (.bool a.f2) ∧ w'.cell? ⟨(ad.add (m * 4)).block, (ad.add (m * 4)).off + 3, none⟩ = some (.slice D3 a.f3.length d3)) (hS := ⟨(show wr.drew.cell? _ = _ from hb0), (show wr.drew.cell? _ = _ from hb1), (show wr.drew.cell? _ = _ from hb2_), (show wr.drew.cell? _ = _ from hb3_), (show wr.drew.cell? _ = _ from hd0), (show wr.drew.cell? _ = _ from hd1), (show wr.drew.cell? _ = _ from hd2), (show wr.drew.cell? _ = _ from hd3)⟩) (h := fun hHeld => ?_)
     refine p_ 0 18 (bb 11 1) (h := ?_)
     refine p_ 1 19 (bb 11 3) (h := ?_)
     refine p_ 2 20 (bb 11 7) (h := ?_)
     refine p_ 3 21 (bb 11 15) (h := ?_)
     refine t_ 4 22 (bb 11 31) hHeld (h := ?_)
     refine p_ 5 23 (bb 11 63) (h := ?_)
     refine p_ 6 24 (bb 11 127) (h := ?_)
     refine p_ 7 25 (bb 11 255) (h := ?_)
     refine p_ 8 26 (bb 11 511) (h := ?_)
     refine t_ 9 27 (bb 11 1023) hHeld (h := ?_)
     refine n_ 10 28 (bb 11 2047) (h := fun K hK => ?_)
     refine goesv_ hf hfn hfb #[] caps (#[.agg #[.slice B0 z.f0.length b0, .int .i64 z.f1, .bool z.f2, .slice B3 z.f3.length b3], .agg #[.slice D0 a.f0.length d0, .int .i64 a.f1, .bool a.f2, .slice D3 a.f3.length d3]] ++ caps) (by rfl) rfl rfl rfl (by (try simp only [List.map_toArray, List.map_cons, List.map_nil]); first | done | rfl) ?_
     refine (HSAY.out z B0 b0 B3 b3 a D0 d0 D3 d3 wr.drew (HG.out z (List.mem_of_getElem? HZ.out)) (HG.out a (List.mem_of_getElem? HA.out)) (Kept.of_below (below_drew HB.out) _) (k36_C (Kd.FK_now HFB.out)).1 (k36_C (Kd.FK_now HFB.out)).2.1 (k36_C (Kd.FK_now HFB.out)).2.2.1 (k36_C (Kd.FK_now HFB.out)).2.2.2 (k36_C (Kd.FK_now HFD.out)).1 (k36_C (Kd.FK_now HFD.out)).2.1 (k36_C (Kd.FK_now HFD.out)).2.2.1 (k36_C (Kd.FK_now HFD.out)).2.2.2).mono ?_
     rintro ex w5 ⟨rfl, hb5⟩
     refine ⟨_, rfl, ?_⟩
     rw [hqz]
     have hb5 := Aside0.mk hb5
     refine hK.out _ _ ⟨pw_cell_below hb5.out hHeld.1, pw_cell_below hb5.out hHeld.2.1, pw_cell_below hb5.out hHeld.2.2.1, pw_cell_below hb5.out hHeld.2.2.2.1, pw_cell_below hb5.out hHeld.2.2.2.2.1, pw_cell_below hb5.out hHeld.2.2.2.2.2.1, pw_cell_below hb5.out hHeld.2.2.2.2.2.2.1, pw_cell_below hb5.out hHeld.2.2.2.2.2.2.2⟩ (fun hHeld => ?_)
     clear hK K
     refine m_ 28 (h := ?_)
     refine d_ (h := ?_)

     clear hwm
     go_wp2
     go_roundg k1
     case measure => exact Nat.lt_succ_self _
     case rel => exact ⟨k + 1, by first | rfl | rw [HW.out], ⟨by have h1 := HK.out; omega⟩, ⟨by omega⟩, ⟨by have h1 := HU.out; have h2 := HM.out; subst h2; rw [uniq_snoc q HA.out HZ.out, hqz, h1, if_neg (by simp), take_snoc' HZ.out]⟩, ⟨below_step (below_drew HB.out) hb5.out⟩⟩
end Go.Proofs.Ytobjkjmmkbhecaa.Sk
