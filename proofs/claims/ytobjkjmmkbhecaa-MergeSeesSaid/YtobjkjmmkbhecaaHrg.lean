/- The document's groups, walked. Conditions: those of each theorem. -/
import Derived.Test.YtobjkjmmkbhecaaCore
import Derived.Test.YtobjkjmmkbhecaaHcu
import Derived.Test.YtobjkjmmkbhecaaME
import Derived.Test.YtobjkjmmkbhecaaHgp
import Derived.Test.YtobjkjmmkbhecaaHpl
import Derived.Test.YtobjkjmmkbhecaaHps
import Derived.Test.YtobjkjmmkbhecaaHsp
import Derived.Test.YtobjkjmmkbhecaaHtk
import Derived.Test.YtobjkjmmkbhecaaPx0
import Derived.Test.YtobjkjmmkbhecaaSpecA
import Derived.Test.YtobjkjmmkbhecaaHgr
import Derived.Test.YtobjkjmmkbhecaaHcp
import Derived.Test.YtobjkjmmkbhecaaMF
namespace Go.Proofs.Ytobjkjmmkbhecaa.Sk
open Go.RowKit Go.Proofs.YtobjkjmmkbhecaaW.PrintWords Go.Proofs.YtobjkjmmkbhecaaW.PrintLast Go.Proofs.YtobjkjmmkbhecaaW.PrintMore Go.Proofs.Ytobjkjmmkbhecaa.Px Go.Proofs.Ytobjkjmmkbhecaa.Sw
set_option linter.unusedVariables false
set_option linter.unusedSimpArgs false
/-- What a row of rows leads to: what is older than the last one's begin is only read, the last one is the call's own. -/
structure Pcq (S : Nat → Prop) (w : World) (B T : Nat) (ob : Option Nat) (rows : List (List Value)) (X : List (List S36)) : Prop where
 len : rows.length = X.length
 lo : B ≤ T
 hi : T ≤ w.heap.size
 old : ∀ j x c, j + 1 < X.length → X[j]? = some x → rows[j]? = some c → Kd.FK (Kd.slice 36 k36) w (fun k => (k < T ∧ S k) ∧ some k ≠ ob) x c
 last : ∀ j x c, j + 1 = X.length → X[j]? = some x → rows[j]? = some c → ∃ u, c = [u] ∧ Kd.N k36 36 w T (fun k => S k ∧ some k ≠ ob) u x
section
variable {S : Nat → Prop} {w w1 w2 wc : World} {B T : Nat} {ob : Option Nat} {rows : List (List Value)} {X : List (List S36)}
theorem Pcq.nil (S : Nat → Prop) (w : World) (ob : Option Nat) {B : Nat} (h : B ≤ w.heap.size) : Pcq S w B w.heap.size ob [] [] := ⟨rfl, h, Nat.le_refl _, fun j x c h => by simp at h, fun j x c h => by simp at h⟩
theorem Pcq.below (h : Pcq S w B T ob rows X) (hb : Below w.heap.size w w1) : Pcq S w1 B T ob rows X :=
 ⟨h.len, h.lo, Nat.le_trans h.hi hb.size, fun j x c h1 h2 h3 => Kd.FK_below (h.old j x c h1 h2 h3) hb, fun j x c h1 h2 h3 => by
  obtain ⟨u, hu, hn⟩ := h.last j x c h1 h2 h3
  exact ⟨u, hu, Kd.N_below hn hb⟩⟩
/-- All of it, only read. -/
theorem Pcq.closed (h : Pcq S w B T ob rows X) {j : Nat} {x : List S36} {c : List Value} (hx : X[j]? = some x) (hc : rows[j]? = some c) : Kd.FK (Kd.slice 36 k36) w (fun k => (k < w.heap.size ∧ S k) ∧ some k ≠ ob) x c := by
 have hj := (List.getElem?_eq_some_iff.1 hx).1
 by_cases h1 : j + 1 < X.length
 ·
  exact Kd.FK_mono (h.old j x c h1 hx hc) (fun k hk => ⟨⟨Nat.lt_of_lt_of_le hk.1.1 h.hi, hk.1.2⟩, hk.2⟩)
 ·
  obtain ⟨u, rfl, hn⟩ := h.last j x c (by omega) hx hc
  obtain ⟨A, n, rfl⟩ := Kd.N_slice hn
  exact Kd.FK_slice_mk (Kd.N_reads' hn).2.1 (Kd.F_mono (Kd.F_bound (Kd.N_F hn)) (fun k hk => ⟨⟨hk.2, hk.1.1⟩, hk.1.2⟩))
/-- A row of rows as one that is only read. -/
theorem Pcq.toN {ok ok' : Nat → Prop} {v : Value} (h : Pcq S w B T v.ownBlock rows X) (hN : Kd.N (Kd.raw 1) 24 w B ok v rows) (hok : ∀ k, k < w.heap.size → S k → ok' k) (hS : ∀ k, v.ownBlock = some k → S k) : Kd.N (Kd.slice 36 k36) 24 w B ok' v X := by
 have hlt := Kd.N_lt hN
 obtain ⟨h0, rows2, hl, hR, hf⟩ := hN
 refine ⟨fun k hk => hok k (hlt k hk) (hS k hk), rows2, by rw [hl, h.len], hR, fun j x c hx hc => ?_⟩
 have hj2 := (List.getElem?_eq_some_iff.1 hc).1
 have hj : j < rows.length := by omega
 have hr : rows[j]? = some rows[j] := List.getElem?_eq_getElem hj
 have hK : c = rows[j] := (Kd.FK_now (hf j rows[j] c hr hc)).1
 exact Kd.FK_mono (h.closed hx (by rw [hr, hK])) (fun k hk => ⟨hok k hk.1.1 hk.1.2, hk.2⟩)
/-- A row more. -/
theorem Pcq.push {ob1 : Option Nat} {okU : Nat → Prop} {u : Value} {p : List S36} (h : Pcq S w B T ob rows X) (hb : Below w.heap.size w wc) (hu : Kd.N k36 36 wc w.heap.size okU u p) (hU : ∀ k, okU k → S k ∧ some k ≠ ob) (hg : wc.grownBy w1 ob) (hat : ob1 = ob ∨ ∃ b, ob1 = some b ∧ wc.heap.size ≤ b) :
  Pcq S w1 B w.heap.size ob1 (rows ++ [[u]]) (X ++ [p]) := by
 have hne : ∀ k, k < wc.heap.size → some k ≠ ob → some k ≠ ob1 := by
  intro k hk hko he
  rcases hat with e | ⟨b, e, hbk⟩
  ·
   exact hko (by rw [← e]; exact he)
  ·
   rw [e] at he; injection he with he; omega
 refine ⟨by simp [h.len], Nat.le_trans h.lo h.hi, Nat.le_trans hb.size hg.size, fun j x c h1 h2 h3 => ?_, fun j x c h1 h2 h3 => ?_⟩
 ·
  have hj : j < X.length := by simp at h1; omega
  rw [List.getElem?_append_left hj] at h2
  rw [List.getElem?_append_left (by rw [h.len]; exact hj)] at h3
  refine Kd.FK_mono (Kd.FK_grown (Kd.FK_below (h.closed h2 h3) hb) hg (fun k hk => hk.2)) (fun k hk => ⟨hk.1, hne k (Nat.lt_of_lt_of_le hk.1.1 hb.size) hk.2⟩)
 ·
  have hj : j = X.length := by simp at h1; omega
  subst hj
  rw [List.getElem?_append_right (Nat.le_refl _), Nat.sub_self] at h2
  rw [List.getElem?_append_right (by rw [h.len]; exact Nat.le_refl _), h.len, Nat.sub_self] at h3
  injection h2 with h2
  injection h3 with h3
  subst h2; subst h3
  exact ⟨u, rfl, Kd.N_mono (Kd.N_grown (Kd.N_mono (ok' := fun k => (S k ∧ some k ≠ ob) ∧ k < wc.heap.size) (Kd.N_bound hu) (fun k hk => ⟨hU k hk.1, hk.2⟩)) hg (fun k hk => hk.1.2)) (fun k hk => ⟨hk.1.1, hne k hk.2 hk.1.2⟩)⟩
/-- The last one has grown, and is laid where it was. -/
theorem Pcq.grown {okN : Nat → Prop} {u u1 : Value} {X0 : List (List S36)} {rows0 : List (List Value)} {x y : List S36} (h : Pcq S w B T ob (rows0 ++ [[u]]) (X0 ++ [x])) (hb : Below w.heap.size w wc) (hbase : ∀ k, u.ownBlock = some k → T ≤ k) (hg : wc.grownBy w1 u.ownBlock) (hu : Kd.N k36 36 w1 T okN u1 y) (hN : ∀ k, okN k → S k ∧ some k ≠ ob) (hg2 : w1.grownBy w2 ob) :
  Pcq S w2 B T ob (rows0 ++ [[u1]]) (X0 ++ [y]) := by
 have hl : rows0.length = X0.length := by have := h.len; simp at this; exact this
 refine ⟨by simp [hl], h.lo, Nat.le_trans h.hi (Nat.le_trans hb.size (Nat.le_trans hg.size hg2.size)), fun j x' c h1 h2 h3 => ?_, fun j x' c h1 h2 h3 => ?_⟩
 ·
  have hj : j < X0.length := by simp at h1; omega
  rw [List.getElem?_append_left hj] at h2
  rw [List.getElem?_append_left (by rw [hl]; exact hj)] at h3
  have := h.old j x' c (by simp; omega) (by rw [List.getElem?_append_left hj]; exact h2) (by rw [List.getElem?_append_left (by rw [hl]; exact hj)]; exact h3)
  exact Kd.FK_grown (Kd.FK_grown (Kd.FK_below this hb) hg (fun k hk he => by have := hbase k he.symm; have := hk.1.1; omega)) hg2 (fun k hk => hk.2)
 ·
  have hj : j = X0.length := by simp at h1; omega
  subst hj
  rw [List.getElem?_append_right (Nat.le_refl _), Nat.sub_self] at h2
  rw [List.getElem?_append_right (by rw [hl]; exact Nat.le_refl _), hl, Nat.sub_self] at h3
  injection h2 with h2
  injection h3 with h3
  subst h2; subst h3
  exact ⟨u1, rfl, Kd.N_grown (Kd.N_mono hu hN) hg2 (fun k hk => hk.2)⟩
/-- The last one, out of the row. -/
theorem Pcq.open_ {X0 : List (List S36)} {x : List S36} (h : Pcq S w B T ob rows (X0 ++ [x])) : ∃ rows0 A c, rows = rows0 ++ [[.slice A x.length c]] ∧ rows0.length = X0.length ∧ x.length ≤ c ∧ Kd.N k36 36 w T (fun k => S k ∧ some k ≠ ob) (.slice A x.length c) x := by
 have hl := h.len
 rw [List.length_append] at hl
 obtain ⟨r0, c, rfl⟩ : ∃ r0 c, rows = r0 ++ [c] := by
  rcases List.eq_nil_or_concat rows with e | ⟨r0, c, e⟩
  ·
   subst e; simp at hl
  ·
   exact ⟨r0, c, by rw [e, List.concat_eq_append]⟩
 have hl0 : r0.length = X0.length := by simpa using hl
 obtain ⟨u, rfl, hn⟩ := h.last X0.length x c (by simp) (by simp) (by rw [← hl0]; simp)
 obtain ⟨A, n, rfl⟩ := Kd.N_slice hn
 exact ⟨r0, A, n, rfl, hl0, (Kd.N_reads' hn).2.1, hn⟩
end

section
variable {α : Type} {key : α → List Int}
theorem ofKey_snoc (k : List Int) (e : α) : ∀ r : List α, ofKey key k (r ++ [e]) = if (ofKey key k r).2 = [] then (if key e = k then (r ++ [e], []) else (r, [e])) else ((ofKey key k r).1, (ofKey key k r).2 ++ [e])
 | [] => by
  show ofKey key k [e] = if ([] : List α) = [] then _ else _
  rw [if_pos rfl]
  unfold ofKey
  split
  ·
   rfl
  ·
   rfl
 | x :: r => by
  have ih := ofKey_snoc k e r
  rw [List.cons_append]
  unfold ofKey
  by_cases hx : key x = k
  ·
   rw [if_pos hx, if_pos hx, ih]
   by_cases h2 : (ofKey key k r).2 = []
   ·
    rw [if_pos h2, if_pos h2]
    split
    ·
     rfl
    ·
     rfl
   ·
    rw [if_neg h2, if_neg h2]
  ·
   rw [if_neg hx, if_neg hx, if_neg (by simp)]
   rfl
/-- One entry more: it grows the last group, or begins one. -/
theorem groupsK_more : ∀ (n : Nat) (l : List α), l.length ≤ n → ∀ u, l.getLast? = some u → ∃ X0 x, groupsK key l = X0 ++ [x] ∧ ∀ e, groupsK key (l ++ [e]) = if key u = key e then X0 ++ [x ++ [e]] else (X0 ++ [x]) ++ [[e]]
 | _, [], _, u, hu => by cases hu
 | 0, x :: l, h, _, _ => by simp at h
 | n + 1, y :: r, h, u, hu => by
  have happ := ofKey_app (key := key) (key y) r
  have hkey := ofKey_key (key := key) (key y) r
  by_cases h2 : (ofKey key (key y) r).2 = []
  ·
   have hr : (ofKey key (key y) r).1 = r := by rw [h2, List.append_nil] at happ; exact happ
   have huk : key u = key y := by
    have hum := List.mem_of_getLast? hu
    rcases List.mem_cons.1 hum with e | e
    ·
     rw [e]
    ·
     exact hkey u (by rw [hr]; exact e)
   refine ⟨[], y :: r, by rw [groupsK, h2, hr, groupsK]; rfl, fun e => ?_⟩
   rw [List.cons_append, groupsK, ofKey_snoc, if_pos h2, huk]
   by_cases he : key e = key y
   ·
    rw [if_pos he, if_pos he.symm, groupsK]; rfl
   ·
    rw [if_neg he, if_neg (fun h => he h.symm), groupsK, ofKey, groupsK]; rfl
  ·
   have hlen := ofKey_len (key := key) (key y) r
   have hu2 : (ofKey key (key y) r).2.getLast? = some u := by
    rw [← happ] at hu
    rw [← List.cons_append, List.getLast?_append] at hu
    cases hg : (ofKey key (key y) r).2.getLast? with
    | none => exact absurd (List.getLast?_eq_none_iff.1 hg) h2
    | some v => rw [hg, Option.some_or] at hu; exact hu
   obtain ⟨X0, x, h3, h4⟩ := groupsK_more n (ofKey key (key y) r).2 (by simp at h; omega) u hu2
   refine ⟨(y :: (ofKey key (key y) r).1) :: X0, x, by rw [groupsK, h3]; rfl, fun e => ?_⟩
   rw [List.cons_append, groupsK, ofKey_snoc, if_neg h2, h4 e]
   by_cases he : key u = key e
   ·
    rw [if_pos he, if_pos he]; rfl
   ·
    rw [if_neg he, if_neg he]; rfl
end
theorem groupsK_single {α : Type} {key : α → List Int} (z : α) : groupsK key [z] = [[z]] := by
 rw [groupsK]
 show [z] :: groupsK key [] = _
 rw [groupsK]
theorem build1E_run {f : Operand → Value} {o : Oper} {x : Operand} {W : World} {a b c d : Value} (ho : o.op = .buildSlice 24 1 #[(0, x)]) (hv : f x = .agg #[a, b, c, d]) :
  (execOp f o).run Try.prog W = .ok (.value (.slice (some ⟨W.heap.size, 0, none⟩) 1 1)) (W.alloc (.cells #[a, b, c, d] 36 (0, 0))) := by
 have hu := Try.underlying24
 unfold execOp
 simp only [ho]
 go_simp
set_option maxHeartbeats 40000000 in
set_option maxRecDepth 100000 in
theorem rgroups_calls {w : World} {A : Option Addr} {c : Nat} {xs : List S36} {okF : Nat → Prop} (hF0 : Kd.F k36 w okF A xs.length xs) (hlc : xs.length ≤ c) (hln : xs.length ≤ 1000000000) (hG : ∀ e ∈ xs, EB e ∧ e.f0.length < 140737488355328 ∧ e.f3.length < 140737488355328) :
  Calls Try.prog 34 #[.slice A xs.length c] w fun ex w' => ∃ v, ex = .returned v ∧ Kd.N (Kd.slice 36 k36) 24 w' w.heap.size (fun k => (okF k ∧ k < w.heap.size) ∨ w.heap.size ≤ k) v (groupsK (fun e : S36 => e.f0) xs) ∧ Below w.heap.size w w' := by
 have HF := Aside0.mk hF0
 have HLC := Aside0.mk hlc
 have HLN := Aside0.mk hln
 have HG := Aside0.mk hG
 clear hF0 hlc hln hG
 go_enter Try.func34, Try.ntmps34
 go_wp2
 go_loopg [3, 4] xs.length (fun kq v3 v4 w' => ∃ (i : Nat) (X : List (List S36)) (rows : List (List Value)) (T : Nat) (Av : Option Addr) (cv : Nat), v3 = .slice Av X.length cv ∧ v4 = .int .i64 (i : Int) ∧ Aside0 (kq + i = xs.length) ∧ Aside0 (groupsK (fun e : S36 => e.f0) (xs.take i) = X) ∧ Aside0 (Kd.N (Kd.raw 1) 24 w' w.heap.size (fun k => w.heap.size ≤ k) (.slice Av X.length cv) rows) ∧ Aside0 (Pcq (fun k => (okF k ∧ k < w.heap.size) ∨ w.heap.size ≤ k) w' w.heap.size T (Value.slice Av X.length cv).ownBlock rows X) ∧ Aside0 (Below w.heap.size w w'))
 case atStart => exact ⟨0, [], [], _, none, 0, rfl, rfl, ⟨rfl⟩, ⟨by rw [List.take_zero, groupsK]⟩, ⟨Kd.N_nil _ _ _ _ _⟩, ⟨Pcq.nil _ _ _ (Nat.le_refl _)⟩, ⟨Below.refl _ _⟩⟩
 case round =>
  obtain ⟨i, X, rows, T, Av, cv, rfl, rfl, HK, HX, HN, HP, HB⟩ := hrel
  cases gk with
  | zero =>
   as_aux_lemma =>
   have hlt : ((i : Int) < (xs.length : Int)) = False := eq_false (by have h := HK.out; omega)
   go_wp2
   go_ret
   have e := HX.out
   rw [List.take_of_length_le (by have h := HK.out; omega)] at e
   rw [e]
   exact ⟨_, rfl, HP.out.toN HN.out (fun _ _ h => h) (fun k hk => .inr (Kd.N_base HN.out k hk)), HB.out⟩
  | succ k1 =>
   as_aux_lemma =>
   have hil : i < xs.length := by have h := HK.out; omega
   have hlt : ((i : Int) < (xs.length : Int)) = True := eq_true (by omega)
   have HIL := Aside0.mk hil
   obtain ⟨z, hz⟩ : ∃ z, xs[i]? = some z := ⟨_, List.getElem?_eq_getElem hil⟩
   have HZE := Aside0.mk (HG.out z (List.mem_of_getElem? hz)).1
   obtain ⟨ad, ea, _⟩ := (Kd.F_now HF.out).2.2 (by omega)
   subst ea
   have HFR := Aside0.mk (Kd.F_below (Kd.F_bound HF.out) HB.out)
   have HFA := Aside0.mk HF.out
   obtain ⟨M0, m0, M3, m3, hd0, hd1, hd2, hd3, _, hK0⟩ := at_FE HFA.out i z hz
   have HZW := Aside0.mk (show ∀ W : World, Below w.heap.size w W → (W.cell? (ad.add (i * 4)) = some (.slice M0 z.f0.length m0) ∧ W.cell? ⟨(ad.add (i * 4)).block, (ad.add (i * 4)).off + 1, none⟩ = some (.int .i64 z.f1) ∧ W.cell? ⟨(ad.add (i * 4)).block, (ad.add (i * 4)).off + 2, none⟩ = some (.bool z.f2) ∧ W.cell? ⟨(ad.add (i * 4)).block, (ad.add (i * 4)).off + 3, none⟩ = some (.slice M3 z.f3.length m3)) from fun W hB => ⟨cell_below_ hd0 hB, cell_below_ hd1 hB, cell_below_ hd2 hB, cell_below_ hd3 hB⟩)
   have HFZ := Aside0.mk (show Kd.FK k36 wr (fun k => okF k ∧ k < w.heap.size) z [.slice M0 z.f0.length m0, .int .i64 z.f1, .bool z.f2, .slice M3 z.f3.length m3] from Kd.FK_below (Kd.FK_bound hK0) HB.out)
   have HWK := Aside0.mk (wadd1 (x := i) (z := i + 1) rfl (by have h1 := HLN.out; omega))
   have HXM := Aside0.mk (show X.length ≤ i by rw [← HX.out]; have h := groupsK_len (key := fun e : S36 => e.f0) _ (xs.take i) (Nat.le_refl _); rw [List.length_take] at h; omega)
   have htk : xs.take (i + 1) = xs.take i ++ [z] := by rw [List.take_add_one, hz]; rfl
   clear hd0 hd1 hd2 hd3 hK0
   by_cases hi : 0 < i
   ·
    have hi0 : (0 < i) = True := eq_true hi
    obtain ⟨m, hm⟩ : ∃ m, m + 1 = i := ⟨i - 1, by omega⟩
    obtain ⟨u, hu⟩ : ∃ u, xs[m]? = some u := ⟨_, List.getElem?_eq_getElem (by omega)⟩
    have hw1 : wrap64 ((i : Int) - 1) = (m : Int) := wsub1 hm (by have h1 := HIL.out; have h2 := HLN.out; omega)
    have hmx : ((m : Int) < (xs.length : Int)) = True := eq_true (by omega)
    have hgl : (xs.take i).getLast? = some u := by rw [← hm, List.take_add_one, hu]; simp
    obtain ⟨X0, x, hX0, hmore⟩ := groupsK_more (key := fun e : S36 => e.f0) _ (xs.take i) (Nat.le_refl _) u hgl
    have hXX : X = X0 ++ [x] := HX.out.symm.trans hX0
    have hmz := hmore z
    rw [← htk] at hmz
    have hse := str_eq (HG.out u (List.mem_of_getElem? hu)).1.1 HZE.out.1
    obtain ⟨ad2, U0, u0, U3, u3, ea, hu0, _, _, _, hum⟩ := at_CE (Kd.F_now HFR.out) m u hu
    obtain rfl := Option.some.inj ea
    have hum := (hum).2.1
    have hzm := (k36_C (Kd.FK_now HFZ.out)).2.1
    have hz0 : wr.cell? _ = some (.slice M0 z.f0.length m0) := (HZW.out wr HB.out).1
    have HXX := Aside0.mk hXX
    have HI1 := Aside0.mk hi
    have HXLEN := Aside0.mk (show x.length ≤ i by
     have h1 := (mem_flat (gs := X0 ++ [x]) (m := X0.length) (g := x) (by simp)).1
     rw [← hX0, groupsK_flat _ _ (Nat.le_refl _), List.length_take] at h1
     omega)
    clear hi hm hgl hX0 hmore htk hu hz hil hXX
    by_cases hk : u.f0 = z.f0
    ·
     have HPE := Aside0.mk (show groupsK (fun e : S36 => e.f0) (xs.take (i + 1)) = X0 ++ [x ++ [z]] by rw [hmz, if_pos hk])
     rw [decide_eq_true hk] at hse
     clear hmz hk
     go_upto_region 5 with (fail)
     refine s_ 18 [] (fun w' => w'.cell? (ad.add (m * 4)) = some (.slice U0 u.f0.length u0) ∧ w'.cell? (ad.add (i * 4)) = some (.slice M0 z.f0.length m0) ∧ Kd.C (Kd.int .u8) w' U0 u.f0.length u.f0 ∧ Kd.C (Kd.int .u8) w' M0 z.f0.length z.f0) (hS := ⟨hu0, hz0, hum, hzm⟩) (h := fun hHeld => ?_)
     have Bw5 := Aside0.mk (show Below wr.heap.size wr wr.drew from below_drew (Below.refl _ _))
     clear hu0 hz0 hum hzm
     generalize wr.drew = w5 at hHeld Bw5 ⊢
     refine p_ 0 11 (bb 18 1) (h := ?_)
     refine p_ 1 12 (bb 18 3) (h := ?_)
     refine p_ 2 13 (bb 18 7) (h := ?_)
     refine p_ 3 14 (bb 18 15) (h := ?_)
     refine p_ 4 15 (bb 18 31) (h := ?_)
     refine p_ 5 16 (bb 18 63) (h := ?_)
     refine p_ 6 17 (bb 18 127) (h := ?_)
     refine p_ 7 18 (bb 18 255) (h := ?_)
     refine t_ 8 19 (bb 18 511) hHeld (h := ?_)
     refine t_ 9 20 (bb 18 1023) hHeld (hy := by (rintro w' ⟨s0, s1, s2, s3⟩; have hcv := Kd.C_string (P := Try.prog) (A := U0) (c := u0) Try.underlying34 Try.underlying5 Try.underlying9 s2; go_simp; with_reducible rfl)) (h := ?_)
     refine p_ 10 21 (bb 18 2047) (h := ?_)
     refine p_ 11 22 (bb 18 4095) (h := ?_)
     refine p_ 12 23 (bb 18 8191) (h := ?_)
     refine p_ 13 24 (bb 18 16383) (h := ?_)
     refine t_ 14 25 (bb 18 32767) hHeld (h := ?_)
     refine t_ 15 26 (bb 18 65535) hHeld (hy := by (rintro w' ⟨s0, s1, s2, s3⟩; have hcv := Kd.C_string (P := Try.prog) (A := M0) (c := m0) Try.underlying34 Try.underlying5 Try.underlying9 s3; go_simp; with_reducible rfl)) (h := ?_)
     refine p_ 16 27 (bb 18 131071) (h := ?_)
     refine p_ 17 28 (bb 18 262143) (h := ?_)
     refine d_ (h := ?_)
     clear hHeld hse
     have B5w := Bw5
     have HPX := Aside0.mk (show Pcq (fun k => (okF k ∧ k < w.heap.size) ∨ w.heap.size ≤ k) wr w.heap.size T (Value.slice Av X.length cv).ownBlock rows (X0 ++ [x]) by rw [← HXX.out]; exact HP.out)
     obtain ⟨rows0, Al, cl, hr, hl0, hlx, hnx⟩ := HPX.out.open_
     have hXl : X.length = X0.length + 1 := by rw [HXX.out]; simp
     obtain ⟨gO, cap, e, hbO, hltO, _⟩ := Kd.N_form HN.out (by rw [hr]; simp)
     injection e with e1 e2 e3
     obtain ⟨ag, hag⟩ : ∃ ag : Addr, ag = ⟨gO, 0, none⟩ := ⟨_, rfl⟩
     rw [← hag] at e1
     subst e1
     have hR0 : rows[X0.length]? = some [.slice Al x.length cl] := by rw [hr, ← hl0]; simp
     have hcl := raw_cell HN.out hR0
     have HCL := Aside0.mk hcl
     have HR0 := Aside0.mk hR0
     have HRW := Aside0.mk hr
     have HL0 := Aside0.mk hl0
     have HLN2 := Aside0.mk (Kd.N_mono (ok' := fun k => (fun k => (okF k ∧ k < w.heap.size) ∨ w.heap.size ≤ k) k ∧ some k ≠ some ag.block) hnx (fun k hk => ⟨hk.1, fun he => hk.2 (by rw [he, hag]; rfl)⟩))
     have HAG := Aside0.mk hag
     have HBO := Aside0.mk (show w.heap.size ≤ ag.block ∧ ag.block < wr.heap.size by rw [hag]; exact ⟨hbO, hltO⟩)
     have HXL2 := Aside0.mk (show X0.length < X.length by omega)
     have HXG := Aside0.mk (show x.length + 1 ≤ 1000000001 by have h1 := HXLEN.out; have h2 := HIL.out; have h3 := HLN.out; omega)
     have hw2 : wrap64 ((X.length : Int) - 1) = (X0.length : Int) := wsub1 (by omega) (by have h1 := HXM.out; have h2 := HIL.out; have h3 := HLN.out; omega)
     have hlt2 : ((X0.length : Int) < (X.length : Int)) = True := eq_true (by omega)
     have HLO := Aside0.mk HP.out.lo
     have HVU := Aside0.mk (show ∀ k, some k = (Value.slice (some ag) X.length cv).ownBlock → some k ≠ (Value.slice Al x.length cl).ownBlock from fun k hk he => (HLN2.out.1 k he.symm).2 (by rw [hk]; rfl))
     have HNR := Aside0.mk (raw_tightN HN.out)
     obtain ⟨hz60, hz61, hz62, hz63⟩ := HZW.out w5.drew (below_drew (below_step HB.out B5w.out))
     clear hr hl0 hlx hnx hXl hag hR0 hbO hltO e2 e3 hcl
     go_upto_region 6 with (fail)
     refine s_ 18 [17] (fun w' => w'.cell? (ag.add X0.length) = some (.slice Al x.length cl) ∧ w'.cell? (ad.add (i * 4)) = some (.slice M0 z.f0.length m0) ∧ w'.cell? ⟨(ad.add (i * 4)).block, (ad.add (i * 4)).off + 1, none⟩ = some (.int .i64 z.f1) ∧ w'.cell? ⟨(ad.add (i * 4)).block, (ad.add (i * 4)).off + 2, none⟩ = some (.bool z.f2) ∧ w'.cell? ⟨(ad.add (i * 4)).block, (ad.add (i * 4)).off + 3, none⟩ = some (.slice M3 z.f3.length m3)) (hS := ⟨cell_below_ HCL.out (below_drew B5w.out), hz60, hz61, hz62, hz63⟩) (h := fun hHeld => ?_)
     have B2 := Aside0.mk (show Below wr.heap.size wr w5.drew from below_drew B5w.out)
     clear hz60 hz61 hz62 hz63
     generalize w5.drew = w2 at B2 hHeld ⊢
     refine p_ 0 29 (bb 18 1) (h := ?_)
     refine p_ 1 30 (bb 18 3) (h := ?_)
     refine p_ 2 31 (bb 18 7) (h := ?_)
     refine p_ 3 32 (bb 18 15) (h := ?_)
     refine p_ 4 33 (bb 18 31) (h := ?_)
     refine p_ 5 34 (bb 18 63) (h := ?_)
     refine p_ 6 35 (bb 18 127) (h := ?_)
     refine p_ 7 36 (bb 18 255) (h := ?_)
     refine p_ 8 37 (bb 18 511) (h := ?_)
     refine t_ 9 38 (bb 18 1023) hHeld (h := ?_)
     refine p_ 10 39 (bb 18 2047) (h := ?_)
     refine p_ 11 40 (bb 18 4095) (h := ?_)
     refine p_ 12 41 (bb 18 8191) (h := ?_)
     refine t_ 13 42 (bb 18 16383) hHeld (h := ?_)
     refine n_ 14 43 (bb 18 32767) (h := fun K hK => ?_)
     refine value_ (w1 := w2.alloc (.cells #[.slice M0 z.f0.length m0, .int .i64 z.f1, .bool z.f2, .slice M3 z.f3.length m3] 36 (0, 0))) (v := .slice (some ⟨w2.heap.size, 0, none⟩) 1 1) (by rfl) rfl (build1E_run (x := .tmp 42) rfl rfl) ?_
     refine hK.out _ _ ⟨pw_cell_below (below_alloc (Below.refl w2.heap.size w2) _) hHeld.1, pw_cell_below (below_alloc (Below.refl w2.heap.size w2) _) hHeld.2.1, pw_cell_below (below_alloc (Below.refl w2.heap.size w2) _) hHeld.2.2.1, pw_cell_below (below_alloc (Below.refl w2.heap.size w2) _) hHeld.2.2.2.1, pw_cell_below (below_alloc (Below.refl w2.heap.size w2) _) hHeld.2.2.2.2⟩ (fun hHeld => ?_)
     clear hK K
     refine m_ 43 (h := ?_)
     refine n_ 15 44 (bb 18 65535) (h := fun K hK => ?_)
     refine Kd.N_append_step k36 (w0 := w2) T (by rfl) (.tmp 38) (.tmp 43) 24 36 (.agg #[.slice none 0 0, .int .i64 0, .bool false, .slice none 0 0]) 64 rfl Try.underlying24 info36 rfl (by decide) (by omega) (.slice Al x.length cl) x z [.slice M0 z.f0.length m0, .int .i64 z.f1, .bool z.f2, .slice M3 z.f3.length m3] (fun k => (fun k => (okF k ∧ k < w.heap.size) ∨ w.heap.size ≤ k) k ∧ some k ≠ some ag.block) (fun k => okF k ∧ k < w.heap.size) rfl rfl ?aP ?aH ?aF ?aO ?aB ?aS ?aL ?_
     case aP => exact Kd.FK_below HFZ.out B2.out
     case aH => exact fun k hk => ⟨⟨.inl hk, fun he => (by injection he with he; have h1 := HBO.out.1; have h2 := hk.2; omega)⟩, fun he => (by have h1 := Kd.N_base HLN2.out k he.symm; have h3 := HP.out.lo; have h2 := hk.2; omega)⟩
     case aF => exact fun k hk => ⟨.inr (by have h1 := HB.out.size; have h2 := B2.out.size; omega), fun he => by injection he with he; have h1 := HBO.out.2; have h2 := B2.out.size; omega⟩
     case aO => exact Kd.N_below HLN2.out B2.out
     case aB => exact Below.refl _ _
     case aS => have h1 := HP.out.hi; have h2 := B2.out.size; omega
     case aL => have h1 := HXG.out; omega
     intro v5 w5 hn5 hb5 hgr5 hat5
     have hn5 := Aside0.mk hn5
     have hgr5 := Aside0.mk hgr5
     have N5 := Aside0.mk (Kd.N_grown (Kd.N_below HNR.out B2.out) hgr5.out (fun k hk he => HVU.out k hk he))
     have B5 := Aside0.mk (show Below w.heap.size w w5 from below_lower2 (below_step HB.out B2.out) hb5 HLO.out)
     clear hb5 hat5
     obtain ⟨A5, c5, e5⟩ := Kd.N_slice hn5.out
     subst e5
     have hc5 := Aside0.mk (raw_cell N5.out HR0.out)
     obtain ⟨hz50, hz51, hz52, hz53⟩ := HZW.out w5 B5.out
     refine hK.out _ _ ⟨hc5.out, hz50, hz51, hz52, hz53⟩ (fun hHeld => ?_)
     clear hK K
     refine m_ 44 (h := ?_)
     refine p_ 16 45 (bb 18 131071) (h := ?_)
     refine lN_ 17 (bb 18 262143) 24 (.tmp 45) (.tmp 44) X0.length HAG.out N5.out HXL2.out (u := .slice A5 (x ++ [z]).length c5) (FK_raw1 (u := .slice A5 (x ++ [z]).length c5) rfl) (fun k hk => False.elim hk) ht24 rfl (by rfl) (by rfl) (by kernel_rfl) (by decide) (by rfl) rfl (by show _ = Value.pointer (some (ag.add (X0.length * 1))); rw [Nat.mul_one]; rfl) rfl (fun w6 hn6 hg6 => ?_)
     refine d_ (h := ?_)
     go_wp2
     go_roundg k1
     case measure => exact Nat.lt_succ_self _
     case rel =>
      refine ⟨i + 1, X0 ++ [x ++ [z]], rows0 ++ [[.slice A5 (x ++ [z]).length c5]], T, some ag, cv, ?_, by first | rfl | rw [HWK.out], ⟨by have h := HK.out; omega⟩, ⟨HPE.out⟩, ⟨?_⟩, ⟨?_⟩, ⟨?_⟩⟩
      ·
       rw [show X.length = (X0 ++ [x ++ [z]]).length by rw [HXX.out]; simp]
      ·
       have h := hn6
       rw [show rows.set X0.length [Value.slice A5 (x ++ [z]).length c5] = rows0 ++ [[Value.slice A5 (x ++ [z]).length c5]] by rw [HRW.out, ← HL0.out]; simp, show X.length = (X0 ++ [x ++ [z]]).length by rw [HXX.out]; simp] at h
       exact Kd.N_mono h (fun k hk => by injection hk with hk; rw [hk]; exact HBO.out.1)
      ·
       have hp := HPX.out
       rw [HRW.out] at hp
       have h5 := hn5.out
       have h6 := hg6
       rw [show gO = ag.block by rw [HAG.out]] at h6
       exact Pcq.grown hp B2.out (fun k hk => Kd.N_base HLN2.out k hk) hgr5.out h5 (fun k hk => hk) h6
      ·
       exact B5.out.grown hg6 (by have h := B5.out.size; omega) (fun k hk => by injection hk with hk; have h := HBO.out.1; rw [HAG.out] at h; show _ ≤ k; rw [← hk]; exact h)
    ·
     have HPE := Aside0.mk (show groupsK (fun e : S36 => e.f0) (xs.take (i + 1)) = X ++ [[z]] by rw [hmz, if_neg hk, HXX.out])
     rw [decide_eq_false hk] at hse
     clear hmz hk
     go_upto_region 5 with (fail)
     refine s_ 18 [] (fun w' => w'.cell? (ad.add (m * 4)) = some (.slice U0 u.f0.length u0) ∧ w'.cell? (ad.add (i * 4)) = some (.slice M0 z.f0.length m0) ∧ Kd.C (Kd.int .u8) w' U0 u.f0.length u.f0 ∧ Kd.C (Kd.int .u8) w' M0 z.f0.length z.f0) (hS := ⟨hu0, hz0, hum, hzm⟩) (h := fun hHeld => ?_)
     have Bw5 := Aside0.mk (show Below wr.heap.size wr wr.drew from below_drew (Below.refl _ _))
     clear hu0 hz0 hum hzm
     generalize wr.drew = w5 at hHeld Bw5 ⊢
     refine p_ 0 11 (bb 18 1) (h := ?_)
     refine p_ 1 12 (bb 18 3) (h := ?_)
     refine p_ 2 13 (bb 18 7) (h := ?_)
     refine p_ 3 14 (bb 18 15) (h := ?_)
     refine p_ 4 15 (bb 18 31) (h := ?_)
     refine p_ 5 16 (bb 18 63) (h := ?_)
     refine p_ 6 17 (bb 18 127) (h := ?_)
     refine p_ 7 18 (bb 18 255) (h := ?_)
     refine t_ 8 19 (bb 18 511) hHeld (h := ?_)
     refine t_ 9 20 (bb 18 1023) hHeld (hy := by (rintro w' ⟨s0, s1, s2, s3⟩; have hcv := Kd.C_string (P := Try.prog) (A := U0) (c := u0) Try.underlying34 Try.underlying5 Try.underlying9 s2; go_simp; with_reducible rfl)) (h := ?_)
     refine p_ 10 21 (bb 18 2047) (h := ?_)
     refine p_ 11 22 (bb 18 4095) (h := ?_)
     refine p_ 12 23 (bb 18 8191) (h := ?_)
     refine p_ 13 24 (bb 18 16383) (h := ?_)
     refine t_ 14 25 (bb 18 32767) hHeld (h := ?_)
     refine t_ 15 26 (bb 18 65535) hHeld (hy := by (rintro w' ⟨s0, s1, s2, s3⟩; have hcv := Kd.C_string (P := Try.prog) (A := M0) (c := m0) Try.underlying34 Try.underlying5 Try.underlying9 s3; go_simp; with_reducible rfl)) (h := ?_)
     refine p_ 16 27 (bb 18 131071) (h := ?_)
     refine p_ 17 28 (bb 18 262143) (h := ?_)
     refine d_ (h := ?_)
     clear hHeld hse
     have B5w := Bw5
     go_upto_region 7 with (fail)
     obtain ⟨hz70, hz71, hz72, hz73⟩ := HZW.out w5 (below_step HB.out B5w.out)
     go_wp2_with (first
      | ((with_reducible refine gate_dst (N := 51) rfl ?_); (try (refine gate_guard (by rfl) ?_; dsimp only)); refine Kd.N_lit k36 w5.heap.size 36 ?hg (N' := 51) ?hd (w0 := w5) (xs := [z]) (inner := [.slice M0 z.f0.length m0, .int .i64 z.f1, .bool z.f2, .slice M3 z.f3.length m3]) (ok := fun k => (okF k ∧ k < w.heap.size) ∨ w5.heap.size ≤ k) (okp := (fun k => okF k ∧ k < w.heap.size)) ?hr ?hp (fun _ hk => .inl hk) (.inr (Nat.le_refl _)) (Below.refl _ _) (Nat.le_refl _) (by show 1 ≤ 9223372036854775807; omega) ?_; (case hd => rfl); (case hg => rfl); (case hr => first | (go_simp; done) | (go_simp; rfl)); (case hp => exact Reps.snoc (Reps.none _ _) (Kd.FK_below HFZ.out B5w.out) rfl); intro v51 w2 ho_ hb_ hg_ hnew_; clear hg_ hnew_; obtain ⟨A51, c51, e_⟩ := Kd.N_slice ho_; have e_ : v51 = .slice A51 1 c51 := e_; subst e_; have N51 := Aside0.mk (ho_); have Bw2 := Aside0.mk (hb_); clear ho_ hb_)
      | ((with_reducible refine gate_builtin (b := .append) (xs := #[.tmp 46, .tmp 52]) rfl ?_); at_builtin; refine Kd.N_append (Kd.raw 1) (w0 := w2) w.heap.size rfl (.tmp 46) (.tmp 52) 22 24 (.slice none 0 0) 24 rfl Try.underlying22 (show (Try.prog.info? 24).map (fun i => (i.zero, i.size, i.bytes)) = some (some (.slice none 0 0), 1, 24) by kernel_rfl) rfl (by decide) (by omega) (.slice Av X.length cv) rows [.slice A51 1 c51] [.slice A51 1 c51] (fun k => w.heap.size ≤ k) (fun _ => False) rfl rfl ?aP ?aH ?aF ?aO ?aB ?aS ?aL ?_; (case aP => exact FK_raw1 rfl); (case aH => exact fun k hk => hk.elim); (case aF => exact fun k hk => by have h1 := HB.out.size; have h2 := (below_step B5w.out Bw2.out).size; omega); (case aO => exact Kd.N_below HN.out (below_step B5w.out Bw2.out)); (case aB => exact Below.refl _ _); (case aS => have h1 := HB.out.size; have h2 := (below_step B5w.out Bw2.out).size; omega); (case aL => have h1 := HP.out.len; have h2 := HXM.out; have h3 := HLN.out; have h4 := HIL.out; omega); intro v4 w4 hn4 hb4 hgr4 hat4; obtain ⟨A4, c4, rfl⟩ := Kd.N_slice hn4; have HP4 := Aside0.mk (Pcq.push (HP.out.below B5w.out) Bw2.out N51.out (fun k hk => ⟨hk.imp id (fun h => by have h1 := HB.out.size; have h2 := B5w.out.size; omega), fun he => by have h1 := Kd.N_base HN.out k he.symm; have h2 := Kd.N_lt HN.out k he.symm; have h3 := B5w.out.size; rcases hk with h | h <;> omega⟩) hgr4 hat4); clear hgr4 hat4; have n_ := Aside0.mk hn4; clear hn4; have hn4 := n_; clear n_; have n_ := Aside0.mk hb4; clear hb4; have hb4 := n_; clear n_))
     go_roundg k1
     case measure => exact Nat.lt_succ_self _
     case rel =>
      have hl4 : rows.length = X.length := HP.out.len
      refine ⟨i + 1, X ++ [[z]], rows ++ [[.slice A51 1 c51]], w5.heap.size, A4, c4, by simp only [List.length_append, List.length_cons, List.length_nil, hl4], by first | rfl | rw [HWK.out], ⟨by have h := HK.out; omega⟩, ⟨HPE.out⟩, ⟨?_⟩, ⟨?_⟩, ⟨below_lower2 (below_step HB.out (below_step B5w.out Bw2.out)) hb4.out (Nat.le_refl _)⟩⟩
      ·
       have h := hn4.out
       rwa [show (rows ++ [[Value.slice A51 1 c51]]).length = (X ++ [[z]]).length by simp [hl4]] at h
      ·
       have h := HP4.out
       rwa [show (rows ++ [[Value.slice A51 1 c51]]).length = (X ++ [[z]]).length by simp [hl4]] at h
   ·
    have hi0 : (0 < i) = False := eq_false hi
    have hie : i = 0 := by omega
    have HPE := Aside0.mk (show groupsK (fun e : S36 => e.f0) (xs.take (i + 1)) = X ++ [[z]] by
     have hX := HX.out
     rw [htk, ← hX, hie, List.take_zero, List.nil_append, groupsK_single, show groupsK (fun e : S36 => e.f0) [] = [] by rw [groupsK]]
     rfl)
    clear hi hie htk hz hil
    go_upto_region 5 with (fail)
    refine s_ 18 [] (fun w' => True) (hS := (trivial)) (h := fun hHeld => ?_)
    have Bw5 := Aside0.mk (show Below wr.heap.size wr wr.drew from below_drew (Below.refl _ _))
    generalize wr.drew = w5 at hHeld Bw5 ⊢
    refine p_ 0 11 (bb 18 1) (h := ?_)
    refine p_ 1 12 (bb 18 3) (h := ?_)
    refine p_ 2 13 (bb 18 7) (h := ?_)
    refine o_ 3 14 (bb 18 15) (h := ?_)
    refine o_ 4 15 (bb 18 31) (h := ?_)
    refine o_ 5 16 (bb 18 63) (h := ?_)
    refine o_ 6 17 (bb 18 127) (h := ?_)
    refine o_ 7 18 (bb 18 255) (h := ?_)
    refine o_ 8 19 (bb 18 511) (h := ?_)
    refine o_ 9 20 (bb 18 1023) (h := ?_)
    refine o_ 10 21 (bb 18 2047) (h := ?_)
    refine o_ 11 22 (bb 18 4095) (h := ?_)
    refine o_ 12 23 (bb 18 8191) (h := ?_)
    refine o_ 13 24 (bb 18 16383) (h := ?_)
    refine o_ 14 25 (bb 18 32767) (h := ?_)
    refine o_ 15 26 (bb 18 65535) (h := ?_)
    refine o_ 16 27 (bb 18 131071) (h := ?_)
    refine p_ 17 28 (bb 18 262143) (h := ?_)
    refine d_ (h := ?_)
    clear hHeld
    have B5w := Bw5
    go_upto_region 7 with (fail)
    obtain ⟨hz70, hz71, hz72, hz73⟩ := HZW.out w5 (below_step HB.out B5w.out)
    go_wp2_with (first
     | ((with_reducible refine gate_dst (N := 51) rfl ?_); (try (refine gate_guard (by rfl) ?_; dsimp only)); refine Kd.N_lit k36 w5.heap.size 36 ?hg (N' := 51) ?hd (w0 := w5) (xs := [z]) (inner := [.slice M0 z.f0.length m0, .int .i64 z.f1, .bool z.f2, .slice M3 z.f3.length m3]) (ok := fun k => (okF k ∧ k < w.heap.size) ∨ w5.heap.size ≤ k) (okp := (fun k => okF k ∧ k < w.heap.size)) ?hr ?hp (fun _ hk => .inl hk) (.inr (Nat.le_refl _)) (Below.refl _ _) (Nat.le_refl _) (by show 1 ≤ 9223372036854775807; omega) ?_; (case hd => rfl); (case hg => rfl); (case hr => first | (go_simp; done) | (go_simp; rfl)); (case hp => exact Reps.snoc (Reps.none _ _) (Kd.FK_below HFZ.out B5w.out) rfl); intro v51 w2 ho_ hb_ hg_ hnew_; clear hg_ hnew_; obtain ⟨A51, c51, e_⟩ := Kd.N_slice ho_; have e_ : v51 = .slice A51 1 c51 := e_; subst e_; have N51 := Aside0.mk (ho_); have Bw2 := Aside0.mk (hb_); clear ho_ hb_)
     | ((with_reducible refine gate_builtin (b := .append) (xs := #[.tmp 46, .tmp 52]) rfl ?_); at_builtin; refine Kd.N_append (Kd.raw 1) (w0 := w2) w.heap.size rfl (.tmp 46) (.tmp 52) 22 24 (.slice none 0 0) 24 rfl Try.underlying22 (show (Try.prog.info? 24).map (fun i => (i.zero, i.size, i.bytes)) = some (some (.slice none 0 0), 1, 24) by kernel_rfl) rfl (by decide) (by omega) (.slice Av X.length cv) rows [.slice A51 1 c51] [.slice A51 1 c51] (fun k => w.heap.size ≤ k) (fun _ => False) rfl rfl ?aP ?aH ?aF ?aO ?aB ?aS ?aL ?_; (case aP => exact FK_raw1 rfl); (case aH => exact fun k hk => hk.elim); (case aF => exact fun k hk => by have h1 := HB.out.size; have h2 := (below_step B5w.out Bw2.out).size; omega); (case aO => exact Kd.N_below HN.out (below_step B5w.out Bw2.out)); (case aB => exact Below.refl _ _); (case aS => have h1 := HB.out.size; have h2 := (below_step B5w.out Bw2.out).size; omega); (case aL => have h1 := HP.out.len; have h2 := HXM.out; have h3 := HLN.out; have h4 := HIL.out; omega); intro v4 w4 hn4 hb4 hgr4 hat4; obtain ⟨A4, c4, rfl⟩ := Kd.N_slice hn4; have HP4 := Aside0.mk (Pcq.push (HP.out.below B5w.out) Bw2.out N51.out (fun k hk => ⟨hk.imp id (fun h => by have h1 := HB.out.size; have h2 := B5w.out.size; omega), fun he => by have h1 := Kd.N_base HN.out k he.symm; have h2 := Kd.N_lt HN.out k he.symm; have h3 := B5w.out.size; rcases hk with h | h <;> omega⟩) hgr4 hat4); clear hgr4 hat4; have n_ := Aside0.mk hn4; clear hn4; have hn4 := n_; clear n_; have n_ := Aside0.mk hb4; clear hb4; have hb4 := n_; clear n_))
    go_roundg k1
    case measure => exact Nat.lt_succ_self _
    case rel =>
     have hl4 : rows.length = X.length := HP.out.len
     refine ⟨i + 1, X ++ [[z]], rows ++ [[.slice A51 1 c51]], w5.heap.size, A4, c4, by simp only [List.length_append, List.length_cons, List.length_nil, hl4], by first | rfl | rw [HWK.out], ⟨by have h := HK.out; omega⟩, ⟨HPE.out⟩, ⟨?_⟩, ⟨?_⟩, ⟨below_lower2 (below_step HB.out (below_step B5w.out Bw2.out)) hb4.out (Nat.le_refl _)⟩⟩
     ·
      have h := hn4.out
      rwa [show (rows ++ [[Value.slice A51 1 c51]]).length = (X ++ [[z]]).length by simp [hl4]] at h
     ·
      have h := HP4.out
      rwa [show (rows ++ [[Value.slice A51 1 c51]]).length = (X ++ [[z]]).length by simp [hl4]] at h
end Go.Proofs.Ytobjkjmmkbhecaa.Sk
