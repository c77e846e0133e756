/- Scripts played on the list and the document with heights: in plain Lean. Conditions: those of each theorem. -/
import Derived.Test.YtjlkcidohabcfaaPx4
import Derived.Test.YtjlkcidohabcfaaPx5
import Derived.Test.YtjlkcidohabcfaaPx13
import Derived.Test.YtjlkcidohabcfaaPx20
import Derived.Test.YtjlkcidohabcfaaPx21
import Derived.Test.YtjlkcidohabcfaaPx22
import Derived.Test.YtjlkcidohabcfaaPx23
import Derived.Test.YtjlkcidohabcfaaPx24
import Derived.Test.YtjlkcidohabcfaaPx25
import Derived.Test.YtjlkcidohabcfaaPx27
import Derived.Test.YtjlkcidohabcfaaPx29
import Derived.Test.YtjlkcidohabcfaaH0
import Derived.Test.YtjlkcidohabcfaaHp
import Derived.Test.YtjlkcidohabcfaaHq
import Derived.Test.YtjlkcidohabcfaaHr
import Derived.Test.YtjlkcidohabcfaaHu
import Derived.Test.YtjlkcidohabcfaaHv
import Derived.Test.YtjlkcidohabcfaaHw
import Derived.Test.YtjlkcidohabcfaaHg
import Derived.Test.YtjlkcidohabcfaaHh
import Derived.Test.YtjlkcidohabcfaaHi
import Derived.Test.YtjlkcidohabcfaaHk
import Derived.Test.YtjlkcidohabcfaaHy
import Derived.Test.YtjlkcidohabcfaaHj
import Derived.Test.YtjlkcidohabcfaaHl
import Derived.Test.YtjlkcidohabcfaaHn
import Derived.Test.YtjlkcidohabcfaaHaa
import Derived.Test.YtjlkcidohabcfaaHab
import Derived.Test.YtjlkcidohabcfaaHac
import Derived.Test.YtjlkcidohabcfaaHad
namespace Go.Proofs.Ytjlkcidohabcfaa.Sk
open Go.RowKit Go.Proofs.YtjlkcidohabcfaaW.PrintWords Go.Proofs.YtjlkcidohabcfaaW.PrintLast Go.Proofs.YtjlkcidohabcfaaW.PrintMore Go.Proofs.Ytjlkcidohabcfaa.Px
set_option linter.unusedVariables false
set_option linter.unusedSimpArgs false
open Go.Proofs.Ytjlkcidohabcfaa.Sw

def Differ (a b : S34) : Prop := ¬ (a.f0 = b.f0 ∧ a.f1 = b.f1)
def hstep (s : List Tw × List S34) (o : SOp) : List Tw × List S34 := (putT s.1 o.e o.h, if putOk s.1 o.e o.h = true then s.2 ++ [o.e] else s.2)
def hrun (n : Nat) (l : List SOp) : List Tw × List S34 := (l.take n).foldl hstep ([], [])
theorem hrun_zero (l : List SOp) : hrun 0 l = ([], []) := by simp [hrun]
theorem hrun_succ {l : List SOp} {i : Nat} {o : SOp} (h : l[i]? = some o) : hrun (i + 1) l = hstep (hrun i l) o := by
  unfold hrun
  rw [take_snoc' h, List.foldl_append]
  rfl
theorem hrun_over (l : List SOp) (n : Nat) : hrun (min l.length n) l = hrun n l := by
  unfold hrun
  congr 1
  by_cases h : l.length ≤ n
  · rw [Nat.min_eq_left h, List.take_of_length_le (Nat.le_refl _), List.take_of_length_le h]
  · rw [Nat.min_eq_right (by omega)]
structure HInv (n : Nat) (s : List Tw × List S34) : Prop where
  fit : FitT s.1
  perm : (s.1.map (fun t => t.e)).Perm s.2
  ok : ∀ e, e ∈ s.2 → okE e = true ∧ Sw.Good e
  diff : s.2.Pairwise Differ
  len : s.1.length ≤ n
theorem not_any {T : List Tw} {e : S34} (h : T.any (samev e) = false) : ∀ x, x ∈ T.map (fun t => t.e) → Differ x e := by
  intro x hx hd
  obtain ⟨t, ht, rfl⟩ := List.mem_map.1 hx
  have := List.any_eq_false.1 h t ht
  unfold samev at this
  simp [hd.1, hd.2] at this
theorem putOk_any {T : List Tw} {e : S34} {h : Int} (hp : putOk T e h = true) : okE e = true ∧ T.any (samev e) = false := by
  unfold putOk at hp
  simp only [Bool.and_eq_true, Bool.not_eq_true'] at hp
  exact ⟨hp.1.1.1, hp.2⟩
theorem HInv.step {n : Nat} {s : List Tw × List S34} (h : HInv n s) {o : SOp} (hg : GoodO o) : HInv (n + 1) (hstep s o) := by
  obtain ⟨h1, h2, h3, h4, h5⟩ := h
  have hl := len_put h1 o.e o.h
  by_cases hp : putOk s.1 o.e o.h = true
  · obtain ⟨hk, hany⟩ := putOk_any hp
    have e1 : (hstep s o).2 = s.2 ++ [o.e] := if_pos hp
    have e2 : (hstep s o).1 = insT s.1 ⟨o.e, o.h⟩ := if_pos hp
    refine ⟨?_, ?_, ?_, ?_, ?_⟩
    · exact h1.put hg.1
    · rw [e1, e2]
      refine ((insT_perm h1.srt _).map _).trans ?_
      rw [List.map_cons]
      exact (List.Perm.cons _ h2).trans (List.perm_append_comm (l₁ := [o.e]))
    · rw [e1]
      intro e he
      rcases List.mem_append.1 he with he | he
      · exact h3 e he
      · rw [List.mem_singleton.1 he]; exact ⟨hk, hg.1⟩
    · rw [e1]
      refine List.pairwise_append.2 ⟨h4, List.pairwise_singleton _ _, fun x hx y hy => ?_⟩
      rw [List.mem_singleton.1 hy]
      exact not_any hany x (h2.mem_iff.2 hx)
    · show (putT s.1 o.e o.h).length ≤ _
      omega
  · have e1 : (hstep s o).2 = s.2 := if_neg hp
    have e2 : (hstep s o).1 = s.1 := if_neg hp
    exact ⟨by rw [e2]; exact h1, by rw [e1, e2]; exact h2, by rw [e1]; exact h3, by rw [e1]; exact h4, by rw [e2]; omega⟩
theorem hrun_inv {l : List SOp} (hg : ∀ o, o ∈ l → GoodO o) : ∀ n, HInv n (hrun n l) := by
  intro n
  induction n with
  | zero => rw [hrun_zero]; exact ⟨FitT.nil, List.Perm.nil, fun e he => (by cases he), List.Pairwise.nil, Nat.le_refl _⟩
  | succ n ih =>
    by_cases h : n < l.length
    · rw [hrun_succ (List.getElem?_eq_getElem h)]
      exact ih.step (hg _ (List.getElem_mem h))
    · have : hrun (n + 1) l = hrun n l := by
        unfold hrun
        rw [List.take_of_length_le (by omega), List.take_of_length_le (by omega)]
      rw [this]
      obtain ⟨h1, h2, h3, h4, h5⟩ := ih
      exact ⟨h1, h2, h3, h4, by omega⟩
/-- One more, from behind. -/
theorem back_put {B : List Tw} {P : List S34} {i : Nat} {z : S34} {h : Int} (hB : FitT B) (hp : (B.map (fun t => t.e)).Perm (P.drop (i + 1))) (hz : P[i]? = some z) (hd : P.Pairwise Differ) (hok : okE z = true) (hg : Sw.Good z) (h1 : 1 ≤ h) (h2 : h ≤ 12) :
    putOk B z h = true ∧ FitT (putT B z h) ∧ ((putT B z h).map (fun t => t.e)).Perm (P.drop i) := by
  have hi := (List.getElem?_eq_some_iff.1 hz).1
  have hdr : P.drop i = z :: P.drop (i + 1) := by
    rw [List.drop_eq_getElem_cons hi]
    congr 1
    exact Option.some.inj ((List.getElem?_eq_getElem hi).symm.trans hz)
  have hd2 : (P.drop i).Pairwise Differ := hd.sublist (List.drop_sublist _ _)
  rw [hdr] at hd2
  have hany : B.any (samev z) = false := by
    rw [List.any_eq_false]
    intro t ht hs
    unfold samev at hs
    simp only [Bool.and_eq_true, decide_eq_true_eq] at hs
    have hm : t.e ∈ P.drop (i + 1) := hp.mem_iff.1 (List.mem_map_of_mem ht)
    exact (List.pairwise_cons.1 hd2).1 t.e hm ⟨hs.1.symm, hs.2.symm⟩
  have hpo : putOk B z h = true := by
    unfold putOk
    rw [hok, hany]
    simp
    omega
  refine ⟨hpo, hB.put hg, ?_⟩
  have : putT B z h = insT B ⟨z, h⟩ := if_pos hpo
  rw [this, hdr]
  exact ((insT_perm hB.srt _).map _).trans (by rw [List.map_cons]; exact List.Perm.cons _ hp)
theorem same_map {A B : List Tw} {P : List S34} (hA : FitT A) (hB : FitT B) (h1 : (A.map (fun t => t.e)).Perm P) (h2 : (B.map (fun t => t.e)).Perm P) : A.map (fun t => t.e) = B.map (fun t => t.e) := by
  refine List.Perm.eq_of_pairwise (le := fun a b => ahe a b = true) ?_ (List.pairwise_map.2 hA.srt) (List.pairwise_map.2 hB.srt) (h1.trans h2.symm)
  intro a b _ _ h3 h4
  have := ahe_trans h3 h4
  rw [ahe_irrefl] at this
  cases this
theorem getN_map {A B : List Tw} (hA : FitT A) (hB : FitT B) (h : A.map (fun t => t.e) = B.map (fun t => t.e)) (k : List Int) (s : Int) : getN A k s = getN B k s := by
  rw [← version_same hA, ← version_same hB, h]
theorem scan_map {A B : List Tw} (hA : FitT A) (hB : FitT B) (h : A.map (fun t => t.e) = B.map (fun t => t.e)) (a b : List Int) (s : Int) : scanT A a b s = scanT B a b s := by
  rw [← scan_same hA, ← scan_same hB, h]
theorem size_map {A B : List Tw} (h : A.map (fun t => t.e) = B.map (fun t => t.e)) : sizeT A = sizeT B := by
  have key : ∀ T : List Tw, sizeT T = ((T.map (fun t => t.e)).map (fun e => (e.f0.length : Int) + e.f3.length + 8)).sum := fun T => by
    unfold sizeT
    rw [List.map_map]
    rfl
  rw [key A, key B, h]
/-- Two lists and a row of entries, apart from each other. -/
def H2 (w : World) (base ga gb : Nat) (A B : List Tw) (v : Value) (xs : List S34) : Prop := ∃ Da Db Dp : Nat → Prop, SL w base Da ga A ∧ SL w base Db gb B ∧ Kd.N k34 34 w base (fun k => k < base ∨ Dp k) v xs ∧ (∀ k, Da k ∨ Db k ∨ Dp k → base ≤ k ∧ k < w.heap.size) ∧ (∀ k, Da k → ¬ Db k ∧ ¬ Dp k) ∧ ∀ k, Db k → ¬ Dp k
section
variable {w w1 : World} {base ga gb : Nat} {A B : List Tw} {v : Value} {xs : List S34}
theorem H2.base_le (h : H2 w base ga gb A B v xs) : base ≤ w.heap.size := by
  obtain ⟨Da, Db, Dp, h1, _⟩ := h
  have := h1.base_le
  omega
theorem H2.below (h : H2 w base ga gb A B v xs) (hb : Below w.heap.size w w1) : H2 w1 base ga gb A B v xs := by
  obtain ⟨Da, Db, Dp, h1, h2, h3, h4, h5, h6⟩ := h
  exact ⟨Da, Db, Dp, h1.below hb, h2.below hb, Kd.N_below h3 hb, fun k hk => ⟨(h4 k hk).1, Nat.lt_of_lt_of_le (h4 k hk).2 hb.size⟩, h5, h6⟩
theorem H2.putA (h : H2 w base ga gb A B v xs) (hT : FitT A) (hlen : A.length ≤ 1000000) (A0 : Option Addr) (c0 : Nat) (e : S34) (A3 : Option Addr) (c3 : Nat) (hr0 : Kd.C (Kd.int .u8) w A0 e.f0.length e.f0) (hc0 : e.f0.length ≤ c0) (hr3 : Kd.C (Kd.int .u8) w A3 e.f3.length e.f3) (hc3 : e.f3.length ≤ c3) (hgd : Sw.Good e) (height : Int) :
    Calls Try.prog 21 #[.pointer (some ⟨ga, 0, none⟩), .agg #[.slice A0 e.f0.length c0, .int .i64 e.f1, .bool e.f2, .slice A3 e.f3.length c3], .int .i64 height] w fun ex w' => ex = .returned (.int .i64 (if putOk A e height = true then 0 else 1)) ∧ H2 w' base ga gb (putT A e height) B v xs ∧ Below base w w' := by
  have hbl := h.base_le
  obtain ⟨Da, Db, Dp, h1, h2, h3, h4, h5, h6⟩ := h
  refine (put_calls h1 hT hlen A0 c0 e A3 c3 hr0 hc0 hr3 hc3 hgd height).mono ?_
  rintro ex w' ⟨rfl, D1, p1, p2, p3, p4⟩
  have hs := p4.kept.1
  refine ⟨rfl, ⟨fun k => D1 k ∧ base ≤ k, Db, Dp, ?_, h2.step hs (fun k hk hlt => p4.kept.2 k hlt (fun hd => (h5 k hd).1 hk)), Kd.N_step h3 (fun k hk hlt => p4.kept.2 k hlt (fun hd => hk.elim (fun h => by have := (h4 k (.inl hd)).1; omega) (fun h => (h5 k hd).2 h))), ?_, ?_, h6⟩, p4.to_below (fun k hk => (h4 k (.inl hk)).1) hbl⟩
  · obtain ⟨K, N, nx, q1, q2, q3, q4, q5⟩ := p1
    exact ⟨K, N, nx, q1, q2, fun k hk => ⟨⟨(q3 k hk).1, q5 k (q3 k hk).1⟩, (q3 k hk).2⟩, fun b hb => ⟨q4 b hb, q5 b (q4 b hb)⟩, fun k hk => hk.2⟩
  · rintro k (hk | hk | hk)
    · exact ⟨hk.2, p3 k hk.1⟩
    · exact ⟨(h4 k (.inr (.inl hk))).1, Nat.lt_of_lt_of_le (h4 k (.inr (.inl hk))).2 hs⟩
    · exact ⟨(h4 k (.inr (.inr hk))).1, Nat.lt_of_lt_of_le (h4 k (.inr (.inr hk))).2 hs⟩
  · intro k hk
    rcases p2 k hk.1 with h7 | h7
    · exact h5 k h7
    · exact ⟨fun h8 => by have := (h4 k (.inr (.inl h8))).2; omega, fun h8 => by have := (h4 k (.inr (.inr h8))).2; omega⟩
theorem H2.swap (h : H2 w base ga gb A B v xs) : H2 w base gb ga B A v xs := by
  obtain ⟨Da, Db, Dp, h1, h2, h3, h4, h5, h6⟩ := h
  exact ⟨Db, Da, Dp, h2, h1, h3, fun k hk => h4 k (hk.elim (fun h => .inr (.inl h)) (fun hk => hk.elim .inl (fun h => .inr (.inr h)))), fun k hk => ⟨fun ha => (h5 k ha).1 hk, h6 k hk⟩, fun k hk => (h5 k hk).2⟩
theorem H2.one (h : H2 w base ga gb A B v xs) : S1 w base ga A := by
  obtain ⟨Da, Db, Dp, h1, _, _, h4, _⟩ := h
  exact ⟨Da, h1, fun k hk => (h4 k (.inl hk)).2⟩
theorem H2.row (h : H2 w base ga gb A B v xs) : Kd.N k34 34 w base (fun _ => True) v xs := by
  obtain ⟨Da, Db, Dp, _, _, h3, _⟩ := h
  exact Kd.N_mono h3 (fun _ _ => trivial)
/-- The row has grown: told of it anew. -/
theorem H2.grown {v1 : Value} {xs1 : List S34} (h : H2 w base ga gb A B v xs) (hg : w.grownBy w1 v.ownBlock) (hN : ∀ ok : Nat → Prop, Kd.N k34 34 w base ok v xs → (∀ k, k < base → ok k) → (∀ k, w.heap.size ≤ k → ok k) → Kd.N k34 34 w1 base ok v1 xs1) : H2 w1 base ga gb A B v1 xs1 ∧ Below base w w1 := by
  have hbl := h.base_le
  obtain ⟨Da, Db, Dp, h1, h2, h3, h4, h5, h6⟩ := h
  have hv : ∀ k, v.ownBlock = some k → Dp k := fun k hk => (h3.1 k hk).elim (fun h => by have := Kd.N_base h3 k hk; omega) id
  have hn := hN (fun k => k < base ∨ (Dp k ∨ w.heap.size ≤ k)) (Kd.N_mono h3 (fun k hk => hk.imp id .inl)) (fun k hk => .inl hk) (fun k hk => .inr (.inr hk))
  refine ⟨⟨Da, Db, fun k => (Dp k ∨ w.heap.size ≤ k) ∧ base ≤ k ∧ k < w1.heap.size, h1.step hg.size (fun k hk hlt => hg.block k hlt (fun he => (h5 k hk).2 (hv k he.symm))), h2.step hg.size (fun k hk hlt => hg.block k hlt (fun he => h6 k hk (hv k he.symm))), Kd.N_mono (Kd.N_bound hn) (fun k hk => ?_), ?_, ?_, ?_⟩, ⟨hg.os, hg.tape, hg.output, hg.size, fun k hk => hg.block k (by omega) (fun he => by have := (h4 k (.inr (.inr (hv k he.symm)))).1; omega)⟩⟩
  · rcases hk.1 with h7 | h7
    · exact .inl h7
    · by_cases hb : k < base
      · exact .inl hb
      · exact .inr ⟨h7, by omega, hk.2⟩
  · rintro k (hk | hk | hk)
    · exact ⟨(h4 k (.inl hk)).1, Nat.lt_of_lt_of_le (h4 k (.inl hk)).2 hg.size⟩
    · exact ⟨(h4 k (.inr (.inl hk))).1, Nat.lt_of_lt_of_le (h4 k (.inr (.inl hk))).2 hg.size⟩
    · exact hk.2
  · exact fun k hk => ⟨(h5 k hk).1, fun h7 => h7.1.elim (fun h8 => (h5 k hk).2 h8) (fun h8 => by have := (h4 k (.inl hk)).2; omega)⟩
  · exact fun k hk h7 => h7.1.elim (fun h8 => h6 k hk h8) (fun h8 => by have := (h4 k (.inr (.inl hk))).2; omega)
end
/-- Two new lists. -/
theorem H2.fresh {w w1 w2 : World} {ga gb : Nat} (hs : S1 w1 w.heap.size ga []) (hb : Below w.heap.size w w1) (hs2 : S1 w2 w1.heap.size gb []) (hb2 : Below w1.heap.size w1 w2) : H2 w2 w.heap.size ga gb [] [] (.slice none 0 0) [] := by
  obtain ⟨D, h1, h3⟩ := hs
  obtain ⟨E, k1, k3⟩ := hs2
  have hE : ∀ k, E k → w1.heap.size ≤ k := by obtain ⟨_, _, _, _, _, _, _, q⟩ := k1; exact q
  have hD : ∀ k, D k → w.heap.size ≤ k := by obtain ⟨_, _, _, _, _, _, _, q⟩ := h1; exact q
  refine ⟨D, E, fun _ => False, h1.below hb2, k1.mono (fun _ h => h) (fun k hk => Nat.le_trans hb.size (hE k hk)), Kd.N_nil _ _ _ _ _, ?_, fun k hk => ⟨fun he => by have := h3 k hk; have := hE k he; omega, id⟩, fun _ _ => id⟩
  rintro k (hk | hk | hk)
  · exact ⟨hD k hk, Nat.lt_of_lt_of_le (h3 k hk) hb2.size⟩
  · exact ⟨Nat.le_trans hb.size (hE k hk), k3 k hk⟩
  · exact hk.elim
end Go.Proofs.Ytjlkcidohabcfaa.Sk
