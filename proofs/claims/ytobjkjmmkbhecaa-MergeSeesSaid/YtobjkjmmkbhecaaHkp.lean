/- What kept computes. Conditions: those of each theorem. -/
import Derived.Test.YtobjkjmmkbhecaaCore
import Derived.Test.YtobjkjmmkbhecaaHgp
import Derived.Test.YtobjkjmmkbhecaaMF
import Derived.Test.YtobjkjmmkbhecaaHrw
import Derived.Test.YtobjkjmmkbhecaaHvi
import Derived.Test.YtobjkjmmkbhecaaME
import Derived.Test.YtobjkjmmkbhecaaPx0
import Derived.Test.YtobjkjmmkbhecaaMC
import Derived.Test.YtobjkjmmkbhecaaHsr
namespace Go.Proofs.Ytobjkjmmkbhecaa.Sk
open Go.RowKit Go.Proofs.YtobjkjmmkbhecaaW.PrintWords Go.Proofs.YtobjkjmmkbhecaaW.PrintLast Go.Proofs.YtobjkjmmkbhecaaW.PrintMore Go.Proofs.Ytobjkjmmkbhecaa.Px Go.Proofs.Ytobjkjmmkbhecaa.Sw
set_option linter.unusedVariables false
set_option linter.unusedSimpArgs false

theorem getB {l : List Int} {i : Nat} (h : i < l.length) : l.toArray[i]! = l[i] := by simp [h]
theorem compact_go {l : List Int} (hs : l.Pairwise (· ≤ ·)) : ∀ m, m ≤ l.length → (Lib.compactUpTo l.toArray m).Pairwise (· < ·) ∧ (∀ x, x ∈ Lib.compactUpTo l.toArray m ↔ x ∈ l.take m) ∧ ∀ x ∈ Lib.compactUpTo l.toArray m, ∀ h : m - 1 < l.length, x ≤ l[m - 1]
 | 0, _ => ⟨by simp [Lib.compactUpTo], by simp [Lib.compactUpTo], by simp [Lib.compactUpTo]⟩
 | m + 1, h => by
  obtain ⟨h1, h2, h3⟩ := compact_go hs m (by omega)
  have hm : m < l.length := by omega
  have hle : ∀ x ∈ l.take m, x ≤ l[m] := by
   intro x hx
   obtain ⟨i, hi⟩ := List.mem_iff_getElem?.1 hx
   obtain ⟨hil, he⟩ := List.getElem?_eq_some_iff.1 hi
   have him : i < m := by simp at hil; omega
   rw [List.getElem_take] at he
   rw [← he]
   exact List.pairwise_iff_getElem.1 hs i m (by omega) hm him
  rw [Lib.compactUpTo_succ]
  have htk : l.take (m + 1) = l.take m ++ [l[m]] := by rw [List.take_add_one, List.getElem?_eq_getElem hm]; rfl
  by_cases hk : Lib.keeps l.toArray m = true
  ·
   rw [if_pos hk, getB hm]
   have hlt : ∀ x ∈ Lib.compactUpTo l.toArray m, x < l[m] := by
    intro x hx
    have hx2 := hle x ((h2 x).1 hx)
    rcases Nat.eq_zero_or_pos m with e | hp
    ·
     subst e; simp at h2; exact absurd hx (h2 x)
    ·
     have h5 := h3 x hx (by omega)
     unfold Lib.keeps at hk
     rw [decide_eq_true_eq, getB hm, getB (by omega)] at hk
     rcases hk with e | e
     ·
      omega
     ·
      have : l[m - 1] ≤ l[m] := List.pairwise_iff_getElem.1 hs (m - 1) m (by omega) hm (by omega)
      omega
   refine ⟨List.pairwise_append.2 ⟨h1, by simp, fun x hx y hy => by rw [List.mem_singleton.1 hy]; exact hlt x hx⟩, fun x => by rw [htk, List.mem_append, List.mem_append, h2], fun x hx hh => ?_⟩
   rcases List.mem_append.1 hx with e | e
   ·
    exact Int.le_of_lt (hlt x e)
   ·
    rw [List.mem_singleton.1 e]; exact Int.le_refl _
  ·
   rw [if_neg hk, List.append_nil]
   unfold Lib.keeps at hk
   rw [decide_eq_true_eq] at hk
   have hp : 0 < m := by
    rcases Nat.eq_zero_or_pos m with e | hp
    ·
     exact absurd (.inl e) hk
    ·
     exact hp
   have he : l[m] = l[m - 1] := by
    by_cases e : l[m] = l[m - 1]
    ·
     exact e
    ·
     exact absurd (.inr (by rw [getB hm, getB (by omega)]; exact e)) hk
   refine ⟨h1, fun x => ?_, fun x hx hh => ?_⟩
   ·
    rw [htk, List.mem_append, h2]
    refine ⟨.inl, fun h => h.elim id (fun h => ?_)⟩
    rw [List.mem_singleton.1 h, he]
    exact List.mem_iff_getElem?.2 ⟨m - 1, by rw [List.getElem?_take, if_pos (by omega), List.getElem?_eq_getElem (by omega)]⟩
   ·
    show x ≤ l[m + 1 - 1]
    exact hle x ((h2 x).1 hx)
theorem strict_ext : ∀ {a b : List Int}, a.Pairwise (· < ·) → b.Pairwise (· < ·) → (∀ x, x ∈ a ↔ x ∈ b) → a = b
 | [], [], _, _, _ => rfl
 | [], y :: b, _, _, h => by have := (h y).2 (by simp); cases this
 | x :: a, [], _, _, h => by have := (h x).1 (by simp); cases this
 | x :: a, y :: b, ha, hb, h => by
  obtain ⟨ha1, ha2⟩ := List.pairwise_cons.1 ha
  obtain ⟨hb1, hb2⟩ := List.pairwise_cons.1 hb
  have hxy : x = y := by
   have h1 := (h x).1 (by simp)
   have h2 := (h y).2 (by simp)
   rcases List.mem_cons.1 h1 with e | e
   ·
    exact e
   ·
    rcases List.mem_cons.1 h2 with e2 | e2
    ·
     exact e2.symm
    ·
     have := hb1 x e; have := ha1 y e2; omega
  subst hxy
  rw [strict_ext ha2 hb2 (fun z => ?_)]
  have hz := h z
  simp only [List.mem_cons] at hz
  constructor
  ·
   intro hm
   rcases hz.1 (.inr hm) with e | e
   ·
    subst e; exact absurd (ha1 z hm) (by omega)
   ·
    exact e
  ·
   intro hm
   rcases hz.2 (.inr hm) with e | e
   ·
    subst e; exact absurd (hb1 z hm) (by omega)
   ·
    exact e
theorem cast_sorted : ∀ {l : List Nat}, l.Pairwise (· < ·) → (l.map (fun (i : Nat) => (i : Int))).Pairwise (· < ·) := fun h => List.pairwise_map.2 (h.imp (fun h => by omega))
/-- Numbers, sorted, each once. -/
theorem compact_sort {l : List Int} {n : Nat} (hl : ∀ x ∈ l, 0 ≤ x ∧ x < n) : Lib.compact (l.mergeSort fun x y => decide (x ≤ y)) = ((List.range n).filter (fun (i : Nat) => decide ((i : Int) ∈ l))).map (fun (i : Nat) => (i : Int)) := by
 have hs : (l.mergeSort fun x y => decide (x ≤ y)).Pairwise (· ≤ ·) := (List.pairwise_mergeSort (fun a b c h1 h2 => by simp at h1 h2 ⊢; omega) (fun a b => by simp; omega) l).imp (fun h => by simpa using h)
 have hg := compact_go hs (l.mergeSort fun x y => decide (x ≤ y)).length (Nat.le_refl _)
 refine strict_ext hg.1 (cast_sorted (List.Pairwise.filter _ List.pairwise_lt_range)) (fun x => ?_)
 show x ∈ Lib.compactUpTo _ _ ↔ _
 rw [hg.2.1 x, List.take_length, List.mem_mergeSort]
 simp only [List.mem_map, List.mem_filter, List.mem_range, decide_eq_true_eq]
 constructor
 ·
  intro h
  have := hl x h
  exact ⟨x.toNat, ⟨by omega, by rw [Int.toNat_of_nonneg this.1]; exact h⟩, Int.toNat_of_nonneg this.1⟩
 ·
  rintro ⟨i, ⟨_, h⟩, rfl⟩; exact h
/-- The places that are kept of a key's entries. -/
def placesM (pins : List Int) (g : List S36) : List Int := 0 :: pins.filterMap (fun p => if idxN (fun e : S36 => decide (e.f1 ≤ p)) g ≥ 0 then some (idxN (fun e : S36 => decide (e.f1 ≤ p)) g) else none)
def keepN (pins : List Int) (g : List S36) : List Nat := (List.range g.length).filter (fun (i : Nat) => decide ((i : Int) ∈ placesM pins g))
/-- What is Gone falls away at the end. -/
def dropG (l : List S36) : List S36 := (l.reverse.dropWhile (fun e => e.f2)).reverse
theorem dropG_snoc (l : List S36) (e : S36) : dropG (l ++ [e]) = if e.f2 = true then dropG l else l ++ [e] := by
 unfold dropG
 rw [List.reverse_append, List.reverse_singleton, List.singleton_append, List.dropWhile_cons]
 split <;> simp
def keptM (pins : List Int) (bottom : Bool) (g : List S36) : List S36 := if bottom = true then dropG ((keepN pins g).filterMap (fun i => g[i]?)) else (keepN pins g).filterMap (fun i => g[i]?)
def pruM (pins : List Int) (bottom : Bool) (l : List S36) : List S36 := ((groupsK (fun e : S36 => e.f0) l).map (keptM pins bottom)).flatten
theorem dropG_sub (l : List S36) : (∀ e ∈ dropG l, e ∈ l) ∧ (dropG l).length ≤ l.length := by
 unfold dropG
 have h := List.dropWhile_sublist (l := l.reverse) (fun e => e.f2)
 exact ⟨fun e he => by have := h.subset (List.mem_reverse.1 he); simpa using this, by have := h.length_le; simpa using this⟩
theorem keptM_sub (pins : List Int) (bottom : Bool) (g : List S36) : (∀ e ∈ keptM pins bottom g, e ∈ g) ∧ (keptM pins bottom g).length ≤ g.length := by
 have h1 : ∀ e ∈ (keepN pins g).filterMap (fun i => g[i]?), e ∈ g := by
  intro e he
  obtain ⟨i, _, hi⟩ := List.mem_filterMap.1 he
  exact List.mem_of_getElem? hi
 have h2 : ((keepN pins g).filterMap (fun i => g[i]?)).length ≤ g.length := by
  refine Nat.le_trans (List.length_filterMap_le _ _) ?_
  unfold keepN
  exact Nat.le_trans (List.length_filter_le _ _) (by simp)
 unfold keptM
 split
 ·
  have h := dropG_sub ((keepN pins g).filterMap (fun i => g[i]?))
  exact ⟨fun e he => h1 e (h.1 e he), Nat.le_trans h.2 h2⟩
 ·
  exact ⟨h1, h2⟩
theorem rd_at {l : List Int} {m : Nat} {x : Int} (h : l[m]? = some x) : rd l (m : Int) = x := by
 unfold rd; rw [Int.toNat_natCast, List.getD_eq_getElem?_getD, h]; rfl
theorem kept_l2 (n : Nat) : ∀ (k : Nat) (out : List S36), out.length = n → n < k → out.length ≤ 1000000000 → merge_kept.l2 k true out (out.length : Int) = some (dropG out) := by
 induction n with
 | zero =>
  intro k out h hk hb
  obtain ⟨k, rfl⟩ : ∃ j, k = j + 1 := ⟨k - 1, by omega⟩
  have : out = [] := List.eq_nil_of_length_eq_zero h
  subst this
  rfl
 | succ n ih =>
  intro k out h hk hb
  obtain ⟨k, rfl⟩ : ∃ j, k = j + 1 := ⟨k - 1, by omega⟩
  obtain ⟨o, e, rfl⟩ : ∃ o e, out = o ++ [e] := by
   rcases List.eq_nil_or_concat out with h2 | ⟨o, e, h2⟩
   ·
    subst h2; simp at h
   ·
    exact ⟨o, e, by rw [h2, List.concat_eq_append]⟩
  have hol : o.length = n := by simpa using h
  have hl : (o ++ [e]).length = o.length + 1 := by simp
  have hw : wrap64 (((o ++ [e]).length : Int) - 1) = (o.length : Int) := wsub1 (by omega) (by omega)
  have hr : rd_T36 (o ++ [e]) (o.length : Int) = e := rdT_at (by simp)
  simp only [merge_kept.l2]
  rw [if_pos trivial, if_pos (by omega), hw, if_pos (by omega), if_pos (by omega), hr, dropG_snoc]
  by_cases h2 : e.f2 = true
  ·
   rw [if_pos h2, if_pos h2, if_pos (by omega), Int.toNat_natCast, List.take_left' rfl]
   exact ih k o hol (by omega) (by omega)
  ·
   rw [if_neg h2, if_neg h2]
theorem kept_l1 (bottom : Bool) {g : List S36} (hgl : g.length ≤ 1000000000) {ps : List Int} (hps : ∀ x ∈ ps, 0 ≤ x ∧ x < (g.length : Int)) (hpl : ps.length ≤ 1000000000) : ∀ (n k m : Nat) (out : List S36), n + m = ps.length → n < k → out.length ≤ m →
  merge_kept.l1 k g bottom out ps (ps.length : Int) (m : Int) = merge_kept.l2 (k - n - 1) bottom (out ++ (ps.drop m).filterMap (fun x => g[x.toNat]?)) ((out ++ (ps.drop m).filterMap (fun x => g[x.toNat]?)).length : Int)
 | 0, k, m, out, hn, hk, ho => by
  obtain ⟨k, rfl⟩ : ∃ j, k = j + 1 := ⟨k - 1, by omega⟩
  simp only [merge_kept.l1]
  rw [if_neg (by omega), List.drop_of_length_le (by omega)]
  simp
 | n + 1, k, m, out, hn, hk, ho => by
  obtain ⟨k, rfl⟩ : ∃ j, k = j + 1 := ⟨k - 1, by omega⟩
  have hm : m < ps.length := by omega
  obtain ⟨x, hx⟩ : ∃ x, ps[m]? = some x := ⟨_, List.getElem?_eq_getElem hm⟩
  have hw : wrap64 ((m : Int) + 1) = ((m + 1 : Nat) : Int) := wadd1 (x := m) rfl (by omega)
  have hxx := hps x (List.mem_of_getElem? hx)
  have ih := kept_l1 bottom hgl hps hpl n k (m + 1)
  have hd : ps.drop m = x :: ps.drop (m + 1) := by
   obtain ⟨h1, h2⟩ := List.getElem?_eq_some_iff.1 hx
   rw [List.drop_eq_getElem_cons h1, h2]
  obtain ⟨e, he⟩ : ∃ e, g[x.toNat]? = some e := ⟨_, List.getElem?_eq_getElem (by omega)⟩
  have hr : rd_T36 g x = e := by rw [← Int.toNat_of_nonneg hxx.1]; exact rdT_at he
  simp only [merge_kept.l1]
  rw [if_pos (by omega), if_pos (by omega), if_pos (by omega), rd_at hx, if_pos (by omega), if_pos (by omega), if_pos (by omega), hr, hw, ih _ (by omega) (by omega) (by simp; omega), hd, List.filterMap_cons, he]
  show merge_kept.l2 (k - n - 1) bottom (out ++ [e] ++ _) _ = merge_kept.l2 (k + 1 - (n + 1) - 1) bottom (out ++ e :: _) _
  rw [List.append_assoc, show k + 1 - (n + 1) - 1 = k - n - 1 by omega]
  rfl
theorem kept_l0 (bottom : Bool) {g : List S36} (hg : goodL g = true) {pins : List Int} (hpl : pins.length ≤ 1000000000) : ∀ (n k m : Nat) (acc : List Int), n + m = pins.length → n < k → acc.length ≤ m + 1 →
  merge_kept.l0 k g bottom acc pins (pins.length : Int) (m : Int) = ((slices_Sort_int_int.f (acc ++ (pins.drop m).filterMap (fun p => if idxN (fun e : S36 => decide (e.f1 ≤ p)) g ≥ 0 then some (idxN (fun e : S36 => decide (e.f1 ≤ p)) g) else none))).bind fun t => ((slices_Compact_int_int.f t).bind fun t2 => (merge_kept.l1 (k - n - 1) g bottom [] t2 (t2.length : Int) 0)))
 | 0, k, m, acc, hn, hk, ho => by
  obtain ⟨k, rfl⟩ : ∃ j, k = j + 1 := ⟨k - 1, by omega⟩
  simp only [merge_kept.l0]
  rw [if_neg (by omega), List.drop_of_length_le (by omega)]
  simp
 | n + 1, k, m, acc, hn, hk, ho => by
  obtain ⟨k, rfl⟩ : ∃ j, k = j + 1 := ⟨k - 1, by omega⟩
  have hm : m < pins.length := by omega
  obtain ⟨x, hx⟩ : ∃ x, pins[m]? = some x := ⟨_, List.getElem?_eq_getElem hm⟩
  have hw : wrap64 ((m : Int) + 1) = ((m + 1 : Nat) : Int) := wadd1 (x := m) rfl (by omega)
  have ih := kept_l0 bottom hg hpl n k (m + 1)
  have hd : pins.drop m = x :: pins.drop (m + 1) := by
   obtain ⟨h1, h2⟩ := List.getElem?_eq_some_iff.1 hx
   rw [List.drop_eq_getElem_cons h1, h2]
  simp only [merge_kept.l0]
  rw [if_pos (by omega), if_pos (by omega), if_pos (by omega), rd_at hx]
  unfold merge_first.f
  rw [if_pos hg, Option.bind_some, hd, List.filterMap_cons, hw]
  by_cases hi : idxN (fun e : S36 => decide (e.f1 ≤ x)) g ≥ 0
  ·
   rw [if_pos hi, if_pos (by omega), if_pos hi, ih _ (by omega) (by omega) (by simp; omega), List.append_assoc, show k + 1 - (n + 1) - 1 = k - n - 1 by omega]
   rfl
  ·
   rw [if_neg hi, if_neg hi, ih _ (by omega) (by omega) (by omega), show k + 1 - (n + 1) - 1 = k - n - 1 by omega]
theorem idxN_lt (q : S36 → Bool) (g : List S36) : idxN q g < (g.length : Int) ∨ idxN q g = -1 := by
 unfold idxN; split
 ·
  exact .inl (by omega)
 ·
  exact .inr rfl
theorem places_in {pins : List Int} {g : List S36} (hne : 0 < g.length) : ∀ x ∈ placesM pins g, 0 ≤ x ∧ x < (g.length : Int) := by
 intro x hx
 unfold placesM at hx
 rcases List.mem_cons.1 hx with e | e
 ·
  subst e; omega
 ·
  obtain ⟨p, _, hp⟩ := List.mem_filterMap.1 e
  split at hp
  ·
   injection hp with hp
   have := idxN_lt (fun e : S36 => decide (e.f1 ≤ p)) g
   omega
  ·
   cases hp
theorem kept_f {pins : List Int} (bottom : Bool) {g : List S36} (hg : goodL g = true) (hne : 0 < g.length) (hpl : pins.length ≤ 1000000000) {k : Nat} (hk : pins.length + 2 * g.length + 4 ≤ k) : merge_kept.f k g pins bottom = some (keptM pins bottom g) := by
 have hgl := (goodL_iff.1 hg).2
 unfold merge_kept.f
 have h0 := kept_l0 bottom hg hpl pins.length k 0 [0] rfl (by omega) (by simp)
 refine (show merge_kept.l0 k g bottom [0] pins (pins.length : Int) 0 = _ from h0).trans ?_
 rw [List.drop_zero]
 have hpe : ([(0 : Int)] ++ pins.filterMap (fun p => if idxN (fun e : S36 => decide (e.f1 ≤ p)) g ≥ 0 then some (idxN (fun e : S36 => decide (e.f1 ≤ p)) g) else none)) = placesM pins g := rfl
 have hplen : (placesM pins g).length ≤ pins.length + 1 := by
  unfold placesM
  rw [List.length_cons]
  have := List.length_filterMap_le (fun p => if idxN (fun e : S36 => decide (e.f1 ≤ p)) g ≥ 0 then some (idxN (fun e : S36 => decide (e.f1 ≤ p)) g) else none) pins
  omega
 have hpos : 0 < (placesM pins g).length := by unfold placesM; simp
 have hsl : ((placesM pins g).mergeSort fun x y => decide (x ≤ y)).length = (placesM pins g).length := List.length_mergeSort _
 have hcp := compact_sort (places_in (pins := pins) hne)
 unfold slices_Sort_int_int.f slices_Compact_int_int.f
 rw [hpe, if_pos ⟨hpos, by omega⟩, Option.bind_some, if_pos ⟨by omega, by omega⟩, Option.bind_some, hcp]
 have hkl : ((keepN pins g).map (fun (i : Nat) => (i : Int))).length ≤ g.length := by
  rw [List.length_map]
  unfold keepN
  exact Nat.le_trans (List.length_filter_le _ _) (by simp)
 have hin : ∀ x ∈ (keepN pins g).map (fun (i : Nat) => (i : Int)), 0 ≤ x ∧ x < (g.length : Int) := by
  intro x hx
  obtain ⟨i, hi, rfl⟩ := List.mem_map.1 hx
  have := List.mem_range.1 (List.mem_filter.1 hi).1
  omega
 have h1 := kept_l1 bottom hgl hin (by omega) ((keepN pins g).map (fun (i : Nat) => (i : Int))).length (k - pins.length - 1) 0 [] rfl (by omega) (by simp)
 have hfm : ((keepN pins g).map (fun (i : Nat) => (i : Int))).filterMap (fun x => g[x.toNat]?) = (keepN pins g).filterMap (fun i => g[i]?) := by
  rw [List.filterMap_map]
  rfl
 rw [List.drop_zero, List.nil_append, hfm] at h1
 show merge_kept.l1 _ g bottom [] ((keepN pins g).map (fun (i : Nat) => (i : Int))) _ 0 = _
 refine h1.trans ?_
 unfold keptM
 cases bottom with
 | true =>
  rw [if_pos rfl]
  have hle : ((keepN pins g).filterMap (fun i => g[i]?)).length ≤ g.length := by
   have := (keptM_sub pins false g).2
   unfold keptM at this
   simpa using this
  exact kept_l2 _ _ _ rfl (by omega) (by omega)
 | false =>
  obtain ⟨j, hj⟩ : ∃ j, k - pins.length - 1 - ((keepN pins g).map (fun (i : Nat) => (i : Int))).length - 1 = j + 1 := ⟨k - pins.length - 1 - ((keepN pins g).map (fun (i : Nat) => (i : Int))).length - 2, by omega⟩
  rw [hj]
  simp [merge_kept.l2]
end Go.Proofs.Ytobjkjmmkbhecaa.Sk
