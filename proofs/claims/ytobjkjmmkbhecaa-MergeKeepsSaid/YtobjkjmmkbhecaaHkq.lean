/- What is kept, in plain lists. Conditions: those of each theorem. -/
import Derived.Test.YtobjkjmmkbhecaaCore
import Derived.Test.YtobjkjmmkbhecaaHgp
import Derived.Test.YtobjkjmmkbhecaaHkp
import Derived.Test.YtobjkjmmkbhecaaHmo
import Derived.Test.YtobjkjmmkbhecaaHod
import Derived.Test.YtobjkjmmkbhecaaHpl
import Derived.Test.YtobjkjmmkbhecaaHso
import Derived.Test.YtobjkjmmkbhecaaHvi
import Derived.Test.YtobjkjmmkbhecaaPx0
import Derived.Test.YtobjkjmmkbhecaaHpr
namespace Go.Proofs.Ytobjkjmmkbhecaa.Sk
open Go.RowKit Go.Proofs.YtobjkjmmkbhecaaW.PrintWords Go.Proofs.YtobjkjmmkbhecaaW.PrintLast Go.Proofs.YtobjkjmmkbhecaaW.PrintMore Go.Proofs.Ytobjkjmmkbhecaa.Px Go.Proofs.Ytobjkjmmkbhecaa.Sw
set_option linter.unusedVariables false
set_option linter.unusedSimpArgs false

theorem ofKey_split {k : List Int} : ∀ {r m : List S36}, (∀ y ∈ r, y.f0 = k) → (∀ b, m.head? = some b → b.f0 ≠ k) → ofKey (fun e : S36 => e.f0) k (r ++ m) = (r, m)
 | [], [], _, _ => rfl
 | [], b :: m, _, h => by
  have hb := h b rfl
  show ofKey (fun e : S36 => e.f0) k (b :: m) = _
  unfold ofKey
  rw [if_neg hb]
 | y :: r, m, h, h2 => by
  have ih := ofKey_split (r := r) (m := m) (fun z hz => h z (List.mem_cons_of_mem _ hz)) h2
  rw [List.cons_append]
  unfold ofKey
  rw [if_pos (h y (by simp)), ih]
theorem groupsK_of : ∀ {H : List (List S36)}, (∀ g ∈ H, OneKey (fun e : S36 => e.f0) g) → H.Pairwise LL → groupsK (fun e : S36 => e.f0) H.flatten = H
 | [], _, _ => by rw [List.flatten_nil, groupsK]
 | [] :: H, h, _ => absurd rfl (h [] (by simp)).1
 | (x :: r) :: H, h, hp => by
  obtain ⟨h1, h2⟩ := List.pairwise_cons.1 hp
  have ih := groupsK_of (fun g hg => h g (by simp [hg])) h2
  have hx := h (x :: r) (by simp)
  rw [List.flatten_cons, List.cons_append, groupsK]
  have hs := ofKey_split (k := x.f0) (r := r) (m := H.flatten) (fun y hy => hx.2 y (by simp [hy]) x (by simp)) (fun b hb e => by
   have hm : b ∈ H.flatten := List.mem_of_mem_head? hb
   obtain ⟨g, hg, hbg⟩ := List.mem_flatten.1 hm
   have := h1 g hg x (by simp) b hbg
   rw [e, less_irrefl] at this; cases this)
  show (x :: (ofKey (fun e : S36 => e.f0) x.f0 (r ++ H.flatten)).1) :: groupsK (fun e : S36 => e.f0) (ofKey (fun e : S36 => e.f0) x.f0 (r ++ H.flatten)).2 = _
  rw [hs]
  show (x :: r) :: groupsK (fun e : S36 => e.f0) H.flatten = _
  rw [ih]
/-- Later numbers first. -/
def Desc (g : List S36) : Prop := g.Pairwise (fun p q => q.f1 < p.f1)
theorem Desc.inj {g : List S36} (h : Desc g) {i j : Nat} {e : S36} (hi : g[i]? = some e) (hj : g[j]? = some e) : i = j := by
 obtain ⟨hi1, hi2⟩ := List.getElem?_eq_some_iff.1 hi
 obtain ⟨hj1, hj2⟩ := List.getElem?_eq_some_iff.1 hj
 have hp := List.pairwise_iff_getElem.1 h
 rcases Nat.lt_trichotomy i j with h1 | h1 | h1
 ·
  have := hp i j hi1 hj1 h1; rw [hi2, hj2] at this; omega
 ·
  exact h1
 ·
  have := hp j i hj1 hi1 h1; rw [hi2, hj2] at this; omega
theorem fm_congr {α β : Type} {f g : α → Option β} : ∀ {l : List α}, (∀ x ∈ l, f x = g x) → l.filterMap f = l.filterMap g
 | [], _ => rfl
 | x :: l, h => by
  rw [List.filterMap_cons, List.filterMap_cons, h x (by simp), fm_congr (fun y hy => h y (List.mem_cons_of_mem _ hy))]
theorem tw_mem {q : S36 → Bool} : ∀ {l : List S36} {e : S36}, e ∈ l.takeWhile q → q e = true
 | [], e, h => by cases h
 | x :: l, e, h => by
  rw [List.takeWhile_cons] at h
  split at h
  ·
   rename_i hx
   rcases List.mem_cons.1 h with e2 | e2
   ·
    rw [e2]; exact hx
   ·
    exact tw_mem e2
  ·
   cases h
theorem idx_filter {f : Nat → Bool} {P : S36 → Bool} (n : Nat) : ∀ (g : List S36), g.length = n → (∀ i e, g[i]? = some e → f i = P e) → ((List.range g.length).filter f).filterMap (fun i => g[i]?) = g.filter P := by
 induction n with
 | zero => intro g h _; have := List.eq_nil_of_length_eq_zero h; subst this; rfl
 | succ n ih =>
  intro g h hf
  obtain ⟨o, e, rfl⟩ : ∃ o e, g = o ++ [e] := by
   rcases List.eq_nil_or_concat g with h2 | ⟨o, e, h2⟩
   ·
    subst h2; simp at h
   ·
    exact ⟨o, e, by rw [h2, List.concat_eq_append]⟩
  have hol : o.length = n := by simpa using h
  have ho := ih o hol (fun i e' hi => hf i e' (by rw [List.getElem?_append_left (List.getElem?_eq_some_iff.1 hi).1]; exact hi))
  have he : f o.length = P e := hf o.length e (by simp)
  have hc : ((List.range o.length).filter f).filterMap (fun i => (o ++ [e])[i]?) = ((List.range o.length).filter f).filterMap (fun i => o[i]?) := by
   refine fm_congr (fun i hi => ?_)
   have := List.mem_range.1 (List.mem_filter.1 hi).1
   rw [List.getElem?_append_left this]
  rw [List.length_append, List.length_singleton, List.range_succ, List.filter_append, List.filterMap_append, List.filter_append, hc, ho]
  congr 1
  cases hP : P e with
  | true => rw [hP] at he; simp [he, hP]
  | false => rw [hP] at he; simp [he, hP]
/-- What stays of a key's entries: the first, and what each pin sees first. -/
noncomputable def stays (pins : List Int) (g : List S36) (e : S36) : Bool := @decide (g.head? = some e ∨ ∃ p ∈ pins, g.find? (fun e => decide (e.f1 ≤ p)) = some e) (Classical.propDecidable _)
theorem stays_iff {pins : List Int} {g : List S36} {e : S36} : stays pins g e = true ↔ (g.head? = some e ∨ ∃ p ∈ pins, g.find? (fun e => decide (e.f1 ≤ p)) = some e) := by
 exact @decide_eq_true_iff _ (Classical.propDecidable _)
theorem keep_filter (pins : List Int) {g : List S36} (hd : Desc g) : (keepN pins g).filterMap (fun i => g[i]?) = g.filter (stays pins g) := by
 unfold keepN
 refine idx_filter g.length g rfl (fun i e hi => ?_)
 rw [Bool.eq_iff_iff, decide_eq_true_eq, stays_iff]
 unfold placesM
 rw [List.mem_cons, List.mem_filterMap]
 constructor
 ·
  rintro (h | ⟨p, hp, h⟩)
  ·
   have h0 : i = 0 := by omega
   subst h0
   exact .inl (by rw [List.head?_eq_getElem?]; exact hi)
  ·
   split at h
   ·
    rename_i hge
    injection h with h
    refine .inr ⟨p, hp, ?_⟩
    cases hf : g.find? (fun e => decide (e.f1 ≤ p)) with
    | none => have := idxN_none hf; omega
    | some e' =>
     obtain ⟨j, hj, hj2⟩ := idxN_some hf
     have : j = i := by omega
     subst this
     rw [hj2] at hi; exact hi
   ·
    cases h
 ·
  rintro (h | ⟨p, hp, h⟩)
  ·
   rw [List.head?_eq_getElem?] at h
   exact .inl (by have := hd.inj hi h; omega)
  ·
   obtain ⟨j, hj, hj2⟩ := idxN_some h
   have := hd.inj hi hj2
   subst this
   exact .inr ⟨p, hp, by rw [if_pos (by omega), hj]⟩
theorem find_filter {q P : S36 → Bool} : ∀ {g : List S36}, (∀ e, g.find? q = some e → P e = true) → (g.filter P).find? q = g.find? q
 | [], _ => rfl
 | x :: g, h => by
  rw [List.find?_cons] at h ⊢
  cases hq : q x with
  | true =>
   rw [hq] at h
   rw [List.filter_cons, if_pos (h x rfl), List.find?_cons, hq]
  | false =>
   rw [hq] at h
   have ih := find_filter h
   rw [List.filter_cons]
   split
   ·
    rw [List.find?_cons, hq]; exact ih
   ·
    exact ih
theorem dropG_split (l : List S36) : ∃ t, l = dropG l ++ t ∧ ∀ e ∈ t, e.f2 = true := by
 unfold dropG
 refine ⟨(l.reverse.takeWhile (fun e => e.f2)).reverse, ?_, fun e he => ?_⟩
 ·
  rw [← List.reverse_append, List.takeWhile_append_dropWhile, List.reverse_reverse]
 ·
  exact tw_mem (q := fun e => e.f2) (List.mem_reverse.1 he)
theorem dropG_idem (l : List S36) : dropG (dropG l) = dropG l := by
 have h : ∀ n, ∀ l : List S36, l.length = n → dropG (dropG l) = dropG l := by
  intro n
  induction n with
  | zero => intro l h; have := List.eq_nil_of_length_eq_zero h; subst this; rfl
  | succ n ih =>
   intro l h
   obtain ⟨o, e, rfl⟩ : ∃ o e, l = o ++ [e] := by
    rcases List.eq_nil_or_concat l with h2 | ⟨o, e, h2⟩
    ·
     subst h2; simp at h
    ·
     exact ⟨o, e, by rw [h2, List.concat_eq_append]⟩
   have hol : o.length = n := by simpa using h
   rw [dropG_snoc]
   split
   ·
    exact ih o hol
   ·
    rename_i hg
    rw [dropG_snoc, if_neg hg]
 exact h _ l rfl
theorem dropG_sublist (l : List S36) : (dropG l).Sublist l := by
 obtain ⟨t, ht, _⟩ := dropG_split l
 conv => rhs; rw [ht]
 exact List.sublist_append_left _ _
theorem kept_eq (pins : List Int) (bottom : Bool) {g : List S36} (hd : Desc g) : keptM pins bottom g = if bottom = true then dropG (g.filter (stays pins g)) else g.filter (stays pins g) := by
 unfold keptM
 rw [keep_filter pins hd]
theorem kept_sublist (pins : List Int) (bottom : Bool) {g : List S36} (hd : Desc g) : (keptM pins bottom g).Sublist g := by
 rw [kept_eq pins bottom hd]
 split
 ·
  exact (dropG_sublist _).trans List.filter_sublist
 ·
  exact List.filter_sublist
/-- A view at a pin, or at a number that is not below any, is not changed. -/
theorem vis_kept {pins : List Int} {bottom : Bool} {g : List S36} (hd : Desc g) {p : Int} (hp : p ∈ pins ∨ ∀ e ∈ g, e.f1 ≤ p) : visG p (keptM pins bottom g) = visG p g := by
 have hs : ∀ e, g.find? (fun e => decide (e.f1 ≤ p)) = some e → stays pins g e = true := by
  intro e he
  rw [stays_iff]
  rcases hp with h | h
  ·
   exact .inr ⟨p, h, he⟩
  ·
   left
   cases g with
   | nil => cases he
   | cons x g =>
    rw [List.find?_cons, decide_eq_true (h x (by simp))] at he
    exact he
 have hf := find_filter hs
 rw [kept_eq pins bottom hd]
 split
 ·
  obtain ⟨t, ht, hg⟩ := dropG_split (g.filter (stays pins g))
  unfold visG
  rw [ht, List.find?_append] at hf
  cases hD : (dropG (g.filter (stays pins g))).find? (fun e => decide (e.f1 ≤ p)) with
  | some e =>
   rw [hD, Option.some_or] at hf
   rw [← hf]
  | none =>
   rw [hD, Option.none_or] at hf
   rw [← hf]
   cases hT : t.find? (fun e => decide (e.f1 ≤ p)) with
   | none => rfl
   | some e =>
    show [] = if e.f2 = true then [] else [e]
    rw [if_pos (hg e (List.mem_of_find?_eq_some hT))]
 ·
  unfold visG
  rw [hf]
theorem desc_sub {g h : List S36} (hs : h.Sublist g) (hd : Desc g) : Desc h := List.Pairwise.sublist hs hd
/-- What is kept is kept again. -/
theorem kept_again {pins : List Int} {bottom : Bool} {g : List S36} (hd : Desc g) : keptM pins bottom (keptM pins bottom g) = keptM pins bottom g := by
 obtain ⟨X, hX⟩ : ∃ X, X = keptM pins bottom g := ⟨_, rfl⟩
 have hXd : Desc X := by rw [hX]; exact desc_sub (kept_sublist pins bottom hd) hd
 have hpre : ∃ t, g.filter (stays pins g) = X ++ t := by
  rw [hX, kept_eq pins bottom hd]
  split
  ·
   obtain ⟨t, ht, _⟩ := dropG_split (g.filter (stays pins g)); exact ⟨t, ht⟩
  ·
   exact ⟨[], by simp⟩
 have hall : X.filter (stays pins X) = X := by
  refine List.filter_eq_self.2 (fun e he => ?_)
  obtain ⟨t, ht⟩ := hpre
  have heS : e ∈ g.filter (stays pins g) := by rw [ht]; simp [he]
  have hst := stays_iff.1 (List.mem_filter.1 heS).2
  rw [stays_iff]
  rcases hst with h | ⟨p, hp, h⟩
  ·
   left
   cases g with
   | nil => cases h
   | cons x g =>
    have hxe : x = e := Option.some.inj h
    have hsx : stays pins (x :: g) x = true := stays_iff.2 (.inl rfl)
    rw [List.filter_cons, if_pos hsx] at ht
    cases hXX : X with
    | nil => rw [hXX] at he; cases he
    | cons y X2 =>
     rw [hXX, List.cons_append] at ht
     injection ht with h1 _
     rw [← h1, hxe]; rfl
  ·
   right
   refine ⟨p, hp, ?_⟩
   have hq : decide (e.f1 ≤ p) = true := List.find?_some (p := fun e : S36 => decide (e.f1 ≤ p)) h
   have hf := find_filter (P := stays pins g) (fun e' he' => stays_iff.2 (.inr ⟨p, hp, he'⟩)) (g := g) (q := fun e => decide (e.f1 ≤ p))
   rw [h, ht, List.find?_append] at hf
   cases hD : X.find? (fun e => decide (e.f1 ≤ p)) with
   | some e' => rw [hD, Option.some_or] at hf; exact hf
   | none => exact absurd hq (List.find?_eq_none.1 hD e he)
 rw [← hX, kept_eq pins bottom hXd, hall]
 split
 ·
  rename_i hb
  rw [hX, kept_eq pins bottom hd, if_pos hb, dropG_idem]
 ·
  rfl
theorem flatten_ne : ∀ (L : List (List S36)), (L.filter (fun g => !g.isEmpty)).flatten = L.flatten
 | [] => rfl
 | [] :: L => by rw [List.filter_cons, if_neg (by simp), List.flatten_cons, List.nil_append]; exact flatten_ne L
 | (x :: g) :: L => by rw [List.filter_cons, if_pos (by rfl), List.flatten_cons, List.flatten_cons, flatten_ne L]
theorem map_ne {f : List S36 → List S36} (hf : f [] = []) : ∀ (L : List (List S36)), ((L.filter (fun g => !g.isEmpty)).map f).flatten = (L.map f).flatten
 | [] => rfl
 | [] :: L => by rw [List.filter_cons, if_neg (by simp), List.map_cons, List.flatten_cons, hf, List.nil_append]; exact map_ne hf L
 | (x :: g) :: L => by rw [List.filter_cons, if_pos (by rfl), List.map_cons, List.flatten_cons, List.map_cons, List.flatten_cons, map_ne hf L]
theorem flat_sublist {f : List S36 → List S36} : ∀ (L : List (List S36)), (∀ g ∈ L, (f g).Sublist g) → (L.map f).flatten.Sublist L.flatten
 | [], _ => List.Sublist.refl _
 | g :: L, h => by
  rw [List.map_cons, List.flatten_cons, List.flatten_cons]
  exact List.Sublist.append (h g (by simp)) (flat_sublist L (fun x hx => h x (by simp [hx])))
theorem pruM_sublist (pins : List Int) (bottom : Bool) {l : List S36} (hE : ∀ e ∈ l, EB e) (hs : Str cmpE l) : (pruM pins bottom l).Sublist l := by
 have h := flat_sublist (f := keptM pins bottom) (groupsK (fun e : S36 => e.f0) l) (fun g hg => kept_sublist pins bottom (group_desc hE hs g hg).1)
 rw [groupsK_flat l.length l (Nat.le_refl _)] at h
 exact h
/-- The groups of what is kept. -/
theorem pruM_groups (pins : List Int) (bottom : Bool) {l : List S36} (hE : ∀ e ∈ l, EB e) (hs : Str cmpE l) : groupsK (fun e : S36 => e.f0) (pruM pins bottom l) = ((groupsK (fun e : S36 => e.f0) l).map (keptM pins bottom)).filter (fun g => !g.isEmpty) := by
 unfold pruM
 rw [← flatten_ne]
 have hsub : ∀ g ∈ groupsK (fun e : S36 => e.f0) l, ∀ e ∈ keptM pins bottom g, e ∈ g := fun g _ => (keptM_sub pins bottom g).1
 refine groupsK_of (fun g hg => ?_) ?_
 ·
  obtain ⟨h1, h2⟩ := List.mem_filter.1 hg
  obtain ⟨g0, hg0, rfl⟩ := List.mem_map.1 h1
  have h3 := (group_desc hE hs g0 hg0).2.2
  exact ⟨fun e => by rw [e] at h2; simp at h2, fun x hx y hy => h3.2 x (hsub g0 hg0 x hx) y (hsub g0 hg0 y hy)⟩
 ·
  refine List.Pairwise.filter _ (List.pairwise_map.2 (List.Pairwise.imp_of_mem (fun {a b} ha hb h x hx y hy => h x (hsub a ha x hx) y (hsub b hb y hy)) (groups_LL l.length l (Nat.le_refl _) hE hs)))
theorem prune_vis {pins : List Int} {bottom : Bool} {l : List S36} (hE : ∀ e ∈ l, EB e) (hs : Str cmpE l) {p : Int} (hp : p ∈ pins ∨ ∀ e ∈ l, e.f1 ≤ p) : visM p (pruM pins bottom l) = visM p l := by
 have h : visM p (pruM pins bottom l) = ((groupsK (fun e : S36 => e.f0) (pruM pins bottom l)).map (visG p)).flatten := rfl
 rw [h, pruM_groups pins bottom hE hs, map_ne (f := visG p) rfl, List.map_map]
 unfold visM
 congr 1
 refine List.map_congr_left (fun g hg => ?_)
 have hgd := group_desc hE hs g hg
 exact vis_kept hgd.1 (hp.imp id (fun h e he => h e (hgd.2.1 e he)))
theorem prune_again {pins : List Int} {bottom : Bool} {l : List S36} (hE : ∀ e ∈ l, EB e) (hs : Str cmpE l) : pruM pins bottom (pruM pins bottom l) = pruM pins bottom l := by
 have h : pruM pins bottom (pruM pins bottom l) = ((groupsK (fun e : S36 => e.f0) (pruM pins bottom l)).map (keptM pins bottom)).flatten := rfl
 have h0 : keptM pins bottom [] = [] := List.eq_nil_of_length_eq_zero (by have := (keptM_sub pins bottom []).2; simpa using this)
 rw [h, pruM_groups pins bottom hE hs, map_ne (f := keptM pins bottom) h0, List.map_map]
 unfold pruM
 congr 1
 refine List.map_congr_left (fun g hg => ?_)
 exact kept_again (group_desc hE hs g hg).1
theorem prune_row {pins : List Int} {bottom : Bool} {l : List S36} (hE : ∀ e ∈ l, EB e) (hr : rowOk none l = true) : rowOk none (pruM pins bottom l) = true := by
 have h := rowOk_str hE (fun q hq => by cases hq) hr
 have hsub := pruM_sublist pins bottom hE h.1
 exact str_rowOk (fun e he => hE e (hsub.subset he)) (fun q hq => by cases hq) (List.Pairwise.sublist hsub h.1) (fun e he => h.2.1 e (hsub.subset he))
end Go.Proofs.Ytobjkjmmkbhecaa.Sk
