/- Rows in order, in plain lists. Conditions: those of each theorem. -/
import Derived.Test.YtobjkjmmkbhecaaCore
import Derived.Test.YtobjkjmmkbhecaaHgp
import Derived.Test.YtobjkjmmkbhecaaHod
import Derived.Test.YtobjkjmmkbhecaaHpl
import Derived.Test.YtobjkjmmkbhecaaHso
import Derived.Test.YtobjkjmmkbhecaaHvi
import Derived.Test.YtobjkjmmkbhecaaPx0
namespace Go.Proofs.Ytobjkjmmkbhecaa.Sk
open Go.RowKit Go.Proofs.YtobjkjmmkbhecaaW.PrintWords Go.Proofs.YtobjkjmmkbhecaaW.PrintLast Go.Proofs.YtobjkjmmkbhecaaW.PrintMore Go.Proofs.Ytobjkjmmkbhecaa.Px Go.Proofs.Ytobjkjmmkbhecaa.Sw
set_option linter.unusedVariables false
set_option linter.unusedSimpArgs false

theorem ahe_cmp {x y : S36} (hx : EB x) (hy : EB y) : ahe x y = true ↔ cmpE x y < 0 := by
 rw [cmpE_neg hx hy]
 unfold ahe
 simp only [Bool.or_eq_true, Bool.and_eq_true, decide_eq_true_eq]
theorem lt_tr {a b c : S36} (ha : EB a) (hb : EB b) (hc : EB c) (h : cmpE a b < 0) (k : cmpE b c < 0) : cmpE a c < 0 := by
 rw [cmpE_neg ha hb] at h
 rw [cmpE_neg hb hc] at k
 rw [cmpE_neg ha hc]
 rcases h with h | h
 ·
  rcases k with k | k
  ·
   exact .inl (less_trans h k)
  ·
   exact .inl (by rw [← k.1]; exact h)
 ·
  rcases k with k | k
  ·
   exact .inl (by rw [h.1]; exact k)
  ·
   exact .inr ⟨h.1.trans k.1, by omega⟩
theorem rowOk_str : ∀ {l : List S36} {p : Option S36}, (∀ e ∈ l, EB e) → (∀ q, p = some q → EB q) → rowOk p l = true → Str cmpE l ∧ (∀ e ∈ l, ckE e = true) ∧ ∀ q, p = some q → ∀ e ∈ l, cmpE q e < 0
 | [], _, _, _, _ => ⟨List.Pairwise.nil, (fun e h => by cases h), (fun q _ e h => by cases h)⟩
 | e :: l, p, hE, hp, h => by
  unfold rowOk at h
  rw [Bool.and_eq_true, Bool.and_eq_true] at h
  have he := hE e (by simp)
  obtain ⟨h1, h2, h3⟩ := rowOk_str (fun x hx => hE x (by simp [hx])) (fun q hq => by injection hq with hq; rw [← hq]; exact he) h.2
  have h3 := h3 e rfl
  refine ⟨List.pairwise_cons.2 ⟨h3, h1⟩, fun x hx => ?_, fun q hq x hx => ?_⟩
  ·
   rcases List.mem_cons.1 hx with e2 | e2
   ·
    rw [e2]; exact h.1.1
   ·
    exact h2 x e2
  ·
   subst hq
   have hq := hp q rfl
   have hqe := (ahe_cmp hq he).1 h.1.2
   rcases List.mem_cons.1 hx with e2 | e2
   ·
    rw [e2]; exact hqe
   ·
    exact lt_tr hq he (hE x hx) hqe (h3 x e2)
theorem str_rowOk : ∀ {l : List S36} {p : Option S36}, (∀ e ∈ l, EB e) → (∀ q, p = some q → EB q ∧ ∀ e ∈ l, cmpE q e < 0) → Str cmpE l → (∀ e ∈ l, ckE e = true) → rowOk p l = true
 | [], _, _, _, _, _ => rfl
 | e :: l, p, hE, hp, hs, hc => by
  obtain ⟨h1, h2⟩ := List.pairwise_cons.1 hs
  have he := hE e (by simp)
  have ih := str_rowOk (p := some e) (fun x hx => hE x (by simp [hx])) (fun q hq => by injection hq with hq; subst hq; exact ⟨he, h1⟩) h2 (fun x hx => hc x (by simp [hx]))
  unfold rowOk
  rw [ih, hc e (by simp)]
  cases p with
  | none => rfl
  | some q => show ((true && ahe q e) && true) = true; rw [(ahe_cmp (hp q rfl).1 he).2 ((hp q rfl).2 e (by simp))]; rfl
/-! ### groups of a row in order -/
/-- All keys of the one are less than all of the other's. -/
def LL (A B : List S36) : Prop := ∀ p ∈ A, ∀ q ∈ B, less p.f0 q.f0 = true
theorem ofKey_head {α : Type} {key : α → List Int} (k : List Int) : ∀ l : List α, ∀ b, (ofKey key k l).2.head? = some b → key b ≠ k
 | [], b, h => by cases h
 | x :: l, b, h => by
  unfold ofKey at h
  split at h
  ·
   exact ofKey_head k l b h
  ·
   rename_i hx
   injection h with h
   rw [← h]; exact hx
theorem groups_LL : ∀ (n : Nat) (l : List S36), l.length ≤ n → (∀ e ∈ l, EB e) → Str cmpE l → (groupsK (fun e : S36 => e.f0) l).Pairwise LL
 | _, [], _, _, _ => by rw [groupsK]; exact List.Pairwise.nil
 | 0, x :: l, h, _, _ => by simp at h
 | n + 1, x :: l, h, hE, hs => by
  rw [groupsK]
  have happ := ofKey_app (key := fun e : S36 => e.f0) x.f0 l
  have hk := ofKey_key (key := fun e : S36 => e.f0) x.f0 l
  have hl := ofKey_len (key := fun e : S36 => e.f0) x.f0 l
  obtain ⟨h1, h2⟩ := List.pairwise_cons.1 hs
  have hsub : ∀ e ∈ (ofKey (fun e : S36 => e.f0) x.f0 l).2, e ∈ l := fun e he => by rw [← happ]; exact List.mem_append.2 (.inr he)
  have hs2 : Str cmpE (ofKey (fun e : S36 => e.f0) x.f0 l).2 := by
   rw [← happ] at h2
   exact (List.pairwise_append.1 h2).2.1
  refine List.pairwise_cons.2 ⟨fun g hg p hp q hq => ?_, groups_LL n _ (by simp at h; omega) (fun e he => hE e (by simp [hsub e he])) hs2⟩
  have hpk : p.f0 = x.f0 := by
   rcases List.mem_cons.1 hp with e | e
   ·
    rw [e]
   ·
    exact hk p e
  have hq2 : q ∈ (ofKey (fun e : S36 => e.f0) x.f0 l).2 := by
   have h3 := groupsK_flat (key := fun e : S36 => e.f0) _ _ (Nat.le_refl (ofKey (fun e : S36 => e.f0) x.f0 l).2.length)
   rw [← h3]
   exact List.mem_flatten.2 ⟨g, hg, hq⟩
  have hql := hsub q hq2
  have hx := hE x (by simp)
  have hqE := hE q (by simp [hql])
  have hxq := (cmpE_neg hx hqE).1 (h1 q hql)
  rw [hpk]
  rcases hxq with e | e
  ·
   exact e
  ·
   exfalso
   -- q has x's key: then so has the first one behind the group
   have hne := ofKey_head (key := fun e : S36 => e.f0) x.f0 l
   cases hb : (ofKey (fun e : S36 => e.f0) x.f0 l).2 with
   | nil => rw [hb] at hq2; cases hq2
   | cons b r =>
    have hbk : b.f0 ≠ x.f0 := hne b (by rw [hb]; rfl)
    have hbl := hsub b (by rw [hb]; simp)
    have hbE := hE b (by simp [hbl])
    have hxb : less x.f0 b.f0 = true := ((cmpE_neg hx hbE).1 (h1 b hbl)).resolve_right (fun h => hbk h.1.symm)
    rw [hb] at hq2 hs2
    rcases List.mem_cons.1 hq2 with e2 | e2
    ·
     rw [e2] at e; exact hbk e.1.symm
    ·
     have hbq := (cmpE_neg hbE hqE).1 ((List.pairwise_cons.1 hs2).1 q e2)
     rw [← e.1] at hbq
     rcases hbq with e3 | e3
     ·
      rw [less_asymm hxb] at e3; cases e3
     ·
      exact hbk e3.1
/-- In a group the later numbers stand first. -/
theorem group_desc {l : List S36} (hE : ∀ e ∈ l, EB e) (hs : Str cmpE l) : ∀ g ∈ groupsK (fun e : S36 => e.f0) l, g.Pairwise (fun p q => q.f1 < p.f1) ∧ (∀ e ∈ g, e ∈ l) ∧ OneKey (fun e : S36 => e.f0) g := by
 intro g hg
 have hf := groupsK_flat (key := fun e : S36 => e.f0) l.length l (Nat.le_refl _)
 have h1 := groupsK_one (key := fun e : S36 => e.f0) l.length l (Nat.le_refl _) g hg
 have hsub : ∀ e ∈ g, e ∈ l := fun e he => by rw [← hf]; exact List.mem_flatten.2 ⟨g, hg, he⟩
 have hp : g.Pairwise (fun a b => cmpE a b < 0) := by
  have hs2 := hs
  unfold Str at hs2
  rw [← hf] at hs2
  exact (List.pairwise_flatten.1 hs2).1 g hg
 refine ⟨List.Pairwise.imp_of_mem (fun {a b} ha hb h => ?_) hp, hsub, h1⟩
 rcases (cmpE_neg (hE a (hsub a ha)) (hE b (hsub b hb))).1 h with e | e
 ·
  have hk : a.f0 = b.f0 := h1.2 a ha b hb
  rw [hk, less_irrefl] at e; cases e
 ·
  exact e.2
theorem same_group {G : List (List S36)} (hG : G.Pairwise LL) {g h : List S36} (hg : g ∈ G) (hh : h ∈ G) {p q : S36} (hp : p ∈ g) (hq : q ∈ h) (e : p.f0 = q.f0) : g = h := by
 obtain ⟨i, hi⟩ := List.mem_iff_getElem?.1 hg
 obtain ⟨j, hj⟩ := List.mem_iff_getElem?.1 hh
 obtain ⟨hi1, hi2⟩ := List.getElem?_eq_some_iff.1 hi
 obtain ⟨hj1, hj2⟩ := List.getElem?_eq_some_iff.1 hj
 have hpw := List.pairwise_iff_getElem.1 hG
 rcases Nat.lt_trichotomy i j with h1 | h1 | h1
 ·
  have := hpw i j hi1 hj1 h1 p (by rw [hi2]; exact hp) q (by rw [hj2]; exact hq)
  rw [e, less_irrefl] at this; cases this
 ·
  subst h1; rw [← hi2, ← hj2]
 ·
  have := hpw j i hj1 hi1 h1 q (by rw [hj2]; exact hq) p (by rw [hi2]; exact hp)
  rw [e, less_irrefl] at this; cases this
theorem find_desc {a b : Int} (hab : a ≤ b) : ∀ {g : List S36}, g.Pairwise (fun p q => q.f1 < p.f1) → ∀ {x y : S36}, g.find? (fun e => decide (e.f1 ≤ a)) = some x → g.find? (fun e => decide (e.f1 ≤ b)) = some y → x.f1 ≤ y.f1
 | [], _, x, y, h, _ => by cases h
 | e :: g, hp, x, y, hx, hy => by
  obtain ⟨h1, h2⟩ := List.pairwise_cons.1 hp
  rw [List.find?_cons] at hx hy
  by_cases hb : e.f1 ≤ b
  ·
   rw [decide_eq_true hb] at hy
   injection hy with hy
   subst hy
   by_cases ha : e.f1 ≤ a
   ·
    rw [decide_eq_true ha] at hx; injection hx with hx; rw [← hx]; exact Int.le_refl _
   ·
    rw [decide_eq_false ha] at hx
    exact Int.le_of_lt (h1 x (List.mem_of_find?_eq_some hx))
  ·
   rw [decide_eq_false hb] at hy
   rw [decide_eq_false (fun h => hb (by omega))] at hx
   exact find_desc hab h2 hx hy
theorem visG_some {seq : Int} {g : List S36} {e : S36} (h : e ∈ visG seq g) : g.find? (fun e => decide (e.f1 ≤ seq)) = some e ∧ e.f2 = false := by
 unfold visG at h
 split at h
 ·
  rename_i e' hf
  split at h
  ·
   cases h
  ·
   rename_i hn
   rw [List.mem_singleton.1 h]
   exact ⟨hf, by simpa using hn⟩
 ·
  cases h
theorem vis_mem {seq : Int} {l : List S36} {e : S36} (h : e ∈ visM seq l) : ∃ g ∈ groupsK (fun e : S36 => e.f0) l, e ∈ visG seq g := by
 unfold visM at h
 obtain ⟨v, hv, he⟩ := List.mem_flatten.1 h
 obtain ⟨g, hg, rfl⟩ := List.mem_map.1 hv
 exact ⟨g, hg, he⟩
/-- What is seen: none is Gone, none is later, and the keys rise. -/
theorem vis_right {seq : Int} {l : List S36} : ∀ e ∈ visM seq l, e.f2 = false ∧ e.f1 ≤ seq := by
 intro e he
 obtain ⟨g, _, hg⟩ := vis_mem he
 obtain ⟨h1, h2⟩ := visG_some hg
 exact ⟨h2, by simpa using List.find?_some h1⟩
theorem vis_rise {l : List S36} (hE : ∀ e ∈ l, EB e) (hs : Str cmpE l) (seq : Int) : (visM seq l).Pairwise (fun p q => less p.f0 q.f0 = true) := by
 unfold visM
 refine List.pairwise_flatten.2 ⟨fun v hv => ?_, ?_⟩
 ·
  obtain ⟨g, _, rfl⟩ := List.mem_map.1 hv
  have h := visG_len seq g
  match hv2 : visG seq g with
  | [] => exact List.Pairwise.nil
  | [a] => exact List.pairwise_singleton _ _
  | a :: b :: r => rw [hv2] at h; simp at h
 ·
  refine List.pairwise_map.2 ((groups_LL l.length l (Nat.le_refl _) hE hs).imp (fun {a b} h x hx y hy => h x (visG_mem x hx) y (visG_mem y hy)))
theorem vis_later {l : List S36} (hE : ∀ e ∈ l, EB e) (hs : Str cmpE l) {a b : Int} (hab : a ≤ b) {x y : S36} (hx : x ∈ visM a l) (hy : y ∈ visM b l) (e : x.f0 = y.f0) : x.f1 ≤ y.f1 ∧ x.f1 ≤ a := by
 obtain ⟨g, hg, h1⟩ := vis_mem hx
 obtain ⟨g', hg', h2⟩ := vis_mem hy
 have := same_group (groups_LL l.length l (Nat.le_refl _) hE hs) hg hg' (visG_mem x h1) (visG_mem y h2) e
 subst this
 exact ⟨find_desc hab (group_desc hE hs g hg).1 (visG_some h1).1 (visG_some h2).1, (vis_right x hx).2⟩
/-! ### versions in a row in order -/
theorem ver_str : ∀ {m : List S36}, (∀ e ∈ m, EB e) → Str cmpE m → ∀ {z : S36}, z ∈ m → verM m z.f0 z.f1 = some z
 | [], _, _, z, h => by cases h
 | x :: m, hE, hs, z, hz => by
  obtain ⟨h1, h2⟩ := List.pairwise_cons.1 hs
  unfold verM
  rw [List.find?_cons]
  rcases List.mem_cons.1 hz with e | e
  ·
   subst e
   rw [decide_eq_true ⟨rfl, Int.le_refl _⟩]
  ·
   have hc := (cmpE_neg (hE x (by simp)) (hE z hz)).1 (h1 z e)
   rw [decide_eq_false]
   ·
    exact ver_str (fun y hy => hE y (by simp [hy])) h2 e
   ·
    rintro ⟨h3, h4⟩
    rcases hc with h5 | h5
    ·
     rw [h3, less_irrefl] at h5; cases h5
    ·
     omega
theorem eqv_same {x y : S36} (hx : EB x) (hy : EB y) : eqv cmpE x y = true ↔ x.f0 = y.f0 ∧ x.f1 = y.f1 := by
 rw [← cmpE_zero hx hy, eqv_iff]
 constructor
 ·
  intro h
  by_cases h0 : cmpE x y = 0
  ·
   exact h0
  ·
   exfalso
   have h1 : 0 < cmpE x y := by have := h.1; omega
   -- the other way round it is less
   have h2 := h.2
   rw [cmpE_neg hy hx] at h2
   have h3 := h.1
   rw [cmpE_neg hx hy] at h3
   apply h0
   rw [cmpE_zero hx hy]
   by_cases hk : x.f0 = y.f0
   ·
    refine ⟨hk, ?_⟩
    have h4 : ¬ y.f1 < x.f1 := fun hh => h3 (.inr ⟨hk, hh⟩)
    have h5 : ¬ x.f1 < y.f1 := fun hh => h2 (.inr ⟨hk.symm, hh⟩)
    omega
   ·
    exfalso
    rcases less_total hk with h4 | h4
    ·
     exact h3 (.inl h4)
    ·
     exact h2 (.inl h4)
 ·
  intro h
  have h1 := (cmpE_zero hx hy).1 h
  have h2 := (cmpE_zero hy hx).2 ⟨h1.1.symm, h1.2.symm⟩
  omega
theorem str_eqv {m : List S36} (hE : ∀ e ∈ m, EB e) (hs : Str cmpE m) {x y : S36} (hx : x ∈ m) (hy : y ∈ m) (e : x.f0 = y.f0 ∧ x.f1 = y.f1) : x = y := by
 have h1 := ver_str hE hs hx
 have h2 := ver_str hE hs hy
 rw [e.1, e.2, h2] at h1
 exact (Option.some.inj h1).symm
/-- Each entry's key and number is in the merged row. -/
theorem merged_ver {l : List S36} (hE : ∀ e ∈ l, EB e) {z : S36} (hz : z ∈ l) : ∃ e, verM (putAll cmpE l) z.f0 z.f1 = some e ∧ e.f0 = z.f0 ∧ e.f1 = z.f1 := by
 obtain ⟨e, he, h1, h2⟩ := class_first cmpE_ord hE hz
 have hk := (eqv_same (hE z hz) (hE e he)).1 h1
 have hm := (putAll_ok cmpE_ord l hE).2 e (hE e he)
 refine ⟨e, ?_, hk.1.symm, hk.2.symm⟩
 rw [hk.1, hk.2]
 exact ver_str (fun x hx => hE x (putAll_sub l x hx)) (putAll_ok cmpE_ord l hE).1 (hm.2 h2)
theorem merged_first {l m : List S36} (hE : ∀ e ∈ l ++ m, EB e) (hs : Str cmpE l) {z : S36} (hz : z ∈ l) : verM (putAll cmpE (l ++ m)) z.f0 z.f1 = some z := by
 have hzE := hE z (List.mem_append.2 (.inl hz))
 have h1 := (Str.first cmpE_ord hs (fun e he => hE e (List.mem_append.2 (.inl he))) z hzE).1 hz
 have hm := ((putAll_ok cmpE_ord (l ++ m) hE).2 z hzE).2 ((first_append l m z).2 (.inl h1))
 exact ver_str (fun x hx => hE x (putAll_sub (l ++ m) x hx)) (putAll_ok cmpE_ord (l ++ m) hE).1 hm
/-- What has the same entries as a row in order, merged, is that row. -/
theorem putAll_mem {l m : List S36} (hE : ∀ e ∈ l, EB e) (hs : Str cmpE l) (hm : ∀ e, e ∈ m ↔ e ∈ l) : putAll cmpE m = l := by
 have hEm : ∀ e ∈ m, EB e := fun e he => hE e ((hm e).1 he)
 have hp := putAll_ok cmpE_ord m hEm
 refine str_unique cmpE_ord hp.1 hs (fun e he => hEm e (putAll_sub m e he)) hE (fun x => ?_)
 constructor
 ·
  intro h; exact (hm x).1 (putAll_sub m x h)
 ·
  intro h
  have hxm := (hm x).2 h
  obtain ⟨e, he, h1, h2⟩ := class_first cmpE_ord hEm hxm
  have hk := (eqv_same (hEm x hxm) (hEm e he)).1 h1
  have := str_eqv hE hs h ((hm e).1 he) hk
  subst this
  exact (hp.2 x (hEm x hxm)).2 h2
/-! ### pieces of a row in order -/
theorem fold_LL (most : Int) : ∀ (gs out : List (List S36)), (out ++ gs).Pairwise LL → (gs.foldl (pieceE most) out).Pairwise LL
 | [], out, h => by simpa using h
 | g :: gs, out, h => by
  rw [List.foldl_cons]
  refine fold_LL most gs _ ?_
  unfold pieceE
  rcases List.eq_nil_or_concat out with e | ⟨o, p, e⟩
  ·
   subst e; simpa using h
  ·
   subst e
   simp only [List.concat_eq_append, List.getLast?_append, List.getLast?_singleton, Option.some_or, List.dropLast_concat]
   rw [List.concat_eq_append] at h
   split
   ·
    rw [List.append_assoc, List.append_assoc]
    rw [List.append_assoc] at h
    exact h
   ·
    rw [List.append_assoc]
    rw [List.append_assoc] at h
    obtain ⟨h1, h2, h3⟩ := List.pairwise_append.1 h
    have h2 : (p :: g :: gs).Pairwise LL := h2
    obtain ⟨h4, h5⟩ := List.pairwise_cons.1 h2
    obtain ⟨h6, h7⟩ := List.pairwise_cons.1 h5
    refine List.pairwise_append.2 ⟨h1, List.pairwise_cons.2 ⟨fun x hx a ha b hb => ?_, h7⟩, fun x hx y hy => ?_⟩
    ·
     have hx : x ∈ gs := hx
     rcases List.mem_append.1 ha with e | e
     ·
      exact h4 x (by simp [hx]) a e b hb
     ·
      exact h6 x hx a e b hb
    ·
     have hy : y ∈ (p ++ g) :: gs := hy
     rcases List.mem_cons.1 hy with e | e
     ·
      subst e
      intro a ha b hb
      rcases List.mem_append.1 hb with e | e
      ·
       exact h3 x hx p (by simp) a ha b e
      ·
       exact h3 x hx g (by simp) a ha b e
     ·
      exact h3 x hx y (by simp [e])
theorem split_LL {l : List S36} (hE : ∀ e ∈ l, EB e) (hs : Str cmpE l) (most : Int) : (splitE (fun e : S36 => e.f0) most l).Pairwise LL := by
 unfold splitE
 exact fold_LL most _ [] (by simpa using groups_LL l.length l (Nat.le_refl _) hE hs)
end Go.Proofs.Ytobjkjmmkbhecaa.Sk
