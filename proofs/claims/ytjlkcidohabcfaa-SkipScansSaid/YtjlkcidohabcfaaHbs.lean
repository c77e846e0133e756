/- What a scan of the list tells, in plain Lean. Conditions: those of each theorem. -/
import Derived.Test.YtjlkcidohabcfaaPx4
import Derived.Test.YtjlkcidohabcfaaPx5
import Derived.Test.YtjlkcidohabcfaaPx13
import Derived.Test.YtjlkcidohabcfaaPx20
import Derived.Test.YtjlkcidohabcfaaPx21
import Derived.Test.YtjlkcidohabcfaaPx22
import Derived.Test.YtjlkcidohabcfaaPx23
import Derived.Test.YtjlkcidohabcfaaPx24
import Derived.Test.YtjlkcidohabcfaaPx25
import Derived.Test.YtjlkcidohabcfaaPx27
import Derived.Test.YtjlkcidohabcfaaPx29
import Derived.Test.YtjlkcidohabcfaaH0
import Derived.Test.YtjlkcidohabcfaaHp
import Derived.Test.YtjlkcidohabcfaaHq
import Derived.Test.YtjlkcidohabcfaaHr
import Derived.Test.YtjlkcidohabcfaaHu
import Derived.Test.YtjlkcidohabcfaaHv
import Derived.Test.YtjlkcidohabcfaaHg
import Derived.Test.YtjlkcidohabcfaaHh
import Derived.Test.YtjlkcidohabcfaaHi
import Derived.Test.YtjlkcidohabcfaaHk
import Derived.Test.YtjlkcidohabcfaaHy
import Derived.Test.YtjlkcidohabcfaaHj
import Derived.Test.YtjlkcidohabcfaaHl
import Derived.Test.YtjlkcidohabcfaaHaa
namespace Go.Proofs.Ytjlkcidohabcfaa.Sk
open Go.RowKit Go.Proofs.YtjlkcidohabcfaaW.PrintWords Go.Proofs.YtjlkcidohabcfaaW.PrintLast Go.Proofs.YtjlkcidohabcfaaW.PrintMore Go.Proofs.Ytjlkcidohabcfaa.Px
set_option linter.unusedVariables false
set_option linter.unusedSimpArgs false
open Go.Proofs.Ytjlkcidohabcfaa.Sw

theorem find_split {X Y : List Tw} {t : Tw} {k : List Int} {s : Int} (hX : ∀ x, x ∈ X → x.e.f0 = k → s < x.e.f1) (hk : t.e.f0 = k) (hs : t.e.f1 ≤ s) : version ((X ++ t :: Y).map (fun t => t.e)) k s = (t.e, true) := by
  unfold version
  rw [List.map_append, List.map_cons, List.find?_append, List.find?_eq_none.2 (fun e he => by
    obtain ⟨x, hx, rfl⟩ := List.mem_map.1 he
    intro hh
    simp only [Bool.and_eq_true, decide_eq_true_eq] at hh
    have := hX x hx hh.1
    omega), Option.none_or, List.find?_cons_of_pos (by simp [hk, hs])]
theorem ahe_seq {a b : S34} (h : ahe a b = true) (hk : a.f0 = b.f0) : b.f1 < a.f1 := by
  unfold ahe at h
  rw [hk, less_irrefl] at h
  simpa using h
theorem at_split {T : List Tw} {n : Nat} {t : Tw} (h : T[n]? = some t) : T = T.take n ++ t :: T.drop (n + 1) := by
  have hn := (List.getElem?_eq_some_iff.1 h).1
  conv => lhs; rw [← List.take_append_drop n T]
  rw [List.drop_eq_getElem_cons hn]
  congr 2
  exact Option.some.inj ((List.getElem?_eq_getElem hn).symm.trans h)
/-- A version is found from its own number on. -/
theorem get_self {T : List Tw} (hT : FitT T) {n : Nat} {t : Tw} (h : T[n]? = some t) : getN T t.e.f0 t.e.f1 = (t.e, true) := by
  rw [← version_same hT]
  have hs := at_split h
  have hp := hT.srt
  rw [hs] at hp ⊢
  exact find_split (fun x hx hk => ahe_seq ((List.pairwise_append.1 hp).2.2 x hx t (by simp)) hk) rfl (Int.le_refl _)
/-- .. up to the next one's. -/
theorem get_prev {T : List Tw} (hT : FitT T) {m : Nat} {t u : Tw} (hu : T[m]? = some u) (h : T[m + 1]? = some t) (hk : u.e.f0 = t.e.f0) : getN T t.e.f0 (u.e.f1 - 1) = (t.e, true) ∧ t.e.f1 < u.e.f1 := by
  have hs := at_split h
  have hp := hT.srt
  have hm := (List.getElem?_eq_some_iff.1 hu).1
  have hmem : u ∈ T.take (m + 1) := by
    rw [take_snoc' hu]
    simp
  have hlt : t.e.f1 < u.e.f1 := by
    rw [hs] at hp
    exact ahe_seq ((List.pairwise_append.1 hp).2.2 u hmem t (by simp)) hk
  refine ⟨?_, hlt⟩
  rw [← version_same hT]
  have hp2 : (T.take (m + 1)).Pairwise (fun a b => ahe a.e b.e = true) := hT.srt.sublist (List.take_sublist _ _)
  rw [take_snoc' hu] at hp2
  rw [hs]
  refine find_split (fun x hx hxk => ?_) rfl (by omega)
  rw [take_snoc' hu] at hx
  rcases List.mem_append.1 hx with hx | hx
  · have := ahe_seq ((List.pairwise_append.1 hp2).2.2 x hx u (by simp)) (hxk.trans hk.symm)
    omega
  · rw [List.mem_singleton.1 hx]
    omega
theorem next_less {T : List Tw} (hT : FitT T) {m : Nat} {t u : Tw} (hu : T[m]? = some u) (h : T[m + 1]? = some t) (hk : u.e.f0 ≠ t.e.f0) : less u.e.f0 t.e.f0 = true := by
  have hs := at_split h
  have hp := hT.srt
  rw [hs] at hp
  have h1 := (List.pairwise_append.1 hp).2.2 u (by rw [take_snoc' hu]; simp) t (by simp)
  unfold ahe at h1
  simpa [hk] using h1
/-- What is found is of the key, and not above what was asked. -/
theorem get_is {T : List Tw} (hT : FitT T) (k : List Int) (s : Int) (h : (getN T k s).2 = true) : (getN T k s).1.f0 = k ∧ (getN T k s).1.f1 ≤ s := by
  rw [← version_same hT] at h ⊢
  unfold version at h ⊢
  split at h
  · rename_i e he
    have h1 := List.find?_some he
    simp only [Bool.and_eq_true, decide_eq_true_eq] at h1
    exact h1
  · cases h

theorem uniqA_lt : ∀ (r : List S34) (p : S34), (p :: r).Pairwise (fun x y => less y.f0 x.f0 = false) → (∀ e ∈ uniqA eqK p r, less p.f0 e.f0 = true) ∧ (uniqA eqK p r).Pairwise (fun x y => less x.f0 y.f0 = true)
  | [], p, _ => ⟨fun e he => (List.not_mem_nil he).elim, List.Pairwise.nil⟩
  | x :: r, p, h => by
    have h1 := List.pairwise_cons.1 h
    have h2 := List.pairwise_cons.1 h1.2
    unfold uniqA
    by_cases hk : x.f0 = p.f0
    · rw [if_pos (by unfold eqK; simp [hk])]
      rw [uniqA_key hk]
      exact uniqA_lt r p (List.pairwise_cons.2 ⟨fun y hy => h1.1 y (List.mem_cons_of_mem _ hy), h2.2⟩)
    · rw [if_neg (by unfold eqK; simp [hk])]
      have hlt : less p.f0 x.f0 = true := by
        rcases less_total hk with h3 | h3
        · have h4 := h1.1 x (by simp)
          rw [h3] at h4
          cases h4
        · exact h3
      have ih := uniqA_lt r x h1.2
      refine ⟨fun e he => ?_, List.pairwise_cons.2 ⟨ih.1, ih.2⟩⟩
      rcases List.mem_cons.1 he with he | he
      · rw [he]; exact hlt
      · exact less_trans hlt (ih.1 e he)
theorem uniqA_has : ∀ (r : List S34) (p x : S34), x ∈ r → x.f0 = p.f0 ∨ ∃ e ∈ uniqA eqK p r, e.f0 = x.f0
  | y :: r, p, x, h => by
    unfold uniqA
    by_cases hk : y.f0 = p.f0
    · rw [if_pos (by unfold eqK; simp [hk])]
      rcases List.mem_cons.1 h with h | h
      · exact Or.inl (h ▸ hk)
      · rw [uniqA_key hk]
        exact uniqA_has r p x h
    · rw [if_neg (by unfold eqK; simp [hk])]
      rcases List.mem_cons.1 h with h | h
      · exact Or.inr ⟨y, by simp, by rw [h]⟩
      · rcases uniqA_has r y x h with h2 | ⟨e, he, h2⟩
        · exact Or.inr ⟨y, by simp, h2.symm⟩
        · exact Or.inr ⟨e, by simp [he], h2⟩
theorem uniqA_split : ∀ (r : List S34) (p e : S34), (p :: r).Pairwise (fun x y => less y.f0 x.f0 = false) → e ∈ uniqA eqK p r → ∃ X Y, r = X ++ e :: Y ∧ ∀ x ∈ X, x.f0 ≠ e.f0
  | x :: r, p, e, h, he => by
    have h0 := (uniqA_lt _ _ h).1 e he
    have h1 := List.pairwise_cons.1 h
    have h2 := List.pairwise_cons.1 h1.2
    unfold uniqA at he
    by_cases hk : x.f0 = p.f0
    · rw [if_pos (by unfold eqK; simp [hk]), uniqA_key hk] at he
      obtain ⟨X, Y, hr, hx⟩ := uniqA_split r p e (List.pairwise_cons.2 ⟨fun y hy => h1.1 y (List.mem_cons_of_mem _ hy), h2.2⟩) he
      refine ⟨x :: X, Y, by rw [hr]; rfl, fun y hy => ?_⟩
      rcases List.mem_cons.1 hy with hy | hy
      · intro hc
        rw [← hc, hy, hk, less_irrefl] at h0
        cases h0
      · exact hx y hy
    · rw [if_neg (by unfold eqK; simp [hk])] at he
      rcases List.mem_cons.1 he with he | he
      · exact ⟨[], r, by rw [he]; rfl, fun y hy => (List.not_mem_nil hy).elim⟩
      · have h3 := (uniqA_lt _ _ h1.2).1 e he
        obtain ⟨X, Y, hr, hx⟩ := uniqA_split r x e h1.2 he
        refine ⟨x :: X, Y, by rw [hr]; rfl, fun y hy => ?_⟩
        rcases List.mem_cons.1 hy with hy | hy
        · intro hc
          rw [← hc, hy, less_irrefl] at h3
          cases h3
        · exact hx y hy
theorem uniq_lt (l : List S34) (h : l.Pairwise (fun x y => less y.f0 x.f0 = false)) : (uniq eqK l).Pairwise (fun x y => less x.f0 y.f0 = true) := by
  cases l with
  | nil => exact List.Pairwise.nil
  | cons p r => exact List.pairwise_cons.2 (uniqA_lt r p h)
theorem uniq_has (l : List S34) (x : S34) (h : x ∈ l) : ∃ e ∈ uniq eqK l, e.f0 = x.f0 := by
  cases l with
  | nil => cases h
  | cons p r =>
    rcases List.mem_cons.1 h with h | h
    · exact ⟨p, by simp [uniq], by rw [h]⟩
    · rcases uniqA_has r p x h with h2 | ⟨e, he, h2⟩
      · exact ⟨p, by simp [uniq], h2.symm⟩
      · exact ⟨e, by simp [uniq, he], h2⟩
theorem uniq_split (l : List S34) (e : S34) (h : l.Pairwise (fun x y => less y.f0 x.f0 = false)) (he : e ∈ uniq eqK l) : ∃ X Y, l = X ++ e :: Y ∧ ∀ x ∈ X, x.f0 ≠ e.f0 := by
  cases l with
  | nil => cases he
  | cons p r =>
    rcases List.mem_cons.1 (show e ∈ p :: uniqA eqK p r from he) with he | he
    · exact ⟨[], r, by rw [he]; rfl, fun y hy => (List.not_mem_nil hy).elim⟩
    · have h0 := (uniqA_lt _ _ h).1 e he
      obtain ⟨X, Y, hr, hx⟩ := uniqA_split r p e h he
      refine ⟨p :: X, Y, by rw [hr]; rfl, fun y hy => ?_⟩
      rcases List.mem_cons.1 hy with hy | hy
      · intro hc
        rw [← hc, hy, less_irrefl] at h0
        cases h0
      · exact hx y hy
theorem scan_uniq {T : List Tw} (hT : FitT T) (a b : List Int) (s : Int) : scanT T a b s = uniq eqK ((T.map (fun t => t.e)).filter (inS a b s)) := by
  rw [← scan_same hT, scanA_eq, dif_pos (show ([] : List S34).length = 0 from rfl), List.nil_append]
theorem filt_srt {T : List Tw} (hT : FitT T) (q : S34 → Bool) : ((T.map (fun t => t.e)).filter q).Pairwise (fun x y => ahe x y = true) := (List.pairwise_map.2 hT.srt).filter _
theorem filt_nd {T : List Tw} (hT : FitT T) (q : S34 → Bool) : ((T.map (fun t => t.e)).filter q).Pairwise (fun x y => less y.f0 x.f0 = false) := (filt_srt hT q).imp (fun h => ahe_less h)
theorem inS_iff {a b : List Int} {s : Int} {e : S34} : inS a b s e = true ↔ less e.f0 a = false ∧ (b.length = 0 ∨ less e.f0 b = true) ∧ e.f1 ≤ s := by
  unfold inS qF qT qS
  simp [Bool.and_eq_true, Bool.or_eq_true]
/-- What a scan tells of an entry that it tells. -/
theorem scan_in {T : List Tw} (hT : FitT T) {a b : List Int} {s : Int} {e : S34} (h : e ∈ scanT T a b s) : e ∈ T.map (fun t => t.e) ∧ inS a b s e = true := by
  rw [scan_uniq hT] at h
  obtain ⟨X, Y, hXY, _⟩ := uniq_split _ e (filt_nd hT _) h
  have h1 : e ∈ (T.map (fun t => t.e)).filter (inS a b s) := by rw [hXY]; simp
  exact List.mem_filter.1 h1
theorem scan_get {T : List Tw} (hT : FitT T) {a b : List Int} {s : Int} {e : S34} (h : e ∈ scanT T a b s) : getN T e.f0 s = (e, true) := by
  obtain ⟨hm, hin⟩ := scan_in hT h
  rw [scan_uniq hT] at h
  obtain ⟨X', Y', hXY, hX'⟩ := uniq_split _ e (filt_nd hT _) h
  obtain ⟨t, ht, rfl⟩ := List.mem_map.1 hm
  obtain ⟨X, Y, hs⟩ := List.append_of_mem ht
  have hq := inS_iff.1 hin
  rw [← version_same hT]
  have hp := hT.srt
  have hall : ∀ x ∈ X, x.e.f0 = t.e.f0 → s < x.e.f1 := by
    intro x hx hk
    apply Int.not_le.1
    intro hle
    have hxT : x ∈ T := by rw [hs]; simp [hx]
    have hin' : inS a b s x.e = true := inS_iff.2 ⟨hk ▸ hq.1, by rw [hk]; exact hq.2.1, hle⟩
    have hah : ahe x.e t.e = true := by
      rw [hs] at hp
      exact (List.pairwise_append.1 hp).2.2 x hx t (by simp)
    have hmem : x.e ∈ (T.map (fun t => t.e)).filter (inS a b s) := List.mem_filter.2 ⟨List.mem_map.2 ⟨x, hxT, rfl⟩, hin'⟩
    have hps := filt_srt hT (inS a b s)
    rw [hXY] at hmem hps
    rcases List.mem_append.1 hmem with h1 | h1
    · exact hX' _ h1 hk
    · rcases List.mem_cons.1 h1 with h1 | h1
      · rw [h1, ahe_irrefl] at hah
        cases hah
      · have h2 := (List.pairwise_cons.1 (List.pairwise_append.1 hps).2.1).1 _ h1
        have h3 := ahe_trans h2 hah
        rw [ahe_irrefl] at h3
        cases h3
  have hs2 := find_split (Y := Y) hall rfl hq.2.2
  rw [hs]
  exact hs2
theorem scan_next {T : List Tw} (hT : FitT T) {a b : List Int} {s : Int} {m : Nat} {u z : S34} (hu : (scanT T a b s)[m]? = some u) (hz : (scanT T a b s)[m + 1]? = some z) : less u.f0 z.f0 = true := by
  have hp : (scanT T a b s).Pairwise (fun x y => less x.f0 y.f0 = true) := by rw [scan_uniq hT]; exact uniq_lt _ (filt_nd hT _)
  obtain ⟨h1, h2⟩ := List.getElem?_eq_some_iff.1 hu
  obtain ⟨h3, h4⟩ := List.getElem?_eq_some_iff.1 hz
  rw [← h2, ← h4]
  exact List.pairwise_iff_getElem.1 hp m (m + 1) h1 h3 (by omega)
/-- Whether a key is told. -/
def okK (T : List Tw) (a b : List Int) (s : Int) (k : List Int) : Bool := (getN T k s).2 && (!less k a && (decide (b.length = 0) || less k b))
def fstK (K : List (List Int)) : Nat → Bool
  | 0 => true
  | m + 1 => decide (K[m]? ≠ K[m + 1]?)
def ksK (K : List (List Int)) (c : List Int → Bool) : Nat → List (List Int)
  | 0 => []
  | i + 1 => ksK K c i ++ (match K[i]? with | some k => if (fstK K i && c k) = true then [k] else [] | none => [])
theorem ksK_step {K : List (List Int)} {c : List Int → Bool} {i : Nat} {k : List Int} (h : K[i]? = some k) : (ksK K c (i + 1)).length = (ksK K c i).length + (if (fstK K i && c k) = true then 1 else 0) := by
  show (ksK K c i ++ (match K[i]? with | some k => if (fstK K i && c k) = true then [k] else [] | none => [])).length = _
  rw [h, List.length_append]
  congr 1
  show (if (fstK K i && c k) = true then [k] else []).length = _
  split <;> rfl
theorem ksK_all {K : List (List Int)} {c : List Int → Bool} (hK : K.Pairwise (fun x y => less y x = false)) : ∀ i, i ≤ K.length → (ksK K c i).Nodup ∧ ∀ k, k ∈ ksK K c i ↔ k ∈ K.take i ∧ c k = true
  | 0, _ => ⟨List.Pairwise.nil, fun k => by simp [ksK]⟩
  | i + 1, hi => by
    obtain ⟨h1, h2⟩ := ksK_all hK i (by omega)
    obtain ⟨z, hz⟩ : ∃ z, K[i]? = some z := ⟨_, List.getElem?_eq_getElem (by omega)⟩
    have htk : ∀ k, k ∈ K.take (i + 1) ↔ k ∈ K.take i ∨ k = z := by
      intro k
      rw [List.take_add_one, hz]
      simp
    have hun : ksK K c (i + 1) = ksK K c i ++ (if (fstK K i && c z) = true then [z] else []) := by
      show ksK K c i ++ (match K[i]? with | some k => if (fstK K i && c k) = true then [k] else [] | none => []) = _
      rw [hz]
    rw [hun]
    by_cases hf : fstK K i = true
    · have hnew : z ∉ K.take i := by
        cases i with
        | zero => simp
        | succ m =>
          have hne : K[m]? ≠ K[m + 1]? := of_decide_eq_true hf
          obtain ⟨u, hu⟩ : ∃ u, K[m]? = some u := ⟨_, List.getElem?_eq_getElem (by omega)⟩
          have hmi : m < K.length := by omega
          intro hz2
          rw [List.take_add_one, hu] at hz2
          have hlt : less u z = true := by
            have h3 := List.pairwise_iff_getElem.1 hK m (m + 1) (by omega) (by omega) (by omega)
            rw [(List.getElem?_eq_some_iff.1 hu).2, (List.getElem?_eq_some_iff.1 hz).2] at h3
            rcases less_total (show u ≠ z from fun h => hne (by rw [hu, hz, h])) with h4 | h4
            · exact h4
            · rw [h4] at h3; cases h3
          rcases List.mem_append.1 hz2 with h3 | h3
          · obtain ⟨n, hn, hn2⟩ := List.getElem_of_mem h3
            rw [List.getElem_take] at hn2
            have hnm : n < m := by rw [List.length_take] at hn; omega
            have h4 := List.pairwise_iff_getElem.1 hK n m (by omega) (by omega) hnm
            rw [hn2, (List.getElem?_eq_some_iff.1 hu).2, hlt] at h4
            cases h4
          · simp at h3
            rw [h3, less_irrefl] at hlt
            cases hlt
      by_cases hc : c z = true
      · rw [if_pos (by simp [hf, hc])]
        refine ⟨List.nodup_append.2 ⟨h1, by simp, fun x hx y hy hxy => ?_⟩, fun k => ?_⟩
        · rw [List.mem_singleton.1 hy] at hxy
          rw [hxy] at hx
          exact hnew ((h2 z).1 hx).1
        · rw [List.mem_append, h2, htk, List.mem_singleton]
          constructor
          · rintro (h | h)
            · exact ⟨Or.inl h.1, h.2⟩
            · exact ⟨Or.inr h, h ▸ hc⟩
          · rintro ⟨h | h, h3⟩
            · exact Or.inl ⟨h, h3⟩
            · exact Or.inr h
      · rw [if_neg (by simp [hc]), List.append_nil]
        refine ⟨h1, fun k => ?_⟩
        rw [h2, htk]
        constructor
        · exact fun h => ⟨Or.inl h.1, h.2⟩
        · rintro ⟨h | h, h3⟩
          · exact ⟨h, h3⟩
          · exact absurd (h ▸ h3) hc
    · rw [if_neg (by simp [hf]), List.append_nil]
      refine ⟨h1, fun k => ?_⟩
      have hold : z ∈ K.take i := by
        cases i with
        | zero => exact absurd rfl hf
        | succ m =>
          have he : K[m]? = K[m + 1]? := Classical.not_not.1 (fun h => hf (decide_eq_true h))
          rw [List.take_add_one, he, hz]
          simp
      rw [h2, htk]
      constructor
      · exact fun h => ⟨Or.inl h.1, h.2⟩
      · rintro ⟨h | h, h3⟩
        · exact ⟨h, h3⟩
        · exact ⟨h ▸ hold, h3⟩
theorem get_mem {T : List Tw} (hT : FitT T) (k : List Int) (s : Int) (h : (getN T k s).2 = true) : (getN T k s).1 ∈ T.map (fun t => t.e) := by
  rw [← version_same hT] at h ⊢
  unfold version at h ⊢
  split at h
  · rename_i e he
    exact List.mem_of_find?_eq_some he
  · cases h
/-- As many keys as entries are told. -/
theorem scan_count {T : List Tw} (hT : FitT T) (a b : List Int) (s : Int) : (ksK (T.map (fun t => t.e.f0)) (okK T a b s) T.length).length = (scanT T a b s).length := by
  have hK : (T.map (fun t => t.e.f0)).Pairwise (fun x y => less y x = false) := List.pairwise_map.2 (hT.srt.imp (fun h => ahe_less h))
  obtain ⟨h1, h2⟩ := ksK_all (c := okK T a b s) hK T.length (by rw [List.length_map]; exact Nat.le_refl _)
  have hS : ((scanT T a b s).map (fun e => e.f0)).Nodup := by
    rw [scan_uniq hT]
    refine List.pairwise_map.2 ((uniq_lt _ (filt_nd hT _)).imp ?_)
    intro x y h hxy
    rw [hxy, less_irrefl] at h
    cases h
  have hmem : ∀ k, k ∈ ksK (T.map (fun t => t.e.f0)) (okK T a b s) T.length ↔ k ∈ (scanT T a b s).map (fun e => e.f0) := by
    intro k
    rw [h2, show (T.map (fun t => t.e.f0)).take T.length = T.map (fun t => t.e.f0) from List.take_of_length_le (by rw [List.length_map]; exact Nat.le_refl _)]
    constructor
    · rintro ⟨_, hc⟩
      unfold okK at hc
      simp only [Bool.and_eq_true, Bool.or_eq_true, Bool.not_eq_true', decide_eq_true_eq] at hc
      have hg := get_is hT k s hc.1
      have hm := get_mem hT k s hc.1
      have hin : inS a b s (getN T k s).1 = true := inS_iff.2 ⟨by rw [hg.1]; exact hc.2.1, by rw [hg.1]; exact hc.2.2, hg.2⟩
      obtain ⟨e, he, hek⟩ := uniq_has _ _ (List.mem_filter.2 ⟨hm, hin⟩)
      exact List.mem_map.2 ⟨e, by rw [scan_uniq hT]; exact he, hek.trans hg.1⟩
    · intro hk
      obtain ⟨e, he, rfl⟩ := List.mem_map.1 hk
      obtain ⟨hm, hin⟩ := scan_in hT he
      have hq := inS_iff.1 hin
      obtain ⟨t, ht, hte⟩ := List.mem_map.1 hm
      refine ⟨List.mem_map.2 ⟨t, ht, by rw [hte]⟩, ?_⟩
      unfold okK
      rw [scan_get hT he]
      simp only [Bool.and_eq_true, Bool.or_eq_true, Bool.not_eq_true', decide_eq_true_eq]
      exact ⟨trivial, hq.1, hq.2.1⟩
  rw [((List.perm_ext_iff_of_nodup h1 hS).2 hmem).length_eq, List.length_map]
end Go.Proofs.Ytjlkcidohabcfaa.Sk
