/- What the document says of views, pruning and copies, as contracts. Conditions: those of each theorem. -/
import Derived.Test.YtobjkjmmkbhecaaCore
import Derived.Test.YtobjkjmmkbhecaaHgp
import Derived.Test.YtobjkjmmkbhecaaMF
import Derived.Test.YtobjkjmmkbhecaaHkp
import Derived.Test.YtobjkjmmkbhecaaHrw
import Derived.Test.YtobjkjmmkbhecaaHsp
import Derived.Test.YtobjkjmmkbhecaaHvi
import Derived.Test.YtobjkjmmkbhecaaME
import Derived.Test.YtobjkjmmkbhecaaPx0
import Derived.Test.YtobjkjmmkbhecaaMD
import Derived.Test.YtobjkjmmkbhecaaPx57
import Derived.Test.YtobjkjmmkbhecaaPx58
import Derived.Test.YtobjkjmmkbhecaaPx59
import Derived.Test.YtobjkjmmkbhecaaPx60
import Derived.Test.YtobjkjmmkbhecaaPx61
import Derived.Test.YtobjkjmmkbhecaaHrg
import Derived.Test.YtobjkjmmkbhecaaHpr
namespace Go.Proofs.Ytobjkjmmkbhecaa.Sk
open Go.RowKit Go.Proofs.YtobjkjmmkbhecaaW.PrintWords Go.Proofs.YtobjkjmmkbhecaaW.PrintLast Go.Proofs.YtobjkjmmkbhecaaW.PrintMore Go.Proofs.Ytobjkjmmkbhecaa.Px Go.Proofs.Ytobjkjmmkbhecaa.Sw
set_option linter.unusedVariables false
set_option linter.unusedSimpArgs false

theorem copy_f {e : S36} (h : e.f0.length < 140737488355328 ∧ e.f3.length < 140737488355328) : sawyerref06_Copy.f e.f0 e.f1 e.f2 e.f3 = some (e.f0, e.f1, e.f2, e.f3) := by
 unfold sawyerref06_Copy.f
 simp [h.1, h.2]
theorem preN_cons (q : S36 → Bool) (x : S36) (L : List S36) : preN q (x :: L) = if q x = true then 0 else preN q L + 1 := by
 unfold preN
 rw [List.takeWhile_cons]
 cases q x <;> simp
theorem rfirst_l0 (s : Int) {g : List S36} (hg : g.length ≤ 1000000000) : ∀ (n k m : Nat), n + m = g.length → n < k → sawyerref12_first.l0 k g s (m : Int) = some (if preN (fun e : S36 => decide (e.f1 ≤ s)) (g.drop m) < (g.drop m).length then ((m + preN (fun e : S36 => decide (e.f1 ≤ s)) (g.drop m) : Nat) : Int) else -1)
 | 0, k, m, hn, hk => by
  obtain ⟨k, rfl⟩ : ∃ j, k = j + 1 := ⟨k - 1, by omega⟩
  simp only [sawyerref12_first.l0]
  rw [if_neg (by omega), List.drop_of_length_le (by omega), if_neg (by simp)]
 | n + 1, k, m, hn, hk => by
  obtain ⟨k, rfl⟩ : ∃ j, k = j + 1 := ⟨k - 1, by omega⟩
  have hm : m < g.length := by omega
  obtain ⟨x, hx⟩ : ∃ x, g[m]? = some x := ⟨_, List.getElem?_eq_getElem hm⟩
  have hw : wrap64 ((m : Int) + 1) = ((m + 1 : Nat) : Int) := wadd1 (x := m) rfl (by omega)
  have hd : g.drop m = x :: g.drop (m + 1) := by
   obtain ⟨h1, h2⟩ := List.getElem?_eq_some_iff.1 hx
   rw [List.drop_eq_getElem_cons h1, h2]
  simp only [sawyerref12_first.l0]
  rw [if_pos (by omega), if_pos (by omega), rdT_at hx, hd]
  by_cases hq : x.f1 ≤ s
  ·
   have hpn : preN (fun e : S36 => decide (e.f1 ≤ s)) (x :: g.drop (m + 1)) = 0 := by rw [preN_cons, if_pos (decide_eq_true hq)]
   rw [if_pos hq, hpn, if_pos (by simp), Nat.add_zero]
  ·
   have hpn : preN (fun e : S36 => decide (e.f1 ≤ s)) (x :: g.drop (m + 1)) = preN (fun e : S36 => decide (e.f1 ≤ s)) (g.drop (m + 1)) + 1 := by rw [preN_cons, if_neg (by simp [hq])]
   rw [if_neg hq, hw, rfirst_l0 s hg n k (m + 1) (by omega) (by omega), hpn]
   congr 1
   by_cases hp : preN (fun e : S36 => decide (e.f1 ≤ s)) (g.drop (m + 1)) < (g.drop (m + 1)).length
   ·
    rw [if_pos hp, if_pos (by simp only [List.length_cons]; omega)]
    congr 1; omega
   ·
    rw [if_neg hp, if_neg (by simp only [List.length_cons]; omega)]
theorem rfirst_f (s : Int) {g : List S36} (hg : g.length ≤ 1000000000) {k : Nat} (hk : g.length < k) : sawyerref12_first.f k g s = some (idxN (fun e : S36 => decide (e.f1 ≤ s)) g) := by
 have h := rfirst_l0 s hg g.length k 0 rfl hk
 rw [List.drop_zero, Nat.zero_add] at h
 exact h
theorem rgroups_f {l : List S36} (h : goodL l = true) : sawyerref12_groups.f l = some (groupsK (fun e : S36 => e.f0) l) := by
 unfold sawyerref12_groups.f
 rw [if_pos h]
theorem rvisible_l0 (seq : Int) {N : Nat} {G : List (List S36)} (hG : ∀ g ∈ G, goodL g = true ∧ g.length ≤ N) (hGl : G.length ≤ 1000000000) : ∀ (n k m : Nat) (out : List S36), n + m = G.length → n + N + 1 < k → out.length ≤ m →
  sawyerref12_Visible.l0 k seq out G (m : Int) = some (out ++ ((G.drop m).map (visG seq)).flatten)
 | 0, k, m, out, hn, hk, ho => by
  obtain ⟨k, rfl⟩ : ∃ j, k = j + 1 := ⟨k - 1, by omega⟩
  simp only [sawyerref12_Visible.l0]
  rw [if_neg (by omega), List.drop_of_length_le (by omega)]
  simp
 | n + 1, k, m, out, hn, hk, ho => by
  obtain ⟨k, rfl⟩ : ∃ j, k = j + 1 := ⟨k - 1, by omega⟩
  have hm : m < G.length := by omega
  obtain ⟨g, hg⟩ : ∃ g, G[m]? = some g := ⟨_, List.getElem?_eq_getElem hm⟩
  have hw : wrap64 ((m : Int) + 1) = ((m + 1 : Nat) : Int) := wadd1 (x := m) rfl (by omega)
  obtain ⟨hgg, hgN⟩ := hG g (List.mem_of_getElem? hg)
  have hg2 := goodL_iff.1 hgg
  have ih := rvisible_l0 seq hG hGl n k (m + 1)
  have hd : G.drop m = g :: G.drop (m + 1) := by
   obtain ⟨h1, h2⟩ := List.getElem?_eq_some_iff.1 hg
   rw [List.drop_eq_getElem_cons h1, h2]
  simp only [sawyerref12_Visible.l0]
  rw [if_pos (by omega), if_pos (by omega), rdL5_at hg, rfirst_f seq hg2.2 (by omega), Option.bind_some, hd, List.map_cons, List.flatten_cons, hw]
  cases hf : g.find? (fun e : S36 => decide (e.f1 ≤ seq)) with
  | none =>
   have hv : visG seq g = [] := by unfold visG; rw [hf]
   rw [idxN_none hf, if_neg (by omega), hv, List.nil_append]
   exact ih out (by omega) (by omega) (by omega)
  | some e =>
   obtain ⟨i, hi, hi2⟩ := idxN_some hf
   have hil := (List.getElem?_eq_some_iff.1 hi2).1
   rw [hi, if_pos (by omega), if_pos (by omega), if_pos (by omega), rdT_at hi2]
   by_cases h2 : e.f2 = true
   ·
    have hv : visG seq g = [] := by unfold visG; rw [hf]; simp [h2]
    rw [if_pos h2, hv, List.nil_append]
    exact ih out (by omega) (by omega) (by omega)
   ·
    have hv : visG seq g = [e] := by unfold visG; rw [hf]; simp [h2]
    rw [if_neg h2, copy_f (hg2.1 e (List.mem_of_getElem? hi2)).2, Option.bind_some, if_pos (by omega), hv]
    refine (ih (out ++ [e]) (by omega) (by omega) (by simp; omega)).trans ?_
    rw [List.append_assoc]
theorem group_len {l : List S36} : ∀ g ∈ groupsK (fun e : S36 => e.f0) l, 0 < g.length ∧ g.length ≤ l.length := by
 intro g hg
 have h1 := groupsK_one (key := fun e : S36 => e.f0) l.length l (Nat.le_refl _) g hg
 obtain ⟨i, hi⟩ := List.mem_iff_getElem?.1 hg
 have h3 := (mem_flat hi).1
 rw [groupsK_flat l.length l (Nat.le_refl _)] at h3
 exact ⟨List.length_pos_iff.2 h1.1, h3⟩
theorem rvisible_f {l : List S36} (h : goodL l = true) (seq : Int) : sawyerref12_Visible.f (2 * l.length + 2) l seq = some (visM seq l) := by
 unfold sawyerref12_Visible.f
 have h2 := goodL_iff.1 h
 have hgl := groupsK_len (key := fun e : S36 => e.f0) l.length l (Nat.le_refl _)
 rw [rgroups_f h, Option.bind_some]
 exact (rvisible_l0 seq (N := l.length) (fun g hg => ⟨good_groups h g hg, (group_len g hg).2⟩) (Nat.le_trans hgl h2.2) (groupsK (fun e : S36 => e.f0) l).length (2 * l.length + 2) 0 [] rfl (by omega) (Nat.le_refl _)).trans (by rw [List.nil_append, List.drop_zero]; rfl)
theorem rvisible_calls {w : World} {A : Option Addr} {c : Nat} {xs : List S36} (hC : Kd.C k36 w A xs.length xs) (hlc : xs.length ≤ c) (hg : goodL xs = true) (seq : Int) :
  Calls Try.prog 16 #[.slice A xs.length c, .int .i64 seq] w fun ex w' => ∃ B d, ex = .returned (.slice B (visM seq xs).length d) ∧ (visM seq xs).length ≤ d ∧ Kd.C k36 w' B (visM seq xs).length (visM seq xs) ∧ Below w.heap.size w w' := by
 refine (sawyerref12_Visible.calls (2 * xs.length + 2) A c xs seq (visM seq xs) w hC hlc (rvisible_f hg seq)).mono ?_
 rintro ex w' ⟨v, rfl, hs, hb⟩
 have hr := Kd.S_R hs
 obtain ⟨B, d, rfl⟩ := Kd.R_slice hr
 exact ⟨B, d, rfl, (Kd.R_reads' hr).2.1, (Kd.R_reads' hr).2.2, hb⟩
/-! ### Prune -/
def boolsOf (ps : List Int) (n : Nat) : List Bool := (List.range n).map (fun (i : Nat) => decide ((i : Int) ∈ ps))
theorem bools_len (ps : List Int) (n : Nat) : (boolsOf ps n).length = n := by simp [boolsOf]
theorem bools_get {ps : List Int} {n i : Nat} (h : i < (boolsOf ps n).length) : (boolsOf ps n)[i] = decide ((i : Int) ∈ ps) := by simp [boolsOf]
theorem bools_set {ps : List Int} {n t : Nat} (ht : t < n) : (boolsOf ps n).set t true = boolsOf (ps ++ [(t : Int)]) n := by
 apply List.ext_getElem (by simp [boolsOf])
 intro i h1 h2
 rw [List.getElem_set, bools_get h2]
 by_cases hti : t = i
 ·
  subst hti; simp
 ·
  rw [if_neg hti, bools_get (by simpa using h1)]
  have : ((i : Int) ∈ ps ++ [(t : Int)]) ↔ (i : Int) ∈ ps := by
   simp only [List.mem_append, List.mem_singleton]
   exact ⟨fun h => h.resolve_right (by omega), .inl⟩
  simp only [this]
theorem bools_rd {ps : List Int} {n i : Nat} (hi : i < n) : rdOf false (boolsOf ps n) (i : Int) = decide ((i : Int) ∈ ps) := by
 unfold rdOf
 have h : i < (boolsOf ps n).length := by rw [bools_len]; exact hi
 rw [Int.toNat_natCast, List.getD_eq_getElem?_getD, List.getElem?_eq_getElem h, bools_get h]
 rfl
theorem bools_none (n : Nat) : List.replicate n false = boolsOf [] n := by
 apply List.ext_getElem (by simp [boolsOf])
 intro i h1 h2
 rw [bools_get h2]
 simp
def placesT (pins : List Int) (g : List S36) : List Int := pins.filterMap (fun p => if idxN (fun e : S36 => decide (e.f1 ≤ p)) g ≥ 0 then some (idxN (fun e : S36 => decide (e.f1 ≤ p)) g) else none)
theorem rprune_l1 (bottom : Bool) {pins : List Int} (hpl : pins.length ≤ 1000000000) {G : List (List S36)} {m : Nat} {g : List S36} (hm : G[m]? = some g) (hg : goodL g = true) (x7 : List S36) : ∀ (n k j : Nat) (ps : List Int), n + j = pins.length → n + g.length < k →
  sawyerref12_Prune.l1 k pins bottom x7 G (m : Int) (boolsOf ps g.length) (j : Int) = sawyerref12_Prune.l2 (k - n - 1) pins bottom x7 G (m : Int) (boolsOf (ps ++ placesT (pins.drop j) g) g.length) [] 0
 | 0, k, j, ps, hn, hk => by
  obtain ⟨k, rfl⟩ : ∃ j, k = j + 1 := ⟨k - 1, by omega⟩
  simp only [sawyerref12_Prune.l1]
  rw [if_neg (by omega), List.drop_of_length_le (by omega)]
  unfold placesT
  simp
 | n + 1, k, j, ps, hn, hk => by
  obtain ⟨k, rfl⟩ : ∃ j, k = j + 1 := ⟨k - 1, by omega⟩
  have hj : j < pins.length := by omega
  have hml := (List.getElem?_eq_some_iff.1 hm).1
  obtain ⟨x, hx⟩ : ∃ x, pins[j]? = some x := ⟨_, List.getElem?_eq_getElem hj⟩
  have hw : wrap64 ((j : Int) + 1) = ((j + 1 : Nat) : Int) := wadd1 (x := j) rfl (by omega)
  have ih := rprune_l1 bottom hpl hm hg x7 n k (j + 1)
  have hd : pins.drop j = x :: pins.drop (j + 1) := by
   obtain ⟨h1, h2⟩ := List.getElem?_eq_some_iff.1 hx
   rw [List.drop_eq_getElem_cons h1, h2]
  have hpt : placesT (pins.drop j) g = (if idxN (fun e : S36 => decide (e.f1 ≤ x)) g ≥ 0 then [idxN (fun e : S36 => decide (e.f1 ≤ x)) g] else []) ++ placesT (pins.drop (j + 1)) g := by
   unfold placesT
   rw [hd, List.filterMap_cons]
   split
   ·
    rename_i h; split at h
    ·
     cases h
    ·
     rename_i h2; rw [if_neg h2]; rfl
   ·
    rename_i y h; split at h
    ·
     rename_i h2; rw [if_pos h2]; injection h with h; rw [h]; rfl
    ·
     cases h
  simp only [sawyerref12_Prune.l1]
  rw [if_pos (by omega), if_pos (by omega), if_pos (by omega), if_pos (by omega), rdL5_at hm, rd_at hx, rfirst_f x (goodL_iff.1 hg).2 (by omega), Option.bind_some, hw, hpt, bools_len]
  by_cases hi : idxN (fun e : S36 => decide (e.f1 ≤ x)) g ≥ 0
  ·
   have hlt := idxN_lt (fun e : S36 => decide (e.f1 ≤ x)) g
   obtain ⟨t, ht⟩ : ∃ t : Nat, idxN (fun e : S36 => decide (e.f1 ≤ x)) g = (t : Int) := ⟨_, (Int.toNat_of_nonneg hi).symm⟩
   rw [ht] at hi hlt ⊢
   have htl : t < g.length := by omega
   rw [if_pos hi, if_pos (by omega), if_pos (by omega), if_pos hi, Int.toNat_natCast, bools_set htl, ih _ (by omega) (by omega), List.append_assoc, show k + 1 - (n + 1) - 1 = k - n - 1 by omega]
  ·
   rw [if_neg hi, if_neg hi, ih _ (by omega) (by omega), List.nil_append, show k + 1 - (n + 1) - 1 = k - n - 1 by omega]
theorem range_drop {n i : Nat} (h : i < n) : (List.range n).drop i = i :: (List.range n).drop (i + 1) := by
 rw [List.drop_eq_getElem_cons (by simpa using h)]
 simp
def ownB (ps : List Int) (g : List S36) (i : Nat) : List S36 := (((List.range g.length).drop i).filter (fun (i : Nat) => decide ((i : Int) ∈ ps))).filterMap (fun i => g[i]?)
theorem rprune_l2 (bottom : Bool) (pins : List Int) {G : List (List S36)} {m : Nat} {g : List S36} (hm : G[m]? = some g) (hg : goodL g = true) (ps : List Int) (x7 : List S36) : ∀ (n k i : Nat) (own : List S36), n + i = g.length → n < k → own.length ≤ i →
  sawyerref12_Prune.l2 k pins bottom x7 G (m : Int) (boolsOf ps g.length) own (i : Int) = sawyerref12_Prune.l3 (k - n - 1) pins bottom x7 G (m : Int) (own ++ ownB ps g i)
 | 0, k, i, own, hn, hk, ho => by
  obtain ⟨k, rfl⟩ : ∃ j, k = j + 1 := ⟨k - 1, by omega⟩
  simp only [sawyerref12_Prune.l2]
  rw [bools_len, if_neg (by omega)]
  unfold ownB
  rw [List.drop_of_length_le (by simp; omega)]
  simp
 | n + 1, k, i, own, hn, hk, ho => by
  obtain ⟨k, rfl⟩ : ∃ j, k = j + 1 := ⟨k - 1, by omega⟩
  have hil : i < g.length := by omega
  have hg2 := goodL_iff.1 hg
  have hml := (List.getElem?_eq_some_iff.1 hm).1
  obtain ⟨e, he⟩ : ∃ e, g[i]? = some e := ⟨_, List.getElem?_eq_getElem hil⟩
  have hw : wrap64 ((i : Int) + 1) = ((i + 1 : Nat) : Int) := wadd1 (x := i) rfl (by omega)
  have ih := rprune_l2 bottom pins hm hg ps x7 n k (i + 1)
  have hob : ownB ps g i = (if (i : Int) ∈ ps then [e] else []) ++ ownB ps g (i + 1) := by
   unfold ownB
   rw [range_drop hil, List.filter_cons]
   by_cases hin : (i : Int) ∈ ps
   ·
    rw [if_pos (decide_eq_true hin), if_pos hin, List.filterMap_cons, he]; rfl
   ·
    rw [if_neg (by simp [hin]), if_neg hin]; rfl
  simp only [sawyerref12_Prune.l2]
  rw [bools_len, if_pos (by omega), if_pos (by omega), bools_rd hil, hob, hw]
  by_cases hin : (i : Int) ∈ ps
  ·
   rw [if_pos (decide_eq_true hin), if_pos (by omega), if_pos (by omega), rdL5_at hm, if_pos (by omega), rdT_at he, copy_f (hg2.1 e (List.mem_of_getElem? he)).2, Option.bind_some, if_pos (by omega), if_pos hin]
   refine (ih (own ++ [e]) (by omega) (by omega) (by simp; omega)).trans ?_
   rw [List.append_assoc, show k + 1 - (n + 1) - 1 = k - n - 1 by omega]
  ·
   rw [if_neg (by simp [hin]), if_neg hin, ih own (by omega) (by omega) (by omega), show k + 1 - (n + 1) - 1 = k - n - 1 by omega, List.nil_append]
theorem rprune_l3 (bottom : Bool) (pins : List Int) {G : List (List S36)} {m : Nat} (hm1 : m < 1000000000) (x7 : List S36) (n : Nat) : ∀ (k : Nat) (own : List S36), own.length = n → n < k → x7.length + own.length ≤ 1000000000 →
  ∃ k', k ≤ k' + n + 1 ∧ sawyerref12_Prune.l3 k pins bottom x7 G (m : Int) own = sawyerref12_Prune.l0 k' pins bottom (x7 ++ (if bottom = true then dropG own else own)) G ((m + 1 : Nat) : Int) := by
 have hw : wrap64 ((m : Int) + 1) = ((m + 1 : Nat) : Int) := wadd1 (x := m) rfl (by omega)
 induction n with
 | zero =>
  intro k own h hk hb
  obtain ⟨k, rfl⟩ : ∃ j, k = j + 1 := ⟨k - 1, by omega⟩
  have : own = [] := List.eq_nil_of_length_eq_zero h
  subst this
  refine ⟨k, by omega, ?_⟩
  simp only [sawyerref12_Prune.l3]
  rw [hw]
  have hlt : x7.length + ([] : List S36).length < 2199023255552 := by omega
  cases bottom with
  | true => rw [if_pos rfl, if_neg (by simp), if_pos hlt]; rfl
  | false => rw [if_neg (by simp), if_pos hlt]; rfl
 | succ n ih =>
  intro k own h hk hb
  obtain ⟨k, rfl⟩ : ∃ j, k = j + 1 := ⟨k - 1, by omega⟩
  obtain ⟨o, e, rfl⟩ : ∃ o e, own = o ++ [e] := by
   rcases List.eq_nil_or_concat own with h2 | ⟨o, e, h2⟩
   ·
    subst h2; simp at h
   ·
    exact ⟨o, e, by rw [h2, List.concat_eq_append]⟩
  have hol : o.length = n := by simpa using h
  have hl : (o ++ [e]).length = o.length + 1 := by simp
  have hwo : wrap64 (((o ++ [e]).length : Int) - 1) = (o.length : Int) := wsub1 (by omega) (by omega)
  have hr : rd_T36 (o ++ [e]) (o.length : Int) = e := rdT_at (by simp)
  have hlt : x7.length + (o ++ [e]).length < 2199023255552 := by omega
  simp only [sawyerref12_Prune.l3]
  rw [hw]
  cases bottom with
  | false =>
   refine ⟨k, by omega, ?_⟩
   rw [if_neg (by simp), if_pos hlt]; rfl
  | true =>
   rw [if_pos rfl, if_pos (by omega), hwo, if_pos (by omega), if_pos (by omega), hr, if_pos rfl, dropG_snoc]
   by_cases h2 : e.f2 = true
   ·
    obtain ⟨k', h3, h4⟩ := ih k o hol (by omega) (by omega)
    rw [if_pos rfl] at h4
    refine ⟨k', by omega, ?_⟩
    rw [if_pos h2, if_pos h2, if_pos (by omega), Int.toNat_natCast, List.take_left' rfl]
    exact h4
   ·
    refine ⟨k, by omega, ?_⟩
    rw [if_neg h2, if_neg h2, if_pos hlt]
theorem rprune_l0 {pins : List Int} (bottom : Bool) (hpl : pins.length ≤ 1000000000) {N : Nat} {G : List (List S36)} (hG : ∀ g ∈ G, goodL g = true ∧ 0 < g.length ∧ g.length ≤ N) (hGl : G.length ≤ 1000000000) : ∀ (n k m : Nat) (out : List S36), n + m = G.length → (n + 1) * (pins.length + 3 * N + 8) ≤ k → out.length + (G.drop m).flatten.length ≤ 1000000000 →
  sawyerref12_Prune.l0 k pins bottom out G (m : Int) = some (out ++ ((G.drop m).map (keptM pins bottom)).flatten)
 | 0, k, m, out, hn, hk, ho => by
  obtain ⟨k, rfl⟩ : ∃ j, k = j + 1 := ⟨k - 1, by omega⟩
  simp only [sawyerref12_Prune.l0]
  rw [if_neg (by omega), List.drop_of_length_le (by omega)]
  simp
 | n + 1, k, m, out, hn, hk, ho => by
  have hmul : (n + 1 + 1) * (pins.length + 3 * N + 8) = (n + 1) * (pins.length + 3 * N + 8) + (pins.length + 3 * N + 8) := by rw [Nat.add_mul (n + 1) 1, Nat.one_mul]
  rw [hmul] at hk
  obtain ⟨k, rfl⟩ : ∃ j, k = j + 1 := ⟨k - 1, by omega⟩
  have hm : m < G.length := by omega
  obtain ⟨g, hg⟩ : ∃ g, G[m]? = some g := ⟨_, List.getElem?_eq_getElem hm⟩
  obtain ⟨h1, h2, h3⟩ := hG g (List.mem_of_getElem? hg)
  have hg2 := goodL_iff.1 h1
  have hd : G.drop m = g :: G.drop (m + 1) := by
   obtain ⟨h1, h2⟩ := List.getElem?_eq_some_iff.1 hg
   rw [List.drop_eq_getElem_cons h1, h2]
  rw [hd, List.flatten_cons, List.length_append] at ho
  have hone : ([] ++ [((0 : Nat) : Int)] : List Int) ++ placesT (pins.drop 0) g = placesM pins g := rfl
  have hown : ownB (placesM pins g) g 0 = (keepN pins g).filterMap (fun i => g[i]?) := by unfold ownB keepN; rw [List.drop_zero]
  have hownl : (ownB (placesM pins g) g 0).length ≤ g.length := by
   rw [hown]
   have := (keptM_sub pins false g).2
   unfold keptM at this
   simpa using this
  have hl1 := rprune_l1 bottom hpl hg h1 out pins.length k 0 ([] ++ [((0 : Nat) : Int)]) rfl (by omega)
  rw [hone] at hl1
  have hl2 := rprune_l2 bottom pins hg h1 (placesM pins g) out g.length (k - pins.length - 1) 0 [] rfl (by omega) (Nat.le_refl _)
  rw [List.nil_append] at hl2
  obtain ⟨k', hk', hl3⟩ := rprune_l3 bottom pins (G := G) (m := m) (by omega) out (ownB (placesM pins g) g 0).length (k - pins.length - 1 - g.length - 1) (ownB (placesM pins g) g 0) rfl (by omega) (by omega)
  have hkm : (if bottom = true then dropG (ownB (placesM pins g) g 0) else ownB (placesM pins g) g 0) = keptM pins bottom g := by rw [hown]; rfl
  rw [hkm] at hl3
  have ih := rprune_l0 bottom hpl hG hGl n k' (m + 1) (out ++ keptM pins bottom g) (by omega) (by omega) (by have := (keptM_sub pins bottom g).2; rw [List.length_append]; omega)
  simp only [sawyerref12_Prune.l0]
  rw [if_pos (by omega), if_pos (by omega), rdL5_at hg, if_pos (by omega), if_pos (by omega), Option.bind_some, Int.toNat_natCast, bools_none, bools_len, if_pos (by omega), show (0 : Int).toNat = 0 from rfl, bools_set h2]
  refine hl1.trans (hl2.trans (hl3.trans (ih.trans ?_)))
  rw [hd, List.map_cons, List.flatten_cons, List.append_assoc]
theorem rprune_f {l : List S36} (h : goodL l = true) {pins : List Int} (hpl : pins.length ≤ 1000000000) (bottom : Bool) : sawyerref12_Prune.f ((l.length + 1) * (pins.length + 3 * l.length + 8)) l pins bottom = some (pruM pins bottom l) := by
 have h2 := goodL_iff.1 h
 have hgl := groupsK_len (key := fun e : S36 => e.f0) l.length l (Nat.le_refl _)
 unfold sawyerref12_Prune.f
 rw [rgroups_f h, Option.bind_some]
 exact (rprune_l0 bottom hpl (N := l.length) (fun g hg => ⟨good_groups h g hg, group_len g hg⟩) (Nat.le_trans hgl h2.2) (groupsK (fun e : S36 => e.f0) l).length _ 0 [] rfl (Nat.mul_le_mul_right _ (by omega)) (by rw [List.drop_zero, groupsK_flat l.length l (Nat.le_refl _)]; simpa using h2.2)).trans (by rw [List.nil_append, List.drop_zero]; rfl)
theorem rprune_calls {w : World} {A : Option Addr} {c : Nat} {xs : List S36} {okF : Nat → Prop} (hF : Kd.F k36 w okF A xs.length xs) (hlc : xs.length ≤ c) (hg : goodL xs = true) {B : Option Addr} {d : Nat} {pins : List Int} (hC : Kd.C (Kd.int .i64) w B pins.length pins) (hd : pins.length ≤ d) (hpl : pins.length ≤ 1000000000) (bottom : Bool) :
  Calls Try.prog 18 #[.slice A xs.length c, .slice B pins.length d, .bool bottom] w fun ex w' => ∃ B d, ex = .returned (.slice B (pruM pins bottom xs).length d) ∧ (pruM pins bottom xs).length ≤ d ∧ Kd.C k36 w' B (pruM pins bottom xs).length (pruM pins bottom xs) ∧ Below w.heap.size w w' := by
 refine (sawyerref12_Prune.calls _ okF A c xs B d pins bottom (pruM pins bottom xs) w (Kd.V_mk hlc hF) hC hd (rprune_f hg hpl bottom)).mono ?_
 rintro ex w' ⟨v, rfl, hn, hb⟩
 obtain ⟨B, d, rfl⟩ := Kd.N_slice hn
 exact ⟨B, d, rfl, (Kd.N_reads' hn).2.1, (Kd.N_reads' hn).2.2, hb⟩
/-! ### Copies -/
theorem rcopies_l0 {l : List S36} (hg : goodL l = true) : ∀ (n k i : Nat) (out : List S36), n + i = l.length → n < k → out.length ≤ i → sawyerref06_Copies.l0 k l out (i : Int) = some (out ++ l.drop i)
 | 0, k, i, out, hn, hk, ho => by
  obtain ⟨k, rfl⟩ : ∃ j, k = j + 1 := ⟨k - 1, by omega⟩
  simp only [sawyerref06_Copies.l0]
  rw [if_neg (by omega), List.drop_of_length_le (by omega)]
  simp
 | n + 1, k, i, out, hn, hk, ho => by
  obtain ⟨k, rfl⟩ : ∃ j, k = j + 1 := ⟨k - 1, by omega⟩
  have hg2 := goodL_iff.1 hg
  have hil : i < l.length := by omega
  obtain ⟨e, he⟩ : ∃ e, l[i]? = some e := ⟨_, List.getElem?_eq_getElem hil⟩
  have hw : wrap64 ((i : Int) + 1) = ((i + 1 : Nat) : Int) := wadd1 (x := i) rfl (by omega)
  have hd : l.drop i = e :: l.drop (i + 1) := by
   obtain ⟨h1, h2⟩ := List.getElem?_eq_some_iff.1 he
   rw [List.drop_eq_getElem_cons h1, h2]
  simp only [sawyerref06_Copies.l0]
  rw [if_pos (by omega), if_pos (by omega), rdT_at he, copy_f (hg2.1 e (List.mem_of_getElem? he)).2, Option.bind_some, if_pos (by omega), hw]
  refine (rcopies_l0 hg n k (i + 1) (out ++ [e]) (by omega) (by omega) (by simp; omega)).trans ?_
  rw [hd, List.append_assoc]
  rfl
theorem rcopies_calls {w : World} {A : Option Addr} {c : Nat} {xs : List S36} (hC : Kd.C k36 w A xs.length xs) (hlc : xs.length ≤ c) (hg : goodL xs = true) :
  Calls Try.prog 38 #[.slice A xs.length c] w fun ex w' => ∃ v, ex = .returned v ∧ Kd.N k36 36 w' w.heap.size (fun k => w.heap.size ≤ k) v xs ∧ Below w.heap.size w w' := by
 refine (sawyerref06_Copies.calls (xs.length + 1) A c xs xs w hC hlc (by unfold sawyerref06_Copies.f; exact rcopies_l0 hg xs.length (xs.length + 1) 0 [] rfl (by omega) (Nat.le_refl _))).mono ?_
 rintro ex w' ⟨v, rfl, hs, hb⟩
 exact ⟨v, rfl, Kd.R_N (Kd.R_mono (Kd.R_bound (Kd.S_R hs)) (fun k hk => hk.2.1)), hb⟩
end Go.Proofs.Ytobjkjmmkbhecaa.Sk
