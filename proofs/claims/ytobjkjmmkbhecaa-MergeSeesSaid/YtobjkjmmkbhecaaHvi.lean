/- What Visible computes, as a contract. Conditions: those of each theorem. -/
import Derived.Test.YtobjkjmmkbhecaaCore
import Derived.Test.YtobjkjmmkbhecaaHgp
import Derived.Test.YtobjkjmmkbhecaaMF
import Derived.Test.YtobjkjmmkbhecaaHrw
import Derived.Test.YtobjkjmmkbhecaaHsp
import Derived.Test.YtobjkjmmkbhecaaME
import Derived.Test.YtobjkjmmkbhecaaPx0
import Derived.Test.YtobjkjmmkbhecaaMC
namespace Go.Proofs.Ytobjkjmmkbhecaa.Sk
open Go.RowKit Go.Proofs.YtobjkjmmkbhecaaW.PrintWords Go.Proofs.YtobjkjmmkbhecaaW.PrintLast Go.Proofs.YtobjkjmmkbhecaaW.PrintMore Go.Proofs.Ytobjkjmmkbhecaa.Px Go.Proofs.Ytobjkjmmkbhecaa.Sw
set_option linter.unusedVariables false
set_option linter.unusedSimpArgs false

theorem find_idx (q : S36 → Bool) : ∀ (g : List S36), (g.find? q = none → preN q g = g.length) ∧ ∀ e, g.find? q = some e → preN q g < g.length ∧ g[preN q g]? = some e
 | [] => ⟨fun _ => rfl, fun e h => by cases h⟩
 | a :: L => by
  have ih := find_idx q L
  unfold preN at ih ⊢
  rw [List.takeWhile_cons, List.find?_cons]
  cases ha : q a
  ·
   simp only [Bool.not_false, if_true, List.length_cons]
   exact ⟨fun h => by rw [ih.1 h], fun e h => by have := ih.2 e h; exact ⟨by omega, by simpa using this.2⟩⟩
  ·
   simp only [Bool.not_true]
   exact ⟨fun h => by simp at h, fun e h => by injection h with h; subst h; exact ⟨by simp, by simp⟩⟩
theorem idxN_none {q : S36 → Bool} {g : List S36} (h : g.find? q = none) : idxN q g = -1 := by
 unfold idxN; rw [(find_idx q g).1 h, if_neg (Nat.lt_irrefl _)]
theorem idxN_some {q : S36 → Bool} {g : List S36} {e : S36} (h : g.find? q = some e) : ∃ i : Nat, idxN q g = (i : Int) ∧ g[i]? = some e := by
 obtain ⟨h1, h2⟩ := (find_idx q g).2 e h
 exact ⟨preN q g, by unfold idxN; rw [if_pos h1], h2⟩
theorem rdL5_at {G : List (List S36)} {m : Nat} {g : List S36} (h : G[m]? = some g) : rd_L5 G (m : Int) = g := by
 unfold rd_L5; rw [Int.toNat_natCast, List.getD_eq_getElem?_getD, h]; rfl
theorem rdT_at {g : List S36} {m : Nat} {e : S36} (h : g[m]? = some e) : rd_T36 g (m : Int) = e := by
 unfold rd_T36; rw [Int.toNat_natCast, List.getD_eq_getElem?_getD, h]; rfl
/-- What is seen of a key's entries. -/
def visG (seq : Int) (g : List S36) : List S36 := match g.find? (fun e => decide (e.f1 ≤ seq)) with
 | some e => if e.f2 = true then [] else [e]
 | none => []
def visM (seq : Int) (l : List S36) : List S36 := ((groupsK (fun e : S36 => e.f0) l).map (visG seq)).flatten
theorem visG_len (seq : Int) (g : List S36) : (visG seq g).length ≤ 1 := by
 unfold visG; split
 ·
  split <;> simp
 ·
  simp
theorem visG_mem {seq : Int} {g : List S36} : ∀ e ∈ visG seq g, e ∈ g := by
 intro e he
 unfold visG at he
 split at he
 ·
  rename_i e' h
  split at he
  ·
   cases he
  ·
   rw [List.mem_singleton.1 he]; exact List.mem_of_find?_eq_some h
 ·
  cases he
theorem goodL_sub {l m : List S36} (h : goodL l = true) (hm : ∀ e ∈ m, e ∈ l) (hl : m.length ≤ l.length) : goodL m = true := by
 have h2 := goodL_iff.1 h
 exact goodL_iff.2 ⟨fun e he => h2.1 e (hm e he), Nat.le_trans hl h2.2⟩
theorem visible_l0 (seq : Int) {G : List (List S36)} (hG : ∀ g ∈ G, goodL g = true) (hGl : G.length ≤ 1000000000) : ∀ (n k m : Nat) (out : List S36), n + m = G.length → n < k → out.length ≤ m →
  merge_Visible.l0 k seq out G (G.length : Int) (m : Int) = (merge_copies.f [out ++ ((G.drop m).map (visG seq)).flatten]).bind fun t => some t
 | 0, k, m, out, hn, hk, ho => by
  obtain ⟨k, rfl⟩ : ∃ j, k = j + 1 := ⟨k - 1, by omega⟩
  simp only [merge_Visible.l0]
  rw [if_neg (by omega), List.drop_of_length_le (by omega)]
  simp
 | n + 1, k, m, out, hn, hk, ho => by
  obtain ⟨k, rfl⟩ : ∃ j, k = j + 1 := ⟨k - 1, by omega⟩
  have hm : m < G.length := by omega
  obtain ⟨g, hg⟩ : ∃ g, G[m]? = some g := ⟨_, List.getElem?_eq_getElem hm⟩
  have hw : wrap64 ((m : Int) + 1) = ((m + 1 : Nat) : Int) := wadd1 (x := m) rfl (by omega)
  have hgg := hG g (List.mem_of_getElem? hg)
  have ih := visible_l0 seq hG hGl n k (m + 1)
  have hd : G.drop m = g :: G.drop (m + 1) := by
   obtain ⟨h1, h2⟩ := List.getElem?_eq_some_iff.1 hg
   rw [List.drop_eq_getElem_cons h1, h2]
  simp only [merge_Visible.l0]
  rw [if_pos (by omega), if_pos (by omega), if_pos (by omega), rdL5_at hg, hw, hd, List.map_cons, List.flatten_cons]
  unfold merge_first.f
  rw [if_pos hgg, Option.bind_some]
  cases hf : g.find? (fun e => decide (e.f1 ≤ seq)) with
  | none =>
   have hv : visG seq g = [] := by unfold visG; rw [hf]
   rw [idxN_none hf, if_neg (by omega), ih _ (by omega) (by omega) (by omega), hv, List.nil_append]
  | some e =>
   obtain ⟨i, hi, hge⟩ := idxN_some hf
   have hil := (List.getElem?_eq_some_iff.1 hge).1
   rw [hi, if_pos (by omega), if_pos (by omega), if_pos (by omega), rdT_at hge]
   by_cases h2 : e.f2 = true
   ·
    have hv : visG seq g = [] := by unfold visG; rw [hf]; simp [h2]
    rw [if_pos h2, ih _ (by omega) (by omega) (by omega), hv, List.nil_append]
   ·
    have hv : visG seq g = [e] := by unfold visG; rw [hf]; simp [h2]
    rw [if_neg h2, if_pos (by omega), ih _ (by omega) (by omega) (by simp; omega), hv, List.append_assoc]
theorem flat_vis (seq : Int) : ∀ (G : List (List S36)), (∀ e ∈ (G.map (visG seq)).flatten, e ∈ G.flatten) ∧ (G.map (visG seq)).flatten.length ≤ G.length
 | [] => ⟨fun e h => by simp at h, by simp⟩
 | g :: G => by
  have ih := flat_vis seq G
  have h1 := visG_len seq g
  refine ⟨fun e he => ?_, by simp only [List.map_cons, List.flatten_cons, List.length_append, List.length_cons]; omega⟩
  simp only [List.map_cons, List.flatten_cons, List.mem_append] at he ⊢
  exact he.imp (visG_mem e) (ih.1 e)
theorem good_groups {l : List S36} (h : goodL l = true) : ∀ g ∈ groupsK (fun e : S36 => e.f0) l, goodL g = true := by
 intro g hg
 obtain ⟨i, hi⟩ := List.mem_iff_getElem?.1 hg
 have h1 := mem_flat hi
 rw [groupsK_flat l.length l (Nat.le_refl _)] at h1
 exact goodL_sub h h1.2 h1.1
theorem visM_sub (seq : Int) (l : List S36) : (∀ e ∈ visM seq l, e ∈ l) ∧ (visM seq l).length ≤ l.length := by
 have h := flat_vis seq (groupsK (fun e : S36 => e.f0) l)
 rw [groupsK_flat l.length l (Nat.le_refl _)] at h
 exact ⟨h.1, Nat.le_trans h.2 (groupsK_len l.length l (Nat.le_refl _))⟩
theorem visM_good {l : List S36} (h : goodL l = true) (seq : Int) : goodL (visM seq l) = true := goodL_sub h (visM_sub seq l).1 (visM_sub seq l).2
theorem copies_one {l : List S36} (h : goodL l = true) : merge_copies.f [l] = some l := by
 unfold merge_copies.f
 rw [List.flatten_singleton, h]
 rfl
theorem visible_f {l : List S36} (h : goodL l = true) (seq : Int) : merge_Visible.f (l.length + 1) l seq = some (visM seq l) := by
 unfold merge_Visible.f merge_groups.f
 have h2 := goodL_iff.1 h
 have hgl := groupsK_len (key := fun e : S36 => e.f0) l.length l (Nat.le_refl _)
 rw [if_pos h, Option.bind_some, show (0 : Int) = ((0 : Nat) : Int) from rfl, visible_l0 seq (good_groups h) (Nat.le_trans hgl h2.2) (groupsK (fun e : S36 => e.f0) l).length (l.length + 1) 0 [] rfl (by omega) (Nat.le_refl _)]
 rw [List.nil_append, List.drop_zero]
 show (merge_copies.f [visM seq l]).bind _ = _
 rw [copies_one (visM_good h seq)]
 rfl
theorem visible_calls {w : World} {A : Option Addr} {c : Nat} {xs : List S36} {okF : Nat → Prop} (hF : Kd.F k36 w okF A xs.length xs) (hlc : xs.length ≤ c) (hg : goodL xs = true) (seq : Int) :
  Calls Try.prog 15 #[.slice A xs.length c, .int .i64 seq] w fun ex w' => ∃ v, ex = .returned v ∧ Kd.V k36 36 w' w.heap.size (fun k => okF k ∨ w.heap.size ≤ k) v (visM seq xs) ∧ Below w.heap.size w w' :=
 merge_Visible.calls (xs.length + 1) okF A c xs seq (visM seq xs) w (Kd.V_mk hlc hF) (visible_f hg seq)
end Go.Proofs.Ytobjkjmmkbhecaa.Sk
