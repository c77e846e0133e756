/- What Prune computes, as a contract. Conditions: those of each theorem. -/
import Derived.Test.YtobjkjmmkbhecaaCore
import Derived.Test.YtobjkjmmkbhecaaHgp
import Derived.Test.YtobjkjmmkbhecaaHkp
import Derived.Test.YtobjkjmmkbhecaaHrw
import Derived.Test.YtobjkjmmkbhecaaHsp
import Derived.Test.YtobjkjmmkbhecaaHvi
import Derived.Test.YtobjkjmmkbhecaaME
import Derived.Test.YtobjkjmmkbhecaaPx0
import Derived.Test.YtobjkjmmkbhecaaMC
namespace Go.Proofs.Ytobjkjmmkbhecaa.Sk
open Go.RowKit Go.Proofs.YtobjkjmmkbhecaaW.PrintWords Go.Proofs.YtobjkjmmkbhecaaW.PrintLast Go.Proofs.YtobjkjmmkbhecaaW.PrintMore Go.Proofs.Ytobjkjmmkbhecaa.Px Go.Proofs.Ytobjkjmmkbhecaa.Sw
set_option linter.unusedVariables false
set_option linter.unusedSimpArgs false

theorem prune_l0 {pins : List Int} (bottom : Bool) (hpl : pins.length ≤ 1000000000) {K : Nat} {G : List (List S36)} (hG : ∀ g ∈ G, goodL g = true ∧ 0 < g.length ∧ pins.length + 2 * g.length + 4 ≤ K) (hGl : G.length ≤ 1000000000) : ∀ (n k m : Nat) (out : List (List S36)), n + m = G.length → n + K < k → out.length ≤ m →
  merge_Prune.l0 k pins bottom out G (G.length : Int) (m : Int) = (merge_copies.f (out ++ (G.drop m).map (keptM pins bottom))).bind fun t => some t
 | 0, k, m, out, hn, hk, ho => by
  obtain ⟨k, rfl⟩ : ∃ j, k = j + 1 := ⟨k - 1, by omega⟩
  simp only [merge_Prune.l0]
  rw [if_neg (by omega), List.drop_of_length_le (by omega)]
  simp
 | n + 1, k, m, out, hn, hk, ho => by
  obtain ⟨k, rfl⟩ : ∃ j, k = j + 1 := ⟨k - 1, by omega⟩
  have hm : m < G.length := by omega
  obtain ⟨g, hg⟩ : ∃ g, G[m]? = some g := ⟨_, List.getElem?_eq_getElem hm⟩
  have hw : wrap64 ((m : Int) + 1) = ((m + 1 : Nat) : Int) := wadd1 (x := m) rfl (by omega)
  obtain ⟨h1, h2, h3⟩ := hG g (List.mem_of_getElem? hg)
  have ih := prune_l0 bottom hpl hG hGl n k (m + 1)
  have hd : G.drop m = g :: G.drop (m + 1) := by
   obtain ⟨h1, h2⟩ := List.getElem?_eq_some_iff.1 hg
   rw [List.drop_eq_getElem_cons h1, h2]
  simp only [merge_Prune.l0]
  rw [if_pos (by omega), if_pos (by omega), if_pos (by omega), rdL5_at hg, kept_f bottom h1 h2 hpl (by omega), Option.bind_some, if_pos (by omega), hw, ih _ (by omega) (by omega) (by simp; omega), hd, List.map_cons, List.append_assoc]
  rfl
theorem flat_kept (pins : List Int) (bottom : Bool) : ∀ (G : List (List S36)), (∀ e ∈ (G.map (keptM pins bottom)).flatten, e ∈ G.flatten) ∧ (G.map (keptM pins bottom)).flatten.length ≤ G.flatten.length
 | [] => ⟨fun e h => by simp at h, by simp⟩
 | g :: G => by
  have ih := flat_kept pins bottom G
  have h1 := keptM_sub pins bottom g
  refine ⟨fun e he => ?_, by simp only [List.map_cons, List.flatten_cons, List.length_append]; omega⟩
  simp only [List.map_cons, List.flatten_cons, List.mem_append] at he ⊢
  exact he.imp (h1.1 e) (ih.1 e)
theorem pruM_sub (pins : List Int) (bottom : Bool) (l : List S36) : (∀ e ∈ pruM pins bottom l, e ∈ l) ∧ (pruM pins bottom l).length ≤ l.length := by
 have h := flat_kept pins bottom (groupsK (fun e : S36 => e.f0) l)
 rw [groupsK_flat l.length l (Nat.le_refl _)] at h
 exact h
theorem pruM_good {l : List S36} (h : goodL l = true) (pins : List Int) (bottom : Bool) : goodL (pruM pins bottom l) = true := goodL_sub h (pruM_sub pins bottom l).1 (pruM_sub pins bottom l).2
theorem prune_f {l : List S36} (h : goodL l = true) {pins : List Int} (hpl : pins.length ≤ 1000000000) (bottom : Bool) : merge_Prune.f (pins.length + 3 * l.length + 5) l pins bottom = some (pruM pins bottom l) := by
 have h2 := goodL_iff.1 h
 have hgl := groupsK_len (key := fun e : S36 => e.f0) l.length l (Nat.le_refl _)
 have hG : ∀ g ∈ groupsK (fun e : S36 => e.f0) l, goodL g = true ∧ 0 < g.length ∧ pins.length + 2 * g.length + 4 ≤ pins.length + 2 * l.length + 4 := by
  intro g hg
  have h1 := groupsK_one (key := fun e : S36 => e.f0) l.length l (Nat.le_refl _) g hg
  obtain ⟨i, hi⟩ := List.mem_iff_getElem?.1 hg
  have h3 := (mem_flat hi).1
  rw [groupsK_flat l.length l (Nat.le_refl _)] at h3
  exact ⟨good_groups h g hg, List.length_pos_iff.2 h1.1, by omega⟩
 unfold merge_Prune.f merge_groups.f
 rw [if_pos h, Option.bind_some]
 refine (show merge_Prune.l0 _ pins bottom [] (groupsK (fun e : S36 => e.f0) l) _ 0 = _ from prune_l0 bottom hpl hG (Nat.le_trans hgl h2.2) (groupsK (fun e : S36 => e.f0) l).length (pins.length + 3 * l.length + 5) 0 [] rfl (by omega) (Nat.le_refl _)).trans ?_
 rw [List.nil_append, List.drop_zero]
 unfold merge_copies.f
 have hp := pruM_good h pins bottom
 unfold pruM at hp
 rw [hp, List.length_map, decide_eq_true (Nat.le_trans hgl h2.2)]
 rfl
theorem prune_calls {w : World} {A : Option Addr} {c : Nat} {xs : List S36} {okF : Nat → Prop} (hF : Kd.F k36 w okF A xs.length xs) (hlc : xs.length ≤ c) (hg : goodL xs = true) {B : Option Addr} {d : Nat} {pins : List Int} (hC : Kd.C (Kd.int .i64) w B pins.length pins) (hd : pins.length ≤ d) (hpl : pins.length ≤ 1000000000) (bottom : Bool) :
  Calls Try.prog 17 #[.slice A xs.length c, .slice B pins.length d, .bool bottom] w fun ex w' => ∃ v, ex = .returned v ∧ Kd.V k36 36 w' w.heap.size (fun k => okF k ∨ w.heap.size ≤ k) v (pruM pins bottom xs) ∧ Below w.heap.size w w' :=
 merge_Prune.calls (pins.length + 3 * xs.length + 5) okF A c xs B d pins bottom (pruM pins bottom xs) w (Kd.V_mk hlc hF) hC hd (prune_f hg hpl bottom)
end Go.Proofs.Ytobjkjmmkbhecaa.Sk
