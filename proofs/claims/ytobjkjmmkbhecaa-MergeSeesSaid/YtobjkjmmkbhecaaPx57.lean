-- Printed by a program of ours (px) out of the translation; Lean checks it.
import Derived.Test.YtobjkjmmkbhecaaPx0
import Derived.Test.YtobjkjmmkbhecaaHrg
import Derived.Test.YtobjkjmmkbhecaaHrw
namespace Go.Proofs.Ytobjkjmmkbhecaa.Px
open Go.RowKit Go.Proofs.YtobjkjmmkbhecaaW.PrintWords Go.Proofs.YtobjkjmmkbhecaaW.PrintLast Go.Proofs.YtobjkjmmkbhecaaW.PrintMore
attribute [local go_sem] max2_int min2_int max_two min_two max_three min_three max_four min_four   -- for this text's walks alone
set_option linter.unusedVariables false
set_option linter.unusedSimpArgs false
set_option linter.unnecessarySimpa false

/-! ### sawyerref12_groups: function 34 -/
def sawyerref12_groups.f (l0 : List (S36)) : Option (List (List (S36))) := if Sk.goodL l0 = true then some (Sk.groupsK (fun e : S36 => e.f0) l0) else none
theorem sawyerref12_groups.calls (P0_ : Nat → Prop) (A0 : Option Addr) (c0 : Nat) (l0 : List (S36)) (r : List (List (S36))) (w : World) (hs0 : Kd.V k36 36 w w.heap.size (fun k_ => P0_ k_) (.slice A0 l0.length c0) l0) (h : sawyerref12_groups.f l0 = some r) :
  Calls Try.prog 34 #[.slice A0 l0.length c0] w fun e w' => ∃ v0_ : Value, e = .returned v0_ ∧ Kd.V (Kd.slice 36 k36) 24 w' w.heap.size (fun k_ => (P0_ k_ ∨ w.heap.size ≤ k_)) v0_ r ∧ Below w.heap.size w w' := by
 unfold sawyerref12_groups.f at h
 split at h
 ·
  rename_i hm
  obtain rfl := Option.some.inj h
  have hg := Sk.goodL_iff.1 hm
  have hv := Kd.V_at hs0
  refine (Sk.rgroups_calls hv.2.2 hv.2.1 hg.2 hg.1).mono ?_
  rintro e w' ⟨v, rfl, hn, hb⟩
  exact ⟨v, rfl, Kd.V_mono (Kd.N_V hn) (fun k hk => hk.imp (fun h => h.1) id), hb⟩
 ·
  cases h


end Go.Proofs.Ytobjkjmmkbhecaa.Px
