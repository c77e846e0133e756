-- Printed by a program of ours (px) out of the translation; Lean checks it.
import Derived.Test.YthpklhkibcenoaaPx0
import Derived.Test.YthpklhkibcenoaaHre
namespace Go.Proofs.Ythpklhkibcenoaa.Px
open Go.RowKit Go.Proofs.YthpklhkibcenoaaW.PrintWords Go.Proofs.YthpklhkibcenoaaW.PrintLast Go.Proofs.YthpklhkibcenoaaW.PrintMore
attribute [local go_sem] max2_int min2_int max_two min_two max_three min_three max_four min_four   -- for this text's walks alone
set_option linter.unusedVariables false
set_option linter.unusedSimpArgs false
set_option linter.unnecessarySimpa false

/-! ### sawyerref10_Encode: function 21 -/
def sawyerref10_Encode.f (a0_0 : Int) (a0_1 : Int) (a0_2 : Int) (a0_3 : Int) (l0_4 : List (S37)) : Option (List Int × Int) := if (l0_4.map Sk.toM).all Sk.mbB = true then some (if Sk.checkB a0_0 a0_1 a0_2 a0_3 (l0_4.map Sk.toM) = true then (Sk.encM a0_0 a0_1 a0_2 a0_3 (l0_4.map Sk.toM), 0) else ([], 1)) else none
theorem sawyerref10_Encode.calls (a0_0 : Int) (a0_1 : Int) (a0_2 : Int) (a0_3 : Int) (A0_4 : Option Addr) (c0_4 : Nat) (l0_4 : List (S37)) (r1 : List Int) (r2 : Int) (w : World) (hr0_4 : Kd.C k37 w A0_4 l0_4.length l0_4) (hc0_4 : l0_4.length ≤ c0_4) (h : sawyerref10_Encode.f a0_0 a0_1 a0_2 a0_3 l0_4 = some (r1, r2)) :
  Calls Try.prog 21 #[.agg #[.int .i64 a0_0, .int .i64 a0_1, .int .i64 a0_2, .int .i64 a0_3, .slice A0_4 l0_4.length c0_4]] w fun e w' => ∃ v0_ : Value, e = .returned (.tuple #[v0_, .int .i64 r2]) ∧ Kd.V (Kd.int .u8) 5 w' w.heap.size (fun k_ => (w.heap.size ≤ k_)) v0_ r1 ∧ Below w.heap.size w w' := by
 unfold sawyerref10_Encode.f at h
 split at h
 ·
  rename_i hm
  have hR := Option.some.inj h
  refine (Sk.rencode_calls a0_0 a0_1 a0_2 a0_3 hr0_4 hc0_4 (Sk.mbs_iff.1 hm)).mono ?_
  cases hc : Sk.checkB a0_0 a0_1 a0_2 a0_3 (l0_4.map Sk.toM) with
  | true =>
   rw [hc, if_pos rfl] at hR
   injection hR with h1 h2
   subst h1
   subst h2
   rintro e w' ⟨v', rfl, ⟨hB, A, c, rfl, hle, hF⟩, hb⟩
   exact ⟨_, rfl, ⟨A, c, rfl, hle, hF⟩, hb⟩
  | false =>
   rw [hc, if_neg (by decide)] at hR
   injection hR with h1 h2
   subst h1
   subst h2
   rintro e w' ⟨v', rfl, ⟨hB, A, c, rfl, hle, hF⟩, hb⟩
   exact ⟨_, rfl, ⟨A, c, rfl, hle, hF⟩, hb⟩
 ·
  cases h


end Go.Proofs.Ythpklhkibcenoaa.Px
