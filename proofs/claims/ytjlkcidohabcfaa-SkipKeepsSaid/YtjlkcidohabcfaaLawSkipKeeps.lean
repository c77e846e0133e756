/- The statement SkipKeepsSaid: for every input the law SkipKeeps returns true, and its arguments read as before. Conditions: none. -/
import Derived.Test.YtjlkcidohabcfaaRows
import Derived.Test.YtjlkcidohabcfaaHlk
import Derived.Test.YtjlkcidohabcfaaRowOS
import Derived.WalkKit
import Derived.ProofKit
import Derived.OpenShut
import Derived.ShutString
import Derived.ChangeOld
import Derived.Below
import Derived.SizedLaws
import Derived.Test.YtjlkcidohabcfaaWSized
namespace Go.Proofs.Ytjlkcidohabcfaa.skipKeeps
open Go.ChangeShapes Go.WideShapes Go.ChangeAt Go.RowKit Go.Proofs.YtjlkcidohabcfaaW.PrintWords
set_option linter.unusedVariables false
theorem own : ownKnob Try.prog.godebug = none := by kernel_rfl
theorem laidOut : laidOutB Try.prog = true := by kernel_rfl
set_option maxRecDepth 100000 in
theorem lifted (os : Os) (started : os.Started) (H : Type) (enc : TypeId × Value → H) :
    ReturnsInHanded {} Try.checked os 7 .any (Rows.skipKeepsSpec.pre6 enc Try.prog Try.f7 Rows.skipKeepsRow.domain false) (Rows.skipKeepsSpec.post enc Try.prog Try.f7 false true false false) := by
  refine returnsInHanded_of_change_sized (C := Try.checked) own started (by kernel_rfl) Try.func7
    (ChangeSpec.witness6 (enc := enc) (C := Try.checked) false ⟨#[], #[.slice none 0 0], []⟩ 8 (by kernel_rfl) (by kernel_rfl) (by kernel_rfl) (by kernel_rfl)) ?_
  intro W base args ds gs before hval0 hW hcnd hsz0 _
  have hsz : (DataW.weightsEach Try.prog (Try.f7.params.toList ++ Rows.skipKeepsSpec.plain.varTypes Try.prog) (ds ++ gs)).all (· ≤ reachBytes) = true := hsz0
  have hval : ∀ (j : Nat) t v, Try.f7.params[j]? = some t → args[j]? = some v → Value.okWide Try.prog W .any base t v := hval0
  have hW' := hW
  obtain ⟨p, q, hA0, hV, rfl, hfz, hnd⟩ := hW
  have hA : DataW.TrodAll enc Try.prog W 0 (fun _ => true) true Try.f7.params.toList args.toList ds p := hA0
  rw [Try.params7] at hA hval hsz
  obtain ⟨v0, vs0, d0, ds0, p0, q0, hargs, rfl, rfl, h0, r0⟩ := trodAll_cons hA
  obtain ⟨rfl, rfl, rfl⟩ := trodAll_nil r0
  obtain rfl : args = #[v0] := by cases args; simp_all
  obtain ⟨rfl, rfl⟩ := trodVars_none hV
  obtain ⟨a0, len0, cap0, rfl⟩ := okWide_slice Try.underlying22 (hval 0 22 v0 rfl rfl)
  have k0 := h0
  have lt0 : ∀ x ∈ p0, x.block < W.heap.size := by obtain ⟨m, hm⟩ := k0; exact DataW.trod_lt m _ _ _ hm
  obtain ⟨l0, hl0, hr0, hc0, hw0, hs0⟩ : ∃ l : List Sk.SOp, len0 = l.length ∧ Kd.C Sk.kOp W a0 l.length l ∧ l.length ≤ cap0 ∧ (∀ e ∈ l, Rw.WellO e) ∧ ∀ e ∈ l, Rw.Lim e.e := by
    have hz := Rw.small_of hsz (j := 0) (t := 22) rfl rfl
    obtain ⟨fuel, hf⟩ := h0
    exact Rw.open_opsS hf hz
  subst hl0
  clear hA0 hval0 hsz0 hsz
  refine (Sk.keeps_calls a0 cap0 l0 hr0 hc0 (fun e he => (hw0 e he).good) (fun e he => hs0 e he)).mono ?_
  rintro e W' ⟨rfl, bel⟩
  exact ⟨_, rfl, _, _, _, [], _, [], hW', trodAll_mk1 (shut_bool Try.underlying4 _), (trodAll_cons_mk (Below.trod laidOut (by kernel_rfl) (of_decide_eq_true (by kernel_rfl)) k0 bel lt0) trodAll_mk0), rfl, bel.frame _, fun h => by cases h⟩
theorem over : Rows.skipKeepsRow.holds Try.pinned (OpenSpec.ofChange Rows.skipKeepsSpec) :=
  OpenClaim.holds_of_wide 7 Try.f7 rfl rfl rfl rfl rfl rfl rfl ⟨rfl, rfl, rfl, rfl, rfl⟩ rfl rfl rfl rfl rfl (by kernel_rfl) Try.func7 (by kernel_rfl)
    (of_decide_eq_true (by kernel_rfl)) (by unfold Func.isWrapper; first | (rw [if_pos (by decide +kernel)]; kernel_rfl) | (rw [if_neg (by decide +kernel)]; exact ⟨rfl, rfl⟩))
    (fun os started H enc _ => lifted os started H enc)
theorem proved : Rows.SkipKeepsSaid := over
#print axioms proved
end Go.Proofs.Ytjlkcidohabcfaa.skipKeeps
namespace Go.Proofs.Ytjlkcidohabcfaa
/-- The row, under a short name, for the claim. -/
theorem skipKeeps_holds : Rows.SkipKeepsSaid := skipKeeps.proved
end Go.Proofs.Ytjlkcidohabcfaa
