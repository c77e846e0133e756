-- Printed by a program of ours (px) out of the translation; Lean checks it.
import Derived.Test.YtmkojpkajlpokaaPx0
namespace Go.Proofs.Ytmkojpkajlpokaa.Px
open Go.RowKit Go.Proofs.YtmkojpkajlpokaaW.PrintWords Go.Proofs.YtmkojpkajlpokaaW.PrintLast Go.Proofs.YtmkojpkajlpokaaW.PrintMore
attribute [local go_sem] max2_int min2_int max_two min_two max_three min_three max_four min_four   -- for this text's walks alone
set_option linter.unusedVariables false
set_option linter.unusedSimpArgs false
set_option linter.unnecessarySimpa false

/-! ### errors_Is: function 61 -/
def errors_Is.f (a0 a1 : Option Int) : Option Bool := a1.bind fun _ => some (a0 == a1)
theorem errors_Is.typ (v : Value) (w : World) : (callFunc 66 #[.iface 33 v]).run Try.prog w = .ok (.value (.iface 73 (.agg #[.pointer (some ⟨1, 33, none⟩)]))) w := by kernel_rfl
theorem errors_Is.cmp (w : World) : (callFunc 88 #[.agg #[.pointer (some ⟨1, 33, none⟩)]]).run Try.prog w = .ok (.value (.bool true)) w := by kernel_rfl
theorem errors_Is.mth (v : Value) (w : World) : (Go.method 216 73 v "Comparable").run Try.prog w = .ok (88, v) w := by kernel_rfl
theorem errors_Is.comp : (Try.prog.info? 33).map (·.comparable) = some true := by kernel_rfl
theorem errors_Is.noIs (v : Value) (xT : TypeId) (w : World) : (Instr.typeAssert (.iface 33 v) xT 75 true).run Try.prog w = .ok (.tuple #[.nilIface, .bool false]) w := run_typeAssert_lacksB Try.underlying75 (by kernel_rfl) (by kernel_rfl) v xT w
theorem errors_Is.noUnwrap (v : Value) (xT : TypeId) (w : World) : (Instr.typeAssert (.iface 33 v) xT 78 true).run Try.prog w = .ok (.tuple #[.nilIface, .bool false]) w := run_typeAssert_lacksB Try.underlying78 (by kernel_rfl) (by kernel_rfl) v xT w
theorem errors_Is.noUnwraps (v : Value) (xT : TypeId) (w : World) : (Instr.typeAssert (.iface 33 v) xT 80 true).run Try.prog w = .ok (.tuple #[.nilIface, .bool false]) w := run_typeAssert_lacksB Try.underlying80 (by kernel_rfl) (by kernel_rfl) v xT w
set_option maxHeartbeats 400000 in
theorem errors_Is.nil (c : Int) (w : World) :
    Calls Try.prog 61 #[.nilIface, .iface 33 (.int .i64 c)] w fun e w' => e = .returned (.bool false) ∧ w' = w := by
  have hn := run_eql_iface_nil_left (P := Try.prog) w 33 (.int .i64 c) Try.underlying63
  go_enter Try.func61, Try.ntmps61
  go_wp2
  go_ret
  exact ⟨rfl, rfl⟩
set_option maxRecDepth 100000 in
set_option maxHeartbeats 800000 in
theorem errors_Is.two (a c : Int) (w : World) :
    Calls Try.prog 61 #[.iface 33 (.int .i64 a), .iface 33 (.int .i64 c)] w fun e w' => e = .returned (.bool (a == c)) ∧ w' = w := by
  have h66 := errors_Is.typ
  have h88 := errors_Is.cmp
  have mR := errors_Is.mth
  have nE := errors_Is.noIs
  have uE := errors_Is.noUnwrap
  have vE := errors_Is.noUnwraps
  have heq := Lib.run_eql_iface_int (P := Try.prog) (k := .i64) w a c Try.underlying63 errors_Is.comp Try.underlying33
  generalize (a == c) = b at heq ⊢
  cases b
  · go_enter Try.func61, Try.ntmps61
    go_wp2
    refine wp_loop_rounds 1 ?_
    rw [rounds_succ]
    go_wp2
    go_ret
    exact ⟨rfl, rfl⟩
  · go_enter Try.func61, Try.ntmps61
    go_wp2
    refine wp_loop_rounds 1 ?_
    rw [rounds_succ]
    go_wp2
    go_ret
    exact ⟨rfl, rfl⟩
theorem errors_Is.calls (a0 a1 : Option Int) (r : Bool) (w : World) (h : errors_Is.f a0 a1 = some r) :
    Calls Try.prog 61 #[errW a0, errW a1] w fun e w' => e = .returned (.bool r) ∧ Drawn0 w w' := by
  cases a1 with
  | none => cases h
  | some c =>
    obtain rfl := Option.some.inj h
    cases a0 with
    | none =>
      refine (errors_Is.nil c w).mono ?_
      rintro e w' ⟨rfl, rfl⟩
      exact ⟨rfl, Drawn0.refl _⟩
    | some a =>
      refine (errors_Is.two a c w).mono ?_
      rintro e w' ⟨rfl, rfl⟩
      exact ⟨by simp, Drawn0.refl _⟩


end Go.Proofs.Ytmkojpkajlpokaa.Px
