/- Rows of rows, and which entries may be handed in. Conditions: those of each theorem. -/
import Derived.Test.YtobjkjmmkbhecaaCore
import Derived.Test.YtobjkjmmkbhecaaMF
import Derived.Test.YtobjkjmmkbhecaaHpl
import Derived.Test.YtobjkjmmkbhecaaPx0
import Derived.Test.YtobjkjmmkbhecaaSpecA
namespace Go.Proofs.Ytobjkjmmkbhecaa.Sk
open Go.RowKit Go.Proofs.YtobjkjmmkbhecaaW.PrintWords Go.Proofs.YtobjkjmmkbhecaaW.PrintLast Go.Proofs.YtobjkjmmkbhecaaW.PrintMore Go.Proofs.Ytobjkjmmkbhecaa.Px Go.Proofs.Ytobjkjmmkbhecaa.Sw
set_option linter.unusedVariables false
set_option linter.unusedSimpArgs false

theorem rows_of_F {w : World} {okF : Nat → Prop} {A : Option Addr} {n : Nat} {xss : List (List S36)} (h : Kd.F (Kd.slice 36 k36) w okF A n xss) : Rows w okF A xss := by
 intro i xs hi
 have hlen := Kd.F_len h
 have hil := (List.getElem?_eq_some_iff.1 hi).1
 obtain ⟨ad, c, e, hcl, hK, hcc, _⟩ := Kd.F_get h ([] : List S36) (i : Int) (by omega) (by omega)
 rw [Int.toNat_natCast, List.getD_eq_getElem?_getD, hi] at hK
 replace hK : Kd.FK (Kd.slice 36 k36) w okF xs c := hK
 obtain ⟨A0, c0, rfl, hl, hf⟩ := Kd.FK_slice_open hK
 refine ⟨ad, A0, c0, e, ?_, hl, hf⟩
 have h2 := hcc 0 _ rfl
 rw [Int.toNat_natCast] at h2
 have hsz : (Kd.slice 36 k36).sz = 1 := rfl
 rw [hsz, Nat.mul_one, Nat.add_zero] at h2
 exact h2
instance (l : List Int) : Decidable (Byts l) := inferInstanceAs (Decidable (∀ x ∈ l, 0 ≤ x ∧ x < 256))
instance (n : Int) : Decidable (I64 n) := inferInstanceAs (Decidable (_ ∧ _))
/-- An entry that may be handed in. -/
def okE (e : S36) : Bool := decide (Byts e.f0) && decide (Byts e.f3) && decide (I64 e.f1) && decide (e.f0.length < 140737488355328) && decide (e.f3.length < 140737488355328)
theorem okE_iff {e : S36} : okE e = true ↔ EB e ∧ e.f0.length < 140737488355328 ∧ e.f3.length < 140737488355328 := by
 unfold okE EB
 simp only [Bool.and_eq_true, decide_eq_true_eq]
 exact ⟨fun h => ⟨⟨h.1.1.1.1, h.1.1.1.2, h.1.1.2⟩, h.1.2, h.2⟩, fun h => ⟨⟨⟨⟨h.1.1, h.1.2.1⟩, h.1.2.2⟩, h.2.1⟩, h.2.2⟩⟩
def goodL (l : List S36) : Bool := l.all okE && decide (l.length ≤ 1000000000)
theorem goodL_iff {l : List S36} : goodL l = true ↔ (∀ e ∈ l, EB e ∧ e.f0.length < 140737488355328 ∧ e.f3.length < 140737488355328) ∧ l.length ≤ 1000000000 := by
 unfold goodL
 rw [Bool.and_eq_true, decide_eq_true_eq, List.all_eq_true]
 exact ⟨fun h => ⟨fun e he => okE_iff.1 (h.1 e he), h.2⟩, fun h => ⟨fun e he => okE_iff.2 (h.1 e he), h.2⟩⟩
end Go.Proofs.Ytobjkjmmkbhecaa.Sk
