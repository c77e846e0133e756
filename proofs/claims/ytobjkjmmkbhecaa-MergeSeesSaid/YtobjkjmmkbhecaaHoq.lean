/- Order, sameness and versions: what the functions of the document compute. Conditions: those of each theorem. -/
import Derived.Test.YtobjkjmmkbhecaaCore
import Derived.Test.YtobjkjmmkbhecaaHrw
import Derived.Test.YtobjkjmmkbhecaaPx0
import Derived.Test.YtobjkjmmkbhecaaMD
import Derived.Test.YtobjkjmmkbhecaaSpecA
namespace Go.Proofs.Ytobjkjmmkbhecaa.Sk
open Go.RowKit Go.Proofs.YtobjkjmmkbhecaaW.PrintWords Go.Proofs.YtobjkjmmkbhecaaW.PrintLast Go.Proofs.YtobjkjmmkbhecaaW.PrintMore Go.Proofs.Ytobjkjmmkbhecaa.Px Go.Proofs.Ytobjkjmmkbhecaa.Sw
set_option linter.unusedVariables false
set_option linter.unusedSimpArgs false

def GE (e : S36) : Prop := Byts e.f0 ∧ Byts e.f3
theorem rdE_nat (l : List S36) (i : Nat) (h : i < l.length) : rd_T36 l (i : Int) = l[i] := by
 unfold rd_T36
 rw [List.getD_eq_getElem?_getD]
 simp [h]
theorem sameOne_f {a b : S36} (ha : GE a) (hb : GE b) : sawyerref06_SameOne.f a.f0 a.f1 a.f2 a.f3 b.f0 b.f1 b.f2 b.f3 = some (decide (a.f0 = b.f0 ∧ a.f1 = b.f1 ∧ a.f2 = b.f2 ∧ a.f3 = b.f3)) := by
 unfold sawyerref06_SameOne.f
 have h0 := str_eq ha.1 hb.1
 have h3 := str_eq ha.2 hb.2
 by_cases c0 : a.f0 = b.f0
 ·
  rw [if_pos (by rw [c0])]
  by_cases c1 : a.f1 = b.f1
  ·
   rw [if_pos c1]
   by_cases c2 : a.f2 = b.f2
   ·
    rw [if_pos (by simp [c2]), h3]
    simp [c0, c1, c2]
   ·
    rw [if_neg (by simpa using c2)]
    simp [c2]
  ·
   rw [if_neg c1]
   simp [c1]
 ·
  rw [if_neg (fun h => by rw [h] at h0; simp [c0] at h0)]
  simp [c0]

/-- The same entries. -/
theorem same_loop2 (l : List S36) (hg : ∀ e ∈ l, GE e) (hl : l.length ≤ 1000000000) (d : Nat) : ∀ i : Nat, l.length - i = d → i ≤ l.length → Ev (fun k => sawyerref06_Same.l0 k l l (i : Int)) true := by
 induction d with
 | zero =>
  intro i hd hi
  exact Ev.step (fun k => sawyerref06_Same.l0.eq_2 _ _ _ _) (Ev.neg (by omega) (Ev.const rfl))
 | succ d ih =>
  intro i hd hi
  have hlt : i < l.length := by omega
  have hm := hg _ (List.getElem_mem hlt)
  refine Ev.step (fun k => sawyerref06_Same.l0.eq_2 _ _ _ _) (Ev.pos (by omega) (Ev.pos (by omega) (Ev.pos (by omega) ?_)))
  rw [rdE_nat l i hlt]
  refine Ev.bindc (sameOne_f hm hm) (Ev.pos (by simp) ?_)
  rw [wrap_in (by omega) (by omega)]
  exact ih (i + 1) (by omega) (by omega)
theorem same_calls {w : World} {A : Option Addr} {c : Nat} {B : Option Addr} {d : Nat} {xs : List S36} (hA : Kd.C k36 w A xs.length xs) (hc : xs.length ≤ c) (hB : Kd.C k36 w B xs.length xs) (hd : xs.length ≤ d) (hg : ∀ e ∈ xs, GE e) (hln : xs.length ≤ 1000000000) :
  Calls Try.prog 12 #[.slice A xs.length c, .slice B xs.length d] w fun ex w' => ex = .returned (.bool true) ∧ Below w.heap.size w w' := by
 have h : Ev (fun k => sawyerref06_Same.f k xs xs) true := by
  unfold sawyerref06_Same.f
  exact Ev.pos rfl (same_loop2 xs hg hln xs.length 0 (by omega) (by omega))
 obtain ⟨K, hK⟩ := h
 exact sawyerref06_Same.calls K A c xs B d xs _ w hA hc hB hd (hK K (Nat.le_refl _))
end Go.Proofs.Ytobjkjmmkbhecaa.Sk
