/- What the laws' smallest functions compute. Conditions: those of each theorem. -/
import Derived.Test.YthpklhkibcenoaaCore
import Derived.Test.YthpklhkibcenoaaHpl
import Derived.Test.YthpklhkibcenoaaPx0
import Derived.Test.YthpklhkibcenoaaMC
import Derived.Test.YthpklhkibcenoaaHto
namespace Go.Proofs.Ythpklhkibcenoaa.Sk
open Go.RowKit Go.Proofs.YthpklhkibcenoaaW.PrintWords Go.Proofs.YthpklhkibcenoaaW.PrintLast Go.Proofs.YthpklhkibcenoaaW.PrintMore Go.Proofs.Ythpklhkibcenoaa.Px Go.Proofs.Ythpklhkibcenoaa.Sw
set_option linter.unusedVariables false
set_option linter.unusedSimpArgs false
theorem Ev.none_if {α : Type} {g : Nat → Option α} {c : Prop} [Decidable c] {r : α} (hc : c) (h : Ev g r) : Ev (fun k => if c then g k else none) r := by
 simp only [if_pos hc]; exact h
theorem Ev.pos {α : Type} {g f : Nat → Option α} {c : Prop} [Decidable c] {r : α} (hc : c) (h : Ev g r) : Ev (fun k => if c then g k else f k) r := by
 simp only [if_pos hc]; exact h
theorem Ev.neg {α : Type} {g f : Nat → Option α} {c : Prop} [Decidable c] {r : α} (hc : ¬ c) (h : Ev f r) : Ev (fun k => if c then g k else f k) r := by
 simp only [if_neg hc]; exact h
theorem Ev.bindc {α β : Type} {o : Option α} {f : Nat → α → Option β} {a : α} {r : β} (h : o = some a) (k : Ev (fun n => f n a) r) : Ev (fun n => o.bind (f n)) r := by
 subst h; exact k
theorem Ev.const {α : Type} {o : Option α} {r : α} (h : o = some r) : Ev (fun _ => o) r := ⟨0, fun _ _ => h⟩

theorem refLess_loop (a b : List Int) (hl : a.length ≤ 140737488355328) (d : Nat) : ∀ i : Nat, a.length - i = d → i ≤ a.length → Ev (fun k => sawyerref03_Less.l0 k a b (i : Int)) (less (a.drop i) (b.drop i)) := by
 induction d with
 | zero =>
  intro i hd hi
  have hi : i = a.length := by omega
  subst hi
  refine Ev.step (f := fun k => sawyerref03_Less.j1 k a b (a.length : Int) false) (fun k => ?_) (Ev.step (f := fun _ => some (decide ((a.length : Int) < (b.length : Int)))) (fun k => ?_) (Ev.const ?_))
  ·
   simp only [sawyerref03_Less.l0]; rw [if_neg (by omega)]
  ·
   simp only [sawyerref03_Less.j1]; rw [if_neg (by simp)]
  ·
   rw [List.drop_length]
   by_cases c : a.length < b.length
   ·
    rw [List.drop_eq_getElem_cons c]
    simp [less, c]
   ·
    rw [List.drop_eq_nil_of_le (by omega)]
    simp [less]
    omega
 | succ d ih =>
  intro i hd hi
  have hlt : i < a.length := by omega
  rw [List.drop_eq_getElem_cons hlt]
  by_cases c : i < b.length
  ·
   rw [List.drop_eq_getElem_cons c]
   refine Ev.step (f := fun k => sawyerref03_Less.j1 k a b (i : Int) true) (fun k => ?_) ?_
   ·
    simp only [sawyerref03_Less.l0]; rw [if_pos (by omega), decide_eq_true (by omega)]
   ·
    by_cases e : a[i] = b[i]
    ·
     refine Ev.step (f := fun k => sawyerref03_Less.l0 k a b ((i + 1 : Nat) : Int)) (fun k => ?_) ?_
     ·
      simp only [sawyerref03_Less.j1]
      rw [if_pos trivial, if_pos (by omega), if_pos (by omega), if_pos (by omega), rd_nat a i hlt, rd_nat b i c, if_pos e, wrap_in (by omega) (by omega)]
      rfl
     ·
      have := ih (i + 1) (by omega) (by omega)
      unfold less
      rw [if_neg (by omega), if_neg (by omega)]
      exact this
    ·
     refine Ev.step (f := fun _ => some (decide (a[i] < b[i]))) (fun k => ?_) (Ev.const ?_)
     ·
      simp only [sawyerref03_Less.j1]
      rw [if_pos trivial, if_pos (by omega), if_pos (by omega), if_pos (by omega), rd_nat a i hlt, rd_nat b i c, if_neg e]
     ·
      unfold less
      by_cases e2 : a[i] < b[i]
      ·
       rw [if_pos e2, decide_eq_true e2]
      ·
       rw [if_neg e2, if_pos (by omega), decide_eq_false e2]
  ·
   rw [show b.drop i = [] from List.drop_eq_nil_of_le (by omega)]
   refine Ev.step (f := fun k => sawyerref03_Less.j1 k a b (i : Int) false) (fun k => ?_) (Ev.step (f := fun _ => some (decide ((a.length : Int) < (b.length : Int)))) (fun k => ?_) (Ev.const ?_))
   ·
    simp only [sawyerref03_Less.l0]; rw [if_pos (by omega), decide_eq_false (by omega)]
   ·
    simp only [sawyerref03_Less.j1]; rw [if_neg (by simp)]
   ·
    simp [less]; omega
theorem refLess_f (a b : List Int) (hl : a.length ≤ 140737488355328) : Ev (fun k => sawyerref03_Less.f k a b) (less a b) := by
 unfold sawyerref03_Less.f
 have := refLess_loop a b hl a.length 0 (by omega) (by omega)
 simpa using this

theorem rd37 (l : List S37) (i : Nat) (m : S37) (h : l[i]? = some m) : rd_T37 l (i : Int) = m := by
 unfold rd_T37
 rw [Int.toNat_natCast, List.getD_eq_getElem?_getD, h]
 rfl
theorem rd57 (l : List S57) (i : Nat) (m : S57) (h : l[i]? = some m) : rd_T57 l (i : Int) = m := by
 unfold rd_T57
 rw [Int.toNat_natCast, List.getD_eq_getElem?_getD, h]
 rfl
theorem wrapn {n : Nat} (h : n ≤ 9000000000000000000) : wrap64 ((n : Int) + 1) = ((n + 1 : Nat) : Int) := by
 rw [wrap_in (by omega) (by omega)]; rfl
theorem errB_zero {b : Bool} : errB b = 0 ↔ b = true := by cases b <;> simp [errB]
end Go.Proofs.Ythpklhkibcenoaa.Sk
