/- What the functions that lay and take texts compute. -/
import Derived.Test.YthpklhkibcenoaaMB
import Derived.Test.YthpklhkibcenoaaPx49
import Derived.Test.YthpklhkibcenoaaPx55
import Derived.Test.YthpklhkibcenoaaPx61
import Derived.Test.YthpklhkibcenoaaSpecTake
set_option linter.unusedVariables false
set_option linter.unusedSimpArgs false
namespace Go.Proofs.Ythpklhkibcenoaa.Sw
open Go.RowKit Go.Proofs.Ythpklhkibcenoaa.Px Go.Proofs.YthpklhkibcenoaaW.PrintWords Go.Proofs.YthpklhkibcenoaaW.PrintLast Go.Proofs.YthpklhkibcenoaaW.PrintMore

/-! ### texts -/
def takeTx (l : List Int) (a : Int) : Option (List Int × List Int) :=
  (takeN l).bind fun p => if (p.1 : Int) > a then none else if p.1 > p.2.length then none else some (p.2.take p.1, p.2.drop p.1)
def triT : Option (List Int × List Int) → ByteArray × List Int × Int
  | some (t, r) => (strOfNums t, r, 0)
  | none => (⟨#[]⟩, [], 2)
theorem takeText_f {l : List Int} (a : Int) (hl : Byts l) (hb : l.length < 140737488355328) : Ev (fun k => code_TakeText.f k l a) (triT (takeTx l a)) := by
  unfold code_TakeText.f
  refine Ev.bind (takeNum_f hl hb) ?_
  unfold takeTx
  cases takeN l with
  | none => exact Ev.const rfl
  | some p =>
    obtain ⟨n, r⟩ := p
    refine Ev.pos (show (tri (some (n, r))).2.2 = 0 from rfl) ?_
    rw [Option.bind_some]
    by_cases c1 : (n : Int) > a
    · rw [if_pos c1]
      exact Ev.pos c1 (Ev.const rfl)
    · rw [if_neg c1]
      refine Ev.neg c1 ?_
      by_cases c2 : n > r.length
      · rw [if_pos c2]
        exact Ev.pos (show (n : Int) > (r.length : Int) by omega) (Ev.const rfl)
      · rw [if_neg c2]
        exact Ev.neg (show ¬ (n : Int) > (r.length : Int) by omega) (Ev.pos (show (0 : Int) ≤ (n : Int) by omega) (Ev.pos (show (n : Int) ≤ (r.length : Int) by omega) (Ev.const rfl)))
theorem refTakeText_f {l : List Int} (a : Int) (hl : Byts l) (hb : l.length < 140737488355328) : Ev (fun k => sawyerref02_TakeText.f k l a) (triT (takeTx l a)) := by
  unfold sawyerref02_TakeText.f
  refine Ev.bind (refTake_f hl hb) ?_
  unfold takeTx
  cases takeN l with
  | none => exact Ev.const rfl
  | some p =>
    obtain ⟨n, r⟩ := p
    refine Ev.pos (show (tri (some (n, r))).2.2 = 0 from rfl) ?_
    rw [Option.bind_some]
    by_cases c1 : (n : Int) > a
    · rw [if_pos c1]
      exact Ev.pos c1 (Ev.const rfl)
    · rw [if_neg c1]
      refine Ev.neg c1 ?_
      by_cases c2 : n > r.length
      · rw [if_pos c2]
        exact Ev.pos (show (n : Int) > (r.length : Int) by omega) (Ev.const rfl)
      · rw [if_neg c2]
        exact Ev.neg (show ¬ (n : Int) > (r.length : Int) by omega) (Ev.pos (show (0 : Int) ≤ (n : Int) by omega) (Ev.pos (show (n : Int) ≤ (r.length : Int) by omega) (Ev.const rfl)))
theorem bytesOf_byts (s : ByteArray) : Byts (bytesOf s) := by
  intro x hx
  unfold bytesOf at hx
  obtain ⟨b, _, rfl⟩ := List.mem_map.1 hx
  have := b.toNat_lt
  omega
theorem putText_f (l : List Int) (s : ByteArray) (hb : l.length + s.size + 18 < 140737488355328) : Ev (fun k => code_PutText.f k l s) (l ++ grp s.size ++ bytesOf s) := by
  unfold code_PutText.f
  have h9 := grp9 (n := s.size) (by omega)
  have := putNum_f l (s.size : Int) (by omega)
  rw [cap_of (by omega)] at this
  refine Ev.bind this (Ev.const ?_)
  unfold code_laid_string.f slices_Clone_byte_byte.f
  rw [if_pos (by rw [List.length_append]; omega), Option.bind_some, if_pos (by rw [List.length_append]; omega), Option.bind_some]
theorem refPutText_f (l : List Int) (s : ByteArray) (hb : l.length + s.size + 18 < 140737488355328) : Ev (fun k => sawyerref02_PutText.f k l s) (l ++ grp s.size ++ bytesOf s) := by
  unfold sawyerref02_PutText.f
  have h9 := grp9 (n := s.size) (by omega)
  have := refNum_f l (s.size : Int) (by omega)
  rw [cap_of (by omega)] at this
  refine Ev.bind this (Ev.const ?_)
  rw [if_pos (by rw [List.length_append]; omega)]

end Go.Proofs.Ythpklhkibcenoaa.Sw
