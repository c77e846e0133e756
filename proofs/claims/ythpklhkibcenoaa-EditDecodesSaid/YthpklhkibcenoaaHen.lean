/- What both Encodes compute. Conditions: those of each theorem. -/
import Derived.Test.YthpklhkibcenoaaCore
import Derived.Test.YthpklhkibcenoaaHap
import Derived.Test.YthpklhkibcenoaaHpl
import Derived.Test.YthpklhkibcenoaaHso
import Derived.Test.YthpklhkibcenoaaHspa
import Derived.Test.YthpklhkibcenoaaPx0
import Derived.Test.YthpklhkibcenoaaMB
import Derived.Test.YthpklhkibcenoaaPx49
import Derived.Test.YthpklhkibcenoaaSpecA
import Derived.Test.YthpklhkibcenoaaSpecB
import Derived.Test.YthpklhkibcenoaaHto
import Derived.Test.YthpklhkibcenoaaHrb
namespace Go.Proofs.Ythpklhkibcenoaa.Sk
open Go.RowKit Go.Proofs.YthpklhkibcenoaaW.PrintWords Go.Proofs.YthpklhkibcenoaaW.PrintLast Go.Proofs.YthpklhkibcenoaaW.PrintMore Go.Proofs.Ythpklhkibcenoaa.Px Go.Proofs.Ythpklhkibcenoaa.Sw
set_option linter.unusedVariables false
set_option linter.unusedSimpArgs false

theorem str_size (l : List Int) : (strOfNums l).size = l.length := by
 simp [strOfNums, ByteArray.size]
theorem str_bytes {l : List Int} (h : Byts l) : bytesOf (strOfNums l) = l := by
 simp only [strOfNums, bytesOf]
 induction l with
 | nil => rfl
 | cons a r ih =>
  have h1 := h.head
  simp only [List.map_cons, List.cons.injEq]
  refine ⟨?_, by simpa using ih h.tail⟩
  rw [UInt8.toNat_ofNat']
  omega
theorem putText_f (l : List Int) (s : ByteArray) (hb : l.length + s.size + 18 < 140737488355328) : Ev (fun k => code_PutText.f k l s) (l ++ grp s.size ++ bytesOf s) := by
 unfold code_PutText.f
 have h9 := grp9 (n := s.size) (by omega)
 have := putNum_f l (s.size : Int) (by omega)
 rw [cap_of (by omega)] at this
 refine Ev.bind this (Ev.const ?_)
 unfold code_laid_string.f slices_Clone_byte_byte.f
 rw [if_pos (by rw [List.length_append]; omega), Option.bind_some, if_pos (by rw [List.length_append]; omega), Option.bind_some]
theorem refPutText_f (l : List Int) (s : ByteArray) (hb : l.length + s.size + 18 < 140737488355328) : Ev (fun k => sawyerref02_PutText.f k l s) (l ++ grp s.size ++ bytesOf s) := by
 unfold sawyerref02_PutText.f
 have h9 := grp9 (n := s.size) (by omega)
 have := refNum_f l (s.size : Int) (by omega)
 rw [cap_of (by omega)] at this
 refine Ev.bind this (Ev.const ?_)
 rw [if_pos (by rw [List.length_append]; omega)]
/-- A note's bytes, a version's bytes. -/
def noteB (m : S57) : List Int := grp (cap m.f0) ++ (grp (cap m.f1) ++ (grp (cap m.f2) ++ (grp m.f3.length ++ (m.f3 ++ (grp m.f4.length ++ m.f4)))))
def encM (g n s q : Int) (ts : List S57) : List Int := grp (cap g) ++ (grp (cap n) ++ (grp (cap s) ++ (grp (cap q) ++ (grp ts.length ++ ts.flatMap noteB))))
theorem noteB_len {m : S57} (h : rightM m = true) : (noteB m).length ≤ 200 := by
 have h1 := rightM_len h
 have a0 := grp9 (cap_le m.f0)
 have a1 := grp9 (cap_le m.f1)
 have a2 := grp9 (cap_le m.f2)
 have a3 := grp9 (n := m.f3.length) (by omega)
 have a4 := grp9 (n := m.f4.length) (by omega)
 unfold noteB
 simp only [List.length_append]
 omega
theorem notesB_len : ∀ {l : List S57}, (∀ m ∈ l, rightM m = true) → (l.flatMap noteB).length ≤ 200 * l.length
 | [], _ => by simp
 | m :: l, h => by
  have h1 := noteB_len (h m (by simp))
  have h2 := notesB_len (l := l) (fun x hx => h x (List.mem_cons_of_mem _ hx))
  simp only [List.flatMap_cons, List.length_append, List.length_cons]
  omega
theorem nums_loop (l : List Int) : ∀ (post pre acc : List Int), l = pre ++ post → acc.length + 9 * post.length + 18 < 140737488355328 → l.length ≤ 1000 → Ev (fun k => edit_nums.l0 k acc l (l.length : Int) (pre.length : Int)) (acc ++ post.flatMap (fun x => grp (cap x)))
 | [], pre, acc, h, _, _ => by
  refine Ev.step (fun k => edit_nums.l0.eq_2 _ _ _ _ _) (Ev.neg (by rw [h]; simp) (Ev.const (by simp)))
 | x :: post, pre, acc, h, hb, hl => by
  have hlen : pre.length < l.length := by rw [h]; simp
  have hx : l[pre.length] = x := by
   have : l[pre.length]? = some x := by rw [h]; exact get_app _ _ _
   rw [List.getElem?_eq_getElem hlen] at this
   exact Option.some.inj this
  have hg := grp9 (cap_le x)
  simp only [List.length_cons] at hb
  have := nums_loop l post (pre ++ [x]) (acc ++ grp (cap x)) (by rw [h]; simp) (by rw [List.length_append]; omega) hl
  rw [List.length_append] at this
  refine Ev.step (fun k => edit_nums.l0.eq_2 _ _ _ _ _) (Ev.pos (by omega) (Ev.pos (by omega) (Ev.pos (by omega) ?_)))
  rw [rd_nat l pre.length hlen, hx, wrapn (by omega)]
  refine Ev.bind (putNum_f acc x (by omega)) ?_
  rw [List.flatMap_cons, ← List.append_assoc]
  exact this
theorem nums_f (acc l : List Int) (hb : acc.length + 9 * l.length + 18 < 140737488355328) (hl : l.length ≤ 1000) : Ev (fun k => edit_nums.f k acc l) (acc ++ l.flatMap (fun x => grp (cap x))) := nums_loop l l [] acc rfl hb hl
theorem noteB_byts {m : S57} (h : MB m) : Byts (noteB m) := by
 unfold noteB
 exact (grp_byts _).append ((grp_byts _).append ((grp_byts _).append ((grp_byts _).append (h.1.append ((grp_byts _).append h.2.1)))))
theorem notesB_byts : ∀ {l : List S57}, (∀ m ∈ l, MB m) → Byts (l.flatMap noteB)
 | [], _ => Byts.nil
 | m :: l, h => by
  rw [List.flatMap_cons]
  exact (noteB_byts (h m (by simp))).append (notesB_byts (fun x hx => h x (List.mem_cons_of_mem _ hx)))
theorem encM_byts (g n s q : Int) {l : List S57} (h : ∀ m ∈ l, MB m) : Byts (encM g n s q l) := by
 unfold encM
 exact (grp_byts _).append ((grp_byts _).append ((grp_byts _).append ((grp_byts _).append ((grp_byts _).append (notesB_byts h)))))
end Go.Proofs.Ythpklhkibcenoaa.Sk
