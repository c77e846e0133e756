/- What the statement BlockFinds needs: our texts Core, SpecA, SpecB, SpecU, SpecTake, SpecText, SpecCrc, SpecKey, SpecKeyR, SpecBlk, SpecBld, SpecPar, SpecRun, PureBlockFinds as one. -/
import Derived.Test.YtkebeiillddboaaVWGuardMoreInvWordsC
import Derived.Lib.Bytealg
import Derived.Lib.Bytes
import Derived.KernelRfl
import Derived.Test.YtkebeiillddboaaPx0
import Derived.Test.YtkebeiillddboaaPx7
import Derived.Test.YtkebeiillddboaaPx19
import Derived.Test.YtkebeiillddboaaPx36
import Derived.Test.YtkebeiillddboaaPx41
import Derived.Test.YtkebeiillddboaaPx42
import Derived.Test.YtkebeiillddboaaPx43
import Derived.Test.YtkebeiillddboaaPx44
set_option linter.unusedVariables false
set_option linter.unusedSimpArgs false
namespace Go.Proofs.Ytkebeiillddboaa.Sw
open Go.RowKit Go.Proofs.YtkebeiillddboaaW.PrintWords Go.Proofs.YtkebeiillddboaaW.PrintMore

def Byts (l : List Int) : Prop := ∀ x ∈ l, 0 ≤ x ∧ x < 256
theorem Byts.nil : Byts [] := fun x hx => by cases hx
theorem Byts.cons {a : Int} {l : List Int} (h0 : 0 ≤ a) (h1 : a < 256) (h : Byts l) : Byts (a :: l) := by
  intro x hx
  rcases List.mem_cons.1 hx with rfl | hx
  · exact ⟨h0, h1⟩
  · exact h x hx
theorem Byts.head {a : Int} {l : List Int} (h : Byts (a :: l)) : 0 ≤ a ∧ a < 256 := h a List.mem_cons_self
theorem Byts.tail {a : Int} {l : List Int} (h : Byts (a :: l)) : Byts l := fun x hx => h x (List.mem_cons_of_mem _ hx)
theorem Byts.one {a : Int} (h0 : 0 ≤ a) (h1 : a < 256) : Byts [a] := Byts.cons h0 h1 Byts.nil
theorem byts_of_wf {l : List Int} (h : ∀ x ∈ l, (Lit.int .u8 x).wf = true) : Byts l := by
  intro x hx
  have := h x hx
  simp only [Lit.wf, IntKind.min, IntKind.max, IntKind.signed, IntKind.bits, Bool.and_eq_true, decide_eq_true_eq] at this
  simp at this
  omega
theorem u8_eq {a b : Int} (ha : 0 ≤ a ∧ a < 256) (hb : 0 ≤ b ∧ b < 256) : (UInt8.ofNat a.toNat = UInt8.ofNat b.toNat) ↔ a = b := by
  rw [← UInt8.toNat_inj]
  simp only [UInt8.toNat_ofNat']
  omega
theorem bytesOf_cons (a : Int) (l : List Int) : Lib.bytesOf (a :: l) = UInt8.ofNat a.toNat :: Lib.bytesOf l := rfl
theorem bytesOf_inj : ∀ {a b : List Int}, Byts a → Byts b → (Lib.bytesOf a = Lib.bytesOf b ↔ a = b)
  | [], [], _, _ => by simp
  | [], _ :: _, _, _ => by simp [Lib.bytesOf]
  | _ :: _, [], _, _ => by simp [Lib.bytesOf]
  | a :: x, b :: y, ha, hb => by
    have ih := bytesOf_inj ha.tail hb.tail
    have h3 := u8_eq ha.head hb.head
    rw [bytesOf_cons, bytesOf_cons, List.cons.injEq, List.cons.injEq, h3, ih]
theorem str_eq {a b : List Int} (ha : Byts a) (hb : Byts b) : ((strOfNums a).toList == (strOfNums b).toList) = decide (a = b) := by
  rw [Lib.strOfNums_toList, Lib.strOfNums_toList]
  by_cases c : a = b
  · subst c; simp
  · rw [decide_eq_false c, beq_eq_false_iff_ne]
    exact fun h => c ((bytesOf_inj ha hb).1 h)
theorem wrap_in {n : Int} (h0 : -9223372036854775808 ≤ n) (h1 : n ≤ 9223372036854775807) : wrap64 n = n := by unfold wrap64; omega
end Go.Proofs.Ytkebeiillddboaa.Sw

set_option linter.unusedVariables false
set_option linter.unusedSimpArgs false
namespace Go.Proofs.Ytkebeiillddboaa.Sw
open Go.RowKit Go.Proofs.Ytkebeiillddboaa.Px Go.Proofs.YtkebeiillddboaaW.PrintWords Go.Proofs.YtkebeiillddboaaW.PrintLast Go.Proofs.YtkebeiillddboaaW.PrintMore

theorem Ev.pos {α : Type} {g f : Nat → Option α} {c : Prop} [Decidable c] {r : α} (hc : c) (h : Ev g r) : Ev (fun k => if c then g k else f k) r := by
  simp only [if_pos hc]; exact h
theorem Ev.neg {α : Type} {g f : Nat → Option α} {c : Prop} [Decidable c] {r : α} (hc : ¬ c) (h : Ev f r) : Ev (fun k => if c then g k else f k) r := by
  simp only [if_neg hc]; exact h
theorem Ev.bindc {α β : Type} {o : Option α} {f : Nat → α → Option β} {a : α} {r : β} (h : o = some a) (k : Ev (fun n => f n a) r) : Ev (fun n => o.bind (f n)) r := by
  subst h; exact k
theorem Ev.const {α : Type} {o : Option α} {r : α} (h : o = some r) : Ev (fun _ => o) r := ⟨0, fun _ _ => h⟩

end Go.Proofs.Ytkebeiillddboaa.Sw

set_option linter.unusedVariables false
set_option linter.unusedSimpArgs false
namespace Go.Proofs.Ytkebeiillddboaa.Sw
open Go.RowKit Go.Proofs.Ytkebeiillddboaa.Px Go.Proofs.YtkebeiillddboaaW.PrintWords Go.Proofs.YtkebeiillddboaaW.PrintLast Go.Proofs.YtkebeiillddboaaW.PrintMore

end Go.Proofs.Ytkebeiillddboaa.Sw


set_option linter.unusedVariables false
set_option linter.unusedSimpArgs false
namespace Go.Proofs.Ytkebeiillddboaa.Sw
open Go.RowKit Go.Proofs.Ytkebeiillddboaa.Px Go.Proofs.YtkebeiillddboaaW.PrintWords Go.Proofs.YtkebeiillddboaaW.PrintLast Go.Proofs.YtkebeiillddboaaW.PrintMore

end Go.Proofs.Ytkebeiillddboaa.Sw

set_option linter.unusedVariables false
set_option linter.unusedSimpArgs false
namespace Go.Proofs.Ytkebeiillddboaa.Sw
open Go.RowKit Go.Proofs.Ytkebeiillddboaa.Px Go.Proofs.YtkebeiillddboaaW.PrintWords Go.Proofs.YtkebeiillddboaaW.PrintLast Go.Proofs.YtkebeiillddboaaW.PrintMore

end Go.Proofs.Ytkebeiillddboaa.Sw

set_option linter.unusedVariables false
set_option linter.unusedSimpArgs false
namespace Go.Proofs.Ytkebeiillddboaa.Sw
open Go.RowKit Go.Proofs.Ytkebeiillddboaa.Px Go.Proofs.YtkebeiillddboaaW.PrintWords Go.Proofs.YtkebeiillddboaaW.PrintLast Go.Proofs.YtkebeiillddboaaW.PrintMore

end Go.Proofs.Ytkebeiillddboaa.Sw

set_option linter.unusedVariables false
set_option linter.unusedSimpArgs false
namespace Go.Proofs.Ytkebeiillddboaa.Sw
open Go.RowKit Go.Proofs.Ytkebeiillddboaa.Px Go.Proofs.YtkebeiillddboaaW.PrintWords Go.Proofs.YtkebeiillddboaaW.PrintLast Go.Proofs.YtkebeiillddboaaW.PrintMore

end Go.Proofs.Ytkebeiillddboaa.Sw

set_option linter.unusedVariables false
set_option linter.unusedSimpArgs false
namespace Go.Proofs.Ytkebeiillddboaa.Sw
open Go.RowKit Go.Proofs.Ytkebeiillddboaa.Px Go.Proofs.YtkebeiillddboaaW.PrintWords Go.Proofs.YtkebeiillddboaaW.PrintLast Go.Proofs.YtkebeiillddboaaW.PrintMore

def trim : List Int → List Int
  | [] => []
  | c :: l => let t := trim l; if t = [] ∧ c = 255 then [] else c :: t
def bump : List Int → List Int
  | [] => []
  | [c] => [c + 1]
  | c :: d :: l => c :: bump (d :: l)
def next (l : List Int) : List Int := bump (trim l)
end Go.Proofs.Ytkebeiillddboaa.Sw

set_option linter.unusedVariables false
set_option linter.unusedSimpArgs false
namespace Go.Proofs.Ytkebeiillddboaa.Sw
open Go.RowKit Go.Proofs.Ytkebeiillddboaa.Px Go.Proofs.YtkebeiillddboaaW.PrintWords Go.Proofs.YtkebeiillddboaaW.PrintLast Go.Proofs.YtkebeiillddboaaW.PrintMore

end Go.Proofs.Ytkebeiillddboaa.Sw

set_option linter.unusedVariables false
set_option linter.unusedSimpArgs false
namespace Go.Proofs.Ytkebeiillddboaa.Sw
open Go.RowKit Go.Proofs.Ytkebeiillddboaa.Px Go.Proofs.YtkebeiillddboaaW.PrintWords Go.Proofs.YtkebeiillddboaaW.PrintLast Go.Proofs.YtkebeiillddboaaW.PrintMore

theorem rdE_nat (l : List S38) (i : Nat) (h : i < l.length) : rd_T38 l (i : Int) = l[i] := by
  unfold rd_T38
  rw [List.getD_eq_getElem?_getD]
  simp [h]
end Go.Proofs.Ytkebeiillddboaa.Sw

set_option linter.unusedVariables false
set_option linter.unusedSimpArgs false
namespace Go.Proofs.Ytkebeiillddboaa.Sw
open Go.RowKit Go.Proofs.Ytkebeiillddboaa.Px Go.Proofs.YtkebeiillddboaaW.PrintWords Go.Proofs.YtkebeiillddboaaW.PrintLast Go.Proofs.YtkebeiillddboaaW.PrintMore

def Good (e : S38) : Prop := Byts e.f0 ∧ Byts e.f3
theorem good_of_wf {l : List S38} (hw : ∀ e ∈ l, (∀ b ∈ e.f0, (Lit.int .u8 b).wf = true) ∧ (Lit.int .i64 e.f1).wf = true ∧ ∀ b ∈ e.f3, (Lit.int .u8 b).wf = true) : ∀ e ∈ l, Good e :=
  fun e he => ⟨byts_of_wf (hw e he).1, byts_of_wf (hw e he).2.2⟩
end Go.Proofs.Ytkebeiillddboaa.Sw

set_option linter.unusedVariables false
set_option linter.unusedSimpArgs false
namespace Go.Proofs.Ytkebeiillddboaa.Sw
open Go.RowKit Go.Proofs.Ytkebeiillddboaa.Px Go.Proofs.YtkebeiillddboaaW.PrintWords Go.Proofs.YtkebeiillddboaaW.PrintLast Go.Proofs.YtkebeiillddboaaW.PrintMore

end Go.Proofs.Ytkebeiillddboaa.Sw

set_option linter.unusedVariables false
set_option linter.unusedSimpArgs false
namespace Go.Proofs.Ytkebeiillddboaa.Sw
open Go.RowKit Go.Proofs.Ytkebeiillddboaa.Px Go.Proofs.YtkebeiillddboaaW.PrintWords Go.Proofs.YtkebeiillddboaaW.PrintLast Go.Proofs.YtkebeiillddboaaW.PrintMore

theorem sameOne_f {a b : S38} (ha : Good a) (hb : Good b) : sawyerref06_SameOne.f a.f0 a.f1 a.f2 a.f3 b.f0 b.f1 b.f2 b.f3 = some (decide (a.f0 = b.f0 ∧ a.f1 = b.f1 ∧ a.f2 = b.f2 ∧ a.f3 = b.f3)) := by
  unfold sawyerref06_SameOne.f
  have h0 := str_eq ha.1 hb.1
  have h3 := str_eq ha.2 hb.2
  by_cases c0 : a.f0 = b.f0
  · rw [if_pos (by rw [c0])]
    by_cases c1 : a.f1 = b.f1
    · rw [if_pos c1]
      by_cases c2 : a.f2 = b.f2
      · rw [if_pos (by simp [c2]), h3]
        simp [c0, c1, c2]
      · rw [if_neg (by simpa using c2)]
        simp [c2]
    · rw [if_neg c1]
      simp [c1]
  · rw [if_neg (fun h => by rw [h] at h0; simp [c0] at h0)]
    simp [c0]
end Go.Proofs.Ytkebeiillddboaa.Sw

set_option linter.unusedVariables false
namespace Go.Proofs.Ytkebeiillddboaa.Pure
open Go.RowKit Go.Proofs.Ytkebeiillddboaa.Px Go.Proofs.Ytkebeiillddboaa.Sw Go.Proofs.YtkebeiillddboaaW.PrintWords Go.Proofs.YtkebeiillddboaaW.PrintLast
theorem awake_f : Ev (fun k => sawyerlaw08_awake.f k) true := Ev.of sawyerlaw08_awake.mono (k := 400) (by kernel_rfl)
theorem find_both (l : List S38) (kk : List Int) (sq : Int) (hl : l.length ≤ 9223372036854775807) (hz : ∀ e ∈ l, e.f0.length ≤ 140737488351232 ∧ e.f3.length ≤ 140737488351232) (d : Nat) : ∀ i : Nat, l.length - i = d → i ≤ l.length →
    ∃ j : Int, Ev (fun k => block_Find.l0 k l kk sq (i : Int)) j ∧ ((j = -1 ∧ Ev (fun k => sawyerref06_Version.l0 k l kk sq (i : Int)) ([], 0, false, [], false)) ∨ ∃ (n : Nat) (h : n < l.length), j = (n : Int) ∧ Ev (fun k => sawyerref06_Version.l0 k l kk sq (i : Int)) (l[n].f0, l[n].f1, l[n].f2, l[n].f3, true)) := by
  induction d with
  | zero =>
    intro i hd hi
    exact ⟨-1, Ev.step (fun k => block_Find.l0.eq_2 _ _ _ _ _) (Ev.neg (by omega) (Ev.const rfl)), .inl ⟨rfl, Ev.step (fun k => sawyerref06_Version.l0.eq_2 _ _ _ _ _) (Ev.neg (by omega) (Ev.const rfl))⟩⟩
  | succ d ih =>
    intro i hd hi
    have hlt : i < l.length := by omega
    have hzi := hz _ (List.getElem_mem hlt)
    have next : ∀ (c : ¬ ((strOfNums l[i].f0).toList = (strOfNums kk).toList ∧ l[i].f1 ≤ sq)), ∃ j : Int, Ev (fun k => block_Find.l0 k l kk sq (i : Int)) j ∧ ((j = -1 ∧ Ev (fun k => sawyerref06_Version.l0 k l kk sq (i : Int)) ([], 0, false, [], false)) ∨ ∃ (n : Nat) (h : n < l.length), j = (n : Int) ∧ Ev (fun k => sawyerref06_Version.l0 k l kk sq (i : Int)) (l[n].f0, l[n].f1, l[n].f2, l[n].f3, true)) := by
      intro c
      obtain ⟨j, h1, h2⟩ := ih (i + 1) (by omega) (by omega)
      have f1 : Ev (fun k => block_Find.l0 k l kk sq (i : Int)) j := by
        refine Ev.step (fun k => block_Find.l0.eq_2 _ _ _ _ _) (Ev.pos (by omega) (Ev.pos (by omega) (Ev.neg ?_ ?_)))
        · rw [rdE_nat l i hlt]
          unfold block_Find.hit
          by_cases g : (strOfNums l[i].f0).toList = (strOfNums kk).toList
          · rw [if_pos (by rw [g]; simp)]
            simp only [decide_eq_true_eq]
            exact fun z => c ⟨g, z⟩
          · rw [if_neg (by simpa using g)]
            simp
        · rw [wrap_in (by omega) (by omega)]
          exact h1
      have f2 : ∀ r, Ev (fun k => sawyerref06_Version.l0 k l kk sq ((i + 1 : Nat) : Int)) r → Ev (fun k => sawyerref06_Version.l0 k l kk sq (i : Int)) r := by
        intro r hr
        refine Ev.step (fun k => sawyerref06_Version.l0.eq_2 _ _ _ _ _) (Ev.pos (by omega) (Ev.pos (by omega) ?_))
        rw [rdE_nat l i hlt, wrap_in (by omega) (by omega)]
        by_cases g : (strOfNums l[i].f0).toList = (strOfNums kk).toList
        · exact Ev.pos g (Ev.neg (fun z => c ⟨g, z⟩) hr)
        · exact Ev.neg g hr
      refine ⟨j, f1, ?_⟩
      rcases h2 with ⟨h3, h4⟩ | ⟨n, h, h3, h4⟩
      · exact .inl ⟨h3, f2 _ h4⟩
      · exact .inr ⟨n, h, h3, f2 _ h4⟩
    by_cases c : (strOfNums l[i].f0).toList = (strOfNums kk).toList ∧ l[i].f1 ≤ sq
    · refine ⟨(i : Int), ?_, .inr ⟨i, hlt, rfl, ?_⟩⟩
      · refine Ev.step (fun k => block_Find.l0.eq_2 _ _ _ _ _) (Ev.pos (by omega) (Ev.pos (by omega) (Ev.pos ?_ (Ev.const rfl))))
        rw [rdE_nat l i hlt]
        unfold block_Find.hit
        rw [if_pos (by rw [c.1]; simp)]
        simpa using c.2
      · refine Ev.step (fun k => sawyerref06_Version.l0.eq_2 _ _ _ _ _) (Ev.pos (by omega) (Ev.pos (by omega) ?_))
        rw [rdE_nat l i hlt]
        refine Ev.pos c.1 (Ev.pos c.2 (Ev.bindc (a := (l[i].f0, l[i].f1, l[i].f2, l[i].f3)) ?_ (Ev.const rfl)))
        unfold sawyerref06_Copy.f
        rw [Option.bind_some, if_pos (by simp; omega), Option.bind_some, if_pos (by simp; omega)]
        simp
    · exact next c
theorem BlockFinds (l : List S38) (kk : List Int) (sq : Int) (hw : ∀ e ∈ l, (∀ b ∈ e.f0, (Lit.int .u8 b).wf = true) ∧ (Lit.int .i64 e.f1).wf = true ∧ ∀ b ∈ e.f3, (Lit.int .u8 b).wf = true) (w1 : ∀ x ∈ kk, (Lit.int .u8 x).wf = true) (w2 : (Lit.int .i64 sq).wf = true) (hl : l.length ≤ 9223372036854775807) (hz : ∀ e ∈ l, e.f0.length ≤ 140737488351232 ∧ e.f3.length ≤ 140737488351232) (y1 : kk.length ≤ 140737488351232) : ∃ k, sawyerlaw08_BlockFinds.f k l kk sq = some true := by
  have hg := good_of_wf hw
  obtain ⟨j, h1, h2⟩ := find_both l kk sq hl hz l.length 0 (by omega) (by omega)
  refine Ev.rounds (r := true) ?_
  unfold sawyerlaw08_BlockFinds.f
  rcases h2 with ⟨h3, h4⟩ | ⟨n, h, h3, h4⟩
  · have f1 : Ev (fun k => block_Find.f k l kk sq) ([], 0, false, [], false) := by
      unfold block_Find.f
      exact Ev.bind h1 (Ev.pos (by omega) (Ev.const rfl))
    refine Ev.bind awake_f (Ev.bind f1 (Ev.bind (show Ev (fun k => sawyerref06_Version.f k l kk sq) _ from h4) (Ev.pos rfl (Ev.pos rfl ?_))))
    exact Ev.bindc (a := true) (by unfold sawyerref06_SameOne.f; simp) (Ev.const rfl)
  · have hm := List.getElem_mem h
    have hzn := hz _ hm
    have hgn := hg _ hm
    have f1 : Ev (fun k => block_Find.f k l kk sq) (l[n].f0, l[n].f1, l[n].f2, l[n].f3, true) := by
      unfold block_Find.f
      subst h3
      refine Ev.bind h1 (Ev.neg (by omega) (Ev.pos (by omega) ?_))
      rw [rdE_nat l n h]
      refine Ev.const ?_
      unfold slices_Clone_byte_byte.f
      rw [if_pos (by omega), Option.bind_some, if_pos (by omega), Option.bind_some]
    refine Ev.bind awake_f (Ev.bind f1 (Ev.bind (show Ev (fun k => sawyerref06_Version.f k l kk sq) _ from h4) (Ev.pos rfl (Ev.pos rfl ?_))))
    exact Ev.bindc (a := true) (by rw [sameOne_f hgn hgn]; simp) (Ev.const rfl)
end Go.Proofs.Ytkebeiillddboaa.Pure
