/- What the small functions of the skip list and of the document compute. -/
import Derived.Test.YtjlkcidohabcfaaPx4
import Derived.Test.YtjlkcidohabcfaaPx5
import Derived.Test.YtjlkcidohabcfaaPx11
import Derived.Test.YtjlkcidohabcfaaPx13
import Derived.Test.YtjlkcidohabcfaaPx20
import Derived.Test.YtjlkcidohabcfaaPx21
import Derived.Test.YtjlkcidohabcfaaPx22
import Derived.Test.YtjlkcidohabcfaaPx23
import Derived.Test.YtjlkcidohabcfaaPx24
import Derived.Test.YtjlkcidohabcfaaPx25
import Derived.Test.YtjlkcidohabcfaaPx27
import Derived.Test.YtjlkcidohabcfaaPx29
import Derived.Test.YtjlkcidohabcfaaPx42
import Derived.Test.YtjlkcidohabcfaaPx43
import Derived.Test.YtjlkcidohabcfaaCore
set_option linter.unusedVariables false
set_option linter.unusedSimpArgs false
namespace Go.Proofs.Ytjlkcidohabcfaa.Sw
open Go.RowKit Go.Proofs.Ytjlkcidohabcfaa.Px Go.Proofs.YtjlkcidohabcfaaW.PrintWords Go.Proofs.YtjlkcidohabcfaaW.PrintLast Go.Proofs.YtjlkcidohabcfaaW.PrintMore
theorem Ev.none_if {α : Type} {g : Nat → Option α} {c : Prop} [Decidable c] {r : α} (hc : c) (h : Ev g r) : Ev (fun k => if c then g k else none) r := by
  simp only [if_pos hc]; exact h
theorem Ev.pos {α : Type} {g f : Nat → Option α} {c : Prop} [Decidable c] {r : α} (hc : c) (h : Ev g r) : Ev (fun k => if c then g k else f k) r := by
  simp only [if_pos hc]; exact h
theorem Ev.neg {α : Type} {g f : Nat → Option α} {c : Prop} [Decidable c] {r : α} (hc : ¬ c) (h : Ev f r) : Ev (fun k => if c then g k else f k) r := by
  simp only [if_neg hc]; exact h
theorem Ev.bindc {α β : Type} {o : Option α} {f : Nat → α → Option β} {a : α} {r : β} (h : o = some a) (k : Ev (fun n => f n a) r) : Ev (fun n => o.bind (f n)) r := by
  subst h; exact k
theorem Ev.const {α : Type} {o : Option α} {r : α} (h : o = some r) : Ev (fun _ => o) r := ⟨0, fun _ _ => h⟩
theorem less_f {a b : List Int} (ha : Byts a) (hb : Byts b) : key_Less.f a b = some (less a b) := by
  unfold key_Less.f bytes_Compare.f
  rw [Option.bind_some, compare_less ha hb]
theorem refLess_loop (a b : List Int) (hl : a.length ≤ 140737488355328) (d : Nat) : ∀ i : Nat, a.length - i = d → i ≤ a.length → Ev (fun k => sawyerref03_Less.l0 k a b (i : Int)) (less (a.drop i) (b.drop i)) := by
  induction d with
  | zero =>
    intro i hd hi
    have hi : i = a.length := by omega
    subst hi
    refine Ev.step (f := fun k => sawyerref03_Less.j1 k a b (a.length : Int) false) (fun k => ?_) (Ev.step (f := fun _ => some (decide ((a.length : Int) < (b.length : Int)))) (fun k => ?_) (Ev.const ?_))
    · simp only [sawyerref03_Less.l0]; rw [if_neg (by omega)]
    · simp only [sawyerref03_Less.j1]; rw [if_neg (by simp)]
    · rw [List.drop_length]
      by_cases c : a.length < b.length
      · rw [List.drop_eq_getElem_cons c]
        simp [less, c]
      · rw [List.drop_eq_nil_of_le (by omega)]
        simp [less]
        omega
  | succ d ih =>
    intro i hd hi
    have hlt : i < a.length := by omega
    rw [List.drop_eq_getElem_cons hlt]
    by_cases c : i < b.length
    · rw [List.drop_eq_getElem_cons c]
      refine Ev.step (f := fun k => sawyerref03_Less.j1 k a b (i : Int) true) (fun k => ?_) ?_
      · simp only [sawyerref03_Less.l0]; rw [if_pos (by omega), decide_eq_true (by omega)]
      · by_cases e : a[i] = b[i]
        · refine Ev.step (f := fun k => sawyerref03_Less.l0 k a b ((i + 1 : Nat) : Int)) (fun k => ?_) ?_
          · simp only [sawyerref03_Less.j1]
            rw [if_pos trivial, if_pos (by omega), if_pos (by omega), if_pos (by omega), rd_nat a i hlt, rd_nat b i c, if_pos e, wrap_in (by omega) (by omega)]
            rfl
          · have := ih (i + 1) (by omega) (by omega)
            unfold less
            rw [if_neg (by omega), if_neg (by omega)]
            exact this
        · refine Ev.step (f := fun _ => some (decide (a[i] < b[i]))) (fun k => ?_) (Ev.const ?_)
          · simp only [sawyerref03_Less.j1]
            rw [if_pos trivial, if_pos (by omega), if_pos (by omega), if_pos (by omega), rd_nat a i hlt, rd_nat b i c, if_neg e]
          · unfold less
            by_cases e2 : a[i] < b[i]
            · rw [if_pos e2, decide_eq_true e2]
            · rw [if_neg e2, if_pos (by omega), decide_eq_false e2]
    · rw [show b.drop i = [] from List.drop_eq_nil_of_le (by omega)]
      refine Ev.step (f := fun k => sawyerref03_Less.j1 k a b (i : Int) false) (fun k => ?_) (Ev.step (f := fun _ => some (decide ((a.length : Int) < (b.length : Int)))) (fun k => ?_) (Ev.const ?_))
      · simp only [sawyerref03_Less.l0]; rw [if_pos (by omega), decide_eq_false (by omega)]
      · simp only [sawyerref03_Less.j1]; rw [if_neg (by simp)]
      · simp [less]; omega
theorem refLess_f (a b : List Int) (hl : a.length ≤ 140737488355328) : Ev (fun k => sawyerref03_Less.f k a b) (less a b) := by
  unfold sawyerref03_Less.f
  have := refLess_loop a b hl a.length 0 (by omega) (by omega)
  simpa using this
theorem rdE_nat (l : List S34) (i : Nat) (h : i < l.length) : rd_T34 l (i : Int) = l[i] := by
  unfold rd_T34
  rw [List.getD_eq_getElem?_getD]
  simp [h]
def okE (e : S34) : Bool := decide (1 ≤ e.f0.length ∧ e.f0.length ≤ 64 ∧ 0 ≤ e.f1 ∧ e.f1 ≤ 1099511627776 ∧ e.f3.length ≤ 1024 ∧ (e.f2 = true → e.f3.length = 0))
theorem okE_iff {e : S34} : okE e = true ↔ (1 ≤ e.f0.length ∧ e.f0.length ≤ 64 ∧ 0 ≤ e.f1 ∧ e.f1 ≤ 1099511627776 ∧ e.f3.length ≤ 1024 ∧ (e.f2 = true → e.f3.length = 0)) := by
  unfold okE
  exact decide_eq_true_iff
theorem skipCheck_f (e : S34) : skip_Check.f e.f0 e.f1 e.f2 e.f3 = some (if okE e = true then 0 else 1) := by
  unfold skip_Check.f
  by_cases h : okE e = true
  · have h2 := okE_iff.1 h
    obtain ⟨h3, h4, h5, h6, h7, h8⟩ := h2
    rw [if_pos h, if_pos (by omega), if_pos (by omega), if_pos (by omega), if_pos (by omega), if_pos (by omega)]
    by_cases g : e.f2 = true
    · rw [if_pos g, if_neg (by have := h8 g; omega)]
    · rw [if_neg g]
  · rw [if_neg h]
    have h2 : ¬ _ := fun x => h (okE_iff.2 x)
    repeat' split
    all_goals first
      | rfl
      | (exfalso; apply h2; refine ⟨by omega, by omega, by omega, by omega, by omega, fun g => ?_⟩; first | omega | (exfalso; simp_all))
theorem refCheck_f (e : S34) : sawyerref06_Check.f e.f0 e.f1 e.f2 e.f3 = some (if okE e = true then 0 else 1) := by
  unfold sawyerref06_Check.f
  by_cases h : okE e = true
  · have h2 := okE_iff.1 h
    obtain ⟨h3, h4, h5, h6, h7, h8⟩ := h2
    rw [if_pos h, if_neg (by omega), if_neg (by omega), if_neg (by omega), if_neg (by omega), if_neg (by omega)]
    by_cases g : e.f2 = true
    · rw [if_pos g, if_neg (by have := h8 g; omega)]
    · rw [if_neg g]
  · rw [if_neg h]
    have h2 : ¬ _ := fun x => h (okE_iff.2 x)
    repeat' split
    all_goals first
      | rfl
      | (exfalso; apply h2; refine ⟨by omega, by omega, by omega, by omega, by omega, fun g => ?_⟩; first | omega | (exfalso; simp_all))
def ahe (a b : S34) : Bool := less a.f0 b.f0 || (decide (a.f0 = b.f0) && decide (a.f1 > b.f1))
theorem refAhead_f {a b : S34} (ha : Byts a.f0) (hb : Byts b.f0) (hl : a.f0.length ≤ 140737488355328) : Ev (fun k => sawyerref06_Ahead.f k a.f0 a.f1 a.f2 a.f3 b.f0 b.f1 b.f2 b.f3) (ahe a b) := by
  unfold sawyerref06_Ahead.f ahe
  have hs := str_eq ha hb
  by_cases h : a.f0 = b.f0
  · refine Ev.pos (by rw [h]) (Ev.const ?_)
    simp [h, less_irrefl]
  · refine Ev.neg ?_ (Ev.bind (refLess_f a.f0 b.f0 hl) (Ev.const ?_))
    · intro h2
      rw [h2] at hs
      simp [h] at hs
    · simp [h]
def Good (e : S34) : Prop := Byts e.f0 ∧ Byts e.f3
theorem ev_one {α : Type} {g : Nat → Option α} {a b : α} (h : Ev g a) (k : Ev g b) : a = b := by
  obtain ⟨K, h⟩ := h
  obtain ⟨K', k⟩ := k
  have h1 := h (max K K') (by omega)
  rw [k (max K K') (by omega)] at h1
  exact (Option.some.inj h1).symm
theorem sameOne_f {a b : S34} (ha : Good a) (hb : Good b) : sawyerref06_SameOne.f a.f0 a.f1 a.f2 a.f3 b.f0 b.f1 b.f2 b.f3 = some (decide (a.f0 = b.f0 ∧ a.f1 = b.f1 ∧ a.f2 = b.f2 ∧ a.f3 = b.f3)) := by
  unfold sawyerref06_SameOne.f
  have h0 := str_eq ha.1 hb.1
  have h3 := str_eq ha.2 hb.2
  by_cases c0 : a.f0 = b.f0
  · rw [if_pos (by rw [c0])]
    by_cases c1 : a.f1 = b.f1
    · rw [if_pos c1]
      by_cases c2 : a.f2 = b.f2
      · rw [if_pos (by simp [c2]), h3]
        simp [c0, c1, c2]
      · rw [if_neg (by simpa using c2)]
        simp [c2]
    · rw [if_neg c1]
      simp [c1]
  · rw [if_neg (fun h => by rw [h] at h0; simp [c0] at h0)]
    simp [c0]
theorem same_loop (l : List S34) (hg : ∀ e ∈ l, Good e) (hl : l.length ≤ 140737488355328) (d : Nat) : ∀ i : Nat, l.length - i = d → i ≤ l.length → Ev (fun k => sawyerref06_Same.l0 k l l (i : Int)) true := by
  induction d with
  | zero =>
    intro i hd hi
    exact Ev.step (fun k => sawyerref06_Same.l0.eq_2 _ _ _ _) (Ev.neg (by omega) (Ev.const rfl))
  | succ d ih =>
    intro i hd hi
    have hlt : i < l.length := by omega
    have hm := hg _ (List.getElem_mem hlt)
    refine Ev.step (fun k => sawyerref06_Same.l0.eq_2 _ _ _ _) (Ev.pos (by omega) (Ev.pos (by omega) (Ev.pos (by omega) ?_)))
    rw [rdE_nat l i hlt]
    refine Ev.bindc (sameOne_f hm hm) (Ev.pos (by simp) ?_)
    rw [wrap_in (by omega) (by omega)]
    exact ih (i + 1) (by omega) (by omega)
theorem same_self {l : List S34} (hg : ∀ e ∈ l, Good e) (hl : l.length ≤ 140737488355328) : Ev (fun k => sawyerref06_Same.f k l l) true := by
  unfold sawyerref06_Same.f
  exact Ev.pos rfl (same_loop l hg hl l.length 0 (by omega) (by omega))
theorem equal_f {a b : List Int} (ha : Byts a) (hb : Byts b) : bytes_Equal.f a b = some (decide (a = b)) := by
  unfold bytes_Equal.f
  rw [str_eq ha hb]
theorem clone_f {l : List Int} (h : l.length ≤ 140737488351232) : slices_Clone_byte_byte.f l = some l := by
  unfold slices_Clone_byte_byte.f
  rw [if_pos (by omega)]
theorem copied_f {e : S34} (h : e.f0.length ≤ 140737488351232) (h3 : e.f3.length ≤ 140737488351232) : skip_copied.f e.f0 e.f1 e.f2 e.f3 = some (e.f0, e.f1, e.f2, e.f3) := by
  unfold skip_copied.f
  rw [clone_f h, Option.bind_some, clone_f h3, Option.bind_some]
theorem copy_f {e : S34} (h : e.f0.length ≤ 140737488351232) (h3 : e.f3.length ≤ 140737488351232) : sawyerref06_Copy.f e.f0 e.f1 e.f2 e.f3 = some (e.f0, e.f1, e.f2, e.f3) := by
  unfold sawyerref06_Copy.f
  rw [Option.bind_some, if_pos (by simp; omega), Option.bind_some, if_pos (by simp; omega)]
  simp
end Go.Proofs.Ytjlkcidohabcfaa.Sw
