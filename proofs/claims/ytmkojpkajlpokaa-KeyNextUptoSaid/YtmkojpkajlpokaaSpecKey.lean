/- What the functions on keys compute: less, beginnings, what is next. -/
import Derived.Test.YtmkojpkajlpokaaPx1
import Derived.Test.YtmkojpkajlpokaaPx2
import Derived.Test.YtmkojpkajlpokaaPx7
import Derived.Test.YtmkojpkajlpokaaPx20
import Derived.Test.YtmkojpkajlpokaaPx21
import Derived.Test.YtmkojpkajlpokaaPx22
import Derived.Test.YtmkojpkajlpokaaPx24
import Derived.Test.YtmkojpkajlpokaaSpecB
set_option linter.unusedVariables false
set_option linter.unusedSimpArgs false
namespace Go.Proofs.Ytmkojpkajlpokaa.Sw
open Go.RowKit Go.Proofs.Ytmkojpkajlpokaa.Px Go.Proofs.YtmkojpkajlpokaaW.PrintWords Go.Proofs.YtmkojpkajlpokaaW.PrintLast Go.Proofs.YtmkojpkajlpokaaW.PrintMore

theorem less_f {a b : List Int} (ha : Byts a) (hb : Byts b) : key_Less.f a b = some (less a b) := by
  unfold key_Less.f bytes_Compare.f
  rw [Option.bind_some, compare_less ha hb]
/-- Does a row begin with another one? -/
def has (l p : List Int) : Bool := decide (l.take p.length = p)
theorem has_iff {l p : List Int} : has l p = true ↔ ∃ r, l = p ++ r := by
  unfold has
  rw [decide_eq_true_iff]
  constructor
  · intro h; exact ⟨l.drop p.length, by conv => lhs; rw [← List.take_append_drop p.length l, h]⟩
  · rintro ⟨r, rfl⟩; simp
theorem has_f {a b : List Int} (ha : Byts a) (hb : Byts b) : key_Has.f a b = some (has a b) := by
  unfold key_Has.f bytes_HasPrefix.f bytes_Equal.f has
  by_cases c : (a.length : Int) ≥ (b.length : Int)
  · rw [if_pos c, if_pos (by omega), if_pos (by omega), Int.toNat_natCast, Option.bind_some, Option.bind_some, str_eq (ha.take _) hb]
  · rw [if_neg c, Option.bind_some, decide_eq_false]
    intro h
    have := congrArg List.length h
    rw [List.length_take] at this
    omega
/-- A row without the bytes 255 at its end. -/
def trim : List Int → List Int
  | [] => []
  | c :: l => let t := trim l; if t = [] ∧ c = 255 then [] else c :: t
theorem trim_snoc_255 : ∀ l : List Int, trim (l ++ [255]) = trim l
  | [] => by simp [trim]
  | c :: l => by simp only [List.cons_append, trim, trim_snoc_255 l]
theorem trim_snoc : ∀ (l : List Int) (c : Int), c ≠ 255 → trim (l ++ [c]) = l ++ [c]
  | [], c, h => by simp [trim, h]
  | d :: l, c, h => by simp [trim, trim_snoc l c h]
/-- Its last byte one more. -/
def bump : List Int → List Int
  | [] => []
  | [c] => [c + 1]
  | c :: d :: l => c :: bump (d :: l)
theorem bump_snoc : ∀ (l : List Int) (c : Int), bump (l ++ [c]) = l ++ [c + 1]
  | [], c => rfl
  | [d], c => rfl
  | d :: e :: l, c => by
    have := bump_snoc (e :: l) c
    simp only [List.cons_append] at this ⊢
    rw [bump, this]
def next (l : List Int) : List Int := bump (trim l)
theorem trim_byts : ∀ {l : List Int}, Byts l → Byts (trim l)
  | [], _ => Byts.nil
  | c :: l, h => by
    simp only [trim]
    split
    · exact Byts.nil
    · exact Byts.cons h.head.1 h.head.2 (trim_byts h.tail)
theorem trim_last : ∀ {l : List Int} {m : List Int} {c : Int}, trim l = m ++ [c] → c ≠ 255
  | [], m, c, h => by simp [trim] at h
  | d :: l, m, c, h => by
    simp only [trim] at h
    split at h
    · simp at h
    · rename_i hn
      cases m with
      | nil =>
        simp only [List.nil_append, List.cons.injEq] at h
        exact fun e => hn ⟨h.2, by rw [h.1]; exact e⟩
      | cons e m =>
        simp only [List.cons_append, List.cons.injEq] at h
        exact trim_last h.2
theorem next_byts {l : List Int} (h : Byts l) : Byts (next l) := by
  unfold next
  have ht := trim_byts h
  have hl := @trim_last l
  revert ht hl
  generalize trim l = t
  intro ht hl
  revert t
  refine rev_ind ?_ ?_
  · intro _ _; exact Byts.nil
  · intro m c _ ht hl
    have := hl rfl
    have hc := ht.right.head
    rw [bump_snoc]
    exact ht.left.append (Byts.one (by omega) (by omega))
theorem next_loop : ∀ (l : List Int), Byts l → l.length < 140737488355328 → Ev (fun k => key_Next.l0 k l) (next l) := by
  refine rev_ind ?_ ?_
  · intro _ _
    refine Ev.step (f := fun _ => some []) (fun k => ?_) (Ev.now _)
    simp [key_Next.l0]
  · intro l c ih h hl
    have hc := h.right.head
    rw [List.length_append, List.length_cons, List.length_nil] at hl
    have hL : (l ++ [c]).length = l.length + 1 := by simp
    have e1 : wrap64 (((l ++ [c]).length : Int) - 1) = (l.length : Int) := by
      rw [hL, wrap_in (by omega) (by omega)]
      omega
    have e2 : rd (l ++ [c]) (l.length : Int) = c := by rw [rd_nat _ _ (by simp)]; simp
    by_cases hz : c = 255
    · refine Ev.step (f := fun k => key_Next.l0 k l) (fun k => ?_) ?_
      · simp only [key_Next.l0]
        rw [e1, e2, if_pos (by simp only [List.length_append, List.length_cons, List.length_nil]; omega), if_pos (by omega), if_pos (by simp only [List.length_append, List.length_cons, List.length_nil]; omega), if_pos hz, if_pos (by simp only [List.length_append, List.length_cons, List.length_nil]; omega), Int.toNat_natCast, List.take_left]
      · subst hz
        unfold next
        rw [trim_snoc_255]
        exact ih h.left (by omega)
    · refine Ev.step (f := fun _ => some (next (l ++ [c]))) (fun k => ?_) (Ev.now _)
      simp only [key_Next.l0]
      rw [e1, e2, if_pos (by simp only [List.length_append, List.length_cons, List.length_nil]; omega), if_pos (by omega), if_pos (by simp only [List.length_append, List.length_cons, List.length_nil]; omega), if_neg hz, Int.toNat_natCast]
      unfold next
      rw [trim_snoc _ _ hz, bump_snoc, show (c + 1) % 256 = c + 1 by omega]
      simp
theorem next_f {l : List Int} (h : Byts l) (hl : l.length < 140737488355328) : Ev (fun k => key_Next.f k l) (next l) := by
  unfold key_Next.f
  refine Ev.bindc (a := l) (by unfold slices_Clone_byte_byte.f; rw [if_pos hl]) (next_loop l h hl)
/-- What is not less than a row, and less than what is next to it, begins with it; and the other way round. -/
theorem next_between : ∀ {p k : List Int}, Byts p → Byts k → ((less k p = false ∧ (next p = [] ∨ less k (next p) = true)) ↔ has k p = true) := by
  intro p k hp hk
  have key : ∀ (t s k : List Int), Byts k → (∀ x ∈ s, x = 255) → (∀ m c, t = m ++ [c] → c ≠ 255) → ((less k (t ++ s) = false ∧ (bump t = [] ∨ less k (bump t) = true)) ↔ has k (t ++ s) = true) := by
    intro t
    induction t with
    | nil =>
      intro s
      induction s with
      | nil => intro k _ _ _; simp [bump, less_nil, has]
      | cons a s ih =>
        intro k hk hs _
        have ha := hs a List.mem_cons_self
        subst ha
        simp only [List.nil_append, bump, true_or, and_true]
        have ih' := fun k hk => ih k hk (fun x hx => hs x (List.mem_cons_of_mem _ hx)) (by simp)
        simp only [List.nil_append, bump, true_or, and_true] at ih'
        cases k with
        | nil => simp [less, has]
        | cons c k =>
          have hc := hk.head
          have h1 : less (c :: k) (255 :: s) = false ↔ c = 255 ∧ less k s = false := by
            rw [← Bool.not_eq_true, less_cons, ← Bool.not_eq_true]
            by_cases e : c = 255
            · subst e; simp
            · simp [e]; omega
          rw [h1, ih' k hk.tail]
          simp [has]
    | cons a t ih =>
      intro s k hk hs ht
      cases k with
      | nil => simp [less, has]
      | cons c k =>
        have hc := hk.head
        cases t with
        | nil =>
          have ha : a ≠ 255 := ht [] a rfl
          have h1 : less (c :: k) ([a] ++ s) = false ↔ a < c ∨ c = a ∧ less k s = false := by
            rw [← Bool.not_eq_true, List.cons_append, List.nil_append, less_cons, ← Bool.not_eq_true]
            by_cases e : c = a
            · subst e; simp
            · simp [e]; omega
          have h2 : less (c :: k) (bump [a]) = true ↔ c < a + 1 := by
            simp only [bump]
            rw [less_cons, less_nil]
            simp
          rw [h1, h2]
          simp only [bump, List.cons_ne_nil, false_or, reduceCtorEq]
          have ih' := ih s k hk.tail hs (by simp)
          simp only [List.nil_append, bump, true_or, and_true] at ih'
          have h3 : has (c :: k) ([a] ++ s) = true ↔ c = a ∧ has k s = true := by simp [has]
          rw [h3, ← ih']
          constructor
          · rintro ⟨h | h, h'⟩
            · omega
            · exact h
          · rintro ⟨rfl, h⟩
            exact ⟨.inr ⟨rfl, h⟩, by omega⟩
        | cons b t =>
          have ht' : ∀ m c, b :: t = m ++ [c] → c ≠ 255 := fun m c h => ht (a :: m) c (by rw [h]; rfl)
          have ih' := ih s k hk.tail hs ht'
          have hb : bump (b :: t) ≠ [] := by cases t <;> simp [bump]
          have h1 : less (c :: k) (a :: b :: t ++ s) = false ↔ a < c ∨ c = a ∧ less k (b :: t ++ s) = false := by
            rw [← Bool.not_eq_true, List.cons_append, less_cons, ← Bool.not_eq_true]
            by_cases e : c = a
            · subst e; simp
            · simp [e]; omega
          have h2 : less (c :: k) (bump (a :: b :: t)) = true ↔ c < a ∨ c = a ∧ less k (bump (b :: t)) = true := by
            rw [bump, less_cons]
          have h3 : has (c :: k) (a :: b :: t ++ s) = true ↔ c = a ∧ has k (b :: t ++ s) = true := by simp [has]
          rw [h1, h2, h3, ← ih']
          simp only [hb, false_or, show bump (a :: b :: t) ≠ [] by simp [bump]]
          constructor
          · rintro ⟨h, h'⟩
            rcases h' with h' | ⟨rfl, h'⟩
            · rcases h with h | ⟨h, _⟩ <;> omega
            · rcases h with h | ⟨_, h⟩
              · omega
              · exact ⟨rfl, h, h'⟩
          · rintro ⟨rfl, h, h'⟩
            exact ⟨.inr ⟨rfl, h⟩, .inr ⟨rfl, h'⟩⟩
  have split : ∀ l : List Int, ∃ s, l = trim l ++ s ∧ ∀ x ∈ s, x = 255 := by
    intro l
    induction l with
    | nil => exact ⟨[], rfl, by simp⟩
    | cons c l ih =>
      obtain ⟨s, h1, h2⟩ := ih
      simp only [trim]
      split
      · rename_i h
        refine ⟨c :: l, rfl, ?_⟩
        rw [h.1, List.nil_append] at h1
        intro x hx
        rcases List.mem_cons.1 hx with rfl | hx
        · exact h.2
        · rw [h1] at hx; exact h2 x hx
      · exact ⟨s, by rw [List.cons_append, ← h1], h2⟩
  obtain ⟨s, h1, h2⟩ := split p
  have := key (trim p) s k hk h2 (fun m c h => trim_last h)
  rw [← h1] at this
  exact this
end Go.Proofs.Ytmkojpkajlpokaa.Sw
