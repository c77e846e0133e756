/- Sorting in plain lists: what the pieces of a stable sort leave. Conditions: those of each theorem. -/
import Derived.Below
set_option linter.unusedVariables false
set_option linter.unusedSimpArgs false
namespace Go.Proofs.Ytobjkjmmkbhecaa.Sk
section
variable {α : Type}
/-- The order that a comparing function tells, among what is so. -/
structure POrd (G : α → Prop) (q : α → α → Int) : Prop where
 tr : ∀ a b c, G a → G b → G c → ¬ q b a < 0 → ¬ q c b < 0 → ¬ q c a < 0
 as : ∀ a b, G a → G b → q a b < 0 → ¬ q b a < 0
def Srt (q : α → α → Int) (l : List α) : Prop := l.Pairwise (fun a b => ¬ q b a < 0)
theorem get_app (P S : List α) (x : α) : (P ++ x :: S)[P.length]? = some x := by simp
theorem get_app' {P S : List α} {x : α} {n : Nat} (h : n = P.length) : (P ++ x :: S)[n]? = some x := by subst h; simp
theorem set_app {P S : List α} {x : α} {n : Nat} (y : α) (h : n = P.length) : (P ++ x :: S).set n y = P ++ y :: S := by subst h; simp
theorem swap_app {P M S : List α} {x y : α} {i j : Nat} (hi : i = P.length) (hj : j = P.length + 1 + M.length) : ((P ++ x :: (M ++ y :: S)).set i y).set j x = P ++ y :: (M ++ x :: S) := by
 rw [set_app y hi]
 have e : P ++ y :: (M ++ y :: S) = (P ++ y :: M) ++ y :: S := by simp
 rw [e, set_app x (by simp only [List.length_append, List.length_cons]; omega)]
 simp
theorem swap_app' {P M S : List α} {x y : α} {i j : Nat} (hi : i = P.length) (hj : j = P.length + 1 + M.length) : ((P ++ x :: (M ++ y :: S)).set j x).set i y = P ++ y :: (M ++ x :: S) := by
 have e : P ++ x :: (M ++ y :: S) = (P ++ x :: M) ++ y :: S := by simp
 rw [e, set_app x (by simp only [List.length_append, List.length_cons]; omega)]
 have e2 : (P ++ x :: M) ++ x :: S = P ++ x :: (M ++ x :: S) := by simp
 rw [e2, set_app y hi]
variable {G : α → Prop} {q : α → α → Int}
theorem Srt.append_iff {A B : List α} : Srt q (A ++ B) ↔ Srt q A ∧ Srt q B ∧ ∀ a ∈ A, ∀ b ∈ B, ¬ q b a < 0 := List.pairwise_append
theorem Srt.cons_iff {a : α} {B : List α} : Srt q (a :: B) ↔ (∀ b ∈ B, ¬ q b a < 0) ∧ Srt q B := List.pairwise_cons
theorem Srt.nil : Srt q ([] : List α) := List.Pairwise.nil
theorem Srt.single (a : α) : Srt q [a] := List.pairwise_singleton _ _
/-- What is in order up to the last is in order throughout. -/
theorem Srt.last_le (h : POrd G q) {A : List α} {a x : α} (hs : Srt q (A ++ [a])) (hG : ∀ z ∈ A ++ [a], G z) (hx : G x) (hl : ¬ q x a < 0) : ∀ z ∈ A ++ [a], ¬ q x z < 0 := by
 intro z hz
 rcases List.mem_append.1 hz with hz' | hz'
 ·
  exact h.tr z a x (hG z hz) (hG a (by simp)) hx ((Srt.append_iff.1 hs).2.2 z hz' a (by simp)) hl
 ·
  rw [List.mem_singleton.1 hz']; exact hl
theorem Srt.first_le (h : POrd G q) {B : List α} {b x : α} (hs : Srt q (b :: B)) (hG : ∀ z ∈ b :: B, G z) (hx : G x) (hl : ¬ q b x < 0) : ∀ z ∈ b :: B, ¬ q z x < 0 := by
 intro z hz
 rcases List.mem_cons.1 hz with hz' | hz'
 ·
  rw [hz']; exact hl
 ·
  exact h.tr x b z hx (hG b (by simp)) (hG z hz) hl ((Srt.cons_iff.1 hs).1 z hz')
theorem POrd.refl (h : POrd G q) {a : α} (ha : G a) : ¬ q a a < 0 := fun hh => h.as a a ha ha hh hh
/-- x between U and V. -/
theorem Srt.insert (h : POrd G q) {U V : List α} {x : α} (hs : Srt q (U ++ V)) (hu : ∀ u ∈ U, ¬ q x u < 0) (hv : ∀ v ∈ V, ¬ q v x < 0) : Srt q (U ++ x :: V) := by
 obtain ⟨h1, h2, h3⟩ := Srt.append_iff.1 hs
 refine Srt.append_iff.2 ⟨h1, Srt.cons_iff.2 ⟨hv, h2⟩, fun a ha b hb => ?_⟩
 rcases List.mem_cons.1 hb with hb' | hb'
 ·
  rw [hb']; exact hu a ha
 ·
  exact h3 a ha b hb'
/-- Where a list ends at the left: nothing, or a last one. -/
theorem ends (A : List α) : A = [] ∨ ∃ A' a, A = A' ++ [a] := by
 rcases List.eq_nil_or_concat A with h | ⟨A', a, h⟩
 ·
  exact .inl h
 ·
  exact .inr ⟨A', a, by rw [h, List.concat_eq_append]⟩
theorem lt_of_last (h : POrd G q) {B : List α} {b x : α} (hs : Srt q (B ++ [b])) (hG : ∀ z ∈ B ++ [b], G z) (hx : G x) (hl : q b x < 0) : ∀ z ∈ B ++ [b], ¬ q x z < 0 :=
 Srt.last_le h hs hG hx (h.as b x (hG b (by simp)) hx hl)
theorem lt_of_first (h : POrd G q) {B : List α} {b x : α} (hs : Srt q (b :: B)) (hG : ∀ z ∈ b :: B, G z) (hx : G x) (hl : q x b < 0) : ∀ z ∈ b :: B, ¬ q z x < 0 :=
 Srt.first_le h hs hG hx (h.as x b hx (hG b (by simp)) hl)
/-- Two halves of two lists in order, cut where they fit: what goes first is no greater than what goes last. -/
theorem halves (h : POrd G q) {A1 A2 B1 B2 : List α} (hA : Srt q (A1 ++ A2)) (hB : Srt q (B1 ++ B2)) (hGA : ∀ z ∈ A1 ++ A2, G z) (hGB : ∀ z ∈ B1 ++ B2, G z)
  (h1 : ∀ A' a b B', A1 = A' ++ [a] → B2 = b :: B' → ¬ q b a < 0) (h2 : ∀ B' b a A', B1 = B' ++ [b] → A2 = a :: A' → q b a < 0) :
  ∀ x ∈ A1 ++ B1, ∀ y ∈ A2 ++ B2, ¬ q y x < 0 := by
 obtain ⟨a1, a2, a3⟩ := Srt.append_iff.1 hA
 obtain ⟨b1, b2, b3⟩ := Srt.append_iff.1 hB
 intro x hx y hy
 rcases List.mem_append.1 hx with hx | hx <;> rcases List.mem_append.1 hy with hy | hy
 ·
  exact a3 x hx y hy
 ·
  rcases ends A1 with e | ⟨A', a, rfl⟩
  ·
   rw [e] at hx; cases hx
  cases B2 with
  | nil => cases hy
  | cons b B' =>
   have hl := h1 A' a b B' rfl rfl
   have ga : ∀ z ∈ A' ++ [a], G z := fun z hz => hGA z (List.mem_append_left _ hz)
   have gb : ∀ z ∈ b :: B', G z := fun z hz => hGB z (List.mem_append_right _ hz)
   have hb := Srt.last_le h a1 ga (gb b (by simp)) hl x hx
   exact Srt.first_le h b2 gb (ga x hx) hb y hy
 ·
  rcases ends B1 with e | ⟨B', b, rfl⟩
  ·
   rw [e] at hx; cases hx
  cases A2 with
  | nil => cases hy
  | cons a A' =>
   have hl := h2 B' b a A' rfl rfl
   have ga : ∀ z ∈ a :: A', G z := fun z hz => hGA z (List.mem_append_right _ hz)
   have gb : ∀ z ∈ B' ++ [b], G z := fun z hz => hGB z (List.mem_append_left _ hz)
   have hb := lt_of_last h b1 gb (ga a (by simp)) hl x hx
   exact Srt.first_le h a2 ga (gb x hx) hb y hy
 ·
  exact b3 x hx y hy
/-- Whatever goes first is no greater than whatever goes last. -/
def Halved (q : α → α → Int) (A1 A2 B1 B2 : List α) : Prop := ∀ x ∈ A1 ++ B1, ∀ y ∈ A2 ++ B2, ¬ q y x < 0
theorem merged {A1 A2 B1 B2 M1 M2 : List α} (hh : Halved q A1 A2 B1 B2) (p1 : M1.Perm (A1 ++ B1)) (p2 : M2.Perm (A2 ++ B2)) (s1 : Srt q M1) (s2 : Srt q M2) :
  Srt q (M1 ++ M2) ∧ (M1 ++ M2).Perm ((A1 ++ A2) ++ (B1 ++ B2)) := by
 refine ⟨Srt.append_iff.2 ⟨s1, s2, fun a ha b hb => hh a (p1.mem_iff.1 ha) b (p2.mem_iff.1 hb)⟩, (p1.append p2).trans ?_⟩
 have e : A1 ++ A2 ++ (B1 ++ B2) = A1 ++ ((A2 ++ B1) ++ B2) := by simp [List.append_assoc]
 have e2 : A1 ++ B1 ++ (A2 ++ B2) = A1 ++ ((B1 ++ A2) ++ B2) := by simp [List.append_assoc]
 rw [e, e2]
 exact (List.perm_append_comm.append_right B2).append_left A1
/-- Of one class: neither goes ahead of the other. -/
def eqv (q : α → α → Int) (c z : α) : Bool := !decide (q c z < 0) && !decide (q z c < 0)
/-- The same elements, those of one class one behind the other as they were. -/
structure Stb (G : α → Prop) (q : α → α → Int) (M' M : List α) : Prop where
 perm : M'.Perm M
 same : ∀ c, G c → M'.filter (eqv q c) = M.filter (eqv q c)
theorem Stb.refl (M : List α) : Stb G q M M := ⟨List.Perm.refl _, fun _ _ => rfl⟩
theorem Stb.trans {A B C : List α} (h : Stb G q A B) (k : Stb G q B C) : Stb G q A C := ⟨h.perm.trans k.perm, fun c hc => (h.same c hc).trans (k.same c hc)⟩
theorem Stb.length_eq {A B : List α} (h : Stb G q A B) : A.length = B.length := h.perm.length_eq
theorem Stb.mem_iff {A B : List α} (h : Stb G q A B) {x : α} : x ∈ A ↔ x ∈ B := h.perm.mem_iff
theorem Stb.append {A B C D : List α} (h : Stb G q A B) (k : Stb G q C D) : Stb G q (A ++ C) (B ++ D) := ⟨h.perm.append k.perm, fun c hc => by rw [List.filter_append, List.filter_append, h.same c hc, k.same c hc]⟩
theorem Stb.append_right {A B : List α} (C : List α) (h : Stb G q A B) : Stb G q (A ++ C) (B ++ C) := h.append (Stb.refl C)
theorem Stb.append_left {A B : List α} (C : List α) (h : Stb G q A B) : Stb G q (C ++ A) (C ++ B) := (Stb.refl C).append h
/-- What goes strictly ahead may be put ahead. -/
theorem Stb.swap (hq : POrd G q) {A B : List α} (hA : ∀ a ∈ A, G a) (hB : ∀ b ∈ B, G b) (hlt : ∀ a ∈ A, ∀ b ∈ B, q b a < 0) : Stb G q (B ++ A) (A ++ B) := by
 refine ⟨List.perm_append_comm, fun c hc => ?_⟩
 rw [List.filter_append, List.filter_append]
 by_cases hb : B.filter (eqv q c) = []
 ·
  rw [hb]; simp
 ·
  have ha : A.filter (eqv q c) = [] := by
   rw [List.filter_eq_nil_iff]
   intro a hma hea
   obtain ⟨b, hmb⟩ := List.exists_mem_of_ne_nil _ hb
   obtain ⟨hmb, heb⟩ := List.mem_filter.1 hmb
   unfold eqv at hea heb
   simp only [Bool.and_eq_true, Bool.not_eq_true', decide_eq_false_iff_not] at hea heb
   exact hq.tr a c b (hA a hma) hc (hB b hmb) hea.1 heb.2 (hlt a hma b hmb)
  rw [ha]; simp
/-- The first of its class. -/
def First (q : α → α → Int) (l : List α) (x : α) : Prop := (l.filter (eqv q x)).head? = some x
theorem Stb.first {A B : List α} (h : Stb G q A B) {x : α} (hx : G x) : First q A x ↔ First q B x := by unfold First; rw [h.same x hx]
theorem First.mem {l : List α} {x : α} (h : First q l x) : x ∈ l := (List.mem_filter.1 (List.mem_of_mem_head? h)).1
/-- Rising strictly. -/
def Str (q : α → α → Int) (l : List α) : Prop := l.Pairwise (fun a b => q a b < 0)
theorem str_unique (hq : POrd G q) : ∀ {A B : List α}, Str q A → Str q B → (∀ a ∈ A, G a) → (∀ b ∈ B, G b) → (∀ x, x ∈ A ↔ x ∈ B) → A = B
 | [], [], _, _, _, _, _ => rfl
 | [], b :: B, _, _, _, _, h => by have := (h b).2 (by simp); cases this
 | a :: A, [], _, _, _, _, h => by have := (h a).1 (by simp); cases this
 | a :: A, b :: B, hA, hB, gA, gB, h => by
  obtain ⟨a1, a2⟩ := List.pairwise_cons.1 hA
  obtain ⟨b1, b2⟩ := List.pairwise_cons.1 hB
  have e : a = b := by
   rcases List.mem_cons.1 ((h a).1 (by simp)) with e | e
   ·
    exact e
   ·
    rcases List.mem_cons.1 ((h b).2 (by simp)) with e2 | e2
    ·
     exact e2.symm
    ·
     exact absurd (a1 b e2) (hq.as b a (gB b (by simp)) (gA a (by simp)) (b1 a e))
  subst e
  rw [str_unique hq a2 b2 (fun x hx => gA x (List.mem_cons_of_mem _ hx)) (fun x hx => gB x (List.mem_cons_of_mem _ hx)) (fun x => ?_)]
  constructor
  ·
   intro hx
   rcases List.mem_cons.1 ((h x).1 (List.mem_cons_of_mem _ hx)) with e | e
   ·
    subst e; exact absurd (a1 x hx) (hq.refl (gA x (by simp)))
   ·
    exact e
  ·
   intro hx
   rcases List.mem_cons.1 ((h x).2 (List.mem_cons_of_mem _ hx)) with e | e
   ·
    subst e; exact absurd (b1 x hx) (hq.refl (gB x (by simp)))
   ·
    exact e
/-- Of each run of one class the first. -/
def runs (q : α → α → Int) : List α → List α
 | [] => []
 | [a] => [a]
 | a :: b :: l => if eqv q a b = true then runs q (a :: l) else a :: runs q (b :: l)
termination_by l => l.length
/-- An element, in its place, if none of its class is there. -/
def putE (q : α → α → Int) (x : α) : List α → List α
 | [] => [x]
 | y :: l => if q y x < 0 then y :: putE q x l else if q x y < 0 then x :: y :: l else y :: l
theorem eqv_iff {c z : α} : eqv q c z = true ↔ ¬ q c z < 0 ∧ ¬ q z c < 0 := by
 unfold eqv
 simp only [Bool.and_eq_true, Bool.not_eq_true', decide_eq_false_iff_not]
theorem eqv_refl (hq : POrd G q) {a : α} (ha : G a) : eqv q a a = true := eqv_iff.2 ⟨hq.refl ha, hq.refl ha⟩
theorem eqv_symm {a b : α} (h : eqv q a b = true) : eqv q b a = true := eqv_iff.2 ⟨(eqv_iff.1 h).2, (eqv_iff.1 h).1⟩
theorem eqv_trans (hq : POrd G q) {a b c : α} (ha : G a) (hb : G b) (hc : G c) (h : eqv q a b = true) (k : eqv q b c = true) : eqv q a c = true :=
 eqv_iff.2 ⟨hq.tr c b a hc hb ha (eqv_iff.1 k).1 (eqv_iff.1 h).1, hq.tr a b c ha hb hc (eqv_iff.1 h).2 (eqv_iff.1 k).2⟩
theorem first_cons {a x : α} {l : List α} : First q (a :: l) x ↔ (eqv q x a = true ∧ a = x) ∨ (eqv q x a = false ∧ First q l x) := by
 unfold First
 rw [List.filter_cons]
 cases h : eqv q x a with
 | true => simp
 | false => simp
theorem lt_ahead (hq : POrd G q) {a b : α} {l : List α} (hs : Srt q (b :: l)) (ha : G a) (hG : ∀ z ∈ b :: l, G z) (hab : q a b < 0) : ∀ z ∈ b :: l, q a z < 0 := by
 intro z hz
 by_cases h : q a z < 0
 ·
  exact h
 ·
  exfalso
  refine hq.tr b z a (hG b (by simp)) (hG z hz) ha ?_ h hab
  rcases List.mem_cons.1 hz with e | e
  ·
   rw [e]; exact hq.refl (hG b (by simp))
  ·
   exact (Srt.cons_iff.1 hs).1 z e
theorem not_eqv_lt {a b : α} (h : q a b < 0) : eqv q b a = false := by
 cases e : eqv q b a with
 | false => rfl
 | true => exact absurd h (eqv_iff.1 e).2
theorem runs_sub : ∀ (l : List α) (z : α), z ∈ runs q l → z ∈ l := by
 intro l
 induction l using runs.induct q with
 | case1 => intro z hz; rw [runs] at hz; exact hz
 | case2 a => intro z hz; rw [runs] at hz; exact hz
 | case3 a b l h ih =>
  intro z hz
  rw [runs, if_pos h] at hz
  rcases List.mem_cons.1 (ih z hz) with e | e <;> simp [e]
 | case4 a b l h ih =>
  intro z hz
  rw [runs, if_neg h] at hz
  rcases List.mem_cons.1 hz with e | e
  ·
   simp [e]
  ·
   exact List.mem_cons_of_mem _ (ih z e)
theorem runs_ok (hq : POrd G q) : ∀ (n : Nat) (l : List α), l.length ≤ n → Srt q l → (∀ z ∈ l, G z) → Str q (runs q l) ∧ ∀ x, G x → (x ∈ runs q l ↔ First q l x)
 | _, [], _, _, _ => by
  rw [runs]
  exact ⟨List.Pairwise.nil, fun x _ => by simp [First]⟩
 | _, [a], _, _, hG => by
  rw [runs]
  refine ⟨List.pairwise_singleton _ _, fun x hx => ?_⟩
  rw [first_cons]
  simp only [List.mem_singleton]
  constructor
  ·
   intro e; subst e; exact .inl ⟨eqv_refl hq hx, rfl⟩
  ·
   rintro (⟨_, e⟩ | ⟨_, h⟩)
   ·
    exact e.symm
   ·
    simp [First] at h
 | 0, a :: b :: l, hl, _, _ => by simp at hl
 | n + 1, a :: b :: l, hl, hs, hG => by
  have hs1 := Srt.cons_iff.1 hs
  have hs2 := Srt.cons_iff.1 hs1.2
  have ga := hG a (by simp)
  have gb := hG b (by simp)
  rw [runs]
  by_cases hab : eqv q a b = true
  ·
   rw [if_pos hab]
   obtain ⟨h1, h2⟩ := runs_ok hq n (a :: l) (by simp at hl ⊢; omega) (Srt.cons_iff.2 ⟨fun z hz => hs1.1 z (List.mem_cons_of_mem _ hz), hs2.2⟩) (fun z hz => hG z (by rcases List.mem_cons.1 hz with e | e <;> simp [e]))
   refine ⟨h1, fun x hx => (h2 x hx).trans ?_⟩
   rw [first_cons, first_cons, first_cons]
   cases e : eqv q x a with
   | true => simp
   | false =>
    have e2 : eqv q x b = false := by
     cases e2 : eqv q x b with
     | false => rfl
     | true => rw [eqv_trans hq hx gb ga e2 (eqv_symm hab)] at e; cases e
    simp [e2]
  ·
   rw [if_neg hab]
   have hlt : q a b < 0 := by
    by_cases h : q a b < 0
    ·
     exact h
    ·
     exact absurd (eqv_iff.2 ⟨h, hs1.1 b (by simp)⟩) hab
   have hall := lt_ahead hq hs1.2 ga (fun z hz => hG z (List.mem_cons_of_mem _ hz)) hlt
   obtain ⟨h1, h2⟩ := runs_ok hq n (b :: l) (by simp at hl ⊢; omega) hs1.2 (fun z hz => hG z (List.mem_cons_of_mem _ hz))
   have hsub : ∀ z ∈ runs q (b :: l), z ∈ b :: l := by
    intro z hz
    by_cases hGz : G z
    ·
     exact ((h2 z hGz).1 hz).mem
    ·
     exact absurd (runs_sub _ _ hz) (fun h => hGz (hG z (List.mem_cons_of_mem _ h)))
   refine ⟨List.pairwise_cons.2 ⟨fun z hz => hall z (hsub z hz), h1⟩, fun x hx => ?_⟩
   rw [List.mem_cons, h2 x hx, first_cons (a := a) (l := b :: l)]
   constructor
   ·
    rintro (e | h)
    ·
     subst e; exact .inl ⟨eqv_refl hq hx, rfl⟩
    ·
     exact .inr ⟨not_eqv_lt (hall x h.mem), h⟩
   ·
    rintro (⟨_, e⟩ | ⟨_, h⟩)
    ·
     exact .inl e.symm
    ·
     exact .inr h

theorem putE_mem (hq : POrd G q) {x : α} (hx : G x) : ∀ {l : List α}, Str q l → (∀ z ∈ l, G z) → Str q (putE q x l) ∧ ∀ z, (z ∈ putE q x l ↔ z ∈ l ∨ (z = x ∧ ∀ y ∈ l, eqv q x y = false))
 | [], _, _ => by
  rw [putE]
  exact ⟨List.pairwise_singleton _ _, fun z => by simp⟩
 | y :: l, hs, hG => by
  obtain ⟨h1, h2⟩ := List.pairwise_cons.1 hs
  have gy := hG y (by simp)
  obtain ⟨i1, i2⟩ := putE_mem hq hx h2 (fun z hz => hG z (List.mem_cons_of_mem _ hz))
  rw [putE]
  by_cases c1 : q y x < 0
  ·
   rw [if_pos c1]
   refine ⟨List.pairwise_cons.2 ⟨fun z hz => ?_, i1⟩, fun z => ?_⟩
   ·
    rcases (i2 z).1 hz with h | ⟨e, _⟩
    ·
     exact h1 z h
    ·
     rw [e]; exact c1
   ·
    rw [List.mem_cons, i2, List.mem_cons]
    have e : eqv q x y = false := not_eqv_lt c1
    constructor
    ·
     rintro (h | h | ⟨h, k⟩)
     ·
      exact .inl (.inl h)
     ·
      exact .inl (.inr h)
     ·
      exact .inr ⟨h, List.forall_mem_cons.2 ⟨e, k⟩⟩
    ·
     rintro ((h | h) | ⟨h, k⟩)
     ·
      exact .inl h
     ·
      exact .inr (.inl h)
     ·
      exact .inr (.inr ⟨h, fun w hw => k w (List.mem_cons_of_mem _ hw)⟩)
  ·
   rw [if_neg c1]
   by_cases c2 : q x y < 0
   ·
    rw [if_pos c2]
    have hall : ∀ z ∈ y :: l, q x z < 0 := lt_ahead hq (Srt.cons_iff.2 ⟨fun z hz => hq.as y z gy (hG z (List.mem_cons_of_mem _ hz)) (h1 z hz), (List.Pairwise.imp_of_mem (fun {a b} ha hb h => hq.as a b (hG a (List.mem_cons_of_mem _ ha)) (hG b (List.mem_cons_of_mem _ hb)) h) h2)⟩) hx hG c2
    refine ⟨List.pairwise_cons.2 ⟨hall, hs⟩, fun z => ?_⟩
    rw [List.mem_cons]
    constructor
    ·
     rintro (h | h)
     ·
      refine .inr ⟨h, fun w hw => ?_⟩
      cases e : eqv q x w with
      | false => rfl
      | true => exact absurd (hall w hw) (eqv_iff.1 e).1
     ·
      exact .inl h
    ·
     rintro (h | ⟨h, _⟩)
     ·
      exact .inr h
     ·
      exact .inl h
   ·
    rw [if_neg c2]
    refine ⟨hs, fun z => ⟨.inl, ?_⟩⟩
    rintro (h | ⟨_, k⟩)
    ·
     exact h
    ·
     have := k y (by simp)
     rw [eqv_iff.2 ⟨c2, c1⟩] at this
     cases this
/-- All elements put in, one behind the other. -/
def putAll (q : α → α → Int) (l : List α) : List α := l.foldl (fun acc x => putE q x acc) []
theorem putAll_snoc (l : List α) (x : α) : putAll q (l ++ [x]) = putE q x (putAll q l) := by unfold putAll; rw [List.foldl_append]; rfl
theorem first_snoc (hq : POrd G q) {l : List α} {x z : α} (hz : G z) (hx : G x) (hG : ∀ y ∈ l, G y) : First q (l ++ [x]) z ↔ First q l z ∨ (z = x ∧ ∀ y ∈ l, eqv q x y = false) := by
 unfold First
 rw [List.filter_append]
 cases h : l.filter (eqv q z) with
 | cons a r =>
  simp only [List.cons_append, List.head?_cons, Option.some.injEq]
  constructor
  ·
   exact .inl
  ·
   rintro (e | ⟨e, k⟩)
   ·
    exact e
   ·
    subst e
    have hm : a ∈ l.filter (eqv q z) := by rw [h]; simp
    obtain ⟨h1, h2⟩ := List.mem_filter.1 hm
    rw [k a h1] at h2
    cases h2
 | nil =>
  have hn := List.filter_eq_nil_iff.1 h
  simp only [List.nil_append, List.head?_nil, reduceCtorEq, false_or]
  rw [List.filter_cons, List.filter_nil]
  cases e : eqv q z x with
  | true =>
   simp only [if_true, List.head?_cons, Option.some.injEq]
   constructor
   ·
    intro h2; subst h2; exact ⟨rfl, fun y hy => by simpa using hn y hy⟩
   ·
    intro h2; exact h2.1.symm
  | false =>
   simp only [Bool.false_eq_true, if_false, List.head?_nil, reduceCtorEq, false_iff]
   rintro ⟨h2, _⟩
   subst h2
   rw [eqv_refl hq hz] at e
   cases e
theorem class_first (hq : POrd G q) {l : List α} (hG : ∀ y ∈ l, G y) {y : α} (hy : y ∈ l) : ∃ z ∈ l, eqv q y z = true ∧ First q l z := by
 cases h : l.filter (eqv q y) with
 | nil => exact absurd (eqv_refl hq (hG y hy)) (List.filter_eq_nil_iff.1 h y hy)
 | cons z r =>
  obtain ⟨h1, h2⟩ := List.mem_filter.1 (show z ∈ l.filter (eqv q y) by rw [h]; simp)
  refine ⟨z, h1, h2, ?_⟩
  unfold First
  rw [List.filter_congr (q := eqv q y) (fun w hw => ?_), h]
  ·
   rfl
  ·
   cases e : eqv q y w with
   | true => exact eqv_trans hq (hG z h1) (hG y hy) (hG w hw) (eqv_symm h2) e
   | false =>
    cases e2 : eqv q z w with
    | false => rfl
    | true => rw [eqv_trans hq (hG y hy) (hG z h1) (hG w hw) h2 e2] at e; cases e
theorem putE_sub {x : α} : ∀ (l : List α) (z : α), z ∈ putE q x l → z = x ∨ z ∈ l
 | [], z, h => by rw [putE] at h; exact .inl (List.mem_singleton.1 h)
 | y :: l, z, h => by
  rw [putE] at h
  split at h
  ·
   rcases List.mem_cons.1 h with e | e
   ·
    exact .inr (by simp [e])
   ·
    rcases putE_sub l z e with e2 | e2
    ·
     exact .inl e2
    ·
     exact .inr (List.mem_cons_of_mem _ e2)
  ·
   split at h
   ·
    rcases List.mem_cons.1 h with e | e
    ·
     exact .inl e
    ·
     exact .inr e
   ·
    exact .inr h
theorem putAll_sub (l : List α) : ∀ z ∈ putAll q l, z ∈ l := by
 have key : ∀ (l acc : List α) (z : α), z ∈ l.foldl (fun acc x => putE q x acc) acc → z ∈ acc ∨ z ∈ l := by
  intro l
  induction l with
  | nil => intro acc z h; exact .inl h
  | cons x l ih =>
   intro acc z h
   rcases ih _ z h with h2 | h2
   ·
    rcases putE_sub acc z h2 with e | e
    ·
     exact .inr (by simp [e])
    ·
     exact .inl e
   ·
    exact .inr (List.mem_cons_of_mem _ h2)
 intro z h
 rcases key l [] z h with h2 | h2
 ·
  cases h2
 ·
  exact h2
theorem putAll_ok (hq : POrd G q) (l : List α) (hG : ∀ z ∈ l, G z) : Str q (putAll q l) ∧ ∀ x, G x → (x ∈ putAll q l ↔ First q l x) := by
 have key : ∀ (m : Nat) (l : List α), l.length = m → (∀ z ∈ l, G z) → Str q (putAll q l) ∧ (∀ z ∈ putAll q l, G z) ∧ ∀ x, G x → (x ∈ putAll q l ↔ First q l x) := by
  intro m
  induction m with
  | zero =>
   intro l hl _
   rw [List.length_eq_zero_iff.1 hl]
   refine ⟨List.Pairwise.nil, fun z hz => ?_, fun x _ => by simp [putAll, First]⟩
   have h2 : z ∈ ([] : List α) := hz
   cases h2
  | succ m ih =>
   intro l hl hG
   rcases ends l with e | ⟨A, x, e⟩
   ·
    rw [e] at hl; simp at hl
   ·
    subst e
    have gA : ∀ z ∈ A, G z := fun z hz => hG z (List.mem_append_left _ hz)
    have gx : G x := hG x (by simp)
    obtain ⟨i1, i2, i3⟩ := ih A (by simp at hl; omega) gA
    rw [putAll_snoc]
    obtain ⟨p1, p2⟩ := putE_mem hq gx i1 i2
    refine ⟨p1, fun z hz => ?_, fun z hz => ?_⟩
    ·
     rcases (p2 z).1 hz with h | ⟨h, _⟩
     ·
      exact i2 z h
     ·
      rw [h]; exact gx
    ·
     rw [p2, first_snoc hq hz gx gA, i3 z hz]
     refine or_congr Iff.rfl (and_congr Iff.rfl ⟨fun h y hy => ?_, fun h y hy => h y ((i3 y (i2 y hy)).1 hy).mem⟩)
     obtain ⟨w, hw, e1, e2⟩ := class_first hq gA hy
     cases e : eqv q x y with
     | false => rfl
     | true =>
      have := h w ((i3 w (gA w hw)).2 e2)
      rw [eqv_trans hq gx (gA y hy) (gA w hw) e e1] at this
      cases this
 exact ⟨(key l.length l rfl hG).1, (key l.length l rfl hG).2.2⟩
/-- Sorted with what is alike left as it was, and of what is alike the first: all put in, one behind the other. -/
theorem runs_putAll (hq : POrd G q) {ys l : List α} (hs : Srt q ys) (hp : Stb G q ys l) (hG : ∀ z ∈ l, G z) : runs q ys = putAll q l := by
 have gy : ∀ z ∈ ys, G z := fun z hz => hG z (hp.mem_iff.1 hz)
 obtain ⟨a1, a2⟩ := runs_ok hq ys.length ys (Nat.le_refl _) hs gy
 obtain ⟨b1, b2⟩ := putAll_ok hq l hG
 have g1 : ∀ z ∈ runs q ys, G z := fun z hz => gy z (runs_sub _ _ hz)
 have g2 : ∀ z ∈ putAll q l, G z := by
  intro z hz
  exact hG z (putAll_sub l z hz)
 refine str_unique hq a1 b1 g1 g2 (fun x => ?_)
 constructor
 ·
  intro h; exact (b2 x (g1 x h)).2 ((hp.first (g1 x h)).1 ((a2 x (g1 x h)).1 h))
 ·
  intro h; exact (a2 x (g2 x h)).2 ((hp.first (g2 x h)).2 ((b2 x (g2 x h)).1 h))
/-- A list that rises strictly, merged, is itself. -/
theorem Str.srt (hq : POrd G q) {l : List α} (h : Str q l) (hG : ∀ z ∈ l, G z) : Srt q l := List.Pairwise.imp_of_mem (fun {a b} ha hb h => hq.as a b (hG a ha) (hG b hb) h) h
theorem Str.first (hq : POrd G q) : ∀ {l : List α}, Str q l → (∀ z ∈ l, G z) → ∀ x, G x → (x ∈ l ↔ First q l x)
 | [], _, _, x, _ => by simp [First]
 | a :: l, hs, hG, x, hx => by
  obtain ⟨h1, h2⟩ := List.pairwise_cons.1 hs
  have ih := Str.first hq h2 (fun z hz => hG z (List.mem_cons_of_mem _ hz)) x hx
  rw [List.mem_cons, ih, first_cons]
  constructor
  ·
   rintro (e | h)
   ·
    subst e; exact .inl ⟨eqv_refl hq hx, rfl⟩
   ·
    exact .inr ⟨not_eqv_lt (h1 x h.mem), h⟩
  ·
   rintro (⟨_, e⟩ | ⟨_, h⟩)
   ·
    exact .inl e.symm
   ·
    exact .inr h
theorem putAll_self (hq : POrd G q) {l : List α} (hs : Str q l) (hG : ∀ z ∈ l, G z) : putAll q l = l := by
 obtain ⟨b1, b2⟩ := putAll_ok hq l hG
 refine str_unique hq b1 hs (fun z hz => hG z (putAll_sub l z hz)) hG (fun x => ?_)
 constructor
 ·
  intro h; exact putAll_sub l x h
 ·
  intro h; exact (b2 x (hG x h)).2 ((Str.first hq hs hG x (hG x h)).1 h)
theorem first_append (l m : List α) (x : α) : First q (l ++ m) x ↔ First q l x ∨ ((∀ y ∈ l, eqv q x y = false) ∧ First q m x) := by
 unfold First
 rw [List.filter_append]
 cases h : l.filter (eqv q x) with
 | cons a r =>
  simp only [List.cons_append, List.head?_cons, Option.some.injEq]
  constructor
  ·
   exact .inl
  ·
   rintro (e | ⟨k, _⟩)
   ·
    exact e
   ·
    obtain ⟨h1, h2⟩ := List.mem_filter.1 (show a ∈ l.filter (eqv q x) by rw [h]; simp)
    rw [k a h1] at h2
    cases h2
 | nil =>
  have hn := List.filter_eq_nil_iff.1 h
  simp only [List.nil_append, List.head?_nil, reduceCtorEq, false_or]
  exact ⟨fun h2 => ⟨fun y hy => by simpa using hn y hy, h2⟩, fun h2 => h2.2⟩
/-- What is merged already, ahead of what it came from, turns nothing. -/
theorem putAll_again (hq : POrd G q) {l : List α} (hG : ∀ z ∈ l, G z) (m : List α) (hm : ∀ z ∈ m, z ∈ l) : putAll q (putAll q l ++ m) = putAll q l := by
 obtain ⟨b1, b2⟩ := putAll_ok hq l hG
 have gp : ∀ z ∈ putAll q l, G z := fun z hz => hG z (putAll_sub l z hz)
 have ga : ∀ z ∈ putAll q l ++ m, G z := fun z hz => by
  rcases List.mem_append.1 hz with h | h
  ·
   exact gp z h
  ·
   exact hG z (hm z h)
 obtain ⟨c1, c2⟩ := putAll_ok hq (putAll q l ++ m) ga
 refine str_unique hq c1 b1 (fun z hz => ga z (putAll_sub _ z hz)) gp (fun x => ?_)
 constructor
 ·
  intro h
  have gx := ga x (putAll_sub _ x h)
  rcases (first_append _ _ _).1 ((c2 x gx).1 h) with h2 | ⟨h2, h3⟩
  ·
   exact h2.mem
  ·
   exfalso
   obtain ⟨w, hw, e1, e2⟩ := class_first hq hG (hm x h3.mem)
   have := h2 w ((b2 w (hG w hw)).2 e2)
   rw [e1] at this
   cases this
 ·
  intro h
  refine (c2 x (gp x h)).2 ((first_append _ _ _).2 (.inl ((Str.first hq b1 gp x (gp x h)).1 h)))
/-! ### what the sort's steps leave, with what is alike as it was -/
theorem lt_between (hq : POrd G q) {a a' b b' : α} (ga : G a) (ga' : G a') (gb : G b) (gb' : G b') (h : q b a < 0) (h1 : ¬ q b b' < 0) (h2 : ¬ q a' a < 0) : q b' a' < 0 := by
 by_cases h3 : q b' a' < 0
 ·
  exact h3
 ·
  exact absurd h (hq.tr a b' b ga gb' gb (hq.tr a a' b' ga ga' gb' h2 h3) h1)
theorem Stb.ins (hq : POrd G q) {U V : List α} {x : α} (gx : G x) (hG : ∀ z ∈ U ++ V, G z) (h : ∀ v ∈ V, q x v < 0) : Stb G q (U ++ x :: V) (U ++ V ++ [x]) := by
 have h2 := Stb.append_left U (Stb.swap hq (A := V) (B := [x]) (fun v hv => hG v (List.mem_append_right _ hv)) (fun b hb => by rw [List.mem_singleton.1 hb]; exact gx) (fun a ha b hb => by rw [List.mem_singleton.1 hb]; exact h a ha))
 rw [← List.append_assoc] at h2
 simpa using h2
theorem Stb.front (hq : POrd G q) {T : List α} {x : α} (gx : G x) (hG : ∀ z ∈ T, G z) (h : ∀ v ∈ T, q x v < 0) : Stb G q (x :: T) (T ++ [x]) := by
 have := Stb.ins hq (U := []) gx (by simpa using hG) h
 simpa using this
theorem Stb.sym1 (hq : POrd G q) {B1 B3 : List α} {x : α} (hs : Srt q (B1 ++ B3)) (gx : G x) (hG : ∀ z ∈ B1 ++ B3, G z) (h : ∀ l z, B1 = l ++ [z] → q z x < 0) : Stb G q (B1 ++ x :: B3) ([x] ++ (B1 ++ B3)) := by
 have hall : ∀ z ∈ B1, q z x < 0 := by
  rcases ends B1 with e | ⟨B', b, e⟩
  ·
   rw [e]; intro z hz; cases hz
  ·
   subst e
   intro z hz
   have gb : G b := hG b (by simp)
   have gz : G z := hG z (List.mem_append_left _ hz)
   refine lt_between hq gx gx gb gz (h B' b rfl) ?_ (hq.refl gx)
   rcases List.mem_append.1 hz with h1 | h1
   ·
    exact (Srt.append_iff.1 (Srt.append_iff.1 hs).1).2.2 z h1 b (by simp)
   ·
    rw [List.mem_singleton.1 h1]; exact hq.refl gb
 have h2 := Stb.append_right B3 (Stb.swap hq (A := [x]) (B := B1) (fun a ha => by rw [List.mem_singleton.1 ha]; exact gx) (fun b hb => hG b (List.mem_append_left _ hb)) (fun a ha b hb => by rw [List.mem_singleton.1 ha]; exact hall b hb))
 simpa using h2
theorem Stb.sym2 (hq : POrd G q) {B1 B3 : List α} {x : α} (hs : Srt q (B1 ++ B3)) (gx : G x) (hG : ∀ z ∈ B1 ++ B3, G z) (h : ∀ z l, B3 = z :: l → q x z < 0) : Stb G q (B1 ++ x :: B3) ((B1 ++ B3) ++ [x]) := by
 refine Stb.ins hq gx hG ?_
 cases B3 with
 | nil => intro v hv; cases hv
 | cons z l =>
  intro v hv
  have gz : G z := hG z (by simp)
  have gv : G v := hG v (List.mem_append_right _ hv)
  refine lt_between hq gz gv gx gx (h z l rfl) (hq.refl gx) ?_
  rcases List.mem_cons.1 hv with h1 | h1
  ·
   rw [h1]; exact hq.refl gz
  ·
   exact (Srt.cons_iff.1 (Srt.append_iff.1 hs).2.1).1 v h1
/-- Whatever goes first is no greater than whatever goes last; what changes sides goes strictly ahead. -/
def HalvedS (G : α → Prop) (q : α → α → Int) (A1 A2 B1 B2 : List α) : Prop := Halved q A1 A2 B1 B2 ∧ (∀ b ∈ B1, ∀ a ∈ A2, q b a < 0) ∧ (∀ a ∈ A2, G a) ∧ ∀ b ∈ B1, G b
theorem halvesS (h : POrd G q) {A1 A2 B1 B2 : List α} (hA : Srt q (A1 ++ A2)) (hB : Srt q (B1 ++ B2)) (hGA : ∀ z ∈ A1 ++ A2, G z) (hGB : ∀ z ∈ B1 ++ B2, G z)
  (h1 : ∀ A' a b B', A1 = A' ++ [a] → B2 = b :: B' → ¬ q b a < 0) (h2 : ∀ B' b a A', B1 = B' ++ [b] → A2 = a :: A' → q b a < 0) : HalvedS G q A1 A2 B1 B2 := by
 have gA : ∀ a ∈ A2, G a := fun a ha => hGA a (List.mem_append_right _ ha)
 have gB : ∀ b ∈ B1, G b := fun b hb => hGB b (List.mem_append_left _ hb)
 refine ⟨halves h hA hB hGA hGB h1 h2, fun b' hb a' ha => ?_, gA, gB⟩
 rcases ends B1 with e | ⟨B', b, e⟩
 ·
  rw [e] at hb; cases hb
 cases A2 with
 | nil => cases ha
 | cons a A' =>
  subst e
  refine lt_between h (gA a (by simp)) (gA a' ha) (gB b (by simp)) (gB b' hb) (h2 B' b a A' rfl rfl) ?_ ?_
  ·
   rcases List.mem_append.1 hb with k | k
   ·
    exact (Srt.append_iff.1 (Srt.append_iff.1 hB).1).2.2 b' k b (by simp)
   ·
    rw [List.mem_singleton.1 k]; exact h.refl (gB b (by simp))
  ·
   rcases List.mem_cons.1 ha with k | k
   ·
    rw [k]; exact h.refl (gA a (by simp))
   ·
    exact (Srt.cons_iff.1 (Srt.append_iff.1 hA).2.1).1 a' k
theorem mergedS (hq : POrd G q) {A1 A2 B1 B2 M1 M2 : List α} (hh : HalvedS G q A1 A2 B1 B2) (p1 : Stb G q M1 (A1 ++ B1)) (p2 : Stb G q M2 (A2 ++ B2)) (s1 : Srt q M1) (s2 : Srt q M2) :
  Srt q (M1 ++ M2) ∧ Stb G q (M1 ++ M2) ((A1 ++ A2) ++ (B1 ++ B2)) := by
 refine ⟨(merged hh.1 p1.perm p2.perm s1 s2).1, (p1.append p2).trans ?_⟩
 have h2 := Stb.append_left A1 (Stb.append_right B2 (Stb.swap hq (A := A2) (B := B1) hh.2.2.1 hh.2.2.2 (fun a ha b hb => hh.2.1 b hb a ha)))
 simpa using h2
theorem stb_good {ys xs : List α} (h : Stb G q ys xs) (hG : ∀ z ∈ xs, G z) : ∀ z ∈ ys, G z := fun z hz => hG z (h.mem_iff.1 hz)
theorem stb_mid {P M M' S xs : List α} (h : Stb G q (P ++ M ++ S) xs) (hp : Stb G q M' M) : Stb G q (P ++ M' ++ S) xs := (Stb.append_right S (Stb.append_left P hp)).trans h
/-- Pieces of a length, each in order, up to a place. -/
def Blk (q : α → α → Int) (bs lo hi : Nat) (l : List α) : Prop := ∀ i j x y, lo ≤ i → i < j → j < hi → i / bs = j / bs → l[i]? = some x → l[j]? = some y → ¬ q y x < 0
theorem Blk.weak {bs lo hi lo' hi' : Nat} {l : List α} (h : Blk q bs lo hi l) (h1 : lo ≤ lo') (h2 : hi' ≤ hi) : Blk q bs lo' hi' l := fun i j x y a b c => h i j x y (by omega) b (by omega)
theorem Blk.empty (bs lo : Nat) (l : List α) : Blk q bs lo lo l := fun i j x y a b c => by omega
theorem Srt.get {l : List α} (h : Srt q l) {i j : Nat} {x y : α} (hij : i < j) (hx : l[i]? = some x) (hy : l[j]? = some y) : ¬ q y x < 0 := by
 obtain ⟨hi, e1⟩ := List.getElem?_eq_some_iff.1 hx
 obtain ⟨hj, e2⟩ := List.getElem?_eq_some_iff.1 hy
 have := List.pairwise_iff_getElem.1 h i j hi hj hij
 rw [e1, e2] at this
 exact this
/-- One more piece in order. -/
theorem Blk.more {bs a : Nat} {P M M' S : List α} (h : Blk q bs 0 a (P ++ M ++ S)) (hP : P.length = a) (hd : bs ∣ a) (hb : 0 < bs) (hl : M'.length = M.length) (hm : M.length ≤ bs) (hs : Srt q M') : Blk q bs 0 (a + M.length) (P ++ M' ++ S) := by
 intro i j x y h1 h2 h3 h4 hx hy
 by_cases hi : i < a
 ·
  by_cases hj : j < a
  ·
   refine h i j x y h1 h2 hj h4 ?_ ?_
   ·
    rw [List.append_assoc, List.getElem?_append_left (by omega)] at hx ⊢; exact hx
   ·
    rw [List.append_assoc, List.getElem?_append_left (by omega)] at hy ⊢; exact hy
  ·
   exfalso
   obtain ⟨c, rfl⟩ := hd
   have e1 : i / bs < c := Nat.div_lt_of_lt_mul hi
   have e2 : c ≤ j / bs := (Nat.le_div_iff_mul_le hb).2 (by rw [Nat.mul_comm]; omega)
   omega
 ·
  have hx' : M'[i - a]? = some x := by
   rw [List.append_assoc, List.getElem?_append_right (by omega), List.getElem?_append_left (by omega), hP] at hx
   exact hx
  have hy' : M'[j - a]? = some y := by
   rw [List.append_assoc, List.getElem?_append_right (by omega), List.getElem?_append_left (by omega), hP] at hy
   exact hy
  exact hs.get (by omega) hx' hy'
/-- A piece of the list that lies in one block is in order. -/
theorem Blk.seg {bs lo hi : Nat} {P M S : List α} (h : Blk q bs lo hi (P ++ M ++ S)) (h1 : lo ≤ P.length) (h2 : P.length + M.length ≤ hi) (c : Nat) (hc : ∀ i, P.length ≤ i → i < P.length + M.length → i / bs = c) : Srt q M := by
 refine List.pairwise_iff_getElem.2 (fun i j hi hj hij => ?_)
 refine h (P.length + i) (P.length + j) _ _ (by omega) (by omega) (by omega) ((hc _ (by omega) (by omega)).trans (hc _ (by omega) (by omega)).symm) ?_ ?_
 ·
  rw [List.append_assoc, List.getElem?_append_right (by omega), List.getElem?_append_left (by omega), Nat.add_sub_cancel_left, List.getElem?_eq_getElem hi]
 ·
  rw [List.append_assoc, List.getElem?_append_right (by omega), List.getElem?_append_left (by omega), Nat.add_sub_cancel_left, List.getElem?_eq_getElem hj]
theorem Blk.all {bs : Nat} {l : List α} (h : Blk q bs 0 l.length l) (hl : l.length ≤ bs) : Srt q l := by
 have h' : Blk q bs 0 l.length ([] ++ l ++ []) := by simpa using h
 refine h'.seg (Nat.le_refl _) (by simp) 0 (fun i _ hi => ?_)
 exact Nat.div_eq_of_lt (by simp at hi; omega)
/-- Behind what is turned the pieces stay. -/
theorem Blk.rest {bs lo hi : Nat} {P M M' S : List α} (h : Blk q bs lo hi (P ++ M ++ S)) (hl : M'.length = M.length) (h1 : P.length + M.length ≤ lo) : Blk q bs lo hi (P ++ M' ++ S) := by
 intro i j x y a b c d hx hy
 refine h i j x y a b c d ?_ ?_
 ·
  rw [List.getElem?_append_right (by simp; omega)] at hx ⊢
  simpa [hl] using hx
 ·
  rw [List.getElem?_append_right (by simp; omega)] at hy ⊢
  simpa [hl] using hy
theorem parts {l : List α} {a b : Nat} (hab : a ≤ b) (hb : b ≤ l.length) : ∃ P M S, l = P ++ M ++ S ∧ P.length = a ∧ M.length = b - a :=
 ⟨l.take a, (l.drop a).take (b - a), l.drop b, by
  have e : l.drop b = (l.drop a).drop (b - a) := by rw [List.drop_drop]; congr 1; omega
  rw [e, List.append_assoc, List.take_append_drop, List.take_append_drop], by simp; omega, by simp; omega⟩
theorem perm_mid {P M M' S l : List α} (h : (P ++ M ++ S).Perm l) (p : M'.Perm M) : (P ++ M' ++ S).Perm l := (((p.append_left P).append_right S)).trans h
theorem perm_good {l xs : List α} (h : l.Perm xs) (hG : ∀ z ∈ xs, G z) : ∀ z ∈ l, G z := fun z hz => hG z (h.mem_iff.1 hz)
/-- Two lists in order of the same things, the one without equals: they are the same. -/
theorem sorted_unique {l1 l2 : List α} (h : POrd G q) (hp : l1.Perm l2) (s1 : l1.Pairwise (fun a b => q a b < 0)) (s2 : Srt q l2) (hG : ∀ z ∈ l1, G z) : l1 = l2 := by
 induction l1 generalizing l2 with
 | nil => exact (List.nil_perm.1 hp).symm
 | cons a A ih =>
  cases l2 with
  | nil => exact absurd (List.perm_nil.1 hp) (by simp)
  | cons b B =>
   obtain ⟨ha, hA⟩ := List.pairwise_cons.1 s1
   obtain ⟨hb, hB⟩ := Srt.cons_iff.1 s2
   have hab : a = b := by
    have hma : a ∈ b :: B := hp.mem_iff.1 (by simp)
    have hmb : b ∈ a :: A := hp.mem_iff.2 (by simp)
    rcases List.mem_cons.1 hma with e | hma
    ·
     exact e
    rcases List.mem_cons.1 hmb with e | hmb
    ·
     exact e.symm
    exact absurd (ha b hmb) (hb a hma)
   subst hab
   rw [ih (List.Perm.cons_inv hp) hA hB (fun z hz => hG z (List.mem_cons_of_mem _ hz))]
end
end Go.Proofs.Ytobjkjmmkbhecaa.Sk
