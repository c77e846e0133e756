/- Sorting in plain lists: what the pieces of a stable sort leave. Conditions: those of each theorem. -/
import Derived.Below
set_option linter.unusedVariables false
set_option linter.unusedSimpArgs false
namespace Go.Proofs.Ythpklhkibcenoaa.Sk
section
variable {α : Type}
/-- The order that a comparing function tells, among what is so. -/
structure POrd (G : α → Prop) (q : α → α → Int) : Prop where
 tr : ∀ a b c, G a → G b → G c → ¬ q b a < 0 → ¬ q c b < 0 → ¬ q c a < 0
 as : ∀ a b, G a → G b → q a b < 0 → ¬ q b a < 0
def Srt (q : α → α → Int) (l : List α) : Prop := l.Pairwise (fun a b => ¬ q b a < 0)
theorem get_app (P S : List α) (x : α) : (P ++ x :: S)[P.length]? = some x := by simp
theorem get_app' {P S : List α} {x : α} {n : Nat} (h : n = P.length) : (P ++ x :: S)[n]? = some x := by subst h; simp
theorem set_app {P S : List α} {x : α} {n : Nat} (y : α) (h : n = P.length) : (P ++ x :: S).set n y = P ++ y :: S := by subst h; simp
theorem swap_app {P M S : List α} {x y : α} {i j : Nat} (hi : i = P.length) (hj : j = P.length + 1 + M.length) : ((P ++ x :: (M ++ y :: S)).set i y).set j x = P ++ y :: (M ++ x :: S) := by
 rw [set_app y hi]
 have e : P ++ y :: (M ++ y :: S) = (P ++ y :: M) ++ y :: S := by simp
 rw [e, set_app x (by simp only [List.length_append, List.length_cons]; omega)]
 simp
theorem swap_app' {P M S : List α} {x y : α} {i j : Nat} (hi : i = P.length) (hj : j = P.length + 1 + M.length) : ((P ++ x :: (M ++ y :: S)).set j x).set i y = P ++ y :: (M ++ x :: S) := by
 have e : P ++ x :: (M ++ y :: S) = (P ++ x :: M) ++ y :: S := by simp
 rw [e, set_app x (by simp only [List.length_append, List.length_cons]; omega)]
 have e2 : (P ++ x :: M) ++ x :: S = P ++ x :: (M ++ x :: S) := by simp
 rw [e2, set_app y hi]
variable {G : α → Prop} {q : α → α → Int}
theorem Srt.append_iff {A B : List α} : Srt q (A ++ B) ↔ Srt q A ∧ Srt q B ∧ ∀ a ∈ A, ∀ b ∈ B, ¬ q b a < 0 := List.pairwise_append
theorem Srt.cons_iff {a : α} {B : List α} : Srt q (a :: B) ↔ (∀ b ∈ B, ¬ q b a < 0) ∧ Srt q B := List.pairwise_cons
theorem Srt.nil : Srt q ([] : List α) := List.Pairwise.nil
theorem Srt.single (a : α) : Srt q [a] := List.pairwise_singleton _ _
/-- What is in order up to the last is in order throughout. -/
theorem Srt.last_le (h : POrd G q) {A : List α} {a x : α} (hs : Srt q (A ++ [a])) (hG : ∀ z ∈ A ++ [a], G z) (hx : G x) (hl : ¬ q x a < 0) : ∀ z ∈ A ++ [a], ¬ q x z < 0 := by
 intro z hz
 rcases List.mem_append.1 hz with hz' | hz'
 ·
  exact h.tr z a x (hG z hz) (hG a (by simp)) hx ((Srt.append_iff.1 hs).2.2 z hz' a (by simp)) hl
 ·
  rw [List.mem_singleton.1 hz']; exact hl
theorem Srt.first_le (h : POrd G q) {B : List α} {b x : α} (hs : Srt q (b :: B)) (hG : ∀ z ∈ b :: B, G z) (hx : G x) (hl : ¬ q b x < 0) : ∀ z ∈ b :: B, ¬ q z x < 0 := by
 intro z hz
 rcases List.mem_cons.1 hz with hz' | hz'
 ·
  rw [hz']; exact hl
 ·
  exact h.tr x b z hx (hG b (by simp)) (hG z hz) hl ((Srt.cons_iff.1 hs).1 z hz')
theorem POrd.refl (h : POrd G q) {a : α} (ha : G a) : ¬ q a a < 0 := fun hh => h.as a a ha ha hh hh
/-- x between U and V. -/
theorem Srt.insert (h : POrd G q) {U V : List α} {x : α} (hs : Srt q (U ++ V)) (hu : ∀ u ∈ U, ¬ q x u < 0) (hv : ∀ v ∈ V, ¬ q v x < 0) : Srt q (U ++ x :: V) := by
 obtain ⟨h1, h2, h3⟩ := Srt.append_iff.1 hs
 refine Srt.append_iff.2 ⟨h1, Srt.cons_iff.2 ⟨hv, h2⟩, fun a ha b hb => ?_⟩
 rcases List.mem_cons.1 hb with hb' | hb'
 ·
  rw [hb']; exact hu a ha
 ·
  exact h3 a ha b hb'
/-- Where a list ends at the left: nothing, or a last one. -/
theorem ends (A : List α) : A = [] ∨ ∃ A' a, A = A' ++ [a] := by
 rcases List.eq_nil_or_concat A with h | ⟨A', a, h⟩
 ·
  exact .inl h
 ·
  exact .inr ⟨A', a, by rw [h, List.concat_eq_append]⟩
theorem lt_of_last (h : POrd G q) {B : List α} {b x : α} (hs : Srt q (B ++ [b])) (hG : ∀ z ∈ B ++ [b], G z) (hx : G x) (hl : q b x < 0) : ∀ z ∈ B ++ [b], ¬ q x z < 0 :=
 Srt.last_le h hs hG hx (h.as b x (hG b (by simp)) hx hl)
theorem lt_of_first (h : POrd G q) {B : List α} {b x : α} (hs : Srt q (b :: B)) (hG : ∀ z ∈ b :: B, G z) (hx : G x) (hl : q x b < 0) : ∀ z ∈ b :: B, ¬ q z x < 0 :=
 Srt.first_le h hs hG hx (h.as x b hx (hG b (by simp)) hl)
/-- Two halves of two lists in order, cut where they fit: what goes first is no greater than what goes last. -/
theorem halves (h : POrd G q) {A1 A2 B1 B2 : List α} (hA : Srt q (A1 ++ A2)) (hB : Srt q (B1 ++ B2)) (hGA : ∀ z ∈ A1 ++ A2, G z) (hGB : ∀ z ∈ B1 ++ B2, G z)
  (h1 : ∀ A' a b B', A1 = A' ++ [a] → B2 = b :: B' → ¬ q b a < 0) (h2 : ∀ B' b a A', B1 = B' ++ [b] → A2 = a :: A' → q b a < 0) :
  ∀ x ∈ A1 ++ B1, ∀ y ∈ A2 ++ B2, ¬ q y x < 0 := by
 obtain ⟨a1, a2, a3⟩ := Srt.append_iff.1 hA
 obtain ⟨b1, b2, b3⟩ := Srt.append_iff.1 hB
 intro x hx y hy
 rcases List.mem_append.1 hx with hx | hx <;> rcases List.mem_append.1 hy with hy | hy
 ·
  exact a3 x hx y hy
 ·
  rcases ends A1 with e | ⟨A', a, rfl⟩
  ·
   rw [e] at hx; cases hx
  cases B2 with
  | nil => cases hy
  | cons b B' =>
   have hl := h1 A' a b B' rfl rfl
   have ga : ∀ z ∈ A' ++ [a], G z := fun z hz => hGA z (List.mem_append_left _ hz)
   have gb : ∀ z ∈ b :: B', G z := fun z hz => hGB z (List.mem_append_right _ hz)
   have hb := Srt.last_le h a1 ga (gb b (by simp)) hl x hx
   exact Srt.first_le h b2 gb (ga x hx) hb y hy
 ·
  rcases ends B1 with e | ⟨B', b, rfl⟩
  ·
   rw [e] at hx; cases hx
  cases A2 with
  | nil => cases hy
  | cons a A' =>
   have hl := h2 B' b a A' rfl rfl
   have ga : ∀ z ∈ a :: A', G z := fun z hz => hGA z (List.mem_append_right _ hz)
   have gb : ∀ z ∈ B' ++ [b], G z := fun z hz => hGB z (List.mem_append_left _ hz)
   have hb := lt_of_last h b1 gb (ga a (by simp)) hl x hx
   exact Srt.first_le h a2 ga (gb x hx) hb y hy
 ·
  exact b3 x hx y hy
/-- Whatever goes first is no greater than whatever goes last. -/
def Halved (q : α → α → Int) (A1 A2 B1 B2 : List α) : Prop := ∀ x ∈ A1 ++ B1, ∀ y ∈ A2 ++ B2, ¬ q y x < 0
theorem merged {A1 A2 B1 B2 M1 M2 : List α} (hh : Halved q A1 A2 B1 B2) (p1 : M1.Perm (A1 ++ B1)) (p2 : M2.Perm (A2 ++ B2)) (s1 : Srt q M1) (s2 : Srt q M2) :
  Srt q (M1 ++ M2) ∧ (M1 ++ M2).Perm ((A1 ++ A2) ++ (B1 ++ B2)) := by
 refine ⟨Srt.append_iff.2 ⟨s1, s2, fun a ha b hb => hh a (p1.mem_iff.1 ha) b (p2.mem_iff.1 hb)⟩, (p1.append p2).trans ?_⟩
 have e : A1 ++ A2 ++ (B1 ++ B2) = A1 ++ ((A2 ++ B1) ++ B2) := by simp [List.append_assoc]
 have e2 : A1 ++ B1 ++ (A2 ++ B2) = A1 ++ ((B1 ++ A2) ++ B2) := by simp [List.append_assoc]
 rw [e, e2]
 exact (List.perm_append_comm.append_right B2).append_left A1
/-- Pieces of a length, each in order, up to a place. -/
def Blk (q : α → α → Int) (bs lo hi : Nat) (l : List α) : Prop := ∀ i j x y, lo ≤ i → i < j → j < hi → i / bs = j / bs → l[i]? = some x → l[j]? = some y → ¬ q y x < 0
theorem Blk.weak {bs lo hi lo' hi' : Nat} {l : List α} (h : Blk q bs lo hi l) (h1 : lo ≤ lo') (h2 : hi' ≤ hi) : Blk q bs lo' hi' l := fun i j x y a b c => h i j x y (by omega) b (by omega)
theorem Blk.empty (bs lo : Nat) (l : List α) : Blk q bs lo lo l := fun i j x y a b c => by omega
theorem Srt.get {l : List α} (h : Srt q l) {i j : Nat} {x y : α} (hij : i < j) (hx : l[i]? = some x) (hy : l[j]? = some y) : ¬ q y x < 0 := by
 obtain ⟨hi, e1⟩ := List.getElem?_eq_some_iff.1 hx
 obtain ⟨hj, e2⟩ := List.getElem?_eq_some_iff.1 hy
 have := List.pairwise_iff_getElem.1 h i j hi hj hij
 rw [e1, e2] at this
 exact this
/-- One more piece in order. -/
theorem Blk.more {bs a : Nat} {P M M' S : List α} (h : Blk q bs 0 a (P ++ M ++ S)) (hP : P.length = a) (hd : bs ∣ a) (hb : 0 < bs) (hl : M'.length = M.length) (hm : M.length ≤ bs) (hs : Srt q M') : Blk q bs 0 (a + M.length) (P ++ M' ++ S) := by
 intro i j x y h1 h2 h3 h4 hx hy
 by_cases hi : i < a
 ·
  by_cases hj : j < a
  ·
   refine h i j x y h1 h2 hj h4 ?_ ?_
   ·
    rw [List.append_assoc, List.getElem?_append_left (by omega)] at hx ⊢; exact hx
   ·
    rw [List.append_assoc, List.getElem?_append_left (by omega)] at hy ⊢; exact hy
  ·
   exfalso
   obtain ⟨c, rfl⟩ := hd
   have e1 : i / bs < c := Nat.div_lt_of_lt_mul hi
   have e2 : c ≤ j / bs := (Nat.le_div_iff_mul_le hb).2 (by rw [Nat.mul_comm]; omega)
   omega
 ·
  have hx' : M'[i - a]? = some x := by
   rw [List.append_assoc, List.getElem?_append_right (by omega), List.getElem?_append_left (by omega), hP] at hx
   exact hx
  have hy' : M'[j - a]? = some y := by
   rw [List.append_assoc, List.getElem?_append_right (by omega), List.getElem?_append_left (by omega), hP] at hy
   exact hy
  exact hs.get (by omega) hx' hy'
/-- A piece of the list that lies in one block is in order. -/
theorem Blk.seg {bs lo hi : Nat} {P M S : List α} (h : Blk q bs lo hi (P ++ M ++ S)) (h1 : lo ≤ P.length) (h2 : P.length + M.length ≤ hi) (c : Nat) (hc : ∀ i, P.length ≤ i → i < P.length + M.length → i / bs = c) : Srt q M := by
 refine List.pairwise_iff_getElem.2 (fun i j hi hj hij => ?_)
 refine h (P.length + i) (P.length + j) _ _ (by omega) (by omega) (by omega) ((hc _ (by omega) (by omega)).trans (hc _ (by omega) (by omega)).symm) ?_ ?_
 ·
  rw [List.append_assoc, List.getElem?_append_right (by omega), List.getElem?_append_left (by omega), Nat.add_sub_cancel_left, List.getElem?_eq_getElem hi]
 ·
  rw [List.append_assoc, List.getElem?_append_right (by omega), List.getElem?_append_left (by omega), Nat.add_sub_cancel_left, List.getElem?_eq_getElem hj]
theorem Blk.all {bs : Nat} {l : List α} (h : Blk q bs 0 l.length l) (hl : l.length ≤ bs) : Srt q l := by
 have h' : Blk q bs 0 l.length ([] ++ l ++ []) := by simpa using h
 refine h'.seg (Nat.le_refl _) (by simp) 0 (fun i _ hi => ?_)
 exact Nat.div_eq_of_lt (by simp at hi; omega)
/-- Behind what is turned the pieces stay. -/
theorem Blk.rest {bs lo hi : Nat} {P M M' S : List α} (h : Blk q bs lo hi (P ++ M ++ S)) (hl : M'.length = M.length) (h1 : P.length + M.length ≤ lo) : Blk q bs lo hi (P ++ M' ++ S) := by
 intro i j x y a b c d hx hy
 refine h i j x y a b c d ?_ ?_
 ·
  rw [List.getElem?_append_right (by simp; omega)] at hx ⊢
  simpa [hl] using hx
 ·
  rw [List.getElem?_append_right (by simp; omega)] at hy ⊢
  simpa [hl] using hy
theorem parts {l : List α} {a b : Nat} (hab : a ≤ b) (hb : b ≤ l.length) : ∃ P M S, l = P ++ M ++ S ∧ P.length = a ∧ M.length = b - a :=
 ⟨l.take a, (l.drop a).take (b - a), l.drop b, by
  have e : l.drop b = (l.drop a).drop (b - a) := by rw [List.drop_drop]; congr 1; omega
  rw [e, List.append_assoc, List.take_append_drop, List.take_append_drop], by simp; omega, by simp; omega⟩
theorem perm_mid {P M M' S l : List α} (h : (P ++ M ++ S).Perm l) (p : M'.Perm M) : (P ++ M' ++ S).Perm l := (((p.append_left P).append_right S)).trans h
theorem perm_good {l xs : List α} (h : l.Perm xs) (hG : ∀ z ∈ xs, G z) : ∀ z ∈ l, G z := fun z hz => hG z (h.mem_iff.1 hz)
/-- Two lists in order of the same things, the one without equals: they are the same. -/
theorem sorted_unique {l1 l2 : List α} (h : POrd G q) (hp : l1.Perm l2) (s1 : l1.Pairwise (fun a b => q a b < 0)) (s2 : Srt q l2) (hG : ∀ z ∈ l1, G z) : l1 = l2 := by
 induction l1 generalizing l2 with
 | nil => exact (List.nil_perm.1 hp).symm
 | cons a A ih =>
  cases l2 with
  | nil => exact absurd (List.perm_nil.1 hp) (by simp)
  | cons b B =>
   obtain ⟨ha, hA⟩ := List.pairwise_cons.1 s1
   obtain ⟨hb, hB⟩ := Srt.cons_iff.1 s2
   have hab : a = b := by
    have hma : a ∈ b :: B := hp.mem_iff.1 (by simp)
    have hmb : b ∈ a :: A := hp.mem_iff.2 (by simp)
    rcases List.mem_cons.1 hma with e | hma
    ·
     exact e
    rcases List.mem_cons.1 hmb with e | hmb
    ·
     exact e.symm
    exact absurd (ha b hmb) (hb a hma)
   subst hab
   rw [ih (List.Perm.cons_inv hp) hA hB (fun z hz => hG z (List.mem_cons_of_mem _ hz))]
end
end Go.Proofs.Ythpklhkibcenoaa.Sk
