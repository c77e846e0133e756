/- Groups of one key and pieces, in plain Lean. Conditions: those of each theorem. -/
import Derived.Test.YtobjkjmmkbhecaaPx0
import Derived.Test.YtobjkjmmkbhecaaCore
namespace Go.Proofs.Ytobjkjmmkbhecaa.Sk
open Go.RowKit Go.Proofs.YtobjkjmmkbhecaaW.PrintWords Go.Proofs.YtobjkjmmkbhecaaW.PrintLast Go.Proofs.YtobjkjmmkbhecaaW.PrintMore Go.Proofs.Ytobjkjmmkbhecaa.Px Go.Proofs.Ytobjkjmmkbhecaa.Sw
set_option linter.unusedVariables false
set_option linter.unusedSimpArgs false
/-! ### groups of one key, pieces -/
section
variable {α : Type} {key : α → List Int}
/-- Those ahead that have a key, and what is behind them. -/
def ofKey (key : α → List Int) (k : List Int) : List α → List α × List α
 | [] => ([], [])
 | x :: l => if key x = k then (x :: (ofKey key k l).1, (ofKey key k l).2) else ([], x :: l)
theorem ofKey_app (k : List Int) : ∀ l : List α, (ofKey key k l).1 ++ (ofKey key k l).2 = l
 | [] => rfl
 | x :: l => by
  unfold ofKey
  split
  ·
   show x :: ((ofKey key k l).1 ++ (ofKey key k l).2) = x :: l
   rw [ofKey_app k l]
  ·
   rfl
theorem ofKey_key (k : List Int) : ∀ l : List α, ∀ x ∈ (ofKey key k l).1, key x = k
 | [], x, h => by cases h
 | y :: l, x, h => by
  unfold ofKey at h
  split at h
  ·
   rename_i hy
   rcases List.mem_cons.1 h with e | e
   ·
    rw [e]; exact hy
   ·
    exact ofKey_key k l x e
  ·
   cases h
theorem ofKey_len (k : List Int) (l : List α) : (ofKey key k l).2.length ≤ l.length := by
 have := congrArg List.length (ofKey_app (key := key) k l)
 rw [List.length_append] at this
 omega
/-- Entries of one key that stand one behind the other. -/
def groupsK (key : α → List Int) : List α → List (List α)
 | [] => []
 | x :: l => (x :: (ofKey key (key x) l).1) :: groupsK key (ofKey key (key x) l).2
termination_by l => l.length
decreasing_by have := ofKey_len (key := key) (key x) l; simp only [List.length_cons]; omega
theorem groupsK_flat : ∀ (n : Nat) (l : List α), l.length ≤ n → (groupsK key l).flatten = l
 | _, [], _ => by rw [groupsK]; rfl
 | 0, x :: l, h => by simp at h
 | n + 1, x :: l, h => by
  rw [groupsK, List.flatten_cons, groupsK_flat n _ (by have := ofKey_len (key := key) (key x) l; simp at h; omega), List.cons_append, ofKey_app]
/-- A group: some of one key. -/
def OneKey (key : α → List Int) (g : List α) : Prop := g ≠ [] ∧ ∀ x ∈ g, ∀ y ∈ g, key x = key y
theorem groupsK_one : ∀ (n : Nat) (l : List α), l.length ≤ n → ∀ g ∈ groupsK key l, OneKey key g
 | _, [], _, g, h => by rw [groupsK] at h; cases h
 | 0, x :: l, h, _, _ => by simp at h
 | n + 1, x :: l, h, g, hg => by
  rw [groupsK] at hg
  rcases List.mem_cons.1 hg with e | e
  ·
   subst e
   have hk : ∀ y ∈ x :: (ofKey key (key x) l).1, key y = key x := by
    intro y hy
    rcases List.mem_cons.1 hy with e | e
    ·
     rw [e]
    ·
     exact ofKey_key _ _ y e
   exact ⟨by simp, fun a ha b hb => (hk a ha).trans (hk b hb).symm⟩
  ·
   exact groupsK_one n _ (by have := ofKey_len (key := key) (key x) l; simp at h; omega) g e
/-- One group more in pieces that are at most so long. -/
def pieceE (most : Int) (out : List (List α)) (g : List α) : List (List α) :=
 match out.getLast? with
 | none => [g]
 | some p => if (p.length : Int) + (g.length : Int) > most then out ++ [g] else out.dropLast ++ [p ++ g]
def splitE (key : α → List Int) (most : Int) (l : List α) : List (List α) := (groupsK key l).foldl (pieceE most) []
theorem pieceE_flat (most : Int) (out : List (List α)) (g : List α) : (pieceE most out g).flatten = out.flatten ++ g := by
 unfold pieceE
 rcases List.eq_nil_or_concat out with e | ⟨o, p, e⟩
 ·
  subst e; simp
 ·
  subst e
  simp only [List.concat_eq_append, List.getLast?_append, List.getLast?_singleton, Option.some_or, List.dropLast_concat]
  split
  ·
   simp
  ·
   simp
theorem splitE_flat (most : Int) (l : List α) : (splitE key most l).flatten = l := by
 have h : ∀ (gs : List (List α)) (out : List (List α)), (gs.foldl (pieceE most) out).flatten = out.flatten ++ gs.flatten := by
  intro gs
  induction gs with
  | nil => intro out; simp
  | cons g gs ih => intro out; rw [List.foldl_cons, ih, pieceE_flat]; simp
 unfold splitE
 rw [h, groupsK_flat l.length l (Nat.le_refl _)]
 rfl
/-- A piece: some, and not too many, or of one key. -/
def Piece (key : α → List Int) (most : Int) (p : List α) : Prop := p ≠ [] ∧ ((p.length : Int) ≤ most ∨ OneKey key p)
theorem splitE_pieces (most : Int) (l : List α) : ∀ p ∈ splitE key most l, Piece key most p := by
 have h : ∀ (gs : List (List α)) (out : List (List α)), (∀ g ∈ gs, OneKey key g) → (∀ p ∈ out, Piece key most p) → ∀ p ∈ gs.foldl (pieceE most) out, Piece key most p := by
  intro gs
  induction gs with
  | nil => intro out _ ho p hp; exact ho p hp
  | cons g gs ih =>
   intro out hg ho
   rw [List.foldl_cons]
   refine ih _ (fun x hx => hg x (List.mem_cons_of_mem _ hx)) (fun p hp => ?_)
   have g1 := hg g (by simp)
   unfold pieceE at hp
   rcases List.eq_nil_or_concat out with e | ⟨o, q, e⟩
   ·
    subst e
    rw [List.mem_singleton.1 hp]
    exact ⟨g1.1, .inr g1⟩
   ·
    subst e
    simp only [List.concat_eq_append, List.getLast?_append, List.getLast?_singleton, Option.some_or, List.dropLast_concat] at hp
    split at hp
    ·
     rcases List.mem_append.1 hp with h1 | h1
     ·
      exact ho p (by simpa using h1)
     ·
      rw [List.mem_singleton.1 h1]; exact ⟨g1.1, .inr g1⟩
    ·
     rename_i hle
     rcases List.mem_append.1 hp with h1 | h1
     ·
      exact ho p (by simp [h1])
     ·
      rw [List.mem_singleton.1 h1]
      refine ⟨by simp [g1.1], .inl ?_⟩
      rw [List.length_append]
      omega
 exact h _ _ (groupsK_one l.length l (Nat.le_refl _)) (fun p hp => by cases hp)
end

section
variable {α : Type} {key : α → List Int}
theorem ofKey_take (k : List Int) : ∀ (m : Nat) (l : List α), m ≤ l.length → (∀ j z, j < m → l[j]? = some z → key z = k) → (∀ z, l[m]? = some z → key z ≠ k) → ofKey key k l = (l.take m, l.drop m)
 | 0, [], _, _, _ => rfl
 | 0, x :: l, _, _, h => by
  unfold ofKey
  rw [if_neg (h x rfl)]
  rfl
 | m + 1, [], h, _, _ => by simp at h
 | m + 1, x :: l, h, h1, h2 => by
  have ih := ofKey_take k m l (by simp at h; omega) (fun j z hj hz => h1 (j + 1) z (by omega) (by simpa using hz)) (fun z hz => h2 z (by simpa using hz))
  unfold ofKey
  rw [if_pos (h1 0 x (by omega) rfl), ih]
  rfl
/-- One group more. -/
theorem groupsK_step {l : List α} {n i : Nat} {x : α} (hx : l[n]? = some x) (hn : n ≤ i) (hi : i ≤ l.length) (h1 : ∀ j z, n ≤ j → j < i → l[j]? = some z → key z = key x) (h2 : ∀ z, l[i]? = some z → key z ≠ key x) :
  n < i ∧ groupsK key (l.drop n) = ((l.take i).drop n) :: groupsK key (l.drop i) := by
 have hlt : n < i := by
  by_cases h : n = i
  ·
   subst h; exact absurd rfl (h2 x hx)
  ·
   omega
 refine ⟨hlt, ?_⟩
 obtain ⟨hnl, he⟩ := List.getElem?_eq_some_iff.1 hx
 rw [List.drop_eq_getElem_cons hnl, he, groupsK]
 have ho := ofKey_take (key := key) (key x) (i - (n + 1)) (l.drop (n + 1)) (by simp; omega) (fun j z hj hz => by
  rw [List.getElem?_drop] at hz
  exact h1 _ z (by omega) (by omega) hz) (fun z hz => by
  rw [List.getElem?_drop, show n + 1 + (i - (n + 1)) = i by omega] at hz
  exact h2 z hz)
 rw [ho]
 have e1 : x :: (l.drop (n + 1)).take (i - (n + 1)) = (l.take i).drop n := by
  rw [List.drop_take, List.drop_eq_getElem_cons hnl, he, show i - n = (i - (n + 1)) + 1 by omega, List.take_succ_cons]
 have e2 : (l.drop (n + 1)).drop (i - (n + 1)) = l.drop i := by rw [List.drop_drop, show n + 1 + (i - (n + 1)) = i by omega]
 rw [e1, e2]
end
end Go.Proofs.Ytobjkjmmkbhecaa.Sk
