/- Chains of pointers: the levels of a skip list, in plain Lean. -/
import Derived.Below
set_option linter.unusedVariables false
namespace Go.Proofs.Ytjlkcidohabcfaa.Sk
open Go.RowKit

/-- From a on, the pointers go through just these. -/
def Chain (f : Nat → Option Nat) : Nat → List Nat → Prop
  | a, [] => f a = none
  | a, b :: L => f a = some b ∧ Chain f b L
def put1 (f : Nat → Option Nat) (p : Nat) (v : Option Nat) : Nat → Option Nat := fun b => if b = p then v else f b
theorem put1_same (f : Nat → Option Nat) (p : Nat) (v : Option Nat) : put1 f p v p = v := if_pos rfl
theorem put1_far {f : Nat → Option Nat} {p b : Nat} {v : Option Nat} (h : b ≠ p) : put1 f p v b = f b := if_neg h
theorem Chain.cong {f f' : Nat → Option Nat} : ∀ {a : Nat} {L : List Nat}, Chain f a L → (∀ b, b ∈ a :: L → f' b = f b) → Chain f' a L
  | a, [], h, hf => (hf a (by simp)).trans h
  | a, b :: L, h, hf => ⟨(hf a (by simp)).trans h.1, Chain.cong h.2 (fun c hc => hf c (List.mem_cons_of_mem _ hc))⟩
theorem Chain.head {f : Nat → Option Nat} : ∀ {a : Nat} {L : List Nat}, Chain f a L → f a = L.head?
  | a, [], h => h
  | a, b :: L, h => h.1
/-- The last of a and what begins with X. -/
def endOf (a : Nat) (X : List Nat) : Nat := X.getLastD a
theorem endOf_nil (a : Nat) : endOf a [] = a := rfl
theorem endOf_cons (a b : Nat) (X : List Nat) : endOf a (b :: X) = endOf b X := by
  cases X <;> rfl
theorem endOf_snoc (a b : Nat) (X : List Nat) : endOf a (X ++ [b]) = b := by
  unfold endOf
  simp
theorem endOf_mem (a : Nat) : ∀ X : List Nat, endOf a X ∈ a :: X
  | [] => by simp [endOf_nil]
  | b :: X => by
    rw [endOf_cons]
    exact List.mem_cons_of_mem _ (endOf_mem b X)
theorem Chain.split {f : Nat → Option Nat} : ∀ {a : Nat} {X Y : List Nat}, Chain f a (X ++ Y) → Chain f (endOf a X) Y
  | a, [], Y, h => h
  | a, b :: X, Y, h => by
    rw [endOf_cons]
    exact Chain.split h.2
/-- One more, behind X. -/
theorem Chain.insert {f : Nat → Option Nat} {t : Nat} : ∀ {a : Nat} {X Y : List Nat}, Chain f a (X ++ Y) → (a :: (X ++ Y)).Nodup → t ∉ a :: (X ++ Y) → Chain (put1 (put1 f t (f (endOf a X))) (endOf a X) (some t)) a (X ++ t :: Y)
  | a, [], Y, h, hn, ht => by
    rw [endOf_nil]
    have hne : t ≠ a := fun e => ht (by simp [e])
    refine ⟨put1_same _ _ _, ?_⟩
    have hh : Chain f a Y := h
    cases Y with
    | nil =>
      show put1 _ _ _ t = none
      rw [put1_far hne, put1_same]
      exact hh
    | cons b Y =>
      refine ⟨?_, ?_⟩
      · rw [put1_far hne, put1_same]
        exact hh.1
      · refine hh.2.cong (fun c hc => ?_)
        have h1 : c ≠ a := fun e => by
          subst e
          exact (List.nodup_cons.1 hn).1 hc
        have h2 : c ≠ t := fun e => by
          subst e
          exact ht (List.mem_cons_of_mem _ hc)
        rw [put1_far h1, put1_far h2]
  | a, b :: X, Y, h, hn, ht => by
    rw [endOf_cons]
    have hh : f a = some b ∧ Chain f b (X ++ Y) := h
    have ih := Chain.insert (t := t) hh.2 (List.nodup_cons.1 hn).2 (fun hm => ht (List.mem_cons_of_mem _ hm))
    refine ⟨?_, ih⟩
    have h1 : a ≠ endOf b X := fun e => by
      have hm := endOf_mem b X
      rw [← e] at hm
      refine (List.nodup_cons.1 hn).1 ?_
      rcases List.mem_cons.1 hm with he | hm
      · rw [he]; simp
      · exact List.mem_cons_of_mem _ (List.mem_append_left _ hm)
    have h2 : a ≠ t := fun e => ht (by simp [e])
    rw [put1_far h1, put1_far h2]
    exact hh.1
/-- What is not on the way may be turned. -/
theorem Chain.aside {f : Nat → Option Nat} {p : Nat} {v : Option Nat} {a : Nat} {L : List Nat} (h : Chain f a L) (hp : p ∉ a :: L) : Chain (put1 f p v) a L := h.cong (fun b hb => put1_far (fun e => hp (e ▸ hb)))
end Go.Proofs.Ytjlkcidohabcfaa.Sk
