/- What the functions that lay numbers compute: a number in eight bytes, in groups of seven bits, a text behind a number. -/

import Derived.Test.YtobjkjmmkbhecaaPx0
import Derived.Test.YtobjkjmmkbhecaaCore
set_option linter.unusedVariables false
set_option linter.unusedSimpArgs false
namespace Go.Proofs.Ytobjkjmmkbhecaa.Sw
open Go.RowKit Go.Proofs.Ytobjkjmmkbhecaa.Px Go.Proofs.YtobjkjmmkbhecaaW.PrintWords Go.Proofs.YtobjkjmmkbhecaaW.PrintLast Go.Proofs.YtobjkjmmkbhecaaW.PrintMore

theorem Ev.none_if {α : Type} {g : Nat → Option α} {c : Prop} [Decidable c] {r : α} (hc : c) (h : Ev g r) : Ev (fun k => if c then g k else none) r := by
  simp only [if_pos hc]; exact h
theorem Ev.pos {α : Type} {g f : Nat → Option α} {c : Prop} [Decidable c] {r : α} (hc : c) (h : Ev g r) : Ev (fun k => if c then g k else f k) r := by
  simp only [if_pos hc]; exact h
theorem Ev.neg {α : Type} {g f : Nat → Option α} {c : Prop} [Decidable c] {r : α} (hc : ¬ c) (h : Ev f r) : Ev (fun k => if c then g k else f k) r := by
  simp only [if_neg hc]; exact h
theorem Ev.bindc {α β : Type} {o : Option α} {f : Nat → α → Option β} {a : α} {r : β} (h : o = some a) (k : Ev (fun n => f n a) r) : Ev (fun n => o.bind (f n)) r := by
  subst h; exact k
theorem Ev.const {α : Type} {o : Option α} {r : α} (h : o = some r) : Ev (fun _ => o) r := ⟨0, fun _ _ => h⟩

/-! ### n bytes of a number, the highest first -/
def be : Nat → Int → List Int
  | 0, _ => []
  | n + 1, x => be n (x / 256) ++ [x % 256]
theorem be_length : ∀ (n : Nat) (x : Int), (be n x).length = n
  | 0, _ => rfl
  | n + 1, x => by rw [be, List.length_append, be_length n]; rfl
theorem be_byts : ∀ (n : Nat) (x : Int), Byts (be n x)
  | 0, _ => Byts.nil
  | n + 1, x => by
    rw [be]
    exact (be_byts n _).append (Byts.one (by omega) (by omega))
/-- What some bytes say, the highest first. -/
def val : List Int → Int → Int
  | [], a => a
  | c :: l, a => val l (a * 256 + c)
theorem val_append : ∀ (x y : List Int) (a : Int), val (x ++ y) a = val y (val x a)
  | [], _, _ => rfl
  | c :: l, y, a => by rw [List.cons_append, val, val, val_append l]
theorem val_be : ∀ (n : Nat) (x a : Int), 0 ≤ x → x < 256 ^ n → val (be n x) a = a * 256 ^ n + x
  | 0, x, a, h0, h1 => by
    simp at h1
    have : x = 0 := by omega
    subst this
    simp [be, val]
  | n + 1, x, a, h0, h1 => by
    have h2 : (256 : Int) ^ (n + 1) = 256 ^ n * 256 := Int.pow_succ _ _
    rw [be, val_append, val_be n (x / 256) a (by omega) (by rw [h2] at h1; omega)]
    simp only [val]
    rw [h2, ← Int.mul_assoc, Int.add_mul]
    omega
theorem rev_ind {P : List Int → Prop} (h0 : P []) (h1 : ∀ l c, P l → P (l ++ [c])) (l : List Int) : P l := by
  have h : ∀ r : List Int, P r.reverse := by
    intro r
    induction r with
    | nil => exact h0
    | cons c r ih => rw [List.reverse_cons]; exact h1 _ _ ih
  have := h l.reverse
  rwa [List.reverse_reverse] at this
theorem be_val : ∀ (l : List Int), Byts l → ∀ a, be l.length (val l a) = l ∧ val l a = a * 256 ^ l.length + val l 0 := by
  refine rev_ind ?_ ?_
  · intro _ a; simp [be, val]
  · intro l c ih h a
    have hc := h.right.head
    obtain ⟨h1, h2⟩ := ih h.left a
    obtain ⟨h3, h4⟩ := ih h.left 0
    rw [val_append, val_append, List.length_append]
    simp only [val, List.length_cons, List.length_nil, Nat.zero_add, be]
    refine ⟨?_, ?_⟩
    · rw [show (val l a * 256 + c) / 256 = val l a by omega, show (val l a * 256 + c) % 256 = c by omega, h1]
    · rw [h2, Int.pow_succ, ← Int.mul_assoc, Int.add_mul]
      omega
theorem val_nonneg : ∀ (l : List Int), Byts l → ∀ a, 0 ≤ a → 0 ≤ val l a
  | [], _, _, h => h
  | c :: l, h, a, h0 => val_nonneg l h.tail _ (by have := h.head; omega)
theorem val_lt : ∀ (l : List Int), Byts l → val l 0 < 256 ^ l.length := by
  refine rev_ind ?_ ?_
  · intro _; simp [val]
  · intro l c ih h
    have hc := h.right.head
    have := ih h.left
    rw [val_append, List.length_append]
    simp only [val, List.length_cons, List.length_nil, Nat.zero_add, Int.pow_succ]
    omega
theorem set_replicate (m : Nat) (v : Int) (t : List Int) : (List.replicate (m + 1) 0 ++ t).set m v = List.replicate m 0 ++ v :: t := by
  rw [List.replicate_succ', List.append_assoc, List.set_append_right _ _ (by simp)]
  simp
def grp (n : Nat) : List Int := if n < 128 then [(n : Int)] else ((n % 128 + 128 : Nat) : Int) :: grp (n / 128)
termination_by n
theorem grp_lo {n : Nat} (h : n < 128) : grp n = [(n : Int)] := by rw [grp, if_pos h]
theorem grp_hi {n : Nat} (h : ¬ n < 128) : grp n = ((n % 128 + 128 : Nat) : Int) :: grp (n / 128) := by rw [grp, if_neg h]
theorem grp_byts (n : Nat) : Byts (grp n) := by
  induction n using Nat.strongRecOn with
  | ind n ih =>
    by_cases h : n < 128
    · rw [grp_lo h]; exact Byts.one (by omega) (by omega)
    · rw [grp_hi h]; exact Byts.cons (by omega) (by omega) (ih _ (by omega))
theorem grp_length_le (k : Nat) : ∀ n : Nat, n < 128 ^ (k + 1) → (grp n).length ≤ k + 1 := by
  induction k with
  | zero => intro n h; rw [grp_lo (by simpa using h)]; simp
  | succ k ih =>
    intro n h
    by_cases c : n < 128
    · rw [grp_lo c]; simp
    · rw [grp_hi c, List.length_cons]
      have := ih (n / 128) (by rw [Nat.pow_succ] at h; exact Nat.div_lt_of_lt_mul (by rw [Nat.mul_comm]; exact h))
      omega
theorem grp_pos (n : Nat) : 0 < (grp n).length := by
  rw [grp]; split <;> simp
theorem grp9 {n : Nat} (h : n ≤ 4611686018427387903) : (grp n).length ≤ 9 := grp_length_le 8 n (by omega)
theorem or128 (y : Int) (h0 : 0 ≤ y) (h1 : y < 256) : Go.bits .or .u8 y 128 = y % 128 + 128 := by
  have h : ∀ n : Fin 256, Go.bits .or .u8 (n.val : Int) 128 = (n.val : Int) % 128 + 128 := by decide +kernel
  have := h ⟨y.toNat, by omega⟩
  simpa [Int.toNat_of_nonneg h0] using this
/-- A number as its groups' number: below 0 it counts as 0, above 2^62 - 1 as that. -/
def cap (n : Int) : Nat := (min (max n 0) 4611686018427387903).toNat
theorem cap_le (n : Int) : cap n ≤ 4611686018427387903 := by unfold cap; omega
theorem cap_of {n : Nat} (h : n ≤ 4611686018427387903) : cap (n : Int) = n := by unfold cap; omega
theorem mn_cap (n : Int) : mn (mx n 0) 4611686018427387903 = (cap n : Int) := by
  unfold mn mx cap
  split <;> split <;> omega
end Go.Proofs.Ytobjkjmmkbhecaa.Sw
