/- What the document's functions that lay numbers compute, and the order of fixed numbers. -/
import Derived.Test.YthpklhkibcenoaaPx48
import Derived.Test.YthpklhkibcenoaaPx51
import Derived.Test.YthpklhkibcenoaaSpecA
set_option linter.unusedVariables false
set_option linter.unusedSimpArgs false
namespace Go.Proofs.Ythpklhkibcenoaa.Sw
open Go.RowKit Go.Proofs.Ythpklhkibcenoaa.Px Go.Proofs.YthpklhkibcenoaaW.PrintWords Go.Proofs.YthpklhkibcenoaaW.PrintLast Go.Proofs.YthpklhkibcenoaaW.PrintMore

theorem pow256_pos (n : Nat) : (0 : Int) < 256 ^ n := Int.pow_pos (by omega)
/-- Rows of one length go as what they say. -/
theorem less_val : ∀ (l m : List Int) (a : Int), Byts l → Byts m → l.length = m.length → (less l m = true ↔ val l a < val m a)
  | [], [], a, _, _, _ => by simp [less, val]
  | [], _ :: _, _, _, _, h => by simp at h
  | _ :: _, [], _, _, _, h => by simp at h
  | c :: l, d :: m, a, hl, hm, h => by
    have hc := hl.head
    have hd := hm.head
    have hlen : l.length = m.length := by simpa using h
    have h1 := (be_val l hl.tail (a * 256 + c)).2
    have h2 := (be_val m hm.tail (a * 256 + d)).2
    have b1 := val_lt l hl.tail
    have b2 := val_lt m hm.tail
    have n1 := val_nonneg l hl.tail 0 (by omega)
    have n2 := val_nonneg m hm.tail 0 (by omega)
    have hp := pow256_pos m.length
    rw [less_cons]
    simp only [val]
    rw [hlen] at h1 b1
    constructor
    · rintro (k | ⟨k, k'⟩)
      · have h3 : (a * 256 + c + 1) * 256 ^ m.length ≤ (a * 256 + d) * 256 ^ m.length := Int.mul_le_mul_of_nonneg_right (by omega) (by omega)
        rw [Int.add_mul, Int.one_mul] at h3
        omega
      · subst k
        exact (less_val l m _ hl.tail hm.tail hlen).1 k'
    · intro k
      by_cases e : c = d
      · subst e
        exact .inr ⟨rfl, (less_val l m _ hl.tail hm.tail hlen).2 k⟩
      · by_cases e2 : c < d
        · exact .inl e2
        · have h3 : (a * 256 + d + 1) * 256 ^ m.length ≤ (a * 256 + c) * 256 ^ m.length := Int.mul_le_mul_of_nonneg_right (by omega) (by omega)
          rw [Int.add_mul, Int.one_mul] at h3
          omega
theorem less_be (n : Nat) {x y : Int} (hx0 : 0 ≤ x) (hx : x < 256 ^ n) (hy0 : 0 ≤ y) (hy : y < 256 ^ n) : less (be n x) (be n y) = decide (x < y) := by
  rw [Bool.eq_iff_iff, less_val _ _ 0 (be_byts _ _) (be_byts _ _) (by rw [be_length, be_length]), val_be n x 0 hx0 hx, val_be n y 0 hy0 hy]
  simp
theorem be_inj (n : Nat) {x y : Int} (hx0 : 0 ≤ x) (hx : x < 256 ^ n) (hy0 : 0 ≤ y) (hy : y < 256 ^ n) (h : be n x = be n y) : x = y := by
  have h1 := val_be n x 0 hx0 hx
  have h2 := val_be n y 0 hy0 hy
  rw [h] at h1
  omega

/-! ### the document's -/
theorem be_shift : ∀ (m : Nat) (x : Int), be (m + 1) x = (x / 256 ^ m) % 256 :: be m x
  | 0, x => by simp [be]
  | m + 1, x => by
    rw [be, be_shift m, be, List.cons_append]
    congr 1
    rw [Int.ediv_ediv_of_nonneg (by omega), Int.pow_succ, Int.mul_comm]
theorem shr_pow (x : Int) (m : Nat) (hm : m < 8) : shr .i64 x (wrap64 (8 * (m : Int))) = x / 256 ^ m := by
  rw [wrap_in (by omega) (by omega)]
  unfold shr
  rw [show (8 * (m : Int)).toNat = 8 * m by omega, Nat.min_eq_left (by simp [IntKind.bits]; omega)]
  congr 1
  rw [Int.pow_mul]
  rfl
theorem refNum_loop (n : Nat) : ∀ (acc : List Int), n ≤ 4611686018427387903 → acc.length + (grp n).length < 140737488355328 →
    Ev (fun k => sawyerref02_PutNum.l0 k (n : Int) acc) (acc ++ grp n) := by
  induction n using Nat.strongRecOn with
  | ind n ih =>
    intro acc hn hl
    by_cases h : n < 128
    · rw [grp_lo h] at hl ⊢
      refine Ev.step (f := fun _ => some (acc ++ [(n : Int)])) (fun k => ?_) (Ev.now _)
      simp only [sawyerref02_PutNum.l0]
      rw [if_neg (by omega), if_pos (by simp at hl; omega), show ((n : Int) % 256) = n by omega]
    · rw [grp_hi h] at hl ⊢
      rw [List.length_cons] at hl
      have := ih (n / 128) (by omega) (acc ++ [((n % 128 + 128 : Nat) : Int)]) (by omega) (by simp; omega)
      refine Ev.step (fun k => ?_) (show Ev (fun k => sawyerref02_PutNum.l0 k ((n / 128 : Nat) : Int) (acc ++ [((n % 128 + 128 : Nat) : Int)])) _ from ?_)
      · simp only [sawyerref02_PutNum.l0]
        have e1 : Int.tdiv (n : Int) 128 = ((n / 128 : Nat) : Int) := by rw [Int.tdiv_eq_ediv_of_nonneg (by omega)]; omega
        have e2 : Int.tmod (n : Int) 128 = ((n % 128 : Nat) : Int) := by rw [Int.tmod_eq_emod_of_nonneg (by omega)]; omega
        rw [if_pos (by omega), if_pos (by omega), e1, e2, wrap_in (by omega) (by omega), wrap_in (by omega) (by omega), show (128 + ((n % 128 : Nat) : Int)) % 256 = ((n % 128 + 128 : Nat) : Int) by omega]
      · rw [List.append_assoc] at this
        exact this
theorem refNum_f (l : List Int) (n : Int) (hl : l.length + 9 < 140737488355328) : Ev (fun k => sawyerref02_PutNum.f k l n) (l ++ grp (cap n)) := by
  unfold sawyerref02_PutNum.f
  refine Ev.pos (by simp; omega) ?_
  rw [mn_cap]
  have := refNum_loop (cap n) ([] ++ l) (cap_le n) (by have := grp9 (cap_le n); simp; omega)
  simpa using this
theorem same_f {a b : List Int} (ha : Byts a) (hb : Byts b) : sawyerref02_Same.f a b = some (decide (a = b)) := by
  unfold sawyerref02_Same.f
  rw [str_eq ha hb]
end Go.Proofs.Ythpklhkibcenoaa.Sw
