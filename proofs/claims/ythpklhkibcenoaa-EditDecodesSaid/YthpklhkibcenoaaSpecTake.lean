/- What the functions that take a number from any bytes compute. -/
import Derived.Test.YthpklhkibcenoaaMB
import Derived.Test.YthpklhkibcenoaaPx48
import Derived.Test.YthpklhkibcenoaaPx53
import Derived.Test.YthpklhkibcenoaaPx59
import Derived.Test.YthpklhkibcenoaaSpecB
import Derived.Test.YthpklhkibcenoaaSpecU
set_option linter.unusedVariables false
set_option linter.unusedSimpArgs false
namespace Go.Proofs.Ythpklhkibcenoaa.Sw
open Go.RowKit Go.Proofs.Ythpklhkibcenoaa.Px Go.Proofs.YthpklhkibcenoaaW.PrintWords Go.Proofs.YthpklhkibcenoaaW.PrintLast Go.Proofs.YthpklhkibcenoaaW.PrintMore

/-- A number of at most k groups at a row's beginning, and what is behind it; no group of nothing behind the first. -/
def dec : Nat → List Int → Option (Nat × List Int)
  | 0, _ => none
  | _ + 1, [] => none
  | k + 1, c :: l => if c < 128 then some (c.toNat, l) else match dec k l with
    | some (n, r) => if n = 0 then none else some (c.toNat - 128 + 128 * n, r)
    | none => none
theorem dec_grp (k : Nat) : ∀ (n : Nat) (r : List Int), (grp n).length ≤ k → dec k (grp n ++ r) = some (n, r) := by
  induction k with
  | zero => intro n r h; have := grp_pos n; omega
  | succ k ih =>
    intro n r h
    by_cases c : n < 128
    · rw [grp_lo c, List.cons_append, dec, if_pos (by omega)]; rfl
    · rw [grp_hi c] at h ⊢
      rw [List.cons_append, dec, if_neg (by omega), ih (n / 128) r (by simpa using h)]
      simp only
      rw [if_neg (by omega), Int.toNat_natCast]
      congr 2
      omega
theorem dec_back (k : Nat) : ∀ (l : List Int) (n : Nat) (r : List Int), Byts l → dec k l = some (n, r) → l = grp n ++ r ∧ (grp n).length ≤ k := by
  induction k with
  | zero => intro l n r _ h; simp [dec] at h
  | succ k ih =>
    intro l n r hl h
    cases l with
    | nil => simp [dec] at h
    | cons c l =>
      have hc := hl.head
      rw [dec] at h
      by_cases e : c < 128
      · rw [if_pos e] at h
        simp only [Option.some.injEq, Prod.mk.injEq] at h
        obtain ⟨rfl, rfl⟩ := h
        rw [grp_lo (by omega)]
        refine ⟨?_, by simp⟩
        rw [List.singleton_append, Int.toNat_of_nonneg hc.1]
      · rw [if_neg e] at h
        cases hd : dec k l with
        | none => rw [hd] at h; simp at h
        | some p =>
          obtain ⟨m, s⟩ := p
          rw [hd] at h
          simp only at h
          by_cases z : m = 0
          · rw [if_pos z] at h; cases h
          · rw [if_neg z] at h
            simp only [Option.some.injEq, Prod.mk.injEq] at h
            obtain ⟨rfl, rfl⟩ := h
            obtain ⟨h1, h2⟩ := ih l m s hl.tail hd
            rw [grp_hi (by omega), show (c.toNat - 128 + 128 * m) / 128 = m by omega]
            refine ⟨?_, by simp; omega⟩
            rw [List.cons_append, ← h1]
            congr 1
            omega
/-- The number at a row's beginning, and what is behind it. -/
def takeN (l : List Int) : Option (Nat × List Int) := (dec 9 l).bind fun p => if p.1 ≤ 4611686018427387903 then some p else none
theorem takeN_grp {n : Nat} (r : List Int) (h : n ≤ 4611686018427387903) : takeN (grp n ++ r) = some (n, r) := by
  unfold takeN
  rw [dec_grp 9 n r (grp9 h), Option.bind_some, if_pos h]
theorem takeN_back {l r : List Int} {n : Nat} (hl : Byts l) (h : takeN l = some (n, r)) : l = grp n ++ r ∧ n ≤ 4611686018427387903 := by
  unfold takeN at h
  cases hd : dec 9 l with
  | none => rw [hd] at h; simp at h
  | some p =>
    rw [hd, Option.bind_some] at h
    split at h
    · rename_i hp
      simp only [Option.some.injEq] at h
      subst h
      exact ⟨(dec_back 9 l n r hl hd).1, hp⟩
    · cases h
/-- From the i-th group on, with t taken from those ahead. -/
def cont (i t : Nat) (o : Option (Nat × List Int)) : Int × List Int × Int :=
  match o with
  | some (n, r) => if 0 < i ∧ n = 0 then (0, [], 2) else if t + 128 ^ i * n ≤ 4611686018427387903 then (((t + 128 ^ i * n : Nat) : Int), r, 0) else (0, [], 2)
  | none => (0, [], 2)
theorem cont_zero (o : Option (Nat × List Int)) : cont 0 0 o = tri (o.bind fun p => if p.1 ≤ 4611686018427387903 then some p else none) := by
  unfold cont tri
  cases o with
  | none => rfl
  | some p =>
    obtain ⟨n, r⟩ := p
    simp only [Option.bind_some, Nat.pow_zero, Nat.one_mul, Nat.zero_add, Nat.lt_irrefl, false_and, if_false]
    by_cases h : n ≤ 4611686018427387903
    · rw [if_pos h, if_pos h]
    · rw [if_neg h, if_neg h]
theorem cont_step {i t k : Nat} {c : Int} {l : List Int} (h0 : ¬ c < 128) : cont i t (dec (k + 1) (c :: l)) = cont (i + 1) (t + 128 ^ i * (c.toNat - 128)) (dec k l) := by
  rw [dec, if_neg h0]
  cases dec k l with
  | none => rfl
  | some p =>
    obtain ⟨n, r⟩ := p
    simp only
    by_cases z : n = 0
    · rw [if_pos z]
      unfold cont
      simp only
      rw [if_pos ⟨by omega, z⟩]
    · rw [if_neg z]
      unfold cont
      simp only
      have : t + 128 ^ i * (c.toNat - 128 + 128 * n) = t + 128 ^ i * (c.toNat - 128) + 128 ^ (i + 1) * n := by
        rw [Nat.pow_succ, Nat.mul_add, Nat.mul_assoc, Nat.add_assoc]
      rw [if_neg (show ¬ (0 < i ∧ c.toNat - 128 + 128 * n = 0) by omega), if_neg (show ¬ (0 < i + 1 ∧ n = 0) by omega), this]
theorem cont_last {i t k : Nat} {c : Int} {l : List Int} (h0 : c < 128) : cont i t (dec (k + 1) (c :: l)) = if 0 < i ∧ c.toNat = 0 then (0, [], 2) else if t + 128 ^ i * c.toNat ≤ 4611686018427387903 then (((t + 128 ^ i * c.toNat : Nat) : Int), l, 0) else (0, [], 2) := by
  rw [dec, if_pos h0]
  rfl
theorem and127 (y : Int) (h0 : 0 ≤ y) (h1 : y < 256) : Go.bits .and .u8 y 127 = y % 128 := by
  have h : ∀ n : Fin 256, Go.bits .and .u8 (n.val : Int) 127 = (n.val : Int) % 128 := by decide +kernel
  have := h ⟨y.toNat, by omega⟩
  simpa [Int.toNat_of_nonneg h0] using this
theorem pow128 (i : Nat) : (128 : Nat) ^ i = 2 ^ (7 * i) := by rw [Nat.pow_mul]
theorem pow128_le {i : Nat} (h : i ≤ 8) : (128 : Nat) ^ i ≤ 72057594037927936 := by
  have : (128 : Nat) ^ i ≤ 128 ^ 8 := Nat.pow_le_pow_right (by omega) h
  omega
/-- A group laid over those ahead. -/
theorem group (i t : Nat) (c : Int) (hi : i ≤ 8) (ht : t < 128 ^ i) (h0 : 0 ≤ c) (h1 : c < 256) :
    Go.bits .or .u64 (t : Int) (shl .u64 (IntKind.u64.wrap (Go.bits .and .u8 c 127)) (wrap64 (7 * (i : Int)))) = ((t + 128 ^ i * (c.toNat % 128) : Nat) : Int) := by
  have hp := pow128_le hi
  have hm : 128 ^ i * (c.toNat % 128) ≤ 72057594037927936 * 127 := Nat.mul_le_mul hp (by omega)
  have e1 : Go.bits .and .u8 c 127 = ((c.toNat % 128 : Nat) : Int) := by rw [and127 c h0 h1]; omega
  have e2 : shl .u64 (((c.toNat % 128 : Nat) : Int)) (wrap64 (7 * (i : Int))) = ((128 ^ i * (c.toNat % 128) : Nat) : Int) := by
    unfold shl
    rw [wrap_in (by omega) (by omega), show (7 * (i : Int)).toNat = 7 * i by omega, Nat.min_eq_left (by show 7 * i ≤ 64; omega)]
    have : ((c.toNat % 128 : Nat) : Int) * 2 ^ (7 * i) = ((128 ^ i * (c.toNat % 128) : Nat) : Int) := by
      rw [Int.natCast_mul, Int.mul_comm, pow128, Int.natCast_pow]
      rfl
    rw [this]
    exact u64_nat (by omega)
  rw [e1, u64_nat (by omega), e2, or_u64 (by omega) (by omega)]
  rw [pow128] at ht ⊢
  rw [Nat.or_comm, ← Nat.two_pow_add_eq_or_of_lt ht, Nat.add_comm]
theorem group_lo (i t : Nat) (c : Int) (hi : i ≤ 8) (ht : t < 128 ^ i) (h0 : 0 ≤ c) (h1 : c < 128) :
    Go.bits .or .u64 (t : Int) (shl .u64 (IntKind.u64.wrap (Go.bits .and .u8 c 127)) (wrap64 (7 * (i : Int)))) = ((t + 128 ^ i * c.toNat : Nat) : Int) := by
  rw [group i t c hi ht h0 (by omega), show c.toNat % 128 = c.toNat by omega]
theorem group_hi (i t : Nat) (c : Int) (hi : i ≤ 8) (ht : t < 128 ^ i) (h0 : 0 ≤ c) (h1 : c < 256) (h2 : ¬ c < 128) :
    Go.bits .or .u64 (t : Int) (shl .u64 (IntKind.u64.wrap (Go.bits .and .u8 c 127)) (wrap64 (7 * (i : Int)))) = ((t + 128 ^ i * (c.toNat - 128) : Nat) : Int) := by
  rw [group i t c hi ht h0 (by omega), show c.toNat % 128 = c.toNat - 128 by omega]
theorem wrap7 {i : Nat} (h : i ≤ 9) : 0 ≤ wrap64 (7 * (i : Int)) := by rw [wrap_in (by omega) (by omega)]; omega
theorem takeNum_loop (l : List Int) (hl : Byts l) (hb : l.length < 140737488355328) (d : Nat) : ∀ (i t : Nat), 9 - i = d → i ≤ 9 → i ≤ l.length → t < 128 ^ i →
    Ev (fun k => code_TakeNum.l0 k l (t : Int) 0 l (l.length : Int) (i : Int)) (cont i t (dec (9 - i) (l.drop i))) := by
  induction d with
  | zero =>
    intro i t hd h9 hi ht
    have hi9 : i = 9 := by omega
    subst hi9
    refine Ev.step (f := fun _ => some (0, [], 2)) (fun k => ?_) (Ev.const rfl)
    simp only [code_TakeNum.l0]
    by_cases c : (9 : Nat) < l.length
    · rw [if_pos (by omega), if_pos (by omega), if_pos (by omega), if_pos (by omega), if_pos trivial]
    · rw [if_neg (by omega), if_pos trivial]
  | succ d ih =>
    intro i t hd h9 hi ht
    have hi8 : i ≤ 8 := by omega
    by_cases c : i < l.length
    · have hc := hl (l[i]) (List.getElem_mem _)
      have e9 : 9 - i = (9 - (i + 1)) + 1 := by omega
      rw [List.drop_eq_getElem_cons c, e9]
      have hrd := rd_nat l i c
      by_cases z : 0 < i ∧ l[i] = 0
      · rw [cont_last (by omega), if_pos ⟨z.1, by omega⟩]
        refine Ev.step (f := fun k => code_TakeNum.j1 k l (t : Int) 0 (i : Int) (rd l (i : Int)) l (l.length : Int) (i : Int) true) (fun k => ?_) (Ev.step (f := fun _ => some (0, [], 2)) (fun k => ?_) (Ev.const rfl))
        · simp only [code_TakeNum.l0]
          rw [if_pos (by omega), if_pos (by omega), if_pos (by omega), if_neg (by omega), if_pos (by rw [hrd]; exact z.2), decide_eq_true (by omega)]
        · simp only [code_TakeNum.j1]
          rw [if_pos trivial, if_pos trivial]
      · refine Ev.step (f := fun k => code_TakeNum.j1 k l (t : Int) 0 (i : Int) (rd l (i : Int)) l (l.length : Int) (i : Int) false) (fun k => ?_) ?_
        · simp only [code_TakeNum.l0]
          rw [if_pos (by omega), if_pos (by omega), if_pos (by omega), if_neg (by omega)]
          by_cases q : l[i] = 0
          · rw [if_pos (by rw [hrd]; exact q), decide_eq_false (by omega)]
          · rw [if_neg (by rw [hrd]; exact q)]
        · have hp := pow128_le hi8
          by_cases q : l[i] < 128
          · rw [cont_last q, if_neg (by omega)]
            have hm : 128 ^ i * (l[i]).toNat ≤ 72057594037927936 * 127 := Nat.mul_le_mul hp (by omega)
            by_cases big : t + 128 ^ i * (l[i]).toNat ≤ 4611686018427387903
            · rw [if_pos big]
              refine Ev.step (f := fun _ => some (((t + 128 ^ i * (l[i]).toNat : Nat) : Int), l.drop (i + 1), 0)) (fun k => ?_) (Ev.const rfl)
              simp only [code_TakeNum.j1]
              rw [if_neg (by simp), if_pos (wrap7 h9), hrd, if_pos q, wrap_succ (by omega), group_lo i t _ hi8 ht hc.1 q, if_neg (by omega), if_neg (by omega), if_pos (by omega), if_pos (by omega)]
              unfold slices_Clone_byte_byte.f
              rw [if_pos (by simp; omega), Option.bind_some, wrap_in (by omega) (by omega), Int.toNat_natCast]
            · rw [if_neg big]
              refine Ev.step (f := fun _ => some (0, [], 2)) (fun k => ?_) (Ev.const rfl)
              simp only [code_TakeNum.j1]
              rw [if_neg (by simp), if_pos (wrap7 h9), hrd, if_pos q, wrap_succ (by omega), group_lo i t _ hi8 ht hc.1 q, if_neg (by omega), if_pos (by omega)]
          · rw [cont_step q]
            have hlt : t + 128 ^ i * ((l[i]).toNat - 128) < 128 ^ (i + 1) := by
              have : 128 ^ i * ((l[i]).toNat - 128) ≤ 128 ^ i * 127 := Nat.mul_le_mul (Nat.le_refl _) (by omega)
              rw [Nat.pow_succ]
              omega
            have next := ih (i + 1) _ (by omega) (by omega) (by omega) hlt
            refine Ev.step (fun k => ?_) next
            simp only [code_TakeNum.j1]
            rw [if_neg (by simp), if_pos (wrap7 h9), hrd, if_neg q, wrap_succ (by omega), group_hi i t _ hi8 ht hc.1 hc.2 q]
    · rw [List.drop_eq_nil_of_le (by omega), show 9 - i = (9 - (i + 1)) + 1 by omega]
      refine Ev.step (f := fun _ => some (0, [], 2)) (fun k => ?_) (Ev.const rfl)
      simp only [code_TakeNum.l0]
      rw [if_neg (by omega), if_pos trivial]
theorem takeNum_f {l : List Int} (hl : Byts l) (hb : l.length < 140737488355328) : Ev (fun k => code_TakeNum.f k l) (tri (takeN l)) := by
  unfold code_TakeNum.f takeN
  have := takeNum_loop l hl hb 9 0 0 rfl (by omega) (by omega) (by omega)
  rw [cont_zero, List.drop_zero] at this
  exact this

/-! ### the document's -/
theorem grp_length_ge (k : Nat) : ∀ n : Nat, 128 ^ k ≤ n → k + 1 ≤ (grp n).length := by
  induction k with
  | zero => intro n _; exact grp_pos n
  | succ k ih =>
    intro n h
    have h1 : 128 ^ k * 128 ≤ n := by rw [Nat.pow_succ] at h; exact h
    have h2 : 0 < 128 ^ k := Nat.pow_pos (by omega)
    rw [grp_hi (by omega), List.length_cons]
    have := ih (n / 128) ((Nat.le_div_iff_mul_le (by omega)).2 h1)
    omega
theorem ref_digit {c : Int} (h0 : 0 ≤ c) (h1 : c < 256) : wrap64 (Int.tmod c 128) = ((c.toNat % 128 : Nat) : Int) := by
  rw [Int.tmod_eq_emod_of_nonneg h0, wrap_in (by omega) (by omega)]; omega
theorem ref_scale {i : Nat} (h : i ≤ 8) : wrap64 ((128 ^ i : Nat) : Int) = ((128 ^ i : Nat) : Int) := by
  have hp := pow128_le h
  generalize 128 ^ i = p at hp ⊢
  exact wrap_in (by omega) (by omega)
theorem ref_sum (i t d : Nat) (hi : i ≤ 8) (ht : t < 128 ^ i) (hd : d < 128) : wrap64 ((t : Int) + wrap64 ((d : Int) * ((128 ^ i : Nat) : Int))) = ((t + 128 ^ i * d : Nat) : Int) := by
  have hp := pow128_le hi
  have hm : 128 ^ i * d ≤ 72057594037927936 * 127 := Nat.mul_le_mul hp (by omega)
  have : (d : Int) * ((128 ^ i : Nat) : Int) = ((128 ^ i * d : Nat) : Int) := by rw [Int.mul_comm, ← Int.natCast_mul]
  rw [this]
  generalize 128 ^ i * d = q at hm ⊢
  generalize 128 ^ i = p at hp ht
  rw [wrap_in (n := (q : Int)) (by omega) (by omega), wrap_in (by omega) (by omega)]
  omega
theorem refTake_loop (l : List Int) (hl : Byts l) (hb : l.length < 140737488355328) (d : Nat) : ∀ (i t : Nat), 9 - i = d → i ≤ 9 → i ≤ l.length → t < 128 ^ i →
    Ev (fun k => sawyerref02_TakeNum.l0 k l (t : Int) (wrap64 ((128 ^ i : Nat) : Int)) (i : Int)) (cont i t (dec (9 - i) (l.drop i))) := by
  induction d with
  | zero =>
    intro i t hd h9 hi ht
    have hi9 : i = 9 := by omega
    subst hi9
    refine Ev.step (f := fun k => sawyerref02_TakeNum.j1 k l (t : Int) (wrap64 ((128 ^ 9 : Nat) : Int)) ((9 : Nat) : Int) false) (fun k => ?_) (Ev.step (f := fun _ => some (0, [], 2)) (fun k => ?_) (Ev.const rfl))
    · simp only [sawyerref02_TakeNum.l0]
      by_cases c : (9 : Nat) < l.length
      · rw [if_pos (by omega), decide_eq_false (by omega)]
      · rw [if_neg (by omega)]
    · simp only [sawyerref02_TakeNum.j1]
      rw [if_neg (by simp)]
  | succ d ih =>
    intro i t hd h9 hi ht
    have hi8 : i ≤ 8 := by omega
    have hp := pow128_le hi8
    have hp0 : 0 < 128 ^ i := Nat.pow_pos (by omega)
    by_cases c : i < l.length
    · have hc := hl (l[i]) (List.getElem_mem _)
      have e9 : 9 - i = (9 - (i + 1)) + 1 := by omega
      rw [List.drop_eq_getElem_cons c, e9]
      have hrd := rd_nat l i c
      refine Ev.step (f := fun k => sawyerref02_TakeNum.j1 k l (t : Int) (wrap64 ((128 ^ i : Nat) : Int)) (i : Int) true) (fun k => ?_) ?_
      · simp only [sawyerref02_TakeNum.l0]
        rw [if_pos (by omega), decide_eq_true (by omega)]
      · by_cases over : i = 8 ∧ 63 < (l[i]).toNat % 128
        · have e : cont i t (dec (9 - (i + 1) + 1) (l[i] :: l.drop (i + 1))) = (0, [], 2) := by
            obtain ⟨rfl, over⟩ := over
            by_cases q : l[8] < 128
            · rw [cont_last q, if_neg (by omega), if_neg (by
                have : 128 ^ 8 * 64 ≤ 128 ^ 8 * (l[8]).toNat := Nat.mul_le_mul (Nat.le_refl _) (by omega)
                omega)]
            · rw [cont_step q]; rfl
          rw [e]
          refine Ev.step (f := fun k => sawyerref02_TakeNum.j2 k l (t : Int) (wrap64 ((128 ^ i : Nat) : Int)) (i : Int) (((l[i]).toNat % 128 : Nat) : Int) true) (fun k => ?_) (Ev.step (f := fun _ => some (0, [], 2)) (fun k => ?_) (Ev.const rfl))
          · simp only [sawyerref02_TakeNum.j1]
            rw [if_pos trivial, if_pos (by omega), if_pos (by omega), if_pos (by omega), hrd, ref_digit hc.1 hc.2, decide_eq_true (by omega)]
          · simp only [sawyerref02_TakeNum.j2]
            rw [if_pos trivial]
        · refine Ev.step (f := fun k => sawyerref02_TakeNum.j2 k l (t : Int) (wrap64 ((128 ^ i : Nat) : Int)) (i : Int) (((l[i]).toNat % 128 : Nat) : Int) false) (fun k => ?_) ?_
          · simp only [sawyerref02_TakeNum.j1]
            rw [if_pos trivial, if_pos (by omega), if_pos (by omega), hrd, ref_digit hc.1 hc.2]
            by_cases q : (i : Int) = 8
            · rw [if_pos q, decide_eq_false (by omega)]
            · rw [if_neg q]
          · by_cases q : l[i] < 128
            · rw [cont_last q]
              rw [show (l[i]).toNat % 128 = (l[i]).toNat by omega] at over
              have hsmall : t + 128 ^ i * (l[i]).toNat ≤ 4611686018427387903 := by
                by_cases e8 : i = 8
                · subst e8
                  have : 128 ^ 8 * (l[8]).toNat ≤ 128 ^ 8 * 63 := Nat.mul_le_mul (Nat.le_refl _) (by omega)
                  omega
                · have h7 : (128 : Nat) ^ i ≤ 128 ^ 7 := Nat.pow_le_pow_right (by omega) (by omega)
                  have : 128 ^ i * (l[i]).toNat ≤ 128 ^ 7 * 127 := Nat.mul_le_mul h7 (by omega)
                  omega
              have hn : Ev (fun k => sawyerref02_PutNum.f k ([] : List Int) ((t + 128 ^ i * (l[i]).toNat : Nat) : Int)) (grp (t + 128 ^ i * (l[i]).toNat)) := by
                have := refNum_f [] ((t + 128 ^ i * (l[i]).toNat : Nat) : Int) (by simp)
                rw [cap_of hsmall, List.nil_append] at this
                exact this
              by_cases z : 0 < i ∧ (l[i]).toNat = 0
              · rw [if_pos z]
                have hlen : (grp (t + 128 ^ i * (l[i]).toNat)).length ≤ i := by
                  rw [z.2, Nat.mul_zero, Nat.add_zero]
                  obtain ⟨j, rfl⟩ : ∃ j, i = j + 1 := ⟨i - 1, by omega⟩
                  exact grp_length_le j t ht
                refine Ev.step (f := fun k => (sawyerref02_PutNum.f k ([] : List Int) ((t + 128 ^ i * (l[i]).toNat : Nat) : Int)).bind fun t390 => (if (t390.length : Int) = ((i + 1 : Nat) : Int) then some (((t + 128 ^ i * (l[i]).toNat : Nat) : Int), l.drop (i + 1), 0) else some (0, [], 2))) (fun k => ?_) ?_
                · simp only [sawyerref02_TakeNum.j2]
                  rw [if_neg (by simp), if_pos (by omega), if_pos (by omega), hrd, if_pos q, show (l[i]).toNat % 128 = (l[i]).toNat by omega, ref_scale hi8, ref_sum i t _ hi8 ht (by omega), wrap_succ (by omega)]
                  simp only [if_pos (show (0 : Int) ≤ ((i + 1 : Nat) : Int) by omega), if_pos (show ((i + 1 : Nat) : Int) ≤ (l.length : Int) by omega), Option.bind_some, Int.toNat_natCast, List.length_nil, Nat.zero_add, List.nil_append, if_pos (show (l.drop (i + 1)).length < 140737488355328 by simp; omega)]
                · refine Ev.bind hn ?_
                  exact Ev.neg (by omega) (Ev.const rfl)
              · rw [if_neg z, if_pos hsmall]
                have hlen : (grp (t + 128 ^ i * (l[i]).toNat)).length = i + 1 := by
                  have h1 : (grp (t + 128 ^ i * (l[i]).toNat)).length ≤ i + 1 := by
                    refine grp_length_le i _ ?_
                    have : 128 ^ i * (l[i]).toNat ≤ 128 ^ i * 127 := Nat.mul_le_mul (Nat.le_refl _) (by omega)
                    rw [Nat.pow_succ]
                    omega
                  have h2 : i + 1 ≤ (grp (t + 128 ^ i * (l[i]).toNat)).length := by
                    by_cases e0 : i = 0
                    · subst e0; exact grp_pos _
                    · refine grp_length_ge i _ ?_
                      have : 128 ^ i * 1 ≤ 128 ^ i * (l[i]).toNat := Nat.mul_le_mul (Nat.le_refl _) (by omega)
                      omega
                  omega
                refine Ev.step (f := fun k => (sawyerref02_PutNum.f k ([] : List Int) ((t + 128 ^ i * (l[i]).toNat : Nat) : Int)).bind fun t390 => (if (t390.length : Int) = ((i + 1 : Nat) : Int) then some (((t + 128 ^ i * (l[i]).toNat : Nat) : Int), l.drop (i + 1), 0) else some (0, [], 2))) (fun k => ?_) ?_
                · simp only [sawyerref02_TakeNum.j2]
                  rw [if_neg (by simp), if_pos (by omega), if_pos (by omega), hrd, if_pos q, show (l[i]).toNat % 128 = (l[i]).toNat by omega, ref_scale hi8, ref_sum i t _ hi8 ht (by omega), wrap_succ (by omega)]
                  simp only [if_pos (show (0 : Int) ≤ ((i + 1 : Nat) : Int) by omega), if_pos (show ((i + 1 : Nat) : Int) ≤ (l.length : Int) by omega), Option.bind_some, Int.toNat_natCast, List.length_nil, Nat.zero_add, List.nil_append, if_pos (show (l.drop (i + 1)).length < 140737488355328 by simp; omega)]
                · refine Ev.bind hn ?_
                  exact Ev.pos (by omega) (Ev.const rfl)
            · rw [cont_step q]
              have hlt : t + 128 ^ i * ((l[i]).toNat - 128) < 128 ^ (i + 1) := by
                have : 128 ^ i * ((l[i]).toNat - 128) ≤ 128 ^ i * 127 := Nat.mul_le_mul (Nat.le_refl _) (by omega)
                rw [Nat.pow_succ]
                omega
              have next := ih (i + 1) _ (by omega) (by omega) (by omega) hlt
              refine Ev.step (fun k => ?_) next
              clear hlt next
              simp only [sawyerref02_TakeNum.j2]
              rw [if_neg (by simp), if_pos (by omega), if_pos (by omega), hrd, if_neg q, show (l[i]).toNat % 128 = (l[i]).toNat - 128 by omega, ref_scale hi8, ref_sum i t _ hi8 ht (by omega), wrap_succ (by omega), Nat.pow_succ, Int.natCast_mul]
              rfl
    · rw [List.drop_eq_nil_of_le (by omega), show 9 - i = (9 - (i + 1)) + 1 by omega]
      refine Ev.step (f := fun k => sawyerref02_TakeNum.j1 k l (t : Int) (wrap64 ((128 ^ i : Nat) : Int)) (i : Int) false) (fun k => ?_) (Ev.step (f := fun _ => some (0, [], 2)) (fun k => ?_) (Ev.const rfl))
      · simp only [sawyerref02_TakeNum.l0]
        rw [if_neg (by omega)]
      · simp only [sawyerref02_TakeNum.j1]
        rw [if_neg (by simp)]
theorem refTake_f {l : List Int} (hl : Byts l) (hb : l.length < 140737488355328) : Ev (fun k => sawyerref02_TakeNum.f k l) (tri (takeN l)) := by
  unfold sawyerref02_TakeNum.f takeN
  have := refTake_loop l hl hb 9 0 0 rfl (by omega) (by omega) (by omega)
  rw [cont_zero, List.drop_zero, show wrap64 ((128 ^ 0 : Nat) : Int) = 1 from wrap_in (by decide) (by decide)] at this
  exact this
end Go.Proofs.Ythpklhkibcenoaa.Sw
