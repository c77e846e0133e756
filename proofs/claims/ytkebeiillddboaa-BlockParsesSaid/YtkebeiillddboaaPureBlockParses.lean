/- What the statement BlockParses needs: our texts Core, SpecA, SpecB, SpecU, SpecTake, SpecText, SpecCrc, SpecKey, SpecKeyR, SpecBlk, SpecBld, SpecPar, SpecRun, SpecRef, PureBlockParses as one. -/
import Derived.Test.YtkebeiillddboaaVWGuardMoreInvWordsB
import Derived.Lib.Bytealg
import Derived.Lib.Bytes
import Derived.KernelRfl
import Derived.Test.YtkebeiillddboaaPx0
import Derived.Test.YtkebeiillddboaaPx1
import Derived.Test.YtkebeiillddboaaPx2
import Derived.Test.YtkebeiillddboaaPx3
import Derived.Test.YtkebeiillddboaaPx4
import Derived.Test.YtkebeiillddboaaPx5
import Derived.Test.YtkebeiillddboaaPx6
import Derived.Test.YtkebeiillddboaaPx7
import Derived.Test.YtkebeiillddboaaPx8
import Derived.Test.YtkebeiillddboaaPx9
import Derived.Test.YtkebeiillddboaaPx10
import Derived.Test.YtkebeiillddboaaPx11
import Derived.Test.YtkebeiillddboaaPx12
import Derived.Test.YtkebeiillddboaaPx13
import Derived.Test.YtkebeiillddboaaPx14
import Derived.Test.YtkebeiillddboaaPx15
import Derived.Test.YtkebeiillddboaaPx16
import Derived.Test.YtkebeiillddboaaPx17
import Derived.Test.YtkebeiillddboaaPx18
import Derived.Test.YtkebeiillddboaaPx19
import Derived.Test.YtkebeiillddboaaPx20
import Derived.Test.YtkebeiillddboaaPx21
import Derived.Test.YtkebeiillddboaaPx22
import Derived.Test.YtkebeiillddboaaPx23
import Derived.Test.YtkebeiillddboaaPx24
import Derived.Test.YtkebeiillddboaaPx25
import Derived.Test.YtkebeiillddboaaPx26
import Derived.Test.YtkebeiillddboaaPx27
import Derived.Test.YtkebeiillddboaaPx28
import Derived.Test.YtkebeiillddboaaPx29
import Derived.Test.YtkebeiillddboaaPx30
import Derived.Test.YtkebeiillddboaaPx31
import Derived.Test.YtkebeiillddboaaPx33
import Derived.Test.YtkebeiillddboaaPx34
import Derived.Test.YtkebeiillddboaaPx35
import Derived.Test.YtkebeiillddboaaPx36
import Derived.Test.YtkebeiillddboaaPx37
import Derived.Test.YtkebeiillddboaaPx38
set_option linter.unusedVariables false
set_option linter.unusedSimpArgs false
namespace Go.Proofs.Ytkebeiillddboaa.Sw
open Go.RowKit Go.Proofs.YtkebeiillddboaaW.PrintWords Go.Proofs.YtkebeiillddboaaW.PrintMore

def Byts (l : List Int) : Prop := ∀ x ∈ l, 0 ≤ x ∧ x < 256
theorem Byts.nil : Byts [] := fun x hx => by cases hx
theorem Byts.cons {a : Int} {l : List Int} (h0 : 0 ≤ a) (h1 : a < 256) (h : Byts l) : Byts (a :: l) := by
  intro x hx
  rcases List.mem_cons.1 hx with rfl | hx
  · exact ⟨h0, h1⟩
  · exact h x hx
theorem Byts.head {a : Int} {l : List Int} (h : Byts (a :: l)) : 0 ≤ a ∧ a < 256 := h a List.mem_cons_self
theorem Byts.tail {a : Int} {l : List Int} (h : Byts (a :: l)) : Byts l := fun x hx => h x (List.mem_cons_of_mem _ hx)
theorem Byts.append {a b : List Int} (ha : Byts a) (hb : Byts b) : Byts (a ++ b) := by
  intro x hx
  rcases List.mem_append.1 hx with hx | hx
  · exact ha x hx
  · exact hb x hx
theorem Byts.left {a b : List Int} (h : Byts (a ++ b)) : Byts a := fun x hx => h x (List.mem_append_left _ hx)
theorem Byts.right {a b : List Int} (h : Byts (a ++ b)) : Byts b := fun x hx => h x (List.mem_append_right _ hx)
theorem Byts.take {a : List Int} (h : Byts a) (n : Nat) : Byts (a.take n) := fun x hx => h x (List.mem_of_mem_take hx)
theorem Byts.drop {a : List Int} (h : Byts a) (n : Nat) : Byts (a.drop n) := fun x hx => h x (List.mem_of_mem_drop hx)
theorem Byts.one {a : Int} (h0 : 0 ≤ a) (h1 : a < 256) : Byts [a] := Byts.cons h0 h1 Byts.nil
theorem byts_of_wf {l : List Int} (h : ∀ x ∈ l, (Lit.int .u8 x).wf = true) : Byts l := by
  intro x hx
  have := h x hx
  simp only [Lit.wf, IntKind.min, IntKind.max, IntKind.signed, IntKind.bits, Bool.and_eq_true, decide_eq_true_eq] at this
  simp at this
  omega
def less : List Int → List Int → Bool
  | _, [] => false
  | [], _ :: _ => true
  | a :: x, b :: y => if a < b then true else if b < a then false else less x y
theorem u8_lt {a b : Int} (ha : 0 ≤ a ∧ a < 256) (hb : 0 ≤ b ∧ b < 256) : (UInt8.ofNat a.toNat < UInt8.ofNat b.toNat) ↔ a < b := by
  rw [UInt8.lt_iff_toNat_lt]
  simp only [UInt8.toNat_ofNat']
  omega
theorem u8_eq {a b : Int} (ha : 0 ≤ a ∧ a < 256) (hb : 0 ≤ b ∧ b < 256) : (UInt8.ofNat a.toNat = UInt8.ofNat b.toNat) ↔ a = b := by
  rw [← UInt8.toNat_inj]
  simp only [UInt8.toNat_ofNat']
  omega
theorem bytesOf_cons (a : Int) (l : List Int) : Lib.bytesOf (a :: l) = UInt8.ofNat a.toNat :: Lib.bytesOf l := rfl
theorem compare_less : ∀ {a b : List Int}, Byts a → Byts b → decide (Lib.compareBytes (Lib.bytesOf a) (Lib.bytesOf b) < 0) = less a b
  | [], [], _, _ => by simp [Lib.bytesOf, Lib.compareBytes, less]
  | [], _ :: _, _, _ => by simp [Lib.bytesOf, Lib.compareBytes, less]
  | _ :: _, [], _, _ => by simp [Lib.bytesOf, Lib.compareBytes, less]
  | a :: x, b :: y, ha, hb => by
    have ih := compare_less ha.tail hb.tail
    have h1 := u8_lt ha.head hb.head
    have h2 := u8_lt hb.head ha.head
    rw [bytesOf_cons, bytesOf_cons]
    unfold Lib.compareBytes less
    by_cases c : a < b
    · rw [if_pos (h1.2 c), if_pos c]; rfl
    · rw [if_neg (fun h => c (h1.1 h)), if_neg c]
      by_cases c2 : b < a
      · rw [if_pos (h2.2 c2), if_pos c2]; rfl
      · rw [if_neg (fun h => c2 (h2.1 h)), if_neg c2]; exact ih
theorem bytesOf_inj : ∀ {a b : List Int}, Byts a → Byts b → (Lib.bytesOf a = Lib.bytesOf b ↔ a = b)
  | [], [], _, _ => by simp
  | [], _ :: _, _, _ => by simp [Lib.bytesOf]
  | _ :: _, [], _, _ => by simp [Lib.bytesOf]
  | a :: x, b :: y, ha, hb => by
    have ih := bytesOf_inj ha.tail hb.tail
    have h3 := u8_eq ha.head hb.head
    rw [bytesOf_cons, bytesOf_cons, List.cons.injEq, List.cons.injEq, h3, ih]
theorem str_eq {a b : List Int} (ha : Byts a) (hb : Byts b) : ((strOfNums a).toList == (strOfNums b).toList) = decide (a = b) := by
  rw [Lib.strOfNums_toList, Lib.strOfNums_toList]
  by_cases c : a = b
  · subst c; simp
  · rw [decide_eq_false c, beq_eq_false_iff_ne]
    exact fun h => c ((bytesOf_inj ha hb).1 h)
theorem less_irrefl : ∀ a : List Int, less a a = false
  | [] => rfl
  | a :: x => by
    unfold less
    rw [if_neg (by omega), if_neg (by omega)]
    exact less_irrefl x
theorem wrap_in {n : Int} (h0 : -9223372036854775808 ≤ n) (h1 : n ≤ 9223372036854775807) : wrap64 n = n := by unfold wrap64; omega
theorem rd_nat (l : List Int) (i : Nat) (h : i < l.length) : rd l (i : Int) = l[i] := by
  unfold rd
  rw [Int.toNat_natCast, List.getD_eq_getElem?_getD, List.getElem?_eq_getElem h]
  rfl
end Go.Proofs.Ytkebeiillddboaa.Sw

set_option linter.unusedVariables false
set_option linter.unusedSimpArgs false
namespace Go.Proofs.Ytkebeiillddboaa.Sw
open Go.RowKit Go.Proofs.Ytkebeiillddboaa.Px Go.Proofs.YtkebeiillddboaaW.PrintWords Go.Proofs.YtkebeiillddboaaW.PrintLast Go.Proofs.YtkebeiillddboaaW.PrintMore

theorem Ev.pos {α : Type} {g f : Nat → Option α} {c : Prop} [Decidable c] {r : α} (hc : c) (h : Ev g r) : Ev (fun k => if c then g k else f k) r := by
  simp only [if_pos hc]; exact h
theorem Ev.neg {α : Type} {g f : Nat → Option α} {c : Prop} [Decidable c] {r : α} (hc : ¬ c) (h : Ev f r) : Ev (fun k => if c then g k else f k) r := by
  simp only [if_neg hc]; exact h
theorem Ev.bindc {α β : Type} {o : Option α} {f : Nat → α → Option β} {a : α} {r : β} (h : o = some a) (k : Ev (fun n => f n a) r) : Ev (fun n => o.bind (f n)) r := by
  subst h; exact k
theorem Ev.const {α : Type} {o : Option α} {r : α} (h : o = some r) : Ev (fun _ => o) r := ⟨0, fun _ _ => h⟩

def val : List Int → Int → Int
  | [], a => a
  | c :: l, a => val l (a * 256 + c)
theorem laid_f {a b : List Int} (h : a.length + b.length < 140737488355328) : code_laid_byte.f a b = some (a ++ b) := by
  unfold code_laid_byte.f slices_Clone_byte_byte.f
  rw [if_pos (by omega), Option.bind_some, if_pos h]
def grp (n : Nat) : List Int := if n < 128 then [(n : Int)] else ((n % 128 + 128 : Nat) : Int) :: grp (n / 128)
termination_by n
theorem grp_lo {n : Nat} (h : n < 128) : grp n = [(n : Int)] := by rw [grp, if_pos h]
theorem grp_hi {n : Nat} (h : ¬ n < 128) : grp n = ((n % 128 + 128 : Nat) : Int) :: grp (n / 128) := by rw [grp, if_neg h]
theorem grp_byts (n : Nat) : Byts (grp n) := by
  induction n using Nat.strongRecOn with
  | ind n ih =>
    by_cases h : n < 128
    · rw [grp_lo h]; exact Byts.one (by omega) (by omega)
    · rw [grp_hi h]; exact Byts.cons (by omega) (by omega) (ih _ (by omega))
theorem grp_length_le (k : Nat) : ∀ n : Nat, n < 128 ^ (k + 1) → (grp n).length ≤ k + 1 := by
  induction k with
  | zero => intro n h; rw [grp_lo (by simpa using h)]; simp
  | succ k ih =>
    intro n h
    by_cases c : n < 128
    · rw [grp_lo c]; simp
    · rw [grp_hi c, List.length_cons]
      have := ih (n / 128) (by rw [Nat.pow_succ] at h; exact Nat.div_lt_of_lt_mul (by rw [Nat.mul_comm]; exact h))
      omega
theorem grp_pos (n : Nat) : 0 < (grp n).length := by
  rw [grp]; split <;> simp
theorem grp9 {n : Nat} (h : n ≤ 4611686018427387903) : (grp n).length ≤ 9 := grp_length_le 8 n (by omega)
theorem or128 (y : Int) (h0 : 0 ≤ y) (h1 : y < 256) : Go.bits .or .u8 y 128 = y % 128 + 128 := by
  have h : ∀ n : Fin 256, Go.bits .or .u8 (n.val : Int) 128 = (n.val : Int) % 128 + 128 := by decide +kernel
  have := h ⟨y.toNat, by omega⟩
  simpa [Int.toNat_of_nonneg h0] using this
theorem putNum_loop (n : Nat) : ∀ (l acc : List Int), n ≤ 4611686018427387903 → l.length + 18 < 140737488355328 → acc.length + (grp n).length ≤ 9 →
    Ev (fun k => code_PutNum.l0 k l (n : Int) acc) (l ++ (acc ++ grp n)) := by
  induction n using Nat.strongRecOn with
  | ind n ih =>
    intro l acc hn hl ha
    by_cases h : n < 128
    · refine Ev.step (f := fun _ => some (l ++ (acc ++ grp n))) (fun k => ?_) (Ev.now _)
      simp only [code_PutNum.l0]
      rw [if_neg (by omega), if_pos (by omega), show ((n : Int) % 256) = n by omega, laid_f (by simp; omega), Option.bind_some, grp_lo h]
    · rw [grp_hi h] at ha ⊢
      rw [List.length_cons] at ha
      have := ih (n / 128) (by omega) l (acc ++ [((n % 128 + 128 : Nat) : Int)]) (by omega) hl (by simp; omega)
      refine Ev.step (fun k => ?_) (show Ev (fun k => code_PutNum.l0 k l ((n / 128 : Nat) : Int) (acc ++ [((n % 128 + 128 : Nat) : Int)])) _ from ?_)
      · simp only [code_PutNum.l0]
        rw [if_pos (by omega), if_pos (by have := grp_pos (n / 128); omega), or128 _ (by omega) (by omega), show (n : Int) / 128 = ((n / 128 : Nat) : Int) by omega, show (n : Int) % 256 % 128 + 128 = ((n % 128 + 128 : Nat) : Int) by omega]
      · rw [List.append_assoc] at this
        exact this
def cap (n : Int) : Nat := (min (max n 0) 4611686018427387903).toNat
theorem cap_le (n : Int) : cap n ≤ 4611686018427387903 := by unfold cap; omega
theorem cap_of {n : Nat} (h : n ≤ 4611686018427387903) : cap (n : Int) = n := by unfold cap; omega
theorem mn_cap (n : Int) : mn (mx n 0) 4611686018427387903 = (cap n : Int) := by
  unfold mn mx cap
  split <;> split <;> omega
theorem putNum_f (l : List Int) (n : Int) (hl : l.length + 18 < 140737488355328) : Ev (fun k => code_PutNum.f k l n) (l ++ grp (cap n)) := by
  unfold code_PutNum.f
  rw [mn_cap]
  have := putNum_loop (cap n) l [] (cap_le n) hl (by simpa using grp9 (cap_le n))
  simpa using this
end Go.Proofs.Ytkebeiillddboaa.Sw

set_option linter.unusedVariables false
set_option linter.unusedSimpArgs false
namespace Go.Proofs.Ytkebeiillddboaa.Sw
open Go.RowKit Go.Proofs.Ytkebeiillddboaa.Px Go.Proofs.YtkebeiillddboaaW.PrintWords Go.Proofs.YtkebeiillddboaaW.PrintLast Go.Proofs.YtkebeiillddboaaW.PrintMore

theorem refNum_loop (n : Nat) : ∀ (acc : List Int), n ≤ 4611686018427387903 → acc.length + (grp n).length < 140737488355328 →
    Ev (fun k => sawyerref02_PutNum.l0 k (n : Int) acc) (acc ++ grp n) := by
  induction n using Nat.strongRecOn with
  | ind n ih =>
    intro acc hn hl
    by_cases h : n < 128
    · rw [grp_lo h] at hl ⊢
      refine Ev.step (f := fun _ => some (acc ++ [(n : Int)])) (fun k => ?_) (Ev.now _)
      simp only [sawyerref02_PutNum.l0]
      rw [if_neg (by omega), if_pos (by simp at hl; omega), show ((n : Int) % 256) = n by omega]
    · rw [grp_hi h] at hl ⊢
      rw [List.length_cons] at hl
      have := ih (n / 128) (by omega) (acc ++ [((n % 128 + 128 : Nat) : Int)]) (by omega) (by simp; omega)
      refine Ev.step (fun k => ?_) (show Ev (fun k => sawyerref02_PutNum.l0 k ((n / 128 : Nat) : Int) (acc ++ [((n % 128 + 128 : Nat) : Int)])) _ from ?_)
      · simp only [sawyerref02_PutNum.l0]
        have e1 : Int.tdiv (n : Int) 128 = ((n / 128 : Nat) : Int) := by rw [Int.tdiv_eq_ediv_of_nonneg (by omega)]; omega
        have e2 : Int.tmod (n : Int) 128 = ((n % 128 : Nat) : Int) := by rw [Int.tmod_eq_emod_of_nonneg (by omega)]; omega
        rw [if_pos (by omega), if_pos (by omega), e1, e2, wrap_in (by omega) (by omega), wrap_in (by omega) (by omega), show (128 + ((n % 128 : Nat) : Int)) % 256 = ((n % 128 + 128 : Nat) : Int) by omega]
      · rw [List.append_assoc] at this
        exact this
theorem refNum_f (l : List Int) (n : Int) (hl : l.length + 9 < 140737488355328) : Ev (fun k => sawyerref02_PutNum.f k l n) (l ++ grp (cap n)) := by
  unfold sawyerref02_PutNum.f
  refine Ev.pos (by simp; omega) ?_
  rw [mn_cap]
  have := refNum_loop (cap n) ([] ++ l) (cap_le n) (by have := grp9 (cap_le n); simp; omega)
  simpa using this
theorem same_f {a b : List Int} (ha : Byts a) (hb : Byts b) : sawyerref02_Same.f a b = some (decide (a = b)) := by
  unfold sawyerref02_Same.f
  rw [str_eq ha hb]
end Go.Proofs.Ytkebeiillddboaa.Sw


set_option linter.unusedVariables false
set_option linter.unusedSimpArgs false
namespace Go.Proofs.Ytkebeiillddboaa.Sw
open Go.RowKit Go.Proofs.Ytkebeiillddboaa.Px Go.Proofs.YtkebeiillddboaaW.PrintWords Go.Proofs.YtkebeiillddboaaW.PrintLast Go.Proofs.YtkebeiillddboaaW.PrintMore

def tri : Option (Nat × List Int) → Int × List Int × Int
  | some (n, r) => ((n : Int), r, 0)
  | none => (0, [], 2)
theorem u64_nat {n : Nat} (h : n < 18446744073709551616) : IntKind.u64.wrap (n : Int) = (n : Int) := by
  simp only [IntKind.wrap, IntKind.bits, IntKind.signed]
  simp
  omega
theorem or_u64 {t d : Nat} (ht : t < 18446744073709551616) (hd : d < 18446744073709551616) : Go.bits .or .u64 (t : Int) (d : Int) = ((t ||| d : Nat) : Int) := by
  show IntKind.u64.wrap (((BitVec.ofInt 64 (t : Int)) ||| (BitVec.ofInt 64 (d : Int))).toNat : Int) = _
  rw [BitVec.ofInt_natCast, BitVec.ofInt_natCast, BitVec.toNat_or, BitVec.toNat_ofNat, BitVec.toNat_ofNat, Nat.mod_eq_of_lt (by omega), Nat.mod_eq_of_lt (by omega)]
  exact u64_nat (Nat.or_lt_two_pow (n := 64) (by omega) (by omega))
theorem wrap_succ {i : Nat} (h : i < 140737488355328) : wrap64 ((i : Int) + 1) = ((i + 1 : Nat) : Int) := by rw [wrap_in (by omega) (by omega)]; rfl
end Go.Proofs.Ytkebeiillddboaa.Sw

set_option linter.unusedVariables false
set_option linter.unusedSimpArgs false
namespace Go.Proofs.Ytkebeiillddboaa.Sw
open Go.RowKit Go.Proofs.Ytkebeiillddboaa.Px Go.Proofs.YtkebeiillddboaaW.PrintWords Go.Proofs.YtkebeiillddboaaW.PrintLast Go.Proofs.YtkebeiillddboaaW.PrintMore

def dec : Nat → List Int → Option (Nat × List Int)
  | 0, _ => none
  | _ + 1, [] => none
  | k + 1, c :: l => if c < 128 then some (c.toNat, l) else match dec k l with
    | some (n, r) => if n = 0 then none else some (c.toNat - 128 + 128 * n, r)
    | none => none
theorem dec_grp (k : Nat) : ∀ (n : Nat) (r : List Int), (grp n).length ≤ k → dec k (grp n ++ r) = some (n, r) := by
  induction k with
  | zero => intro n r h; have := grp_pos n; omega
  | succ k ih =>
    intro n r h
    by_cases c : n < 128
    · rw [grp_lo c, List.cons_append, dec, if_pos (by omega)]; rfl
    · rw [grp_hi c] at h ⊢
      rw [List.cons_append, dec, if_neg (by omega), ih (n / 128) r (by simpa using h)]
      simp only
      rw [if_neg (by omega), Int.toNat_natCast]
      congr 2
      omega
theorem dec_back (k : Nat) : ∀ (l : List Int) (n : Nat) (r : List Int), Byts l → dec k l = some (n, r) → l = grp n ++ r ∧ (grp n).length ≤ k := by
  induction k with
  | zero => intro l n r _ h; simp [dec] at h
  | succ k ih =>
    intro l n r hl h
    cases l with
    | nil => simp [dec] at h
    | cons c l =>
      have hc := hl.head
      rw [dec] at h
      by_cases e : c < 128
      · rw [if_pos e] at h
        simp only [Option.some.injEq, Prod.mk.injEq] at h
        obtain ⟨rfl, rfl⟩ := h
        rw [grp_lo (by omega)]
        refine ⟨?_, by simp⟩
        rw [List.singleton_append, Int.toNat_of_nonneg hc.1]
      · rw [if_neg e] at h
        cases hd : dec k l with
        | none => rw [hd] at h; simp at h
        | some p =>
          obtain ⟨m, s⟩ := p
          rw [hd] at h
          simp only at h
          by_cases z : m = 0
          · rw [if_pos z] at h; cases h
          · rw [if_neg z] at h
            simp only [Option.some.injEq, Prod.mk.injEq] at h
            obtain ⟨rfl, rfl⟩ := h
            obtain ⟨h1, h2⟩ := ih l m s hl.tail hd
            rw [grp_hi (by omega), show (c.toNat - 128 + 128 * m) / 128 = m by omega]
            refine ⟨?_, by simp; omega⟩
            rw [List.cons_append, ← h1]
            congr 1
            omega
def takeN (l : List Int) : Option (Nat × List Int) := (dec 9 l).bind fun p => if p.1 ≤ 4611686018427387903 then some p else none
theorem takeN_grp {n : Nat} (r : List Int) (h : n ≤ 4611686018427387903) : takeN (grp n ++ r) = some (n, r) := by
  unfold takeN
  rw [dec_grp 9 n r (grp9 h), Option.bind_some, if_pos h]
theorem takeN_back {l r : List Int} {n : Nat} (hl : Byts l) (h : takeN l = some (n, r)) : l = grp n ++ r ∧ n ≤ 4611686018427387903 := by
  unfold takeN at h
  cases hd : dec 9 l with
  | none => rw [hd] at h; simp at h
  | some p =>
    rw [hd, Option.bind_some] at h
    split at h
    · rename_i hp
      simp only [Option.some.injEq] at h
      subst h
      exact ⟨(dec_back 9 l n r hl hd).1, hp⟩
    · cases h
def cont (i t : Nat) (o : Option (Nat × List Int)) : Int × List Int × Int :=
  match o with
  | some (n, r) => if 0 < i ∧ n = 0 then (0, [], 2) else if t + 128 ^ i * n ≤ 4611686018427387903 then (((t + 128 ^ i * n : Nat) : Int), r, 0) else (0, [], 2)
  | none => (0, [], 2)
theorem cont_zero (o : Option (Nat × List Int)) : cont 0 0 o = tri (o.bind fun p => if p.1 ≤ 4611686018427387903 then some p else none) := by
  unfold cont tri
  cases o with
  | none => rfl
  | some p =>
    obtain ⟨n, r⟩ := p
    simp only [Option.bind_some, Nat.pow_zero, Nat.one_mul, Nat.zero_add, Nat.lt_irrefl, false_and, if_false]
    by_cases h : n ≤ 4611686018427387903
    · rw [if_pos h, if_pos h]
    · rw [if_neg h, if_neg h]
theorem cont_step {i t k : Nat} {c : Int} {l : List Int} (h0 : ¬ c < 128) : cont i t (dec (k + 1) (c :: l)) = cont (i + 1) (t + 128 ^ i * (c.toNat - 128)) (dec k l) := by
  rw [dec, if_neg h0]
  cases dec k l with
  | none => rfl
  | some p =>
    obtain ⟨n, r⟩ := p
    simp only
    by_cases z : n = 0
    · rw [if_pos z]
      unfold cont
      simp only
      rw [if_pos ⟨by omega, z⟩]
    · rw [if_neg z]
      unfold cont
      simp only
      have : t + 128 ^ i * (c.toNat - 128 + 128 * n) = t + 128 ^ i * (c.toNat - 128) + 128 ^ (i + 1) * n := by
        rw [Nat.pow_succ, Nat.mul_add, Nat.mul_assoc, Nat.add_assoc]
      rw [if_neg (show ¬ (0 < i ∧ c.toNat - 128 + 128 * n = 0) by omega), if_neg (show ¬ (0 < i + 1 ∧ n = 0) by omega), this]
theorem cont_last {i t k : Nat} {c : Int} {l : List Int} (h0 : c < 128) : cont i t (dec (k + 1) (c :: l)) = if 0 < i ∧ c.toNat = 0 then (0, [], 2) else if t + 128 ^ i * c.toNat ≤ 4611686018427387903 then (((t + 128 ^ i * c.toNat : Nat) : Int), l, 0) else (0, [], 2) := by
  rw [dec, if_pos h0]
  rfl
theorem and127 (y : Int) (h0 : 0 ≤ y) (h1 : y < 256) : Go.bits .and .u8 y 127 = y % 128 := by
  have h : ∀ n : Fin 256, Go.bits .and .u8 (n.val : Int) 127 = (n.val : Int) % 128 := by decide +kernel
  have := h ⟨y.toNat, by omega⟩
  simpa [Int.toNat_of_nonneg h0] using this
theorem pow128 (i : Nat) : (128 : Nat) ^ i = 2 ^ (7 * i) := by rw [Nat.pow_mul]
theorem pow128_le {i : Nat} (h : i ≤ 8) : (128 : Nat) ^ i ≤ 72057594037927936 := by
  have : (128 : Nat) ^ i ≤ 128 ^ 8 := Nat.pow_le_pow_right (by omega) h
  omega
theorem group (i t : Nat) (c : Int) (hi : i ≤ 8) (ht : t < 128 ^ i) (h0 : 0 ≤ c) (h1 : c < 256) :
    Go.bits .or .u64 (t : Int) (shl .u64 (IntKind.u64.wrap (Go.bits .and .u8 c 127)) (wrap64 (7 * (i : Int)))) = ((t + 128 ^ i * (c.toNat % 128) : Nat) : Int) := by
  have hp := pow128_le hi
  have hm : 128 ^ i * (c.toNat % 128) ≤ 72057594037927936 * 127 := Nat.mul_le_mul hp (by omega)
  have e1 : Go.bits .and .u8 c 127 = ((c.toNat % 128 : Nat) : Int) := by rw [and127 c h0 h1]; omega
  have e2 : shl .u64 (((c.toNat % 128 : Nat) : Int)) (wrap64 (7 * (i : Int))) = ((128 ^ i * (c.toNat % 128) : Nat) : Int) := by
    unfold shl
    rw [wrap_in (by omega) (by omega), show (7 * (i : Int)).toNat = 7 * i by omega, Nat.min_eq_left (by show 7 * i ≤ 64; omega)]
    have : ((c.toNat % 128 : Nat) : Int) * 2 ^ (7 * i) = ((128 ^ i * (c.toNat % 128) : Nat) : Int) := by
      rw [Int.natCast_mul, Int.mul_comm, pow128, Int.natCast_pow]
      rfl
    rw [this]
    exact u64_nat (by omega)
  rw [e1, u64_nat (by omega), e2, or_u64 (by omega) (by omega)]
  rw [pow128] at ht ⊢
  rw [Nat.or_comm, ← Nat.two_pow_add_eq_or_of_lt ht, Nat.add_comm]
theorem group_lo (i t : Nat) (c : Int) (hi : i ≤ 8) (ht : t < 128 ^ i) (h0 : 0 ≤ c) (h1 : c < 128) :
    Go.bits .or .u64 (t : Int) (shl .u64 (IntKind.u64.wrap (Go.bits .and .u8 c 127)) (wrap64 (7 * (i : Int)))) = ((t + 128 ^ i * c.toNat : Nat) : Int) := by
  rw [group i t c hi ht h0 (by omega), show c.toNat % 128 = c.toNat by omega]
theorem group_hi (i t : Nat) (c : Int) (hi : i ≤ 8) (ht : t < 128 ^ i) (h0 : 0 ≤ c) (h1 : c < 256) (h2 : ¬ c < 128) :
    Go.bits .or .u64 (t : Int) (shl .u64 (IntKind.u64.wrap (Go.bits .and .u8 c 127)) (wrap64 (7 * (i : Int)))) = ((t + 128 ^ i * (c.toNat - 128) : Nat) : Int) := by
  rw [group i t c hi ht h0 (by omega), show c.toNat % 128 = c.toNat - 128 by omega]
theorem wrap7 {i : Nat} (h : i ≤ 9) : 0 ≤ wrap64 (7 * (i : Int)) := by rw [wrap_in (by omega) (by omega)]; omega
theorem takeNum_loop (l : List Int) (hl : Byts l) (hb : l.length < 140737488355328) (d : Nat) : ∀ (i t : Nat), 9 - i = d → i ≤ 9 → i ≤ l.length → t < 128 ^ i →
    Ev (fun k => code_TakeNum.l0 k l (t : Int) 0 l (l.length : Int) (i : Int)) (cont i t (dec (9 - i) (l.drop i))) := by
  induction d with
  | zero =>
    intro i t hd h9 hi ht
    have hi9 : i = 9 := by omega
    subst hi9
    refine Ev.step (f := fun _ => some (0, [], 2)) (fun k => ?_) (Ev.const rfl)
    simp only [code_TakeNum.l0]
    by_cases c : (9 : Nat) < l.length
    · rw [if_pos (by omega), if_pos (by omega), if_pos (by omega), if_pos (by omega), if_pos trivial]
    · rw [if_neg (by omega), if_pos trivial]
  | succ d ih =>
    intro i t hd h9 hi ht
    have hi8 : i ≤ 8 := by omega
    by_cases c : i < l.length
    · have hc := hl (l[i]) (List.getElem_mem _)
      have e9 : 9 - i = (9 - (i + 1)) + 1 := by omega
      rw [List.drop_eq_getElem_cons c, e9]
      have hrd := rd_nat l i c
      by_cases z : 0 < i ∧ l[i] = 0
      · rw [cont_last (by omega), if_pos ⟨z.1, by omega⟩]
        refine Ev.step (f := fun k => code_TakeNum.j1 k l (t : Int) 0 (i : Int) (rd l (i : Int)) l (l.length : Int) (i : Int) true) (fun k => ?_) (Ev.step (f := fun _ => some (0, [], 2)) (fun k => ?_) (Ev.const rfl))
        · simp only [code_TakeNum.l0]
          rw [if_pos (by omega), if_pos (by omega), if_pos (by omega), if_neg (by omega), if_pos (by rw [hrd]; exact z.2), decide_eq_true (by omega)]
        · simp only [code_TakeNum.j1]
          rw [if_pos trivial, if_pos trivial]
      · refine Ev.step (f := fun k => code_TakeNum.j1 k l (t : Int) 0 (i : Int) (rd l (i : Int)) l (l.length : Int) (i : Int) false) (fun k => ?_) ?_
        · simp only [code_TakeNum.l0]
          rw [if_pos (by omega), if_pos (by omega), if_pos (by omega), if_neg (by omega)]
          by_cases q : l[i] = 0
          · rw [if_pos (by rw [hrd]; exact q), decide_eq_false (by omega)]
          · rw [if_neg (by rw [hrd]; exact q)]
        · have hp := pow128_le hi8
          by_cases q : l[i] < 128
          · rw [cont_last q, if_neg (by omega)]
            have hm : 128 ^ i * (l[i]).toNat ≤ 72057594037927936 * 127 := Nat.mul_le_mul hp (by omega)
            by_cases big : t + 128 ^ i * (l[i]).toNat ≤ 4611686018427387903
            · rw [if_pos big]
              refine Ev.step (f := fun _ => some (((t + 128 ^ i * (l[i]).toNat : Nat) : Int), l.drop (i + 1), 0)) (fun k => ?_) (Ev.const rfl)
              simp only [code_TakeNum.j1]
              rw [if_neg (by simp), if_pos (wrap7 h9), hrd, if_pos q, wrap_succ (by omega), group_lo i t _ hi8 ht hc.1 q, if_neg (by omega), if_neg (by omega), if_pos (by omega), if_pos (by omega)]
              unfold slices_Clone_byte_byte.f
              rw [if_pos (by simp; omega), Option.bind_some, wrap_in (by omega) (by omega), Int.toNat_natCast]
            · rw [if_neg big]
              refine Ev.step (f := fun _ => some (0, [], 2)) (fun k => ?_) (Ev.const rfl)
              simp only [code_TakeNum.j1]
              rw [if_neg (by simp), if_pos (wrap7 h9), hrd, if_pos q, wrap_succ (by omega), group_lo i t _ hi8 ht hc.1 q, if_neg (by omega), if_pos (by omega)]
          · rw [cont_step q]
            have hlt : t + 128 ^ i * ((l[i]).toNat - 128) < 128 ^ (i + 1) := by
              have : 128 ^ i * ((l[i]).toNat - 128) ≤ 128 ^ i * 127 := Nat.mul_le_mul (Nat.le_refl _) (by omega)
              rw [Nat.pow_succ]
              omega
            have next := ih (i + 1) _ (by omega) (by omega) (by omega) hlt
            refine Ev.step (fun k => ?_) next
            simp only [code_TakeNum.j1]
            rw [if_neg (by simp), if_pos (wrap7 h9), hrd, if_neg q, wrap_succ (by omega), group_hi i t _ hi8 ht hc.1 hc.2 q]
    · rw [List.drop_eq_nil_of_le (by omega), show 9 - i = (9 - (i + 1)) + 1 by omega]
      refine Ev.step (f := fun _ => some (0, [], 2)) (fun k => ?_) (Ev.const rfl)
      simp only [code_TakeNum.l0]
      rw [if_neg (by omega), if_pos trivial]
theorem takeNum_f {l : List Int} (hl : Byts l) (hb : l.length < 140737488355328) : Ev (fun k => code_TakeNum.f k l) (tri (takeN l)) := by
  unfold code_TakeNum.f takeN
  have := takeNum_loop l hl hb 9 0 0 rfl (by omega) (by omega) (by omega)
  rw [cont_zero, List.drop_zero] at this
  exact this

theorem grp_length_ge (k : Nat) : ∀ n : Nat, 128 ^ k ≤ n → k + 1 ≤ (grp n).length := by
  induction k with
  | zero => intro n _; exact grp_pos n
  | succ k ih =>
    intro n h
    have h1 : 128 ^ k * 128 ≤ n := by rw [Nat.pow_succ] at h; exact h
    have h2 : 0 < 128 ^ k := Nat.pow_pos (by omega)
    rw [grp_hi (by omega), List.length_cons]
    have := ih (n / 128) ((Nat.le_div_iff_mul_le (by omega)).2 h1)
    omega
theorem ref_digit {c : Int} (h0 : 0 ≤ c) (h1 : c < 256) : wrap64 (Int.tmod c 128) = ((c.toNat % 128 : Nat) : Int) := by
  rw [Int.tmod_eq_emod_of_nonneg h0, wrap_in (by omega) (by omega)]; omega
theorem ref_scale {i : Nat} (h : i ≤ 8) : wrap64 ((128 ^ i : Nat) : Int) = ((128 ^ i : Nat) : Int) := by
  have hp := pow128_le h
  generalize 128 ^ i = p at hp ⊢
  exact wrap_in (by omega) (by omega)
theorem ref_sum (i t d : Nat) (hi : i ≤ 8) (ht : t < 128 ^ i) (hd : d < 128) : wrap64 ((t : Int) + wrap64 ((d : Int) * ((128 ^ i : Nat) : Int))) = ((t + 128 ^ i * d : Nat) : Int) := by
  have hp := pow128_le hi
  have hm : 128 ^ i * d ≤ 72057594037927936 * 127 := Nat.mul_le_mul hp (by omega)
  have : (d : Int) * ((128 ^ i : Nat) : Int) = ((128 ^ i * d : Nat) : Int) := by rw [Int.mul_comm, ← Int.natCast_mul]
  rw [this]
  generalize 128 ^ i * d = q at hm ⊢
  generalize 128 ^ i = p at hp ht
  rw [wrap_in (n := (q : Int)) (by omega) (by omega), wrap_in (by omega) (by omega)]
  omega
theorem refTake_loop (l : List Int) (hl : Byts l) (hb : l.length < 140737488355328) (d : Nat) : ∀ (i t : Nat), 9 - i = d → i ≤ 9 → i ≤ l.length → t < 128 ^ i →
    Ev (fun k => sawyerref02_TakeNum.l0 k l (t : Int) (wrap64 ((128 ^ i : Nat) : Int)) (i : Int)) (cont i t (dec (9 - i) (l.drop i))) := by
  induction d with
  | zero =>
    intro i t hd h9 hi ht
    have hi9 : i = 9 := by omega
    subst hi9
    refine Ev.step (f := fun k => sawyerref02_TakeNum.j1 k l (t : Int) (wrap64 ((128 ^ 9 : Nat) : Int)) ((9 : Nat) : Int) false) (fun k => ?_) (Ev.step (f := fun _ => some (0, [], 2)) (fun k => ?_) (Ev.const rfl))
    · simp only [sawyerref02_TakeNum.l0]
      by_cases c : (9 : Nat) < l.length
      · rw [if_pos (by omega), decide_eq_false (by omega)]
      · rw [if_neg (by omega)]
    · simp only [sawyerref02_TakeNum.j1]
      rw [if_neg (by simp)]
  | succ d ih =>
    intro i t hd h9 hi ht
    have hi8 : i ≤ 8 := by omega
    have hp := pow128_le hi8
    have hp0 : 0 < 128 ^ i := Nat.pow_pos (by omega)
    by_cases c : i < l.length
    · have hc := hl (l[i]) (List.getElem_mem _)
      have e9 : 9 - i = (9 - (i + 1)) + 1 := by omega
      rw [List.drop_eq_getElem_cons c, e9]
      have hrd := rd_nat l i c
      refine Ev.step (f := fun k => sawyerref02_TakeNum.j1 k l (t : Int) (wrap64 ((128 ^ i : Nat) : Int)) (i : Int) true) (fun k => ?_) ?_
      · simp only [sawyerref02_TakeNum.l0]
        rw [if_pos (by omega), decide_eq_true (by omega)]
      · by_cases over : i = 8 ∧ 63 < (l[i]).toNat % 128
        · have e : cont i t (dec (9 - (i + 1) + 1) (l[i] :: l.drop (i + 1))) = (0, [], 2) := by
            obtain ⟨rfl, over⟩ := over
            by_cases q : l[8] < 128
            · rw [cont_last q, if_neg (by omega), if_neg (by
                have : 128 ^ 8 * 64 ≤ 128 ^ 8 * (l[8]).toNat := Nat.mul_le_mul (Nat.le_refl _) (by omega)
                omega)]
            · rw [cont_step q]; rfl
          rw [e]
          refine Ev.step (f := fun k => sawyerref02_TakeNum.j2 k l (t : Int) (wrap64 ((128 ^ i : Nat) : Int)) (i : Int) (((l[i]).toNat % 128 : Nat) : Int) true) (fun k => ?_) (Ev.step (f := fun _ => some (0, [], 2)) (fun k => ?_) (Ev.const rfl))
          · simp only [sawyerref02_TakeNum.j1]
            rw [if_pos trivial, if_pos (by omega), if_pos (by omega), if_pos (by omega), hrd, ref_digit hc.1 hc.2, decide_eq_true (by omega)]
          · simp only [sawyerref02_TakeNum.j2]
            rw [if_pos trivial]
        · refine Ev.step (f := fun k => sawyerref02_TakeNum.j2 k l (t : Int) (wrap64 ((128 ^ i : Nat) : Int)) (i : Int) (((l[i]).toNat % 128 : Nat) : Int) false) (fun k => ?_) ?_
          · simp only [sawyerref02_TakeNum.j1]
            rw [if_pos trivial, if_pos (by omega), if_pos (by omega), hrd, ref_digit hc.1 hc.2]
            by_cases q : (i : Int) = 8
            · rw [if_pos q, decide_eq_false (by omega)]
            · rw [if_neg q]
          · by_cases q : l[i] < 128
            · rw [cont_last q]
              rw [show (l[i]).toNat % 128 = (l[i]).toNat by omega] at over
              have hsmall : t + 128 ^ i * (l[i]).toNat ≤ 4611686018427387903 := by
                by_cases e8 : i = 8
                · subst e8
                  have : 128 ^ 8 * (l[8]).toNat ≤ 128 ^ 8 * 63 := Nat.mul_le_mul (Nat.le_refl _) (by omega)
                  omega
                · have h7 : (128 : Nat) ^ i ≤ 128 ^ 7 := Nat.pow_le_pow_right (by omega) (by omega)
                  have : 128 ^ i * (l[i]).toNat ≤ 128 ^ 7 * 127 := Nat.mul_le_mul h7 (by omega)
                  omega
              have hn : Ev (fun k => sawyerref02_PutNum.f k ([] : List Int) ((t + 128 ^ i * (l[i]).toNat : Nat) : Int)) (grp (t + 128 ^ i * (l[i]).toNat)) := by
                have := refNum_f [] ((t + 128 ^ i * (l[i]).toNat : Nat) : Int) (by simp)
                rw [cap_of hsmall, List.nil_append] at this
                exact this
              by_cases z : 0 < i ∧ (l[i]).toNat = 0
              · rw [if_pos z]
                have hlen : (grp (t + 128 ^ i * (l[i]).toNat)).length ≤ i := by
                  rw [z.2, Nat.mul_zero, Nat.add_zero]
                  obtain ⟨j, rfl⟩ : ∃ j, i = j + 1 := ⟨i - 1, by omega⟩
                  exact grp_length_le j t ht
                refine Ev.step (f := fun k => (sawyerref02_PutNum.f k ([] : List Int) ((t + 128 ^ i * (l[i]).toNat : Nat) : Int)).bind fun t390 => (if (t390.length : Int) = ((i + 1 : Nat) : Int) then some (((t + 128 ^ i * (l[i]).toNat : Nat) : Int), l.drop (i + 1), 0) else some (0, [], 2))) (fun k => ?_) ?_
                · simp only [sawyerref02_TakeNum.j2]
                  rw [if_neg (by simp), if_pos (by omega), if_pos (by omega), hrd, if_pos q, show (l[i]).toNat % 128 = (l[i]).toNat by omega, ref_scale hi8, ref_sum i t _ hi8 ht (by omega), wrap_succ (by omega)]
                  simp only [if_pos (show (0 : Int) ≤ ((i + 1 : Nat) : Int) by omega), if_pos (show ((i + 1 : Nat) : Int) ≤ (l.length : Int) by omega), Option.bind_some, Int.toNat_natCast, List.length_nil, Nat.zero_add, List.nil_append, if_pos (show (l.drop (i + 1)).length < 140737488355328 by simp; omega)]
                · refine Ev.bind hn ?_
                  exact Ev.neg (by omega) (Ev.const rfl)
              · rw [if_neg z, if_pos hsmall]
                have hlen : (grp (t + 128 ^ i * (l[i]).toNat)).length = i + 1 := by
                  have h1 : (grp (t + 128 ^ i * (l[i]).toNat)).length ≤ i + 1 := by
                    refine grp_length_le i _ ?_
                    have : 128 ^ i * (l[i]).toNat ≤ 128 ^ i * 127 := Nat.mul_le_mul (Nat.le_refl _) (by omega)
                    rw [Nat.pow_succ]
                    omega
                  have h2 : i + 1 ≤ (grp (t + 128 ^ i * (l[i]).toNat)).length := by
                    by_cases e0 : i = 0
                    · subst e0; exact grp_pos _
                    · refine grp_length_ge i _ ?_
                      have : 128 ^ i * 1 ≤ 128 ^ i * (l[i]).toNat := Nat.mul_le_mul (Nat.le_refl _) (by omega)
                      omega
                  omega
                refine Ev.step (f := fun k => (sawyerref02_PutNum.f k ([] : List Int) ((t + 128 ^ i * (l[i]).toNat : Nat) : Int)).bind fun t390 => (if (t390.length : Int) = ((i + 1 : Nat) : Int) then some (((t + 128 ^ i * (l[i]).toNat : Nat) : Int), l.drop (i + 1), 0) else some (0, [], 2))) (fun k => ?_) ?_
                · simp only [sawyerref02_TakeNum.j2]
                  rw [if_neg (by simp), if_pos (by omega), if_pos (by omega), hrd, if_pos q, show (l[i]).toNat % 128 = (l[i]).toNat by omega, ref_scale hi8, ref_sum i t _ hi8 ht (by omega), wrap_succ (by omega)]
                  simp only [if_pos (show (0 : Int) ≤ ((i + 1 : Nat) : Int) by omega), if_pos (show ((i + 1 : Nat) : Int) ≤ (l.length : Int) by omega), Option.bind_some, Int.toNat_natCast, List.length_nil, Nat.zero_add, List.nil_append, if_pos (show (l.drop (i + 1)).length < 140737488355328 by simp; omega)]
                · refine Ev.bind hn ?_
                  exact Ev.pos (by omega) (Ev.const rfl)
            · rw [cont_step q]
              have hlt : t + 128 ^ i * ((l[i]).toNat - 128) < 128 ^ (i + 1) := by
                have : 128 ^ i * ((l[i]).toNat - 128) ≤ 128 ^ i * 127 := Nat.mul_le_mul (Nat.le_refl _) (by omega)
                rw [Nat.pow_succ]
                omega
              have next := ih (i + 1) _ (by omega) (by omega) (by omega) hlt
              refine Ev.step (fun k => ?_) next
              clear hlt next
              simp only [sawyerref02_TakeNum.j2]
              rw [if_neg (by simp), if_pos (by omega), if_pos (by omega), hrd, if_neg q, show (l[i]).toNat % 128 = (l[i]).toNat - 128 by omega, ref_scale hi8, ref_sum i t _ hi8 ht (by omega), wrap_succ (by omega), Nat.pow_succ, Int.natCast_mul]
              rfl
    · rw [List.drop_eq_nil_of_le (by omega), show 9 - i = (9 - (i + 1)) + 1 by omega]
      refine Ev.step (f := fun k => sawyerref02_TakeNum.j1 k l (t : Int) (wrap64 ((128 ^ i : Nat) : Int)) (i : Int) false) (fun k => ?_) (Ev.step (f := fun _ => some (0, [], 2)) (fun k => ?_) (Ev.const rfl))
      · simp only [sawyerref02_TakeNum.l0]
        rw [if_neg (by omega)]
      · simp only [sawyerref02_TakeNum.j1]
        rw [if_neg (by simp)]
theorem refTake_f {l : List Int} (hl : Byts l) (hb : l.length < 140737488355328) : Ev (fun k => sawyerref02_TakeNum.f k l) (tri (takeN l)) := by
  unfold sawyerref02_TakeNum.f takeN
  have := refTake_loop l hl hb 9 0 0 rfl (by omega) (by omega) (by omega)
  rw [cont_zero, List.drop_zero, show wrap64 ((128 ^ 0 : Nat) : Int) = 1 from wrap_in (by decide) (by decide)] at this
  exact this
end Go.Proofs.Ytkebeiillddboaa.Sw

set_option linter.unusedVariables false
set_option linter.unusedSimpArgs false
namespace Go.Proofs.Ytkebeiillddboaa.Sw
open Go.RowKit Go.Proofs.Ytkebeiillddboaa.Px Go.Proofs.YtkebeiillddboaaW.PrintWords Go.Proofs.YtkebeiillddboaaW.PrintLast Go.Proofs.YtkebeiillddboaaW.PrintMore

def takeTx (l : List Int) (a : Int) : Option (List Int × List Int) :=
  (takeN l).bind fun p => if (p.1 : Int) > a then none else if p.1 > p.2.length then none else some (p.2.take p.1, p.2.drop p.1)
def triT : Option (List Int × List Int) → ByteArray × List Int × Int
  | some (t, r) => (strOfNums t, r, 0)
  | none => (⟨#[]⟩, [], 2)
theorem takeText_f {l : List Int} (a : Int) (hl : Byts l) (hb : l.length < 140737488355328) : Ev (fun k => code_TakeText.f k l a) (triT (takeTx l a)) := by
  unfold code_TakeText.f
  refine Ev.bind (takeNum_f hl hb) ?_
  unfold takeTx
  cases takeN l with
  | none => exact Ev.const rfl
  | some p =>
    obtain ⟨n, r⟩ := p
    refine Ev.pos (show (tri (some (n, r))).2.2 = 0 from rfl) ?_
    rw [Option.bind_some]
    by_cases c1 : (n : Int) > a
    · rw [if_pos c1]
      exact Ev.pos c1 (Ev.const rfl)
    · rw [if_neg c1]
      refine Ev.neg c1 ?_
      by_cases c2 : n > r.length
      · rw [if_pos c2]
        exact Ev.pos (show (n : Int) > (r.length : Int) by omega) (Ev.const rfl)
      · rw [if_neg c2]
        exact Ev.neg (show ¬ (n : Int) > (r.length : Int) by omega) (Ev.pos (show (0 : Int) ≤ (n : Int) by omega) (Ev.pos (show (n : Int) ≤ (r.length : Int) by omega) (Ev.const rfl)))
theorem refTakeText_f {l : List Int} (a : Int) (hl : Byts l) (hb : l.length < 140737488355328) : Ev (fun k => sawyerref02_TakeText.f k l a) (triT (takeTx l a)) := by
  unfold sawyerref02_TakeText.f
  refine Ev.bind (refTake_f hl hb) ?_
  unfold takeTx
  cases takeN l with
  | none => exact Ev.const rfl
  | some p =>
    obtain ⟨n, r⟩ := p
    refine Ev.pos (show (tri (some (n, r))).2.2 = 0 from rfl) ?_
    rw [Option.bind_some]
    by_cases c1 : (n : Int) > a
    · rw [if_pos c1]
      exact Ev.pos c1 (Ev.const rfl)
    · rw [if_neg c1]
      refine Ev.neg c1 ?_
      by_cases c2 : n > r.length
      · rw [if_pos c2]
        exact Ev.pos (show (n : Int) > (r.length : Int) by omega) (Ev.const rfl)
      · rw [if_neg c2]
        exact Ev.neg (show ¬ (n : Int) > (r.length : Int) by omega) (Ev.pos (show (0 : Int) ≤ (n : Int) by omega) (Ev.pos (show (n : Int) ≤ (r.length : Int) by omega) (Ev.const rfl)))
theorem bytesOf_byts (s : ByteArray) : Byts (bytesOf s) := by
  intro x hx
  unfold bytesOf at hx
  obtain ⟨b, _, rfl⟩ := List.mem_map.1 hx
  have := b.toNat_lt
  omega
theorem putText_f (l : List Int) (s : ByteArray) (hb : l.length + s.size + 18 < 140737488355328) : Ev (fun k => code_PutText.f k l s) (l ++ grp s.size ++ bytesOf s) := by
  unfold code_PutText.f
  have h9 := grp9 (n := s.size) (by omega)
  have := putNum_f l (s.size : Int) (by omega)
  rw [cap_of (by omega)] at this
  refine Ev.bind this (Ev.const ?_)
  unfold code_laid_string.f slices_Clone_byte_byte.f
  rw [if_pos (by rw [List.length_append]; omega), Option.bind_some, if_pos (by rw [List.length_append]; omega), Option.bind_some]
theorem refPutText_f (l : List Int) (s : ByteArray) (hb : l.length + s.size + 18 < 140737488355328) : Ev (fun k => sawyerref02_PutText.f k l s) (l ++ grp s.size ++ bytesOf s) := by
  unfold sawyerref02_PutText.f
  have h9 := grp9 (n := s.size) (by omega)
  have := refNum_f l (s.size : Int) (by omega)
  rw [cap_of (by omega)] at this
  refine Ev.bind this (Ev.const ?_)
  rw [if_pos (by rw [List.length_append]; omega)]

end Go.Proofs.Ytkebeiillddboaa.Sw

set_option linter.unusedVariables false
set_option linter.unusedSimpArgs false
namespace Go.Proofs.Ytkebeiillddboaa.Sw
open Go.RowKit Go.Proofs.Ytkebeiillddboaa.Px Go.Proofs.YtkebeiillddboaaW.PrintWords Go.Proofs.YtkebeiillddboaaW.PrintLast Go.Proofs.YtkebeiillddboaaW.PrintMore

abbrev W32 := BitVec 32
def poly : W32 := 3988292384#32
def turn (w : W32) : W32 := (w >>> 1) ^^^ (if w.getLsbD 0 then poly else 0#32)
def turns : Nat → W32 → W32
  | 0, w => w
  | n + 1, w => turns n (turn w)
def byteStep (w : W32) (c : Int) : W32 := turns 8 (w ^^^ BitVec.ofInt 32 c)
def crcFrom (w : W32) (l : List Int) : W32 := l.foldl byteStep w
def crc (l : List Int) : Int := ((~~~ crcFrom (BitVec.allOnes 32) l).toNat : Int)

def num32 (w : W32) : Int := (w.toNat : Int)
theorem num32_range (w : W32) : 0 ≤ num32 w ∧ num32 w < 4294967296 := by unfold num32; have := w.isLt; omega
theorem ofInt_num32 (w : W32) : BitVec.ofInt 32 (num32 w) = w := by
  unfold num32
  rw [BitVec.ofInt_natCast, BitVec.ofNat_toNat, BitVec.setWidth_eq]
theorem wrap_u32 (w : W32) : IntKind.u32.wrap ((w.toNat : Nat) : Int) = num32 w := by
  rw [IntKind.wrap_u32]
  have := w.isLt
  unfold num32
  omega
theorem xor_u32 (x y : Int) : Go.bits .xor .u32 x y = num32 (BitVec.ofInt 32 x ^^^ BitVec.ofInt 32 y) := wrap_u32 _
theorem and_u32 (x y : Int) : Go.bits .and .u32 x y = num32 (BitVec.ofInt 32 x &&& BitVec.ofInt 32 y) := wrap_u32 _
theorem num32_div2 (w : W32) : (num32 w / (2 : Int) : Int) = num32 (w >>> (1 : Nat)) := by
  unfold num32
  rw [BitVec.toNat_ushiftRight, Nat.shiftRight_eq_div_pow]
  omega
theorem lsb_mod (w : W32) : w.getLsbD 0 = decide (num32 w % 2 = 1) := by
  unfold num32
  rw [BitVec.getLsbD, Nat.testBit_zero]
  congr 1
  apply propext
  omega
theorem mask (w : W32) : BitVec.ofInt 32 ((-(num32 (w &&& 1#32))) % 4294967296) = if w.getLsbD 0 then BitVec.allOnes 32 else 0#32 := by
  have h1 : num32 (w &&& 1#32) = num32 w % 2 := by
    unfold num32
    rw [BitVec.toNat_and]
    have : (1#32).toNat = 1 := rfl
    rw [this, Nat.and_one_is_mod]
    omega
  rw [h1, lsb_mod]
  have := num32_range w
  by_cases c : num32 w % 2 = 1
  · rw [c, decide_eq_true rfl]; rfl
  · have c0 : num32 w % 2 = 0 := by omega
    rw [c0, decide_eq_false (by omega)]; rfl
theorem turn_code (w : W32) : Go.bits .xor .u32 (num32 w / 2) (Go.bits .and .u32 3988292384 ((-(Go.bits .and .u32 (num32 w) 1)) % 4294967296)) = num32 (turn w) := by
  rw [and_u32 (num32 w) 1, ofInt_num32, show BitVec.ofInt 32 1 = 1#32 from rfl, and_u32, mask, xor_u32, ofInt_num32, num32_div2, ofInt_num32, show BitVec.ofInt 32 3988292384 = poly from rfl]
  congr 1
  unfold turn
  congr 1
  by_cases c : w.getLsbD 0
  · rw [if_pos c, if_pos c, BitVec.and_allOnes]
  · rw [if_neg c, if_neg c, BitVec.and_zero]
theorem turn_ref (w : W32) : (if (Int.tmod (num32 w) 2) = 1 then Go.bits .xor .u32 ((Int.tdiv (num32 w) 2) % 4294967296) 3988292384 else (Int.tdiv (num32 w) 2) % 4294967296) = num32 (turn w) := by
  have h := num32_range w
  rw [Int.tmod_eq_emod_of_nonneg h.1, Int.tdiv_eq_ediv_of_nonneg h.1, show num32 w / 2 % 4294967296 = num32 w / 2 by omega, num32_div2]
  unfold turn
  rw [lsb_mod]
  by_cases c : num32 w % 2 = 1
  · rw [if_pos c, decide_eq_true c, if_pos rfl, xor_u32, ofInt_num32]; rfl
  · rw [if_neg c, decide_eq_false c, if_neg (by simp), BitVec.xor_zero]
theorem code_rounds (l : List Int) (n i : Int) (j : Nat) : ∀ (m : Nat) (w : W32), m + j = 8 → ∀ r, Ev (fun k => code_Crc.l0 k (num32 (turns m w)) l n (wrap64 (i + 1))) r → Ev (fun k => code_Crc.l1 k (num32 w) l n i (j : Int)) r := by
  intro m
  induction m generalizing j with
  | zero =>
    intro w hm r h
    refine Ev.step (fun k => ?_) h
    simp only [code_Crc.l1]
    rw [if_neg (by omega)]
    rfl
  | succ m ih =>
    intro w hm r h
    refine Ev.step (fun k => ?_) (show Ev (fun k => code_Crc.l1 k (num32 (turn w)) l n i ((j + 1 : Nat) : Int)) r from ih (j + 1) (turn w) (by omega) r h)
    simp only [code_Crc.l1]
    rw [if_pos (by omega), turn_code, wrap_in (by omega) (by omega)]
    rfl
theorem ref_rounds (l : List Int) (i : Int) (j : Nat) : ∀ (m : Nat) (w : W32), m + j = 8 → ∀ r, Ev (fun k => sawyerref02_Crc.l0 k l (num32 (turns m w)) (wrap64 (i + 1))) r → Ev (fun k => sawyerref02_Crc.l1 k l (num32 w) i (j : Int)) r := by
  intro m
  induction m generalizing j with
  | zero =>
    intro w hm r h
    refine Ev.step (fun k => ?_) h
    simp only [sawyerref02_Crc.l1]
    rw [if_neg (by omega)]
    rfl
  | succ m ih =>
    intro w hm r h
    refine Ev.step (fun k => ?_) (show Ev (fun k => sawyerref02_Crc.l1 k l (num32 (turn w)) i ((j + 1 : Nat) : Int)) r from ih (j + 1) (turn w) (by omega) r h)
    simp only [sawyerref02_Crc.l1]
    rw [if_pos (by omega), wrap_in (n := (j : Int) + 1) (by omega) (by omega), show (j : Int) + 1 = ((j + 1 : Nat) : Int) by omega, ← turn_ref]
    split <;> rfl
theorem xor_byte (w : W32) (c : Int) (h0 : 0 ≤ c) (h1 : c < 256) : Go.bits .xor .u32 (num32 w) (c % 4294967296) = num32 (w ^^^ BitVec.ofInt 32 c) := by
  rw [xor_u32, ofInt_num32, show c % 4294967296 = c by omega]
theorem not_code (w : W32) : Go.bits .xor .u32 4294967295 (num32 w) = num32 (~~~ w) := by
  rw [xor_u32, ofInt_num32, show BitVec.ofInt 32 4294967295 = BitVec.allOnes 32 from rfl, BitVec.allOnes_xor]
theorem crc_loop (l : List Int) (hl : Byts l) (hb : l.length ≤ 140737488355328) (d : Nat) : ∀ (i : Nat) (w : W32), l.length - i = d → i ≤ l.length →
    Ev (fun k => code_Crc.l0 k (num32 w) l (l.length : Int) (i : Int)) (num32 (~~~ crcFrom w (l.drop i))) := by
  induction d with
  | zero =>
    intro i w hd hi
    rw [List.drop_eq_nil_of_le (by omega)]
    refine Ev.step (f := fun _ => some (num32 (~~~ w))) (fun k => ?_) (Ev.const rfl)
    simp only [code_Crc.l0]
    rw [if_neg (by omega), not_code]
  | succ d ih =>
    intro i w hd hi
    have hlt : i < l.length := by omega
    have hc := hl (l[i]) (List.getElem_mem _)
    rw [List.drop_eq_getElem_cons hlt]
    refine Ev.step (f := fun k => code_Crc.l1 k (num32 (w ^^^ BitVec.ofInt 32 (l[i]))) l (l.length : Int) (i : Int) ((0 : Nat) : Int)) (fun k => ?_) (code_rounds l _ _ 0 8 _ (by omega) _ ?_)
    · simp only [code_Crc.l0]
      rw [if_pos (by omega), if_pos (by omega), if_pos (by omega), rd_nat l i hlt, xor_byte _ _ hc.1 hc.2]
      rfl
    · have := ih (i + 1) (byteStep w (l[i])) (by omega) (by omega)
      rw [wrap_in (by omega) (by omega)]
      exact this
theorem crc_f {l : List Int} (hl : Byts l) (hb : l.length ≤ 140737488355328) : Ev (fun k => code_Crc.f k l) (crc l) := by
  unfold code_Crc.f
  exact crc_loop l hl hb l.length 0 (BitVec.allOnes 32) (by omega) (by omega)
theorem refCrc_loop (l : List Int) (hl : Byts l) (hb : l.length ≤ 140737488355328) (d : Nat) : ∀ (i : Nat) (w : W32), l.length - i = d → i ≤ l.length →
    Ev (fun k => sawyerref02_Crc.l0 k l (num32 w) (i : Int)) (num32 (~~~ crcFrom w (l.drop i))) := by
  induction d with
  | zero =>
    intro i w hd hi
    rw [List.drop_eq_nil_of_le (by omega)]
    refine Ev.step (f := fun _ => some (num32 (~~~ w))) (fun k => ?_) (Ev.const rfl)
    simp only [sawyerref02_Crc.l0]
    rw [if_neg (by omega), not_code]
  | succ d ih =>
    intro i w hd hi
    have hlt : i < l.length := by omega
    have hc := hl (l[i]) (List.getElem_mem _)
    rw [List.drop_eq_getElem_cons hlt]
    refine Ev.step (f := fun k => sawyerref02_Crc.l1 k l (num32 (w ^^^ BitVec.ofInt 32 (l[i]))) (i : Int) ((0 : Nat) : Int)) (fun k => ?_) (ref_rounds l _ 0 8 _ (by omega) _ ?_)
    · simp only [sawyerref02_Crc.l0]
      rw [if_pos (by omega), if_pos (by omega), rd_nat l i hlt, xor_byte _ _ hc.1 hc.2]
      rfl
    · have := ih (i + 1) (byteStep w (l[i])) (by omega) (by omega)
      rw [wrap_in (by omega) (by omega)]
      exact this
theorem refCrc_f {l : List Int} (hl : Byts l) (hb : l.length ≤ 140737488355328) : Ev (fun k => sawyerref02_Crc.f k l) (crc l) := by
  unfold sawyerref02_Crc.f
  exact refCrc_loop l hl hb l.length 0 (BitVec.allOnes 32) (by omega) (by omega)
end Go.Proofs.Ytkebeiillddboaa.Sw

set_option linter.unusedVariables false
set_option linter.unusedSimpArgs false
namespace Go.Proofs.Ytkebeiillddboaa.Sw
open Go.RowKit Go.Proofs.Ytkebeiillddboaa.Px Go.Proofs.YtkebeiillddboaaW.PrintWords Go.Proofs.YtkebeiillddboaaW.PrintLast Go.Proofs.YtkebeiillddboaaW.PrintMore

theorem less_f {a b : List Int} (ha : Byts a) (hb : Byts b) : key_Less.f a b = some (less a b) := by
  unfold key_Less.f bytes_Compare.f
  rw [Option.bind_some, compare_less ha hb]
def has (l p : List Int) : Bool := decide (l.take p.length = p)
def trim : List Int → List Int
  | [] => []
  | c :: l => let t := trim l; if t = [] ∧ c = 255 then [] else c :: t
def bump : List Int → List Int
  | [] => []
  | [c] => [c + 1]
  | c :: d :: l => c :: bump (d :: l)
def next (l : List Int) : List Int := bump (trim l)
end Go.Proofs.Ytkebeiillddboaa.Sw

set_option linter.unusedVariables false
set_option linter.unusedSimpArgs false
namespace Go.Proofs.Ytkebeiillddboaa.Sw
open Go.RowKit Go.Proofs.Ytkebeiillddboaa.Px Go.Proofs.YtkebeiillddboaaW.PrintWords Go.Proofs.YtkebeiillddboaaW.PrintLast Go.Proofs.YtkebeiillddboaaW.PrintMore

theorem refLess_loop (a b : List Int) (hl : a.length ≤ 140737488355328) (d : Nat) : ∀ i : Nat, a.length - i = d → i ≤ a.length → Ev (fun k => sawyerref03_Less.l0 k a b (i : Int)) (less (a.drop i) (b.drop i)) := by
  induction d with
  | zero =>
    intro i hd hi
    have hi : i = a.length := by omega
    subst hi
    refine Ev.step (f := fun k => sawyerref03_Less.j1 k a b (a.length : Int) false) (fun k => ?_) (Ev.step (f := fun _ => some (decide ((a.length : Int) < (b.length : Int)))) (fun k => ?_) (Ev.const ?_))
    · simp only [sawyerref03_Less.l0]; rw [if_neg (by omega)]
    · simp only [sawyerref03_Less.j1]; rw [if_neg (by simp)]
    · rw [List.drop_length]
      by_cases c : a.length < b.length
      · rw [List.drop_eq_getElem_cons c]
        simp [less, c]
      · rw [List.drop_eq_nil_of_le (by omega)]
        simp [less]
        omega
  | succ d ih =>
    intro i hd hi
    have hlt : i < a.length := by omega
    rw [List.drop_eq_getElem_cons hlt]
    by_cases c : i < b.length
    · rw [List.drop_eq_getElem_cons c]
      refine Ev.step (f := fun k => sawyerref03_Less.j1 k a b (i : Int) true) (fun k => ?_) ?_
      · simp only [sawyerref03_Less.l0]; rw [if_pos (by omega), decide_eq_true (by omega)]
      · by_cases e : a[i] = b[i]
        · refine Ev.step (f := fun k => sawyerref03_Less.l0 k a b ((i + 1 : Nat) : Int)) (fun k => ?_) ?_
          · simp only [sawyerref03_Less.j1]
            rw [if_pos trivial, if_pos (by omega), if_pos (by omega), if_pos (by omega), rd_nat a i hlt, rd_nat b i c, if_pos e, wrap_in (by omega) (by omega)]
            rfl
          · have := ih (i + 1) (by omega) (by omega)
            unfold less
            rw [if_neg (by omega), if_neg (by omega)]
            exact this
        · refine Ev.step (f := fun _ => some (decide (a[i] < b[i]))) (fun k => ?_) (Ev.const ?_)
          · simp only [sawyerref03_Less.j1]
            rw [if_pos trivial, if_pos (by omega), if_pos (by omega), if_pos (by omega), rd_nat a i hlt, rd_nat b i c, if_neg e]
          · unfold less
            by_cases e2 : a[i] < b[i]
            · rw [if_pos e2, decide_eq_true e2]
            · rw [if_neg e2, if_pos (by omega), decide_eq_false e2]
    · rw [show b.drop i = [] from List.drop_eq_nil_of_le (by omega)]
      refine Ev.step (f := fun k => sawyerref03_Less.j1 k a b (i : Int) false) (fun k => ?_) (Ev.step (f := fun _ => some (decide ((a.length : Int) < (b.length : Int)))) (fun k => ?_) (Ev.const ?_))
      · simp only [sawyerref03_Less.l0]; rw [if_pos (by omega), decide_eq_false (by omega)]
      · simp only [sawyerref03_Less.j1]; rw [if_neg (by simp)]
      · simp [less]; omega
theorem refLess_f (a b : List Int) (hl : a.length ≤ 140737488355328) : Ev (fun k => sawyerref03_Less.f k a b) (less a b) := by
  unfold sawyerref03_Less.f
  have := refLess_loop a b hl a.length 0 (by omega) (by omega)
  simpa using this
end Go.Proofs.Ytkebeiillddboaa.Sw

set_option linter.unusedVariables false
set_option linter.unusedSimpArgs false
namespace Go.Proofs.Ytkebeiillddboaa.Sw
open Go.RowKit Go.Proofs.Ytkebeiillddboaa.Px Go.Proofs.YtkebeiillddboaaW.PrintWords Go.Proofs.YtkebeiillddboaaW.PrintLast Go.Proofs.YtkebeiillddboaaW.PrintMore

theorem rdE_nat (l : List S38) (i : Nat) (h : i < l.length) : rd_T38 l (i : Int) = l[i] := by
  unfold rd_T38
  rw [List.getD_eq_getElem?_getD]
  simp [h]
def okE (e : S38) : Bool := decide (1 ≤ e.f0.length ∧ e.f0.length ≤ 64 ∧ 0 ≤ e.f1 ∧ e.f1 ≤ 1099511627776 ∧ e.f3.length ≤ 1024 ∧ (e.f2 = true → e.f3.length = 0))
theorem okE_iff {e : S38} : okE e = true ↔ (1 ≤ e.f0.length ∧ e.f0.length ≤ 64 ∧ 0 ≤ e.f1 ∧ e.f1 ≤ 1099511627776 ∧ e.f3.length ≤ 1024 ∧ (e.f2 = true → e.f3.length = 0)) := by
  unfold okE
  exact decide_eq_true_iff
theorem skipCheck_f (e : S38) : skip_Check.f e.f0 e.f1 e.f2 e.f3 = some (if okE e = true then 0 else 1) := by
  unfold skip_Check.f
  by_cases h : okE e = true
  · have h2 := okE_iff.1 h
    obtain ⟨h3, h4, h5, h6, h7, h8⟩ := h2
    rw [if_pos h, if_pos (by omega), if_pos (by omega), if_pos (by omega), if_pos (by omega), if_pos (by omega)]
    by_cases g : e.f2 = true
    · rw [if_pos g, if_neg (by have := h8 g; omega)]
    · rw [if_neg g]
  · rw [if_neg h]
    have h2 : ¬ _ := fun x => h (okE_iff.2 x)
    repeat' split
    all_goals first
      | rfl
      | (exfalso; apply h2; refine ⟨by omega, by omega, by omega, by omega, by omega, fun g => ?_⟩; first | omega | (exfalso; simp_all))
theorem refCheck_f (e : S38) : sawyerref06_Check.f e.f0 e.f1 e.f2 e.f3 = some (if okE e = true then 0 else 1) := by
  unfold sawyerref06_Check.f
  by_cases h : okE e = true
  · have h2 := okE_iff.1 h
    obtain ⟨h3, h4, h5, h6, h7, h8⟩ := h2
    rw [if_pos h, if_neg (by omega), if_neg (by omega), if_neg (by omega), if_neg (by omega), if_neg (by omega)]
    by_cases g : e.f2 = true
    · rw [if_pos g, if_neg (by have := h8 g; omega)]
    · rw [if_neg g]
  · rw [if_neg h]
    have h2 : ¬ _ := fun x => h (okE_iff.2 x)
    repeat' split
    all_goals first
      | rfl
      | (exfalso; apply h2; refine ⟨by omega, by omega, by omega, by omega, by omega, fun g => ?_⟩; first | omega | (exfalso; simp_all))
def ahe (a b : S38) : Bool := less a.f0 b.f0 || (decide (a.f0 = b.f0) && decide (a.f1 > b.f1))
theorem ahead_f {a b : S38} (ha : Byts a.f0) (hb : Byts b.f0) : block_ahead.f a.f0 a.f1 a.f2 a.f3 b.f0 b.f1 b.f2 b.f3 = some (ahe a b) := by
  unfold block_ahead.f bytes_Equal.f ahe
  rw [less_f ha hb, Option.bind_some, str_eq ha hb, Option.bind_some]
  cases less a.f0 b.f0 <;> by_cases h : a.f0 = b.f0 <;> simp [h]
theorem refAhead_f {a b : S38} (ha : Byts a.f0) (hb : Byts b.f0) (hl : a.f0.length ≤ 140737488355328) : Ev (fun k => sawyerref06_Ahead.f k a.f0 a.f1 a.f2 a.f3 b.f0 b.f1 b.f2 b.f3) (ahe a b) := by
  unfold sawyerref06_Ahead.f ahe
  have hs := str_eq ha hb
  by_cases h : a.f0 = b.f0
  · refine Ev.pos (by rw [h]) (Ev.const ?_)
    simp [h, less_irrefl]
  · refine Ev.neg ?_ (Ev.bind (refLess_f a.f0 b.f0 hl) (Ev.const ?_))
    · intro h2
      rw [h2] at hs
      simp [h] at hs
    · simp [h]
def rowOk : Option S38 → List S38 → Bool
  | _, [] => true
  | p, e :: r => (okE e && (match p with | none => true | some q => ahe q e)) && rowOk (some e) r
def chk (l : List S38) : Int := if 1 ≤ l.length ∧ l.length ≤ 8 ∧ rowOk none l = true then 0 else 1
theorem check_loop (l : List S38) (hw : ∀ e ∈ l, Byts e.f0) (hl : l.length ≤ 8) (d : Nat) : ∀ (i : Nat) (p : Option S38), l.length - i = d → i ≤ l.length → (i = 0 → p = none) → (0 < i → p = some (rd_T38 l ((i : Int) - 1))) →
    Ev (fun k => block_Check.l0 k l l (l.length : Int) (i : Int)) (if rowOk p (l.drop i) = true then 0 else 1) := by
  induction d with
  | zero =>
    intro i p hd hi h0 h1
    have hi : i = l.length := by omega
    subst hi
    refine Ev.step (fun k => block_Check.l0.eq_2 _ _ _ _ _) (Ev.neg (by omega) (Ev.const ?_))
    rw [List.drop_length]
    rfl
  | succ d ih =>
    intro i p hd hi h0 h1
    have hlt : i < l.length := by omega
    have hm : l[i] ∈ l := List.getElem_mem hlt
    have hwi := hw _ hm
    rw [List.drop_eq_getElem_cons hlt]
    refine Ev.step (fun k => block_Check.l0.eq_2 _ _ _ _ _) (Ev.pos (by omega) (Ev.pos (by omega) (Ev.pos (by omega) ?_)))
    rw [rdE_nat l i hlt]
    refine Ev.bindc (skipCheck_f l[i]) ?_
    have hn := ih (i + 1) (some l[i]) (by omega) (by omega) (by omega) (fun _ => by rw [show ((i + 1 : Nat) : Int) - 1 = (i : Int) by omega, rdE_nat l i hlt])
    unfold rowOk
    by_cases c : okE l[i] = true
    · rw [c]
      simp only [if_true, Bool.true_and]
      by_cases z : i = 0
      · subst z
        rw [h0 rfl]
        simp only [Bool.true_and]
        exact Ev.neg (by omega) (by rw [wrap_in (by omega) (by omega)]; exact hn)
      · have hp := h1 (by omega)
        have hj : i - 1 < l.length := by omega
        have e1 : (i : Int) - 1 = ((i - 1 : Nat) : Int) := by omega
        rw [hp]
        refine Ev.pos (by omega) ?_
        rw [wrap_in (by omega) (by omega), e1, rdE_nat l (i - 1) hj]
        refine Ev.pos (by omega) (Ev.pos (by omega) (Ev.bindc (ahead_f (hw _ (List.getElem_mem hj)) hwi) ?_))
        simp only
        by_cases ca : ahe l[i - 1] l[i] = true
        · refine Ev.pos ca ?_
          simp only [ca, Bool.true_and]
          rw [wrap_in (by omega) (by omega)]
          exact hn
        · refine Ev.neg ca (Ev.const ?_)
          simp [ca]
    · have c2 : okE l[i] = false := by simpa using c
      rw [c2]
      exact Ev.neg (by simp) (Ev.const (by simp))
theorem chk_f (l : List S38) (hw : ∀ e ∈ l, Byts e.f0) : Ev (fun k => block_Check.f k l) (chk l) := by
  unfold block_Check.f chk
  by_cases h1 : l.length < 1
  · refine Ev.pos (by omega) (Ev.step (fun k => block_Check.j0.eq_2 _ _ _) (Ev.pos rfl (Ev.const ?_)))
    rw [if_neg (by omega)]
  · refine Ev.neg (by omega) (Ev.step (fun k => block_Check.j0.eq_2 _ _ _) ?_)
    by_cases h8 : l.length > 8
    · refine Ev.pos (by simp; omega) (Ev.const ?_)
      rw [if_neg (by omega)]
    · refine Ev.neg (by simp; omega) ?_
      have := check_loop l hw (by omega) l.length 0 none (by omega) (by omega) (fun _ => rfl) (fun h => absurd h (by omega))
      rw [List.drop_zero] at this
      by_cases c : rowOk none l = true
      · rw [if_pos c] at this
        rw [if_pos ⟨by omega, by omega, c⟩]
        exact this
      · rw [if_neg c] at this
        rw [if_neg (fun x => c x.2.2)]
        exact this
theorem ordered_loop (l : List S38) (hw : ∀ e ∈ l, Byts e.f0) (hl : l.length ≤ 8) (d : Nat) : ∀ (i : Nat) (p : Option S38), l.length - i = d → i ≤ l.length → (i = 0 → p = none) → (0 < i → p = some (rd_T38 l ((i : Int) - 1))) → (0 < i → okE (rd_T38 l ((i : Int) - 1)) = true) →
    Ev (fun k => sawyerref08_Ordered.l0 k l (i : Int)) (rowOk p (l.drop i)) := by
  induction d with
  | zero =>
    intro i p hd hi h0 h1 h2
    have hi : i = l.length := by omega
    subst hi
    refine Ev.step (fun k => sawyerref08_Ordered.l0.eq_2 _ _ _) (Ev.neg (by omega) (Ev.const ?_))
    rw [List.drop_length]
    rfl
  | succ d ih =>
    intro i p hd hi h0 h1 h2
    have hlt : i < l.length := by omega
    have hm : l[i] ∈ l := List.getElem_mem hlt
    have hwi := hw _ hm
    rw [List.drop_eq_getElem_cons hlt]
    refine Ev.step (fun k => sawyerref08_Ordered.l0.eq_2 _ _ _) (Ev.pos (by omega) (Ev.pos (by omega) ?_))
    rw [rdE_nat l i hlt]
    refine Ev.bindc (refCheck_f l[i]) ?_
    unfold rowOk
    by_cases c : okE l[i] = true
    · have hn := ih (i + 1) (some l[i]) (by omega) (by omega) (by omega) (fun _ => by rw [show ((i + 1 : Nat) : Int) - 1 = (i : Int) by omega, rdE_nat l i hlt]) (fun _ => by rw [show ((i + 1 : Nat) : Int) - 1 = (i : Int) by omega, rdE_nat l i hlt]; exact c)
      rw [c]
      simp only [if_true, Bool.true_and]
      by_cases z : i = 0
      · subst z
        rw [h0 rfl]
        simp only [Bool.true_and]
        refine Ev.neg (by omega) ?_
        rw [wrap_in (by omega) (by omega)]
        exact hn
      · have hp := h1 (by omega)
        have hj : i - 1 < l.length := by omega
        have e1 : (i : Int) - 1 = ((i - 1 : Nat) : Int) := by omega
        have hk := h2 (by omega)
        rw [e1, rdE_nat l (i - 1) hj] at hk
        have hk2 := okE_iff.1 hk
        rw [hp]
        refine Ev.pos (by omega) ?_
        rw [show wrap64 ((i : Int) - 1) = ((i - 1 : Nat) : Int) by rw [wrap_in (by omega) (by omega), e1], e1, rdE_nat l (i - 1) hj]
        refine Ev.pos (by omega) (Ev.pos (by omega) (Ev.bind (refAhead_f (hw _ (List.getElem_mem hj)) hwi (by omega)) ?_))
        simp only
        by_cases ca : ahe l[i - 1] l[i] = true
        · refine Ev.pos ca ?_
          simp only [ca, Bool.true_and]
          rw [wrap_in (by omega) (by omega)]
          exact hn
        · refine Ev.neg ca (Ev.const ?_)
          simp [ca]
    · have c2 : okE l[i] = false := by simpa using c
      rw [c2]
      exact Ev.neg (by simp) (Ev.const (by simp))
theorem refChk_f (l : List S38) (hw : ∀ e ∈ l, Byts e.f0) : Ev (fun k => sawyerref08_Check.f k l) (chk l) := by
  unfold sawyerref08_Check.f chk
  by_cases h1 : l.length < 1
  · exact Ev.pos (by omega) (Ev.const (by rw [if_neg (by omega)]))
  · refine Ev.neg (by omega) ?_
    by_cases h8 : l.length > 8
    · exact Ev.pos (by omega) (Ev.const (by rw [if_neg (by omega)]))
    · refine Ev.neg (by omega) ?_
      have := ordered_loop l hw (by omega) l.length 0 none (by omega) (by omega) (fun _ => rfl) (fun h => absurd h (by omega)) (fun h => absurd h (by omega))
      rw [List.drop_zero] at this
      unfold sawyerref08_Ordered.f
      refine Ev.bind this (Ev.const ?_)
      by_cases c : rowOk none l = true
      · rw [if_pos c, if_pos ⟨by omega, by omega, c⟩]
      · rw [if_neg c, if_neg (fun x => c x.2.2)]
def shr : List Int → List Int → Nat
  | a :: x, b :: y => if a = b then shr x y + 1 else 0
  | _, _ => 0
theorem shr_le : ∀ a b : List Int, shr a b ≤ a.length ∧ shr a b ≤ b.length
  | [], _ => ⟨Nat.zero_le _, Nat.zero_le _⟩
  | _ :: _, [] => ⟨Nat.zero_le _, Nat.zero_le _⟩
  | a :: x, b :: y => by
    unfold shr
    have := shr_le x y
    split
    · simp only [List.length_cons]; omega
    · exact ⟨Nat.zero_le _, Nat.zero_le _⟩
theorem shr_take : ∀ a b : List Int, a.take (shr a b) = b.take (shr a b)
  | [], b => by unfold shr; cases b <;> rfl
  | _ :: _, [] => rfl
  | a :: x, b :: y => by
    unfold shr
    split
    · rename_i h
      rw [List.take_succ_cons, List.take_succ_cons, shr_take x y, h]
    · rfl
theorem shared_loop (a b : List Int) (hl : a.length ≤ 140737488355328) (hl2 : b.length ≤ 140737488355328) (d : Nat) : ∀ i : Nat, a.length - i = d → i ≤ a.length → i ≤ b.length → Ev (fun k => block_shared.l0 k a b (i : Int)) ((i + shr (a.drop i) (b.drop i) : Nat) : Int) := by
  induction d with
  | zero =>
    intro i hd hi hi2
    have hi : i = a.length := by omega
    subst hi
    refine Ev.step (fun k => block_shared.l0.eq_2 _ _ _ _) (Ev.neg (by unfold mn; split <;> omega) (Ev.const ?_))
    rw [List.drop_length]
    cases b.drop a.length <;> simp [shr]
  | succ d ih =>
    intro i hd hi hi2
    have hlt : i < a.length := by omega
    refine Ev.step (fun k => block_shared.l0.eq_2 _ _ _ _) ?_
    by_cases c : i < b.length
    · refine Ev.pos (by unfold mn; split <;> omega) (Ev.pos (by omega) (Ev.pos (by omega) (Ev.pos (by omega) ?_)))
      rw [rd_nat a i hlt, rd_nat b i c, List.drop_eq_getElem_cons hlt, List.drop_eq_getElem_cons c]
      unfold shr
      by_cases e : a[i] = b[i]
      · rw [if_pos e]
        refine Ev.pos e ?_
        rw [wrap_in (by omega) (by omega)]
        have := ih (i + 1) (by omega) (by omega) (by omega)
        rw [show i + (shr (a.drop (i + 1)) (b.drop (i + 1)) + 1) = i + 1 + shr (a.drop (i + 1)) (b.drop (i + 1)) by omega]
        exact this
      · rw [if_neg e]
        exact Ev.neg e (Ev.const (by simp))
    · refine Ev.neg (by unfold mn; split <;> omega) (Ev.const ?_)
      rw [show b.drop i = [] from List.drop_eq_nil_of_le (by omega)]
      cases a.drop i <;> simp [shr]
theorem shared_f (a b : List Int) (hl : a.length ≤ 140737488355328) (hl2 : b.length ≤ 140737488355328) : Ev (fun k => block_shared.f k a b) (shr a b : Int) := by
  unfold block_shared.f
  have := shared_loop a b hl hl2 a.length 0 (by omega) (by omega) (by omega)
  simpa using this
theorem refShared_loop (a b : List Int) (hl : a.length ≤ 140737488355328) (hl2 : b.length ≤ 140737488355328) (d : Nat) : ∀ i : Nat, a.length - i = d → i ≤ a.length → i ≤ b.length → Ev (fun k => sawyerref08_shared.l0 k a b (i : Int)) ((i + shr (a.drop i) (b.drop i) : Nat) : Int) := by
  induction d with
  | zero =>
    intro i hd hi hi2
    have hi : i = a.length := by omega
    subst hi
    refine Ev.step (fun k => sawyerref08_shared.l0.eq_2 _ _ _ _) (Ev.neg (by omega) (Ev.const ?_))
    rw [List.drop_length]
    cases b.drop a.length <;> simp [shr]
  | succ d ih =>
    intro i hd hi hi2
    have hlt : i < a.length := by omega
    refine Ev.step (fun k => sawyerref08_shared.l0.eq_2 _ _ _ _) (Ev.pos (by omega) ?_)
    by_cases c : i < b.length
    · refine Ev.pos (by omega) (Ev.pos (by omega) ?_)
      rw [rd_nat a i hlt, rd_nat b i c, List.drop_eq_getElem_cons hlt, List.drop_eq_getElem_cons c]
      unfold shr
      by_cases e : a[i] = b[i]
      · rw [if_pos e]
        refine Ev.pos e ?_
        rw [wrap_in (by omega) (by omega)]
        have := ih (i + 1) (by omega) (by omega) (by omega)
        rw [show i + (shr (a.drop (i + 1)) (b.drop (i + 1)) + 1) = i + 1 + shr (a.drop (i + 1)) (b.drop (i + 1)) by omega]
        exact this
      · rw [if_neg e]
        exact Ev.neg e (Ev.const (by simp))
    · refine Ev.neg (by omega) (Ev.const ?_)
      rw [show b.drop i = [] from List.drop_eq_nil_of_le (by omega)]
      cases a.drop i <;> simp [shr]
theorem refShared_f (a b : List Int) (hl : a.length ≤ 140737488355328) (hl2 : b.length ≤ 140737488355328) : Ev (fun k => sawyerref08_shared.f k a b) (shr a b : Int) := by
  unfold sawyerref08_shared.f
  have := refShared_loop a b hl hl2 a.length 0 (by omega) (by omega) (by omega)
  simpa using this
end Go.Proofs.Ytkebeiillddboaa.Sw

set_option linter.unusedVariables false
set_option linter.unusedSimpArgs false
namespace Go.Proofs.Ytkebeiillddboaa.Sw
open Go.RowKit Go.Proofs.Ytkebeiillddboaa.Px Go.Proofs.YtkebeiillddboaaW.PrintWords Go.Proofs.YtkebeiillddboaaW.PrintLast Go.Proofs.YtkebeiillddboaaW.PrintMore

theorem str_size (l : List Int) : (strOfNums l).size = l.length := by
  simp [strOfNums, ByteArray.size]
theorem str_bytes {l : List Int} (h : Byts l) : bytesOf (strOfNums l) = l := by
  simp only [strOfNums, bytesOf]
  induction l with
  | nil => rfl
  | cons a r ih =>
    have h1 := h.head
    simp only [List.map_cons, List.cons.injEq]
    refine ⟨?_, by simpa using ih h.tail⟩
    rw [UInt8.toNat_ofNat']
    omega
def seqN (e : S38) : Nat := (2 * e.f1 + (if e.f2 = true then 1 else 0)).toNat
def ent (last : List Int) (e : S38) : List Int :=
  grp (shr last e.f0) ++ (grp (e.f0.drop (shr last e.f0)).length ++ e.f0.drop (shr last e.f0)) ++ grp (seqN e) ++ (grp e.f3.length ++ e.f3)
def bld : List Int → List S38 → List Int
  | _, [] => []
  | last, e :: r => ent last e ++ bld e.f0 r
def sum4 (l : List Int) : List Int := [(crc l / 16777216) % 256, (crc l / 65536) % 256, (crc l / 256) % 256, (crc l) % 256]
def blk (l : List S38) : List Int := (grp l.length ++ bld [] l) ++ sum4 (grp l.length ++ bld [] l)
theorem sum4_byts (l : List Int) : Byts (sum4 l) := by
  unfold sum4
  exact Byts.cons (by omega) (by omega) (Byts.cons (by omega) (by omega) (Byts.cons (by omega) (by omega) (Byts.cons (by omega) (by omega) Byts.nil)))
theorem seqN_le {e : S38} (h : okE e = true) : seqN e ≤ 4611686018427387903 := by
  have := okE_iff.1 h
  unfold seqN
  split <;> omega
theorem ent_byts {last : List Int} {e : S38} (h0 : Byts e.f0) (h3 : Byts e.f3) : Byts (ent last e) :=
  (((grp_byts _).append ((grp_byts _).append (h0.drop _))).append (grp_byts _)).append ((grp_byts _).append h3)
theorem ent_length {last : List Int} {e : S38} (h : okE e = true) : (ent last e).length ≤ 1200 := by
  have h1 := okE_iff.1 h
  have h2 := shr_le last e.f0
  have g1 := grp9 (n := shr last e.f0) (by omega)
  have g2 := grp9 (n := (e.f0.drop (shr last e.f0)).length) (by rw [List.length_drop]; omega)
  have g3 := grp9 (seqN_le h)
  have g4 := grp9 (n := e.f3.length) (by omega)
  unfold ent
  simp only [List.length_append, List.length_drop] at *
  omega
theorem summed_f {o : List Int} (ho : Byts o) (hl : o.length ≤ 100000) : Ev (fun k => block_summed.f k o) (o ++ sum4 o) := by
  unfold block_summed.f
  refine Ev.bind (crc_f ho (by omega)) (Ev.const ?_)
  rw [Option.bind_some, if_pos (by simp; omega)]
  rfl
theorem refSummed_f {o : List Int} (ho : Byts o) (hl : o.length ≤ 100000) : Ev (fun k => sawyerref08_Summed.f k o) (o ++ sum4 o) := by
  unfold sawyerref08_Summed.f
  refine Ev.bind (refCrc_f ho (by omega)) (Ev.const ?_)
  rw [Option.bind_some, if_pos (by simp; omega), Option.bind_some, Option.bind_some, if_pos (by simp; omega)]
  rfl
def Fit (e : S38) : Prop := Byts e.f0 ∧ Byts e.f3 ∧ okE e = true
theorem seq_gone {e : S38} (h : okE e = true) (g : e.f2 = true) : wrap64 (wrap64 (2 * e.f1) + 1) = (seqN e : Int) := by
  have := okE_iff.1 h
  rw [wrap_in (n := 2 * e.f1) (by omega) (by omega), wrap_in (by omega) (by omega)]
  unfold seqN
  rw [if_pos g]
  omega
theorem seq_here {e : S38} (h : okE e = true) (g : ¬ e.f2 = true) : wrap64 (2 * e.f1) = (seqN e : Int) := by
  have := okE_iff.1 h
  rw [wrap_in (n := 2 * e.f1) (by omega) (by omega)]
  unfold seqN
  rw [if_neg g]
  omega
theorem laid_ent (acc last : List Int) (e : S38) (he : Fit e) (m : Int) (hm : m = (seqN e : Int)) :
    acc ++ grp (cap (shr last e.f0 : Int)) ++ grp (strOfNums (e.f0.drop (shr last e.f0 : Int).toNat)).size ++ bytesOf (strOfNums (e.f0.drop (shr last e.f0 : Int).toNat)) ++ grp (cap m) ++ grp (strOfNums e.f3).size ++ bytesOf (strOfNums e.f3) = acc ++ ent last e := by
  have h1 := okE_iff.1 he.2.2
  have h2 := shr_le last e.f0
  rw [str_size, str_size, str_bytes (he.1.drop _), str_bytes he.2.1, cap_of (by omega), hm, cap_of (seqN_le he.2.2)]
  unfold ent
  simp only [Int.toNat_natCast, List.append_assoc]
theorem build_loop (l : List S38) (hw : ∀ e ∈ l, Fit e) (hl : l.length ≤ 8) (d : Nat) : ∀ (i : Nat) (acc last : List Int), l.length - i = d → i ≤ l.length → last.length ≤ 64 → acc.length + d * 1200 ≤ 20000 → Byts acc →
    Ev (fun k => block_Build.l0 k acc last l (l.length : Int) (i : Int)) ((acc ++ bld last (l.drop i)) ++ sum4 (acc ++ bld last (l.drop i)), 0) := by
  induction d with
  | zero =>
    intro i acc last hd hi hla ha hb
    have hi : i = l.length := by omega
    subst hi
    refine Ev.step (fun k => block_Build.l0.eq_2 _ _ _ _ _ _) (Ev.neg (by omega) (Ev.bind (summed_f hb (by omega)) (Ev.const ?_)))
    rw [List.drop_length]
    simp [bld]
  | succ d ih =>
    intro i acc last hd hi hla ha hb
    have hlt : i < l.length := by omega
    have hm : l[i] ∈ l := List.getElem_mem hlt
    have he := hw _ hm
    have h1 := okE_iff.1 he.2.2
    have h2 := shr_le last l[i].f0
    have hel := ent_length (last := last) he.2.2
    have hn := ih (i + 1) (acc ++ ent last l[i]) l[i].f0 (by omega) (by omega) h1.2.1 (by rw [List.length_append]; omega) (hb.append (ent_byts he.1 he.2.1))
    rw [List.drop_eq_getElem_cons hlt, show bld last (l[i] :: l.drop (i + 1)) = ent last l[i] ++ bld l[i].f0 (l.drop (i + 1)) from rfl, ← List.append_assoc acc]
    have g1 := grp9 (n := cap (shr last l[i].f0 : Int)) (cap_le _)
    have g2 := grp9 (n := (strOfNums (l[i].f0.drop (shr last l[i].f0 : Int).toNat)).size) (by rw [str_size, List.length_drop]; omega)
    have b1 : (bytesOf (strOfNums (l[i].f0.drop (shr last l[i].f0 : Int).toNat))).length ≤ 64 := by rw [str_bytes (he.1.drop _), List.length_drop]; omega
    have s1 : (strOfNums (l[i].f0.drop (shr last l[i].f0 : Int).toNat)).size ≤ 64 := by rw [str_size, List.length_drop]; omega
    have s3 : (strOfNums l[i].f3).size ≤ 1024 := by rw [str_size]; omega
    refine Ev.step (fun k => block_Build.l0.eq_2 _ _ _ _ _ _) (Ev.pos (by omega) (Ev.pos (by omega) (Ev.pos (by omega) ?_)))
    rw [rdE_nat l i hlt]
    refine Ev.bind (shared_f last l[i].f0 (by omega) (by omega)) ?_
    by_cases g : l[i].f2 = true
    · have g3 := grp9 (n := cap (wrap64 (wrap64 (2 * l[i].f1) + 1))) (cap_le _)
      refine Ev.pos g (Ev.bind (putNum_f acc _ (by omega)) (Ev.pos (by omega) (Ev.pos (by omega) (Ev.bind (putText_f _ _ (by simp only [List.length_append]; omega)) (Ev.bind (putNum_f _ _ (by simp only [List.length_append]; omega)) (Ev.bind (putText_f _ _ (by simp only [List.length_append]; omega)) ?_))))))
      rw [laid_ent acc last l[i] he _ (seq_gone he.2.2 g), wrap_in (by omega) (by omega)]
      exact hn
    · have g3 := grp9 (n := cap (wrap64 (2 * l[i].f1))) (cap_le _)
      refine Ev.neg g (Ev.bind (putNum_f acc _ (by omega)) (Ev.pos (by omega) (Ev.pos (by omega) (Ev.bind (putText_f _ _ (by simp only [List.length_append]; omega)) (Ev.bind (putNum_f _ _ (by simp only [List.length_append]; omega)) (Ev.bind (putText_f _ _ (by simp only [List.length_append]; omega)) ?_))))))
      rw [laid_ent acc last l[i] he _ (seq_here he.2.2 g), wrap_in (by omega) (by omega)]
      exact hn
theorem refBuild_loop (l : List S38) (hw : ∀ e ∈ l, Fit e) (hl : l.length ≤ 8) (d : Nat) : ∀ (i : Nat) (acc last : List Int), l.length - i = d → i ≤ l.length → last.length ≤ 64 → acc.length + d * 1200 ≤ 20000 → Byts acc →
    Ev (fun k => sawyerref08_Build.l0 k l acc last (i : Int)) ((acc ++ bld last (l.drop i)) ++ sum4 (acc ++ bld last (l.drop i)), 0) := by
  induction d with
  | zero =>
    intro i acc last hd hi hla ha hb
    have hi : i = l.length := by omega
    subst hi
    refine Ev.step (fun k => sawyerref08_Build.l0.eq_2 _ _ _ _ _) (Ev.neg (by omega) (Ev.bind (refSummed_f hb (by omega)) (Ev.const ?_)))
    rw [List.drop_length]
    simp [bld]
  | succ d ih =>
    intro i acc last hd hi hla ha hb
    have hlt : i < l.length := by omega
    have hm : l[i] ∈ l := List.getElem_mem hlt
    have he := hw _ hm
    have h1 := okE_iff.1 he.2.2
    have h2 := shr_le last l[i].f0
    have hel := ent_length (last := last) he.2.2
    have hn := ih (i + 1) (acc ++ ent last l[i]) l[i].f0 (by omega) (by omega) h1.2.1 (by rw [List.length_append]; omega) (hb.append (ent_byts he.1 he.2.1))
    rw [List.drop_eq_getElem_cons hlt, show bld last (l[i] :: l.drop (i + 1)) = ent last l[i] ++ bld l[i].f0 (l.drop (i + 1)) from rfl, ← List.append_assoc acc]
    have g1 := grp9 (n := cap (shr last l[i].f0 : Int)) (cap_le _)
    have g2 := grp9 (n := (strOfNums (l[i].f0.drop (shr last l[i].f0 : Int).toNat)).size) (by rw [str_size, List.length_drop]; omega)
    have b1 : (bytesOf (strOfNums (l[i].f0.drop (shr last l[i].f0 : Int).toNat))).length ≤ 64 := by rw [str_bytes (he.1.drop _), List.length_drop]; omega
    have s1 : (strOfNums (l[i].f0.drop (shr last l[i].f0 : Int).toNat)).size ≤ 64 := by rw [str_size, List.length_drop]; omega
    have s3 : (strOfNums l[i].f3).size ≤ 1024 := by rw [str_size]; omega
    refine Ev.step (fun k => sawyerref08_Build.l0.eq_2 _ _ _ _ _) (Ev.pos (by omega) (Ev.pos (by omega) ?_))
    rw [rdE_nat l i hlt]
    refine Ev.bind (refShared_f last l[i].f0 (by omega) (by omega)) (Ev.bind (refNum_f acc _ (by omega)) (Ev.pos (by omega) (Ev.pos (by omega) (Ev.bind (refPutText_f _ _ (by simp only [List.length_append]; omega)) ?_))))
    by_cases g : l[i].f2 = true
    · have g3 := grp9 (n := cap (wrap64 (wrap64 (2 * l[i].f1) + 1))) (cap_le _)
      refine Ev.pos g (Ev.bind (refNum_f _ _ (by simp only [List.length_append]; omega)) (Ev.bind (refPutText_f _ _ (by simp only [List.length_append]; omega)) ?_))
      rw [laid_ent acc last l[i] he _ (seq_gone he.2.2 g), wrap_in (by omega) (by omega)]
      exact hn
    · have g3 := grp9 (n := cap (wrap64 (2 * l[i].f1))) (cap_le _)
      refine Ev.neg g (Ev.bind (refNum_f _ _ (by simp only [List.length_append]; omega)) (Ev.bind (refPutText_f _ _ (by simp only [List.length_append]; omega)) ?_))
      rw [laid_ent acc last l[i] he _ (seq_here he.2.2 g), wrap_in (by omega) (by omega)]
      exact hn
theorem rowOk_ok : ∀ (l : List S38) (p : Option S38), rowOk p l = true → ∀ e ∈ l, okE e = true
  | [], _, _, e, he => by cases he
  | a :: r, p, h, e, he => by
    unfold rowOk at h
    simp only [Bool.and_eq_true] at h
    rcases List.mem_cons.1 he with rfl | he
    · exact h.1.1
    · exact rowOk_ok r _ h.2 e he
def Good (e : S38) : Prop := Byts e.f0 ∧ Byts e.f3
theorem fit_of {l : List S38} (hw : ∀ e ∈ l, Good e) (h : chk l = 0) : (1 ≤ l.length ∧ l.length ≤ 8) ∧ ∀ e ∈ l, Fit e := by
  unfold chk at h
  split at h
  · rename_i c
    exact ⟨⟨c.1, c.2.1⟩, fun e he => ⟨(hw e he).1, (hw e he).2, rowOk_ok l none c.2.2 e he⟩⟩
  · exact absurd h (by decide)
theorem chk_or (l : List S38) : chk l = 0 ∨ chk l = 1 := by unfold chk; split <;> simp
def made (l : List S38) : List Int × Int := if chk l = 0 then (blk l, 0) else ([], 1)
theorem build_f {l : List S38} (hw : ∀ e ∈ l, Good e) : Ev (fun k => block_Build.f k l) (made l) := by
  unfold block_Build.f made
  refine Ev.bind (chk_f l (fun e he => (hw e he).1)) ?_
  by_cases c : chk l = 0
  · obtain ⟨⟨c1, c8⟩, hf⟩ := fit_of hw c
    rw [if_pos c]
    refine Ev.pos c (Ev.bind (putNum_f [] _ (by simp)) ?_)
    have g := grp9 (n := l.length) (by omega)
    have := build_loop l hf c8 l.length 0 (grp l.length) [] (by omega) (by omega) (by simp) (by omega) (grp_byts _)
    rw [List.drop_zero] at this
    rw [cap_of (by omega), List.nil_append]
    exact this
  · rw [if_neg c]
    refine Ev.neg c (Ev.const ?_)
    rcases chk_or l with h | h
    · exact absurd h c
    · rw [h]
theorem refBuild_f {l : List S38} (hw : ∀ e ∈ l, Good e) : Ev (fun k => sawyerref08_Build.f k l) (made l) := by
  unfold sawyerref08_Build.f made
  refine Ev.bind (refChk_f l (fun e he => (hw e he).1)) ?_
  by_cases c : chk l = 0
  · obtain ⟨⟨c1, c8⟩, hf⟩ := fit_of hw c
    rw [if_pos c]
    refine Ev.pos c (Ev.bind (refNum_f [] _ (by simp)) ?_)
    have g := grp9 (n := l.length) (by omega)
    have := refBuild_loop l hf c8 l.length 0 (grp l.length) [] (by omega) (by omega) (by simp) (by omega) (grp_byts _)
    rw [List.drop_zero] at this
    rw [cap_of (by omega), List.nil_append]
    exact this
  · rw [if_neg c]
    exact Ev.neg c (Ev.const rfl)
theorem bld_byts : ∀ (l : List S38) (last : List Int), (∀ e ∈ l, Good e) → Byts (bld last l)
  | [], _, _ => Byts.nil
  | e :: r, last, h => (ent_byts (h e List.mem_cons_self).1 (h e List.mem_cons_self).2).append (bld_byts r e.f0 (fun x hx => h x (List.mem_cons_of_mem _ hx)))
theorem made_byts {l : List S38} (hw : ∀ e ∈ l, Good e) : Byts (made l).1 := by
  unfold made
  split
  · exact ((grp_byts _).append (bld_byts l [] hw)).append (sum4_byts _)
  · exact Byts.nil
end Go.Proofs.Ytkebeiillddboaa.Sw

set_option linter.unusedVariables false
set_option linter.unusedSimpArgs false
namespace Go.Proofs.Ytkebeiillddboaa.Sw
open Go.RowKit Go.Proofs.Ytkebeiillddboaa.Px Go.Proofs.YtkebeiillddboaaW.PrintWords Go.Proofs.YtkebeiillddboaaW.PrintLast Go.Proofs.YtkebeiillddboaaW.PrintMore

theorem key_back (last key : List Int) : last.take (shr last key) ++ key.drop (shr last key) = key := by
  rw [shr_take, List.take_append_drop]
theorem chk_ok {l : List S38} (h : chk l = 0) : l.length ≤ 8 ∧ ∀ e ∈ l, okE e = true := by
  unfold chk at h
  split at h
  · rename_i c
    exact ⟨c.2.1, rowOk_ok l none c.2.2⟩
  · exact absurd h (by decide)
theorem body_byts {l : List S38} (hg : ∀ e ∈ l, Good e) : Byts (grp l.length ++ bld [] l) := (grp_byts _).append (bld_byts l [] hg)
end Go.Proofs.Ytkebeiillddboaa.Sw

set_option linter.unusedVariables false
set_option linter.unusedSimpArgs false
namespace Go.Proofs.Ytkebeiillddboaa.Sw
open Go.RowKit Go.Proofs.Ytkebeiillddboaa.Px Go.Proofs.YtkebeiillddboaaW.PrintWords Go.Proofs.YtkebeiillddboaaW.PrintLast Go.Proofs.YtkebeiillddboaaW.PrintMore

theorem tri_ok {l : List Int} (hl : Byts l) : 0 ≤ (tri (takeN l)).1 ∧ Byts (tri (takeN l)).2.1 ∧ (tri (takeN l)).2.1.length ≤ l.length := by
  cases h : takeN l with
  | none => exact ⟨Int.le_refl _, Byts.nil, Nat.zero_le _⟩
  | some p =>
    obtain ⟨n, r⟩ := p
    have h2 := (takeN_back hl h).1
    rw [h2] at hl
    refine ⟨Int.natCast_nonneg _, hl.right, ?_⟩
    rw [h2, List.length_append]
    exact Nat.le_add_left _ _
theorem triT_ok {l : List Int} {a : Int} (ha : 0 ≤ a) (hl : Byts l) : Byts (triT (takeTx l a)).2.1 ∧ (triT (takeTx l a)).2.1.length ≤ l.length ∧ ((triT (takeTx l a)).1.size : Int) ≤ a := by
  have h0 := tri_ok hl
  unfold takeTx
  cases h : takeN l with
  | none => exact ⟨Byts.nil, Nat.zero_le _, ha⟩
  | some p =>
    obtain ⟨n, r⟩ := p
    rw [h] at h0
    have hr : Byts r := h0.2.1
    have hr2 : r.length ≤ l.length := h0.2.2
    rw [Option.bind_some]
    simp only
    split
    · exact ⟨Byts.nil, Nat.zero_le _, ha⟩
    · rename_i c
      split
      · exact ⟨Byts.nil, Nat.zero_le _, ha⟩
      · refine ⟨hr.drop _, ?_, ?_⟩
        · show (r.drop n).length ≤ l.length
          rw [List.length_drop]; omega
        · show ((strOfNums (r.take n)).size : Int) ≤ a
          rw [str_size, List.length_take]; omega
def entF (bs last : List Int) : Bool × List Int × Int × Bool × List Int × List Int × Bool :=
  if (tri (takeN bs)).1 ≤ (last.length : Int) then
    (true, last.take (tri (takeN bs)).1.toNat ++ bytesOf (triT (takeTx (tri (takeN bs)).2.1 64)).1, wrap64 (Int.tdiv (tri (takeN (triT (takeTx (tri (takeN bs)).2.1 64)).2.1)).1 2), (Int.tmod (tri (takeN (triT (takeTx (tri (takeN bs)).2.1 64)).2.1)).1 2 == 1),
      bytesOf (triT (takeTx (tri (takeN (triT (takeTx (tri (takeN bs)).2.1 64)).2.1)).2.1 1024)).1, (triT (takeTx (tri (takeN (triT (takeTx (tri (takeN bs)).2.1 64)).2.1)).2.1 1024)).2.1,
      ((((tri (takeN bs)).2.2 != 0) || (triT (takeTx (tri (takeN bs)).2.1 64)).2.2 != 0) || (tri (takeN (triT (takeTx (tri (takeN bs)).2.1 64)).2.1)).2.2 != 0) || (triT (takeTx (tri (takeN (triT (takeTx (tri (takeN bs)).2.1 64)).2.1)).2.1 1024)).2.2 != 0)
  else (false, [], 0, false, [], [], false)
theorem entry_f {bs last : List Int} (hb : Byts bs) (hl : Byts last) (hbl : bs.length < 140737488355328) (hll : last.length ≤ 10000) :
    Ev (fun k => block_entry.f k bs last) (entF bs last) ∧ ((entF bs last).1 = true → Byts (entF bs last).2.1 ∧ (entF bs last).2.1.length ≤ last.length + 64 ∧ Byts (entF bs last).2.2.2.2.1 ∧ Byts (entF bs last).2.2.2.2.2.1 ∧ (entF bs last).2.2.2.2.2.1.length ≤ bs.length) := by
  have o1 := tri_ok hb
  have o2 := triT_ok (a := 64) (by omega) o1.2.1
  have o3 := tri_ok o2.1
  have o4 := triT_ok (a := 1024) (by omega) o3.2.1
  have z2 := bytesOf_length (triT (takeTx (tri (takeN bs)).2.1 64)).1
  unfold entF
  by_cases c : (tri (takeN bs)).1 ≤ (last.length : Int)
  · rw [if_pos c]
    refine ⟨?_, fun _ => ⟨(hl.take _).append (bytesOf_byts _), ?_, bytesOf_byts _, o4.1, ?_⟩⟩
    · unfold block_entry.f
      refine Ev.bind (takeNum_f hb hbl) (Ev.pos c (Ev.pos o1.1 (Ev.bindc (a := last.take (tri (takeN bs)).1.toNat) ?_ ?_)))
      · unfold slices_Clone_byte_byte.f
        rw [if_pos (by rw [List.length_take]; omega)]
      · refine Ev.bind (takeText_f 64 o1.2.1 (by omega)) (Ev.pos ⟨by omega, by rw [List.length_take]; omega⟩ (Ev.bind (takeNum_f o2.1 (by omega)) (Ev.bind (takeText_f 1024 o3.2.1 (by omega)) (Ev.pos (by omega) (Ev.const rfl)))))
    · simp only [List.length_append, List.length_take]
      omega
    · simp only
      omega
  · rw [if_neg c]
    refine ⟨?_, fun h => by cases h⟩
    unfold block_entry.f
    exact Ev.bind (takeNum_f hb hbl) (Ev.neg c (Ev.const rfl))
def Fine (l : List Int) (r : List S38 × Int) : Prop := (∀ e ∈ r.1, Good e) ∧ ((r.2 = 2 ∧ r.1 = []) ∨ (r.2 = 0 ∧ made r.1 = (l, 0)))
theorem fine_no (l : List Int) : Fine l ([], 2) := ⟨(fun e he => by cases he), .inl ⟨rfl, rfl⟩⟩
theorem made_chk {m : List S38} {l : List Int} (h : made m = (l, 0)) : chk m = 0 ∧ blk m = l := by
  unfold made at h
  split at h
  · rename_i c
    exact ⟨c, (Prod.mk.injEq _ _ _ _ ▸ h).1⟩
  · simp at h
theorem fin_any {out : List S38} {bs l : List Int} {bad : Bool} (hg : ∀ e ∈ out, Good e) (hl : Byts l) : ∃ r, Ev (fun k => block_Parse.fin k out bs bad l) r ∧ Fine l r := by
  have hb := made_byts hg
  have hm := build_f hg
  have no : ∀ g : Nat → Option (List S38 × Int), Ev g ([], 2) → ∃ r, Ev g r ∧ Fine l r := fun g hgx => ⟨_, hgx, fine_no l⟩
  unfold block_Parse.fin
  by_cases c1 : bad = false
  · by_cases c2 : (made out).2 = 0
    · by_cases c3 : bs.length = 4
      · have he : bytes_Equal.f (made out).1 l = some (decide ((made out).1 = l)) := by unfold bytes_Equal.f; rw [str_eq hb hl]
        by_cases c4 : (made out).1 = l
        · refine ⟨(out, 0), Ev.bind hm (Ev.pos c1 (Ev.pos c2 (Ev.pos c3 (Ev.bindc he (Ev.pos (by simp [c4]) (Ev.const rfl)))))), hg, .inr ⟨rfl, ?_⟩⟩
          rw [← c4, ← c2]
        · exact no _ (Ev.bind hm (Ev.pos c1 (Ev.pos c2 (Ev.pos c3 (Ev.bindc he (Ev.neg (by simp [c4]) (Ev.const rfl)))))))
      · exact no _ (Ev.bind hm (Ev.pos c1 (Ev.pos c2 (Ev.neg c3 (Ev.const rfl)))))
    · exact no _ (Ev.bind hm (Ev.pos c1 (Ev.neg c2 (Ev.const rfl))))
  · exact no _ (Ev.bind hm (Ev.neg c1 (Ev.const rfl)))
theorem run_any (l : List Int) (hl : Byts l) (n : Int) (d : Nat) : ∀ (out : List S38) (last bs : List Int) (bad : Bool), 9 - out.length = d → (∀ e ∈ out, Good e) → Byts last → Byts bs → last.length ≤ 64 * out.length → bs.length < 140737488355328 →
    ∃ r, Ev (fun k => block_Parse.l0 k out last n bs bad l) r ∧ Fine l r := by
  have dofin : ∀ (out : List S38) (last bs : List Int) (bad : Bool), (∀ e ∈ out, Good e) → ¬ (0 < n ∧ n ≤ 8 ∧ (out.length : Int) < n ∧ bad = false) → ∃ r, Ev (fun k => block_Parse.l0 k out last n bs bad l) r ∧ Fine l r := by
    intro out last bs bad hg hc
    obtain ⟨r, h1, h2⟩ := fin_any (bs := bs) (bad := bad) hg hl
    refine ⟨r, Ev.step (fun k => block_Parse.l0.eq_2 _ _ _ _ _ _ _) ?_, h2⟩
    by_cases c1 : 0 < n
    · by_cases c2 : n ≤ 8
      · by_cases c3 : (out.length : Int) < n
        · exact Ev.pos c1 (Ev.pos c2 (Ev.pos c3 (Ev.neg (fun c4 => hc ⟨c1, c2, c3, c4⟩) h1)))
        · exact Ev.pos c1 (Ev.pos c2 (Ev.neg c3 h1))
      · exact Ev.pos c1 (Ev.neg c2 h1)
    · exact Ev.neg c1 h1
  induction d with
  | zero =>
    intro out last bs bad hd hg _ _ _ _
    exact dofin out last bs bad hg (fun c => by omega)
  | succ d ih =>
    intro out last bs bad hd hg hla hbs hll hbl
    by_cases c : 0 < n ∧ n ≤ 8 ∧ (out.length : Int) < n ∧ bad = false
    · obtain ⟨he, hk⟩ := entry_f hbs hla hbl (by omega)
      by_cases t : (entF bs last).1 = true
      · obtain ⟨k1, k2, k3, k4, k5⟩ := hk t
        obtain ⟨r, h1, h2⟩ := ih (out ++ [(⟨(entF bs last).2.1, (entF bs last).2.2.1, (entF bs last).2.2.2.1, (entF bs last).2.2.2.2.1⟩ : S38)]) (entF bs last).2.1 (entF bs last).2.2.2.2.2.1 (bad || (entF bs last).2.2.2.2.2.2)
          (by simp; omega) (fun e hm => by
            rcases List.mem_append.1 hm with hm | hm
            · exact hg e hm
            · rw [List.mem_singleton] at hm
              subst hm
              exact ⟨k1, k3⟩) k1 k4 (by simp; omega) (by omega)
        exact ⟨r, Ev.step (fun k => block_Parse.l0.eq_2 _ _ _ _ _ _ _) (Ev.pos c.1 (Ev.pos c.2.1 (Ev.pos c.2.2.1 (Ev.pos c.2.2.2 (Ev.bind he (Ev.pos t h1)))))), h2⟩
      · exact ⟨_, Ev.step (fun k => block_Parse.l0.eq_2 _ _ _ _ _ _ _) (Ev.pos c.1 (Ev.pos c.2.1 (Ev.pos c.2.2.1 (Ev.pos c.2.2.2 (Ev.bind he (Ev.neg t (Ev.const rfl))))))), fine_no l⟩
    · exact dofin out last bs bad hg c
theorem parse_any {l : List Int} (hl : Byts l) (hb : l.length < 140737488355328) : ∃ r, Ev (fun k => block_Parse.f k l) r ∧ Fine l r := by
  have o := tri_ok hl
  obtain ⟨r, h1, h2⟩ := run_any l hl (tri (takeN l)).1 9 [] [] (tri (takeN l)).2.1 ((tri (takeN l)).2.2 != 0) rfl (fun e he => by cases he) Byts.nil o.2.1 (by simp) (by omega)
  exact ⟨r, Ev.bind (takeNum_f hl hb) h1, h2⟩
theorem takeTx_laid {t r : List Int} {a : Int} (h : t.length ≤ 4611686018427387903) (ha : (t.length : Int) ≤ a) : takeTx (grp t.length ++ (t ++ r)) a = some (t, r) := by
  unfold takeTx
  rw [takeN_grp _ h, Option.bind_some]
  simp only
  rw [if_neg (by omega), if_neg (by rw [List.length_append]; omega), List.take_left, List.drop_left]
theorem tdiv_seq {e : S38} (h : okE e = true) : wrap64 (Int.tdiv (seqN e : Int) 2) = e.f1 ∧ (Int.tmod (seqN e : Int) 2 == 1) = e.f2 := by
  have q := okE_iff.1 h
  rw [Int.tdiv_eq_ediv_of_nonneg (by omega), Int.tmod_eq_emod_of_nonneg (by omega)]
  unfold seqN
  cases g : e.f2
  · simp only [Bool.false_eq_true, if_false]
    rw [wrap_in (by omega) (by omega)]
    refine ⟨by omega, ?_⟩
    rw [beq_eq_false_iff_ne]
    omega
  · simp only [if_true]
    rw [wrap_in (by omega) (by omega)]
    refine ⟨by omega, ?_⟩
    rw [beq_iff_eq]
    omega
theorem entF_laid {last r : List Int} {e : S38} (he : Fit e) (hl : last.length ≤ 64) : entF (ent last e ++ r) last = (true, e.f0, e.f1, e.f2, e.f3, r, false) := by
  have q := okE_iff.1 he.2.2
  have s1 := shr_le last e.f0
  have d1 : (e.f0.drop (shr last e.f0)).length ≤ 64 := by rw [List.length_drop]; omega
  have e1 : takeN (ent last e ++ r) = some (shr last e.f0, grp (e.f0.drop (shr last e.f0)).length ++ (e.f0.drop (shr last e.f0) ++ (grp (seqN e) ++ (grp e.f3.length ++ (e.f3 ++ r))))) := by
    unfold ent
    simp only [List.append_assoc]
    exact takeN_grp _ (by omega)
  have e2 := takeTx_laid (t := e.f0.drop (shr last e.f0)) (r := grp (seqN e) ++ (grp e.f3.length ++ (e.f3 ++ r))) (a := 64) (by omega) (by omega)
  have e3 := takeN_grp (n := seqN e) (grp e.f3.length ++ (e.f3 ++ r)) (seqN_le he.2.2)
  have e4 := takeTx_laid (t := e.f3) (r := r) (a := 1024) (by omega) (by omega)
  have t1 : (tri (takeN (ent last e ++ r))) = ((shr last e.f0 : Int), grp (e.f0.drop (shr last e.f0)).length ++ (e.f0.drop (shr last e.f0) ++ (grp (seqN e) ++ (grp e.f3.length ++ (e.f3 ++ r)))), 0) := by rw [e1]; rfl
  unfold entF
  rw [t1]
  simp only
  rw [if_pos (by omega), e2]
  simp only [triT]
  rw [e3]
  simp only [tri]
  rw [e4]
  obtain ⟨f1, f2⟩ := tdiv_seq he.2.2
  simp only [triT, f1, f2, str_bytes (he.1.drop _), str_bytes he.2.1, Int.toNat_natCast, key_back]
  rfl
theorem run_laid (l : List S38) (hw : ∀ e ∈ l, Fit e) (hg : ∀ e ∈ l, Good e) (c0 : chk l = 0) (h8 : l.length ≤ 8) (h1 : 1 ≤ l.length) (d : Nat) : ∀ (i : Nat) (last : List Int), l.length - i = d → i ≤ l.length → Byts last → last.length ≤ 64 →
    Ev (fun k => block_Parse.l0 k (l.take i) last (l.length : Int) (bld last (l.drop i) ++ sum4 (grp l.length ++ bld [] l)) false (blk l)) (l, 0) := by
  induction d with
  | zero =>
    intro i last hd hi hla hll
    have hi : i = l.length := by omega
    subst hi
    rw [List.take_length, List.drop_length]
    refine Ev.step (fun k => block_Parse.l0.eq_2 _ _ _ _ _ _ _) (Ev.pos (by omega) (Ev.pos (by omega) (Ev.neg (by omega) ?_)))
    have hm : made l = (blk l, 0) := by unfold made; rw [if_pos c0]
    have hb := build_f hg
    rw [hm] at hb
    have hbb : Byts (blk l) := (body_byts hg).append (sum4_byts _)
    unfold block_Parse.fin
    refine Ev.bind hb (Ev.pos rfl (Ev.pos rfl (Ev.pos rfl (Ev.bindc (a := true) ?_ (Ev.pos rfl (Ev.const rfl))))))
    unfold bytes_Equal.f
    rw [str_eq hbb hbb]
    simp
  | succ d ih =>
    intro i last hd hi hla hll
    have hlt : i < l.length := by omega
    have hm : l[i] ∈ l := List.getElem_mem hlt
    have he := hw _ hm
    have q := okE_iff.1 he.2.2
    rw [List.drop_eq_getElem_cons hlt, show bld last (l[i] :: l.drop (i + 1)) = ent last l[i] ++ bld l[i].f0 (l.drop (i + 1)) from rfl, List.append_assoc]
    have hn := ih (i + 1) l[i].f0 (by omega) (by omega) he.1 (by omega)
    have hrb : Byts (ent last l[i] ++ (bld l[i].f0 (l.drop (i + 1)) ++ sum4 (grp l.length ++ bld [] l))) := (ent_byts he.1 he.2.1).append ((bld_byts _ _ (fun e hx => hg e (List.mem_of_mem_drop hx))).append (sum4_byts _))
    have hrl : ∀ (m : List S38) (la : List Int), (∀ e ∈ m, Fit e) → (bld la m).length ≤ 1200 * m.length := by
      intro m
      induction m with
      | nil => intro la _; exact Nat.le_refl _
      | cons a r ihm =>
        intro la hf
        have h3 := ent_length (last := la) (hf a List.mem_cons_self).2.2
        have h4 := ihm a.f0 (fun e hx => hf e (List.mem_cons_of_mem _ hx))
        show (ent la a ++ bld a.f0 r).length ≤ _
        rw [List.length_append, List.length_cons]
        omega
    have h5 := hrl (l.drop (i + 1)) l[i].f0 (fun e hx => hw e (List.mem_of_mem_drop hx))
    have h6 := ent_length (last := last) he.2.2
    have h7 : (sum4 (grp l.length ++ bld [] l)).length = 4 := rfl
    obtain ⟨hev, _⟩ := entry_f (last := last) hrb hla (by simp only [List.length_append, List.length_drop] at *; omega) (by omega)
    rw [entF_laid he hll] at hev
    refine Ev.step (fun k => block_Parse.l0.eq_2 _ _ _ _ _ _ _) (Ev.pos (by omega) (Ev.pos (by omega) (Ev.pos (by rw [List.length_take]; omega) (Ev.pos rfl (Ev.bind hev (Ev.pos rfl ?_))))))
    rw [show l.take i ++ [(⟨l[i].f0, l[i].f1, l[i].f2, l[i].f3⟩ : S38)] = l.take (i + 1) from by rw [List.take_succ_eq_append_getElem hlt]]
    exact hn
theorem parse_blk {l : List S38} (hg : ∀ e ∈ l, Good e) (c0 : chk l = 0) : Ev (fun k => block_Parse.f k (blk l)) (l, 0) := by
  obtain ⟨⟨h1, h8⟩, hw⟩ := fit_of hg c0
  have hbb : Byts (blk l) := (body_byts hg).append (sum4_byts _)
  have hr := run_laid l hw hg c0 h8 h1 l.length 0 [] (by omega) (by omega) Byts.nil (by simp)
  have e1 : takeN (blk l) = some (l.length, bld [] l ++ sum4 (grp l.length ++ bld [] l)) := by
    unfold blk
    rw [List.append_assoc]
    exact takeN_grp _ (by omega)
  unfold block_Parse.f
  have hlen : (blk l).length < 140737488355328 := by
    have hm := made_byts hg
    have hrl : ∀ (m : List S38) (la : List Int), (∀ e ∈ m, Fit e) → (bld la m).length ≤ 1200 * m.length := by
      intro m
      induction m with
      | nil => intro la _; exact Nat.le_refl _
      | cons a r ihm =>
        intro la hf
        have h3 := ent_length (last := la) (hf a List.mem_cons_self).2.2
        have h4 := ihm a.f0 (fun e hx => hf e (List.mem_cons_of_mem _ hx))
        show (ent la a ++ bld a.f0 r).length ≤ _
        rw [List.length_append, List.length_cons]
        omega
    have h5 := hrl l [] hw
    have g := grp9 (n := l.length) (by omega)
    have h7 : (sum4 (grp l.length ++ bld [] l)).length = 4 := rfl
    unfold blk
    simp only [List.length_append] at *
    omega
  refine Ev.bind (takeNum_f hbb hlen) ?_
  rw [e1]
  exact hr
theorem ev_one {α : Type} {g : Nat → Option α} {a b : α} (h : Ev g a) (k : Ev g b) : a = b := by
  obtain ⟨K, h⟩ := h
  obtain ⟨K', k⟩ := k
  have h1 := h (max K K') (by omega)
  rw [k (max K K') (by omega)] at h1
  exact (Option.some.inj h1).symm
theorem sameOne_f {a b : S38} (ha : Good a) (hb : Good b) : sawyerref06_SameOne.f a.f0 a.f1 a.f2 a.f3 b.f0 b.f1 b.f2 b.f3 = some (decide (a.f0 = b.f0 ∧ a.f1 = b.f1 ∧ a.f2 = b.f2 ∧ a.f3 = b.f3)) := by
  unfold sawyerref06_SameOne.f
  have h0 := str_eq ha.1 hb.1
  have h3 := str_eq ha.2 hb.2
  by_cases c0 : a.f0 = b.f0
  · rw [if_pos (by rw [c0])]
    by_cases c1 : a.f1 = b.f1
    · rw [if_pos c1]
      by_cases c2 : a.f2 = b.f2
      · rw [if_pos (by simp [c2]), h3]
        simp [c0, c1, c2]
      · rw [if_neg (by simpa using c2)]
        simp [c2]
    · rw [if_neg c1]
      simp [c1]
  · rw [if_neg (fun h => by rw [h] at h0; simp [c0] at h0)]
    simp [c0]
theorem same_loop (l : List S38) (hg : ∀ e ∈ l, Good e) (hl : l.length ≤ 140737488355328) (d : Nat) : ∀ i : Nat, l.length - i = d → i ≤ l.length → Ev (fun k => sawyerref06_Same.l0 k l l (i : Int)) true := by
  induction d with
  | zero =>
    intro i hd hi
    exact Ev.step (fun k => sawyerref06_Same.l0.eq_2 _ _ _ _) (Ev.neg (by omega) (Ev.const rfl))
  | succ d ih =>
    intro i hd hi
    have hlt : i < l.length := by omega
    have hm := hg _ (List.getElem_mem hlt)
    refine Ev.step (fun k => sawyerref06_Same.l0.eq_2 _ _ _ _) (Ev.pos (by omega) (Ev.pos (by omega) (Ev.pos (by omega) ?_)))
    rw [rdE_nat l i hlt]
    refine Ev.bindc (sameOne_f hm hm) (Ev.pos (by simp) ?_)
    rw [wrap_in (by omega) (by omega)]
    exact ih (i + 1) (by omega) (by omega)
theorem same_self {l : List S38} (hg : ∀ e ∈ l, Good e) (hl : l.length ≤ 140737488355328) : Ev (fun k => sawyerref06_Same.f k l l) true := by
  unfold sawyerref06_Same.f
  exact Ev.pos rfl (same_loop l hg hl l.length 0 (by omega) (by omega))
end Go.Proofs.Ytkebeiillddboaa.Sw

set_option linter.unusedVariables false
set_option linter.unusedSimpArgs false
namespace Go.Proofs.Ytkebeiillddboaa.Sw
open Go.RowKit Go.Proofs.Ytkebeiillddboaa.Px Go.Proofs.YtkebeiillddboaaW.PrintWords Go.Proofs.YtkebeiillddboaaW.PrintLast Go.Proofs.YtkebeiillddboaaW.PrintMore

theorem refFin_any {out : List S38} {l : List Int} (hg : ∀ e ∈ out, Good e) (hl : Byts l) : ∃ r, Ev (fun k => sawyerref08_Parse.fin k out l) r ∧ Fine l r := by
  have hb := made_byts hg
  have hm := refBuild_f hg
  have no : ∀ g : Nat → Option (List S38 × Int), Ev g ([], 2) → ∃ r, Ev g r ∧ Fine l r := fun g hgx => ⟨_, hgx, fine_no l⟩
  unfold sawyerref08_Parse.fin
  by_cases c2 : (made out).2 = 0
  · by_cases c4 : (made out).1 = l
    · refine ⟨(out, 0), Ev.bind hm (Ev.pos c2 (Ev.bindc (same_f hb hl) (Ev.pos (by simp [c4]) (Ev.const rfl)))), hg, .inr ⟨rfl, ?_⟩⟩
      rw [← c4, ← c2]
    · exact no _ (Ev.bind hm (Ev.pos c2 (Ev.bindc (same_f hb hl) (Ev.neg (by simp [c4]) (Ev.const rfl)))))
  · exact no _ (Ev.bind hm (Ev.neg c2 (Ev.const rfl)))
theorem refRun_any (l : List Int) (hl : Byts l) (n : Nat) (hn : n ≤ 8) (d : Nat) : ∀ (i : Nat) (out : List S38) (last rest : List Int), n - i = d → i ≤ n → out.length = i → (∀ e ∈ out, Good e) → Byts last → Byts rest → last.length ≤ 64 * i → rest.length < 140737488355328 →
    ∃ r, Ev (fun k => sawyerref08_Parse.l0 k out last (n : Int) (i : Int) rest l) r ∧ Fine l r := by
  induction d with
  | zero =>
    intro i out last rest hd hi ho hg _ _ _ _
    obtain ⟨r, h1, h2⟩ := refFin_any hg hl
    exact ⟨r, Ev.step (fun k => sawyerref08_Parse.l0.eq_2 _ _ _ _ _ _ _) (Ev.neg (by omega) h1), h2⟩
  | succ d ih =>
    intro i out last rest hd hi ho hg hla hr hll hrl
    have o1 := tri_ok hr
    have o2 := triT_ok (a := 64) (by omega) o1.2.1
    have o3 := tri_ok o2.1
    have o4 := triT_ok (a := 1024) (by omega) o3.2.1
    have z2 := bytesOf_length (triT (takeTx (tri (takeN rest)).2.1 64)).1
    have no : ∀ g : Nat → Option (List S38 × Int), Ev g ([], 2) → ∃ r, Ev g r ∧ Fine l r := fun g hgx => ⟨_, hgx, fine_no l⟩
    have pre : ∀ {r : List S38 × Int}, Ev (fun k => if (tri (takeN rest)).2.2 = 0 then (if (triT (takeTx (tri (takeN rest)).2.1 64)).2.2 = 0 then (if (tri (takeN (triT (takeTx (tri (takeN rest)).2.1 64)).2.1)).2.2 = 0 then (if (triT (takeTx (tri (takeN (triT (takeTx (tri (takeN rest)).2.1 64)).2.1)).2.1 1024)).2.2 = 0 then (if (tri (takeN rest)).1 ≤ (last.length : Int) then
          (if 0 ≤ (tri (takeN rest)).1 then (if (last.take (tri (takeN rest)).1.toNat).length + (triT (takeTx (tri (takeN rest)).2.1 64)).1.size ≤ 140737488355327 ∧ (triT (takeTx (tri (takeN (triT (takeTx (tri (takeN rest)).2.1 64)).2.1)).2.1 1024)).1.size ≤ 140737488355328 ∧ out.length < 1000000000 then
            sawyerref08_Parse.l0 k (out ++ [(⟨last.take (tri (takeN rest)).1.toNat ++ bytesOf (triT (takeTx (tri (takeN rest)).2.1 64)).1, wrap64 (Int.tdiv (tri (takeN (triT (takeTx (tri (takeN rest)).2.1 64)).2.1)).1 2), (Int.tmod (tri (takeN (triT (takeTx (tri (takeN rest)).2.1 64)).2.1)).1 2 == 1), bytesOf (triT (takeTx (tri (takeN (triT (takeTx (tri (takeN rest)).2.1 64)).2.1)).2.1 1024)).1⟩ : S38)]) (last.take (tri (takeN rest)).1.toNat ++ bytesOf (triT (takeTx (tri (takeN rest)).2.1 64)).1) (n : Int) (wrap64 ((i : Int) + 1)) (triT (takeTx (tri (takeN (triT (takeTx (tri (takeN rest)).2.1 64)).2.1)).2.1 1024)).2.1 l else none) else none)
          else some ([], 2)) else some ([], 2)) else some ([], 2)) else some ([], 2)) else some ([], 2)) r → Ev (fun k => sawyerref08_Parse.l0 k out last (n : Int) (i : Int) rest l) r := fun h =>
      Ev.step (fun k => sawyerref08_Parse.l0.eq_2 _ _ _ _ _ _ _) (Ev.pos (by omega) (Ev.bind (refTake_f hr hrl) (Ev.bind (refTakeText_f 64 o1.2.1 (by omega)) (Ev.bind (refTake_f o2.1 (by omega)) (Ev.bind (refTakeText_f 1024 o3.2.1 (by omega)) h)))))
    by_cases c1 : (tri (takeN rest)).2.2 = 0
    · by_cases c2 : (triT (takeTx (tri (takeN rest)).2.1 64)).2.2 = 0
      · by_cases c3 : (tri (takeN (triT (takeTx (tri (takeN rest)).2.1 64)).2.1)).2.2 = 0
        · by_cases c4 : (triT (takeTx (tri (takeN (triT (takeTx (tri (takeN rest)).2.1 64)).2.1)).2.1 1024)).2.2 = 0
          · by_cases c5 : (tri (takeN rest)).1 ≤ (last.length : Int)
            · have hkey : Byts (last.take (tri (takeN rest)).1.toNat ++ bytesOf (triT (takeTx (tri (takeN rest)).2.1 64)).1) := (hla.take _).append (bytesOf_byts _)
              obtain ⟨r, h1, h2⟩ := ih (i + 1) (out ++ [(⟨last.take (tri (takeN rest)).1.toNat ++ bytesOf (triT (takeTx (tri (takeN rest)).2.1 64)).1, wrap64 (Int.tdiv (tri (takeN (triT (takeTx (tri (takeN rest)).2.1 64)).2.1)).1 2), (Int.tmod (tri (takeN (triT (takeTx (tri (takeN rest)).2.1 64)).2.1)).1 2 == 1), bytesOf (triT (takeTx (tri (takeN (triT (takeTx (tri (takeN rest)).2.1 64)).2.1)).2.1 1024)).1⟩ : S38)]) (last.take (tri (takeN rest)).1.toNat ++ bytesOf (triT (takeTx (tri (takeN rest)).2.1 64)).1) (triT (takeTx (tri (takeN (triT (takeTx (tri (takeN rest)).2.1 64)).2.1)).2.1 1024)).2.1
                (by omega) (by omega) (by simp [ho]) (fun e hm => by
                  rcases List.mem_append.1 hm with hm | hm
                  · exact hg e hm
                  · rw [List.mem_singleton] at hm
                    subst hm
                    exact ⟨hkey, bytesOf_byts _⟩) hkey o4.1 (by simp only [List.length_append, List.length_take]; omega) (by omega)
              refine ⟨r, pre (Ev.pos c1 (Ev.pos c2 (Ev.pos c3 (Ev.pos c4 (Ev.pos c5 (Ev.pos o1.1 (Ev.pos ⟨by rw [List.length_take]; omega, by omega, by omega⟩ ?_))))))), h2⟩
              rw [wrap_in (n := (i : Int) + 1) (by omega) (by omega)]
              exact h1
            · exact no _ (pre (Ev.pos c1 (Ev.pos c2 (Ev.pos c3 (Ev.pos c4 (Ev.neg c5 (Ev.const rfl)))))))
          · exact no _ (pre (Ev.pos c1 (Ev.pos c2 (Ev.pos c3 (Ev.neg c4 (Ev.const rfl))))))
        · exact no _ (pre (Ev.pos c1 (Ev.pos c2 (Ev.neg c3 (Ev.const rfl)))))
      · exact no _ (pre (Ev.pos c1 (Ev.neg c2 (Ev.const rfl))))
    · exact no _ (pre (Ev.neg c1 (Ev.const rfl)))
theorem refParse_any {l : List Int} (hl : Byts l) (hb : l.length < 140737488355328) : ∃ r, Ev (fun k => sawyerref08_Parse.f k l) r ∧ Fine l r := by
  have o := tri_ok hl
  have no : ∀ g : Nat → Option (List S38 × Int), Ev g ([], 2) → ∃ r, Ev g r ∧ Fine l r := fun g hgx => ⟨_, hgx, fine_no l⟩
  unfold sawyerref08_Parse.f
  by_cases c1 : (tri (takeN l)).2.2 = 0
  · by_cases c2 : (tri (takeN l)).1 ≤ 8
    · obtain ⟨n, hn⟩ : ∃ n : Nat, (tri (takeN l)).1 = (n : Int) := ⟨(tri (takeN l)).1.toNat, by omega⟩
      obtain ⟨r, h1, h2⟩ := refRun_any l hl n (by omega) n 0 [] [] (tri (takeN l)).2.1 (by omega) (by omega) rfl (fun e he => by cases he) Byts.nil o.2.1 (by simp) (by omega)
      refine ⟨r, Ev.bind (refTake_f hl hb) (Ev.pos c1 (Ev.pos c2 ?_)), h2⟩
      rw [hn]
      exact h1
    · exact no _ (Ev.bind (refTake_f hl hb) (Ev.pos c1 (Ev.neg c2 (Ev.const rfl))))
  · exact no _ (Ev.bind (refTake_f hl hb) (Ev.neg c1 (Ev.const rfl)))
theorem bld_length : ∀ (m : List S38) (la : List Int), (∀ e ∈ m, Fit e) → (bld la m).length ≤ 1200 * m.length
  | [], _, _ => Nat.le_refl _
  | a :: r, la, hf => by
    have h3 := ent_length (last := la) (hf a List.mem_cons_self).2.2
    have h4 := bld_length r a.f0 (fun e hx => hf e (List.mem_cons_of_mem _ hx))
    show (ent la a ++ bld a.f0 r).length ≤ _
    rw [List.length_append, List.length_cons]
    omega
theorem refRun_laid (l : List S38) (hw : ∀ e ∈ l, Fit e) (hg : ∀ e ∈ l, Good e) (c0 : chk l = 0) (h8 : l.length ≤ 8) (d : Nat) : ∀ (i : Nat) (last : List Int), l.length - i = d → i ≤ l.length → Byts last → last.length ≤ 64 →
    Ev (fun k => sawyerref08_Parse.l0 k (l.take i) last (l.length : Int) (i : Int) (bld last (l.drop i) ++ sum4 (grp l.length ++ bld [] l)) (blk l)) (l, 0) := by
  induction d with
  | zero =>
    intro i last hd hi hla hll
    have hi : i = l.length := by omega
    subst hi
    rw [List.take_length, List.drop_length]
    refine Ev.step (fun k => sawyerref08_Parse.l0.eq_2 _ _ _ _ _ _ _) (Ev.neg (by omega) ?_)
    have hm : made l = (blk l, 0) := by unfold made; rw [if_pos c0]
    have hb := refBuild_f hg
    rw [hm] at hb
    have hbb : Byts (blk l) := (body_byts hg).append (sum4_byts _)
    unfold sawyerref08_Parse.fin
    exact Ev.bind hb (Ev.pos rfl (Ev.bindc (same_f hbb hbb) (Ev.pos (by simp) (Ev.const rfl))))
  | succ d ih =>
    intro i last hd hi hla hll
    have hlt : i < l.length := by omega
    have hm : l[i] ∈ l := List.getElem_mem hlt
    have he := hw _ hm
    have q := okE_iff.1 he.2.2
    have s1 := shr_le last l[i].f0
    have d1 : (l[i].f0.drop (shr last l[i].f0)).length ≤ 64 := by rw [List.length_drop]; omega
    rw [List.drop_eq_getElem_cons hlt, show bld last (l[i] :: l.drop (i + 1)) = ent last l[i] ++ bld l[i].f0 (l.drop (i + 1)) from rfl, List.append_assoc]
    have hn := ih (i + 1) l[i].f0 (by omega) (by omega) he.1 (by omega)
    obtain ⟨R, hR⟩ : ∃ R, R = bld l[i].f0 (l.drop (i + 1)) ++ sum4 (grp l.length ++ bld [] l) := ⟨_, rfl⟩
    have hRb : Byts R := by rw [hR]; exact (bld_byts _ _ (fun e hx => hg e (List.mem_of_mem_drop hx))).append (sum4_byts _)
    have hRl : R.length ≤ 20000 := by
      have h5 := bld_length (l.drop (i + 1)) l[i].f0 (fun e hx => hw e (List.mem_of_mem_drop hx))
      have h7 : (sum4 (grp l.length ++ bld [] l)).length = 4 := rfl
      rw [hR]
      simp only [List.length_append, List.length_drop] at *
      omega
    rw [← hR] at hn ⊢
    have hEl := ent_length (last := last) he.2.2
    have e1 : takeN (ent last l[i] ++ R) = some (shr last l[i].f0, grp (l[i].f0.drop (shr last l[i].f0)).length ++ (l[i].f0.drop (shr last l[i].f0) ++ (grp (seqN l[i]) ++ (grp l[i].f3.length ++ (l[i].f3 ++ R))))) := by
      unfold ent
      simp only [List.append_assoc]
      exact takeN_grp _ (by omega)
    have hb0 : Byts (ent last l[i] ++ R) := (ent_byts he.1 he.2.1).append hRb
    have hb3 : Byts (grp l[i].f3.length ++ (l[i].f3 ++ R)) := (grp_byts _).append (he.2.1.append hRb)
    have hb2 : Byts (grp (seqN l[i]) ++ (grp l[i].f3.length ++ (l[i].f3 ++ R))) := (grp_byts _).append hb3
    have hb1 : Byts (grp (l[i].f0.drop (shr last l[i].f0)).length ++ (l[i].f0.drop (shr last l[i].f0) ++ (grp (seqN l[i]) ++ (grp l[i].f3.length ++ (l[i].f3 ++ R))))) := (grp_byts _).append ((he.1.drop _).append hb2)
    have g3 := grp9 (n := l[i].f3.length) (by omega)
    have g2 := grp9 (seqN_le he.2.2)
    have g1 := grp9 (n := (l[i].f0.drop (shr last l[i].f0)).length) (by omega)
    have t1 := refTake_f hb0 (by rw [List.length_append]; omega)
    rw [e1] at t1
    have t2 := refTakeText_f 64 hb1 (by simp only [List.length_append]; omega)
    rw [takeTx_laid (by omega) (by omega)] at t2
    have t3 := refTake_f hb2 (by simp only [List.length_append]; omega)
    rw [takeN_grp _ (seqN_le he.2.2)] at t3
    have t4 := refTakeText_f 1024 hb3 (by simp only [List.length_append]; omega)
    rw [takeTx_laid (by omega) (by omega)] at t4
    obtain ⟨f1, f2⟩ := tdiv_seq he.2.2
    refine Ev.step (fun k => sawyerref08_Parse.l0.eq_2 _ _ _ _ _ _ _) (Ev.pos (by omega) (Ev.bind t1 (Ev.bind t2 (Ev.bind t3 (Ev.bind t4 ?_)))))
    refine Ev.pos rfl (Ev.pos rfl (Ev.pos rfl (Ev.pos rfl (Ev.pos (show (shr last l[i].f0 : Int) ≤ (last.length : Int) by omega) (Ev.pos (show (0 : Int) ≤ (shr last l[i].f0 : Int) by omega) (Ev.pos ?_ ?_))))))
    · refine ⟨?_, ?_, ?_⟩
      · show (last.take (shr last l[i].f0 : Int).toNat).length + (strOfNums (l[i].f0.drop (shr last l[i].f0))).size ≤ _
        rw [str_size, List.length_take]; omega
      · show (strOfNums l[i].f3).size ≤ _
        rw [str_size]; omega
      · rw [List.length_take]; omega
    · show Ev (fun k => sawyerref08_Parse.l0 k (l.take i ++ [(⟨last.take (shr last l[i].f0 : Int).toNat ++ bytesOf (strOfNums (l[i].f0.drop (shr last l[i].f0))), wrap64 (Int.tdiv (seqN l[i] : Int) 2), (Int.tmod (seqN l[i] : Int) 2 == 1), bytesOf (strOfNums l[i].f3)⟩ : S38)]) (last.take (shr last l[i].f0 : Int).toNat ++ bytesOf (strOfNums (l[i].f0.drop (shr last l[i].f0)))) (l.length : Int) (wrap64 ((i : Int) + 1)) R (blk l)) (l, 0)
      rw [str_bytes (he.1.drop _), str_bytes he.2.1, Int.toNat_natCast, key_back, f1, f2, wrap_in (n := (i : Int) + 1) (by omega) (by omega), show l.take i ++ [(⟨l[i].f0, l[i].f1, l[i].f2, l[i].f3⟩ : S38)] = l.take (i + 1) from by rw [List.take_succ_eq_append_getElem hlt]]
      exact hn
theorem refParse_blk {l : List S38} (hg : ∀ e ∈ l, Good e) (c0 : chk l = 0) : Ev (fun k => sawyerref08_Parse.f k (blk l)) (l, 0) := by
  obtain ⟨⟨h1, h8⟩, hw⟩ := fit_of hg c0
  have hbb : Byts (blk l) := (body_byts hg).append (sum4_byts _)
  have hr := refRun_laid l hw hg c0 h8 l.length 0 [] (by omega) (by omega) Byts.nil (by simp)
  have e1 : takeN (blk l) = some (l.length, bld [] l ++ sum4 (grp l.length ++ bld [] l)) := by
    unfold blk
    rw [List.append_assoc]
    exact takeN_grp _ (by omega)
  have hlen : (blk l).length < 140737488355328 := by
    have h5 := bld_length l [] hw
    have g := grp9 (n := l.length) (by omega)
    have h7 : (sum4 (grp l.length ++ bld [] l)).length = 4 := rfl
    unfold blk
    simp only [List.length_append] at *
    omega
  unfold sawyerref08_Parse.f
  refine Ev.bind (refTake_f hbb hlen) ?_
  rw [e1]
  exact Ev.pos rfl (Ev.pos (show (l.length : Int) ≤ 8 by omega) hr)
end Go.Proofs.Ytkebeiillddboaa.Sw

set_option linter.unusedVariables false
namespace Go.Proofs.Ytkebeiillddboaa.Pure
open Go.RowKit Go.Proofs.Ytkebeiillddboaa.Px Go.Proofs.Ytkebeiillddboaa.Sw Go.Proofs.YtkebeiillddboaaW.PrintWords Go.Proofs.YtkebeiillddboaaW.PrintLast
theorem awake_f : Ev (fun k => sawyerlaw08_awake.f k) true := Ev.of sawyerlaw08_awake.mono (k := 400) (by kernel_rfl)
theorem BlockParses (l : List Int) (w0 : ∀ x ∈ l, (Lit.int .u8 x).wf = true) (y0 : l.length ≤ 140737488351232) : ∃ k, sawyerlaw08_BlockParses.f k l = some true := by
  have hl := byts_of_wf w0
  obtain ⟨r, hr, hf⟩ := parse_any hl (by omega)
  obtain ⟨q, hq, hg⟩ := refParse_any hl (by omega)
  have same : q = r := by
    rcases hf.2 with ⟨a1, a2⟩ | ⟨a1, a2⟩
    · rcases hg.2 with ⟨b1, b2⟩ | ⟨b1, b2⟩
      · exact Prod.ext (by rw [a2, b2]) (by rw [a1, b1])
      · obtain ⟨c1, c2⟩ := made_chk b2
        have h := parse_blk hg.1 c1
        rw [c2] at h
        have := ev_one h hr
        rw [← this] at a1
        exact absurd (show (0 : Int) = 2 from a1) (by decide)
    · obtain ⟨c1, c2⟩ := made_chk a2
      have h := refParse_blk hf.1 c1
      rw [c2] at h
      rw [ev_one hq h]
      exact Prod.ext rfl a1.symm
  subst same
  refine Ev.rounds (r := true) ?_
  unfold sawyerlaw08_BlockParses.f
  have hlen : q.1.length ≤ 140737488355328 := by
    rcases hg.2 with ⟨b1, b2⟩ | ⟨b1, b2⟩
    · rw [b2]; simp
    · have := (chk_ok (made_chk b2).1).1
      omega
  exact Ev.bind awake_f (Ev.bind hr (Ev.bind hq (Ev.pos rfl (Ev.pos rfl (Ev.bind (same_self hg.1 hlen) (Ev.const rfl))))))
end Go.Proofs.Ytkebeiillddboaa.Pure
