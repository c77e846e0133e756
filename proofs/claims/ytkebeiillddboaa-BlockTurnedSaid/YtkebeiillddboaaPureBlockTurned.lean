/- What the statement BlockTurned needs: our texts Core, SpecA, SpecB, SpecU, SpecTake, SpecText, SpecCrc, SpecKey, SpecKeyR, SpecBlk, SpecBld, SpecPar, SpecRun, PureBlockTurned as one. -/
import Derived.Test.YtkebeiillddboaaVWGuardMoreInvWords
import Derived.Lib.Bytealg
import Derived.Lib.Bytes
import Derived.KernelRfl
import Derived.Test.YtkebeiillddboaaPx0
import Derived.Test.YtkebeiillddboaaPx1
import Derived.Test.YtkebeiillddboaaPx2
import Derived.Test.YtkebeiillddboaaPx3
import Derived.Test.YtkebeiillddboaaPx4
import Derived.Test.YtkebeiillddboaaPx5
import Derived.Test.YtkebeiillddboaaPx6
import Derived.Test.YtkebeiillddboaaPx7
import Derived.Test.YtkebeiillddboaaPx8
import Derived.Test.YtkebeiillddboaaPx9
import Derived.Test.YtkebeiillddboaaPx10
import Derived.Test.YtkebeiillddboaaPx11
import Derived.Test.YtkebeiillddboaaPx12
import Derived.Test.YtkebeiillddboaaPx13
import Derived.Test.YtkebeiillddboaaPx14
import Derived.Test.YtkebeiillddboaaPx15
import Derived.Test.YtkebeiillddboaaPx16
import Derived.Test.YtkebeiillddboaaPx17
import Derived.Test.YtkebeiillddboaaPx18
import Derived.Test.YtkebeiillddboaaPx19
import Derived.Test.YtkebeiillddboaaPx40
set_option linter.unusedVariables false
set_option linter.unusedSimpArgs false
namespace Go.Proofs.Ytkebeiillddboaa.Sw
open Go.RowKit Go.Proofs.YtkebeiillddboaaW.PrintWords Go.Proofs.YtkebeiillddboaaW.PrintMore

def Byts (l : List Int) : Prop := ∀ x ∈ l, 0 ≤ x ∧ x < 256
theorem Byts.nil : Byts [] := fun x hx => by cases hx
theorem Byts.cons {a : Int} {l : List Int} (h0 : 0 ≤ a) (h1 : a < 256) (h : Byts l) : Byts (a :: l) := by
  intro x hx
  rcases List.mem_cons.1 hx with rfl | hx
  · exact ⟨h0, h1⟩
  · exact h x hx
theorem Byts.head {a : Int} {l : List Int} (h : Byts (a :: l)) : 0 ≤ a ∧ a < 256 := h a List.mem_cons_self
theorem Byts.tail {a : Int} {l : List Int} (h : Byts (a :: l)) : Byts l := fun x hx => h x (List.mem_cons_of_mem _ hx)
theorem Byts.append {a b : List Int} (ha : Byts a) (hb : Byts b) : Byts (a ++ b) := by
  intro x hx
  rcases List.mem_append.1 hx with hx | hx
  · exact ha x hx
  · exact hb x hx
theorem Byts.left {a b : List Int} (h : Byts (a ++ b)) : Byts a := fun x hx => h x (List.mem_append_left _ hx)
theorem Byts.right {a b : List Int} (h : Byts (a ++ b)) : Byts b := fun x hx => h x (List.mem_append_right _ hx)
theorem Byts.take {a : List Int} (h : Byts a) (n : Nat) : Byts (a.take n) := fun x hx => h x (List.mem_of_mem_take hx)
theorem Byts.drop {a : List Int} (h : Byts a) (n : Nat) : Byts (a.drop n) := fun x hx => h x (List.mem_of_mem_drop hx)
theorem Byts.one {a : Int} (h0 : 0 ≤ a) (h1 : a < 256) : Byts [a] := Byts.cons h0 h1 Byts.nil
theorem byts_of_wf {l : List Int} (h : ∀ x ∈ l, (Lit.int .u8 x).wf = true) : Byts l := by
  intro x hx
  have := h x hx
  simp only [Lit.wf, IntKind.min, IntKind.max, IntKind.signed, IntKind.bits, Bool.and_eq_true, decide_eq_true_eq] at this
  simp at this
  omega
theorem Byts.set {l : List Int} (h : Byts l) (i : Nat) {v : Int} (h0 : 0 ≤ v) (h1 : v < 256) : Byts (l.set i v) := by
  intro x hx
  rcases List.mem_or_eq_of_mem_set hx with hx | rfl
  · exact h x hx
  · exact ⟨h0, h1⟩
theorem u8_of_wf {x : Int} (h : (Lit.int .u8 x).wf = true) : 0 ≤ x ∧ x < 256 := by
  simp only [Lit.wf, IntKind.min, IntKind.max, IntKind.signed, IntKind.bits, Bool.and_eq_true, decide_eq_true_eq] at h
  simp at h
  omega
def less : List Int → List Int → Bool
  | _, [] => false
  | [], _ :: _ => true
  | a :: x, b :: y => if a < b then true else if b < a then false else less x y
theorem u8_lt {a b : Int} (ha : 0 ≤ a ∧ a < 256) (hb : 0 ≤ b ∧ b < 256) : (UInt8.ofNat a.toNat < UInt8.ofNat b.toNat) ↔ a < b := by
  rw [UInt8.lt_iff_toNat_lt]
  simp only [UInt8.toNat_ofNat']
  omega
theorem u8_eq {a b : Int} (ha : 0 ≤ a ∧ a < 256) (hb : 0 ≤ b ∧ b < 256) : (UInt8.ofNat a.toNat = UInt8.ofNat b.toNat) ↔ a = b := by
  rw [← UInt8.toNat_inj]
  simp only [UInt8.toNat_ofNat']
  omega
theorem bytesOf_cons (a : Int) (l : List Int) : Lib.bytesOf (a :: l) = UInt8.ofNat a.toNat :: Lib.bytesOf l := rfl
theorem compare_less : ∀ {a b : List Int}, Byts a → Byts b → decide (Lib.compareBytes (Lib.bytesOf a) (Lib.bytesOf b) < 0) = less a b
  | [], [], _, _ => by simp [Lib.bytesOf, Lib.compareBytes, less]
  | [], _ :: _, _, _ => by simp [Lib.bytesOf, Lib.compareBytes, less]
  | _ :: _, [], _, _ => by simp [Lib.bytesOf, Lib.compareBytes, less]
  | a :: x, b :: y, ha, hb => by
    have ih := compare_less ha.tail hb.tail
    have h1 := u8_lt ha.head hb.head
    have h2 := u8_lt hb.head ha.head
    rw [bytesOf_cons, bytesOf_cons]
    unfold Lib.compareBytes less
    by_cases c : a < b
    · rw [if_pos (h1.2 c), if_pos c]; rfl
    · rw [if_neg (fun h => c (h1.1 h)), if_neg c]
      by_cases c2 : b < a
      · rw [if_pos (h2.2 c2), if_pos c2]; rfl
      · rw [if_neg (fun h => c2 (h2.1 h)), if_neg c2]; exact ih
theorem bytesOf_inj : ∀ {a b : List Int}, Byts a → Byts b → (Lib.bytesOf a = Lib.bytesOf b ↔ a = b)
  | [], [], _, _ => by simp
  | [], _ :: _, _, _ => by simp [Lib.bytesOf]
  | _ :: _, [], _, _ => by simp [Lib.bytesOf]
  | a :: x, b :: y, ha, hb => by
    have ih := bytesOf_inj ha.tail hb.tail
    have h3 := u8_eq ha.head hb.head
    rw [bytesOf_cons, bytesOf_cons, List.cons.injEq, List.cons.injEq, h3, ih]
theorem str_eq {a b : List Int} (ha : Byts a) (hb : Byts b) : ((strOfNums a).toList == (strOfNums b).toList) = decide (a = b) := by
  rw [Lib.strOfNums_toList, Lib.strOfNums_toList]
  by_cases c : a = b
  · subst c; simp
  · rw [decide_eq_false c, beq_eq_false_iff_ne]
    exact fun h => c ((bytesOf_inj ha hb).1 h)
theorem wrap_in {n : Int} (h0 : -9223372036854775808 ≤ n) (h1 : n ≤ 9223372036854775807) : wrap64 n = n := by unfold wrap64; omega
theorem rd_nat (l : List Int) (i : Nat) (h : i < l.length) : rd l (i : Int) = l[i] := by
  unfold rd
  rw [Int.toNat_natCast, List.getD_eq_getElem?_getD, List.getElem?_eq_getElem h]
  rfl
end Go.Proofs.Ytkebeiillddboaa.Sw

set_option linter.unusedVariables false
set_option linter.unusedSimpArgs false
namespace Go.Proofs.Ytkebeiillddboaa.Sw
open Go.RowKit Go.Proofs.Ytkebeiillddboaa.Px Go.Proofs.YtkebeiillddboaaW.PrintWords Go.Proofs.YtkebeiillddboaaW.PrintLast Go.Proofs.YtkebeiillddboaaW.PrintMore

theorem Ev.pos {α : Type} {g f : Nat → Option α} {c : Prop} [Decidable c] {r : α} (hc : c) (h : Ev g r) : Ev (fun k => if c then g k else f k) r := by
  simp only [if_pos hc]; exact h
theorem Ev.neg {α : Type} {g f : Nat → Option α} {c : Prop} [Decidable c] {r : α} (hc : ¬ c) (h : Ev f r) : Ev (fun k => if c then g k else f k) r := by
  simp only [if_neg hc]; exact h
theorem Ev.bindc {α β : Type} {o : Option α} {f : Nat → α → Option β} {a : α} {r : β} (h : o = some a) (k : Ev (fun n => f n a) r) : Ev (fun n => o.bind (f n)) r := by
  subst h; exact k
theorem Ev.const {α : Type} {o : Option α} {r : α} (h : o = some r) : Ev (fun _ => o) r := ⟨0, fun _ _ => h⟩

def val : List Int → Int → Int
  | [], a => a
  | c :: l, a => val l (a * 256 + c)
theorem laid_f {a b : List Int} (h : a.length + b.length < 140737488355328) : code_laid_byte.f a b = some (a ++ b) := by
  unfold code_laid_byte.f slices_Clone_byte_byte.f
  rw [if_pos (by omega), Option.bind_some, if_pos h]
def grp (n : Nat) : List Int := if n < 128 then [(n : Int)] else ((n % 128 + 128 : Nat) : Int) :: grp (n / 128)
termination_by n
theorem grp_lo {n : Nat} (h : n < 128) : grp n = [(n : Int)] := by rw [grp, if_pos h]
theorem grp_hi {n : Nat} (h : ¬ n < 128) : grp n = ((n % 128 + 128 : Nat) : Int) :: grp (n / 128) := by rw [grp, if_neg h]
theorem grp_byts (n : Nat) : Byts (grp n) := by
  induction n using Nat.strongRecOn with
  | ind n ih =>
    by_cases h : n < 128
    · rw [grp_lo h]; exact Byts.one (by omega) (by omega)
    · rw [grp_hi h]; exact Byts.cons (by omega) (by omega) (ih _ (by omega))
theorem grp_length_le (k : Nat) : ∀ n : Nat, n < 128 ^ (k + 1) → (grp n).length ≤ k + 1 := by
  induction k with
  | zero => intro n h; rw [grp_lo (by simpa using h)]; simp
  | succ k ih =>
    intro n h
    by_cases c : n < 128
    · rw [grp_lo c]; simp
    · rw [grp_hi c, List.length_cons]
      have := ih (n / 128) (by rw [Nat.pow_succ] at h; exact Nat.div_lt_of_lt_mul (by rw [Nat.mul_comm]; exact h))
      omega
theorem grp_pos (n : Nat) : 0 < (grp n).length := by
  rw [grp]; split <;> simp
theorem grp9 {n : Nat} (h : n ≤ 4611686018427387903) : (grp n).length ≤ 9 := grp_length_le 8 n (by omega)
theorem or128 (y : Int) (h0 : 0 ≤ y) (h1 : y < 256) : Go.bits .or .u8 y 128 = y % 128 + 128 := by
  have h : ∀ n : Fin 256, Go.bits .or .u8 (n.val : Int) 128 = (n.val : Int) % 128 + 128 := by decide +kernel
  have := h ⟨y.toNat, by omega⟩
  simpa [Int.toNat_of_nonneg h0] using this
theorem putNum_loop (n : Nat) : ∀ (l acc : List Int), n ≤ 4611686018427387903 → l.length + 18 < 140737488355328 → acc.length + (grp n).length ≤ 9 →
    Ev (fun k => code_PutNum.l0 k l (n : Int) acc) (l ++ (acc ++ grp n)) := by
  induction n using Nat.strongRecOn with
  | ind n ih =>
    intro l acc hn hl ha
    by_cases h : n < 128
    · refine Ev.step (f := fun _ => some (l ++ (acc ++ grp n))) (fun k => ?_) (Ev.now _)
      simp only [code_PutNum.l0]
      rw [if_neg (by omega), if_pos (by omega), show ((n : Int) % 256) = n by omega, laid_f (by simp; omega), Option.bind_some, grp_lo h]
    · rw [grp_hi h] at ha ⊢
      rw [List.length_cons] at ha
      have := ih (n / 128) (by omega) l (acc ++ [((n % 128 + 128 : Nat) : Int)]) (by omega) hl (by simp; omega)
      refine Ev.step (fun k => ?_) (show Ev (fun k => code_PutNum.l0 k l ((n / 128 : Nat) : Int) (acc ++ [((n % 128 + 128 : Nat) : Int)])) _ from ?_)
      · simp only [code_PutNum.l0]
        rw [if_pos (by omega), if_pos (by have := grp_pos (n / 128); omega), or128 _ (by omega) (by omega), show (n : Int) / 128 = ((n / 128 : Nat) : Int) by omega, show (n : Int) % 256 % 128 + 128 = ((n % 128 + 128 : Nat) : Int) by omega]
      · rw [List.append_assoc] at this
        exact this
def cap (n : Int) : Nat := (min (max n 0) 4611686018427387903).toNat
theorem cap_le (n : Int) : cap n ≤ 4611686018427387903 := by unfold cap; omega
theorem cap_of {n : Nat} (h : n ≤ 4611686018427387903) : cap (n : Int) = n := by unfold cap; omega
theorem mn_cap (n : Int) : mn (mx n 0) 4611686018427387903 = (cap n : Int) := by
  unfold mn mx cap
  split <;> split <;> omega
theorem putNum_f (l : List Int) (n : Int) (hl : l.length + 18 < 140737488355328) : Ev (fun k => code_PutNum.f k l n) (l ++ grp (cap n)) := by
  unfold code_PutNum.f
  rw [mn_cap]
  have := putNum_loop (cap n) l [] (cap_le n) hl (by simpa using grp9 (cap_le n))
  simpa using this
end Go.Proofs.Ytkebeiillddboaa.Sw

set_option linter.unusedVariables false
set_option linter.unusedSimpArgs false
namespace Go.Proofs.Ytkebeiillddboaa.Sw
open Go.RowKit Go.Proofs.Ytkebeiillddboaa.Px Go.Proofs.YtkebeiillddboaaW.PrintWords Go.Proofs.YtkebeiillddboaaW.PrintLast Go.Proofs.YtkebeiillddboaaW.PrintMore

end Go.Proofs.Ytkebeiillddboaa.Sw


set_option linter.unusedVariables false
set_option linter.unusedSimpArgs false
namespace Go.Proofs.Ytkebeiillddboaa.Sw
open Go.RowKit Go.Proofs.Ytkebeiillddboaa.Px Go.Proofs.YtkebeiillddboaaW.PrintWords Go.Proofs.YtkebeiillddboaaW.PrintLast Go.Proofs.YtkebeiillddboaaW.PrintMore

def tri : Option (Nat × List Int) → Int × List Int × Int
  | some (n, r) => ((n : Int), r, 0)
  | none => (0, [], 2)
theorem u64_nat {n : Nat} (h : n < 18446744073709551616) : IntKind.u64.wrap (n : Int) = (n : Int) := by
  simp only [IntKind.wrap, IntKind.bits, IntKind.signed]
  simp
  omega
theorem or_u64 {t d : Nat} (ht : t < 18446744073709551616) (hd : d < 18446744073709551616) : Go.bits .or .u64 (t : Int) (d : Int) = ((t ||| d : Nat) : Int) := by
  show IntKind.u64.wrap (((BitVec.ofInt 64 (t : Int)) ||| (BitVec.ofInt 64 (d : Int))).toNat : Int) = _
  rw [BitVec.ofInt_natCast, BitVec.ofInt_natCast, BitVec.toNat_or, BitVec.toNat_ofNat, BitVec.toNat_ofNat, Nat.mod_eq_of_lt (by omega), Nat.mod_eq_of_lt (by omega)]
  exact u64_nat (Nat.or_lt_two_pow (n := 64) (by omega) (by omega))
theorem wrap_succ {i : Nat} (h : i < 140737488355328) : wrap64 ((i : Int) + 1) = ((i + 1 : Nat) : Int) := by rw [wrap_in (by omega) (by omega)]; rfl
end Go.Proofs.Ytkebeiillddboaa.Sw

set_option linter.unusedVariables false
set_option linter.unusedSimpArgs false
namespace Go.Proofs.Ytkebeiillddboaa.Sw
open Go.RowKit Go.Proofs.Ytkebeiillddboaa.Px Go.Proofs.YtkebeiillddboaaW.PrintWords Go.Proofs.YtkebeiillddboaaW.PrintLast Go.Proofs.YtkebeiillddboaaW.PrintMore

def dec : Nat → List Int → Option (Nat × List Int)
  | 0, _ => none
  | _ + 1, [] => none
  | k + 1, c :: l => if c < 128 then some (c.toNat, l) else match dec k l with
    | some (n, r) => if n = 0 then none else some (c.toNat - 128 + 128 * n, r)
    | none => none
theorem dec_grp (k : Nat) : ∀ (n : Nat) (r : List Int), (grp n).length ≤ k → dec k (grp n ++ r) = some (n, r) := by
  induction k with
  | zero => intro n r h; have := grp_pos n; omega
  | succ k ih =>
    intro n r h
    by_cases c : n < 128
    · rw [grp_lo c, List.cons_append, dec, if_pos (by omega)]; rfl
    · rw [grp_hi c] at h ⊢
      rw [List.cons_append, dec, if_neg (by omega), ih (n / 128) r (by simpa using h)]
      simp only
      rw [if_neg (by omega), Int.toNat_natCast]
      congr 2
      omega
theorem dec_back (k : Nat) : ∀ (l : List Int) (n : Nat) (r : List Int), Byts l → dec k l = some (n, r) → l = grp n ++ r ∧ (grp n).length ≤ k := by
  induction k with
  | zero => intro l n r _ h; simp [dec] at h
  | succ k ih =>
    intro l n r hl h
    cases l with
    | nil => simp [dec] at h
    | cons c l =>
      have hc := hl.head
      rw [dec] at h
      by_cases e : c < 128
      · rw [if_pos e] at h
        simp only [Option.some.injEq, Prod.mk.injEq] at h
        obtain ⟨rfl, rfl⟩ := h
        rw [grp_lo (by omega)]
        refine ⟨?_, by simp⟩
        rw [List.singleton_append, Int.toNat_of_nonneg hc.1]
      · rw [if_neg e] at h
        cases hd : dec k l with
        | none => rw [hd] at h; simp at h
        | some p =>
          obtain ⟨m, s⟩ := p
          rw [hd] at h
          simp only at h
          by_cases z : m = 0
          · rw [if_pos z] at h; cases h
          · rw [if_neg z] at h
            simp only [Option.some.injEq, Prod.mk.injEq] at h
            obtain ⟨rfl, rfl⟩ := h
            obtain ⟨h1, h2⟩ := ih l m s hl.tail hd
            rw [grp_hi (by omega), show (c.toNat - 128 + 128 * m) / 128 = m by omega]
            refine ⟨?_, by simp; omega⟩
            rw [List.cons_append, ← h1]
            congr 1
            omega
def takeN (l : List Int) : Option (Nat × List Int) := (dec 9 l).bind fun p => if p.1 ≤ 4611686018427387903 then some p else none
theorem takeN_grp {n : Nat} (r : List Int) (h : n ≤ 4611686018427387903) : takeN (grp n ++ r) = some (n, r) := by
  unfold takeN
  rw [dec_grp 9 n r (grp9 h), Option.bind_some, if_pos h]
theorem takeN_back {l r : List Int} {n : Nat} (hl : Byts l) (h : takeN l = some (n, r)) : l = grp n ++ r ∧ n ≤ 4611686018427387903 := by
  unfold takeN at h
  cases hd : dec 9 l with
  | none => rw [hd] at h; simp at h
  | some p =>
    rw [hd, Option.bind_some] at h
    split at h
    · rename_i hp
      simp only [Option.some.injEq] at h
      subst h
      exact ⟨(dec_back 9 l n r hl hd).1, hp⟩
    · cases h
def cont (i t : Nat) (o : Option (Nat × List Int)) : Int × List Int × Int :=
  match o with
  | some (n, r) => if 0 < i ∧ n = 0 then (0, [], 2) else if t + 128 ^ i * n ≤ 4611686018427387903 then (((t + 128 ^ i * n : Nat) : Int), r, 0) else (0, [], 2)
  | none => (0, [], 2)
theorem cont_zero (o : Option (Nat × List Int)) : cont 0 0 o = tri (o.bind fun p => if p.1 ≤ 4611686018427387903 then some p else none) := by
  unfold cont tri
  cases o with
  | none => rfl
  | some p =>
    obtain ⟨n, r⟩ := p
    simp only [Option.bind_some, Nat.pow_zero, Nat.one_mul, Nat.zero_add, Nat.lt_irrefl, false_and, if_false]
    by_cases h : n ≤ 4611686018427387903
    · rw [if_pos h, if_pos h]
    · rw [if_neg h, if_neg h]
theorem cont_step {i t k : Nat} {c : Int} {l : List Int} (h0 : ¬ c < 128) : cont i t (dec (k + 1) (c :: l)) = cont (i + 1) (t + 128 ^ i * (c.toNat - 128)) (dec k l) := by
  rw [dec, if_neg h0]
  cases dec k l with
  | none => rfl
  | some p =>
    obtain ⟨n, r⟩ := p
    simp only
    by_cases z : n = 0
    · rw [if_pos z]
      unfold cont
      simp only
      rw [if_pos ⟨by omega, z⟩]
    · rw [if_neg z]
      unfold cont
      simp only
      have : t + 128 ^ i * (c.toNat - 128 + 128 * n) = t + 128 ^ i * (c.toNat - 128) + 128 ^ (i + 1) * n := by
        rw [Nat.pow_succ, Nat.mul_add, Nat.mul_assoc, Nat.add_assoc]
      rw [if_neg (show ¬ (0 < i ∧ c.toNat - 128 + 128 * n = 0) by omega), if_neg (show ¬ (0 < i + 1 ∧ n = 0) by omega), this]
theorem cont_last {i t k : Nat} {c : Int} {l : List Int} (h0 : c < 128) : cont i t (dec (k + 1) (c :: l)) = if 0 < i ∧ c.toNat = 0 then (0, [], 2) else if t + 128 ^ i * c.toNat ≤ 4611686018427387903 then (((t + 128 ^ i * c.toNat : Nat) : Int), l, 0) else (0, [], 2) := by
  rw [dec, if_pos h0]
  rfl
theorem and127 (y : Int) (h0 : 0 ≤ y) (h1 : y < 256) : Go.bits .and .u8 y 127 = y % 128 := by
  have h : ∀ n : Fin 256, Go.bits .and .u8 (n.val : Int) 127 = (n.val : Int) % 128 := by decide +kernel
  have := h ⟨y.toNat, by omega⟩
  simpa [Int.toNat_of_nonneg h0] using this
theorem pow128 (i : Nat) : (128 : Nat) ^ i = 2 ^ (7 * i) := by rw [Nat.pow_mul]
theorem pow128_le {i : Nat} (h : i ≤ 8) : (128 : Nat) ^ i ≤ 72057594037927936 := by
  have : (128 : Nat) ^ i ≤ 128 ^ 8 := Nat.pow_le_pow_right (by omega) h
  omega
theorem group (i t : Nat) (c : Int) (hi : i ≤ 8) (ht : t < 128 ^ i) (h0 : 0 ≤ c) (h1 : c < 256) :
    Go.bits .or .u64 (t : Int) (shl .u64 (IntKind.u64.wrap (Go.bits .and .u8 c 127)) (wrap64 (7 * (i : Int)))) = ((t + 128 ^ i * (c.toNat % 128) : Nat) : Int) := by
  have hp := pow128_le hi
  have hm : 128 ^ i * (c.toNat % 128) ≤ 72057594037927936 * 127 := Nat.mul_le_mul hp (by omega)
  have e1 : Go.bits .and .u8 c 127 = ((c.toNat % 128 : Nat) : Int) := by rw [and127 c h0 h1]; omega
  have e2 : shl .u64 (((c.toNat % 128 : Nat) : Int)) (wrap64 (7 * (i : Int))) = ((128 ^ i * (c.toNat % 128) : Nat) : Int) := by
    unfold shl
    rw [wrap_in (by omega) (by omega), show (7 * (i : Int)).toNat = 7 * i by omega, Nat.min_eq_left (by show 7 * i ≤ 64; omega)]
    have : ((c.toNat % 128 : Nat) : Int) * 2 ^ (7 * i) = ((128 ^ i * (c.toNat % 128) : Nat) : Int) := by
      rw [Int.natCast_mul, Int.mul_comm, pow128, Int.natCast_pow]
      rfl
    rw [this]
    exact u64_nat (by omega)
  rw [e1, u64_nat (by omega), e2, or_u64 (by omega) (by omega)]
  rw [pow128] at ht ⊢
  rw [Nat.or_comm, ← Nat.two_pow_add_eq_or_of_lt ht, Nat.add_comm]
theorem group_lo (i t : Nat) (c : Int) (hi : i ≤ 8) (ht : t < 128 ^ i) (h0 : 0 ≤ c) (h1 : c < 128) :
    Go.bits .or .u64 (t : Int) (shl .u64 (IntKind.u64.wrap (Go.bits .and .u8 c 127)) (wrap64 (7 * (i : Int)))) = ((t + 128 ^ i * c.toNat : Nat) : Int) := by
  rw [group i t c hi ht h0 (by omega), show c.toNat % 128 = c.toNat by omega]
theorem group_hi (i t : Nat) (c : Int) (hi : i ≤ 8) (ht : t < 128 ^ i) (h0 : 0 ≤ c) (h1 : c < 256) (h2 : ¬ c < 128) :
    Go.bits .or .u64 (t : Int) (shl .u64 (IntKind.u64.wrap (Go.bits .and .u8 c 127)) (wrap64 (7 * (i : Int)))) = ((t + 128 ^ i * (c.toNat - 128) : Nat) : Int) := by
  rw [group i t c hi ht h0 (by omega), show c.toNat % 128 = c.toNat - 128 by omega]
theorem wrap7 {i : Nat} (h : i ≤ 9) : 0 ≤ wrap64 (7 * (i : Int)) := by rw [wrap_in (by omega) (by omega)]; omega
theorem takeNum_loop (l : List Int) (hl : Byts l) (hb : l.length < 140737488355328) (d : Nat) : ∀ (i t : Nat), 9 - i = d → i ≤ 9 → i ≤ l.length → t < 128 ^ i →
    Ev (fun k => code_TakeNum.l0 k l (t : Int) 0 l (l.length : Int) (i : Int)) (cont i t (dec (9 - i) (l.drop i))) := by
  induction d with
  | zero =>
    intro i t hd h9 hi ht
    have hi9 : i = 9 := by omega
    subst hi9
    refine Ev.step (f := fun _ => some (0, [], 2)) (fun k => ?_) (Ev.const rfl)
    simp only [code_TakeNum.l0]
    by_cases c : (9 : Nat) < l.length
    · rw [if_pos (by omega), if_pos (by omega), if_pos (by omega), if_pos (by omega), if_pos trivial]
    · rw [if_neg (by omega), if_pos trivial]
  | succ d ih =>
    intro i t hd h9 hi ht
    have hi8 : i ≤ 8 := by omega
    by_cases c : i < l.length
    · have hc := hl (l[i]) (List.getElem_mem _)
      have e9 : 9 - i = (9 - (i + 1)) + 1 := by omega
      rw [List.drop_eq_getElem_cons c, e9]
      have hrd := rd_nat l i c
      by_cases z : 0 < i ∧ l[i] = 0
      · rw [cont_last (by omega), if_pos ⟨z.1, by omega⟩]
        refine Ev.step (f := fun k => code_TakeNum.j1 k l (t : Int) 0 (i : Int) (rd l (i : Int)) l (l.length : Int) (i : Int) true) (fun k => ?_) (Ev.step (f := fun _ => some (0, [], 2)) (fun k => ?_) (Ev.const rfl))
        · simp only [code_TakeNum.l0]
          rw [if_pos (by omega), if_pos (by omega), if_pos (by omega), if_neg (by omega), if_pos (by rw [hrd]; exact z.2), decide_eq_true (by omega)]
        · simp only [code_TakeNum.j1]
          rw [if_pos trivial, if_pos trivial]
      · refine Ev.step (f := fun k => code_TakeNum.j1 k l (t : Int) 0 (i : Int) (rd l (i : Int)) l (l.length : Int) (i : Int) false) (fun k => ?_) ?_
        · simp only [code_TakeNum.l0]
          rw [if_pos (by omega), if_pos (by omega), if_pos (by omega), if_neg (by omega)]
          by_cases q : l[i] = 0
          · rw [if_pos (by rw [hrd]; exact q), decide_eq_false (by omega)]
          · rw [if_neg (by rw [hrd]; exact q)]
        · have hp := pow128_le hi8
          by_cases q : l[i] < 128
          · rw [cont_last q, if_neg (by omega)]
            have hm : 128 ^ i * (l[i]).toNat ≤ 72057594037927936 * 127 := Nat.mul_le_mul hp (by omega)
            by_cases big : t + 128 ^ i * (l[i]).toNat ≤ 4611686018427387903
            · rw [if_pos big]
              refine Ev.step (f := fun _ => some (((t + 128 ^ i * (l[i]).toNat : Nat) : Int), l.drop (i + 1), 0)) (fun k => ?_) (Ev.const rfl)
              simp only [code_TakeNum.j1]
              rw [if_neg (by simp), if_pos (wrap7 h9), hrd, if_pos q, wrap_succ (by omega), group_lo i t _ hi8 ht hc.1 q, if_neg (by omega), if_neg (by omega), if_pos (by omega), if_pos (by omega)]
              unfold slices_Clone_byte_byte.f
              rw [if_pos (by simp; omega), Option.bind_some, wrap_in (by omega) (by omega), Int.toNat_natCast]
            · rw [if_neg big]
              refine Ev.step (f := fun _ => some (0, [], 2)) (fun k => ?_) (Ev.const rfl)
              simp only [code_TakeNum.j1]
              rw [if_neg (by simp), if_pos (wrap7 h9), hrd, if_pos q, wrap_succ (by omega), group_lo i t _ hi8 ht hc.1 q, if_neg (by omega), if_pos (by omega)]
          · rw [cont_step q]
            have hlt : t + 128 ^ i * ((l[i]).toNat - 128) < 128 ^ (i + 1) := by
              have : 128 ^ i * ((l[i]).toNat - 128) ≤ 128 ^ i * 127 := Nat.mul_le_mul (Nat.le_refl _) (by omega)
              rw [Nat.pow_succ]
              omega
            have next := ih (i + 1) _ (by omega) (by omega) (by omega) hlt
            refine Ev.step (fun k => ?_) next
            simp only [code_TakeNum.j1]
            rw [if_neg (by simp), if_pos (wrap7 h9), hrd, if_neg q, wrap_succ (by omega), group_hi i t _ hi8 ht hc.1 hc.2 q]
    · rw [List.drop_eq_nil_of_le (by omega), show 9 - i = (9 - (i + 1)) + 1 by omega]
      refine Ev.step (f := fun _ => some (0, [], 2)) (fun k => ?_) (Ev.const rfl)
      simp only [code_TakeNum.l0]
      rw [if_neg (by omega), if_pos trivial]
theorem takeNum_f {l : List Int} (hl : Byts l) (hb : l.length < 140737488355328) : Ev (fun k => code_TakeNum.f k l) (tri (takeN l)) := by
  unfold code_TakeNum.f takeN
  have := takeNum_loop l hl hb 9 0 0 rfl (by omega) (by omega) (by omega)
  rw [cont_zero, List.drop_zero] at this
  exact this

end Go.Proofs.Ytkebeiillddboaa.Sw

set_option linter.unusedVariables false
set_option linter.unusedSimpArgs false
namespace Go.Proofs.Ytkebeiillddboaa.Sw
open Go.RowKit Go.Proofs.Ytkebeiillddboaa.Px Go.Proofs.YtkebeiillddboaaW.PrintWords Go.Proofs.YtkebeiillddboaaW.PrintLast Go.Proofs.YtkebeiillddboaaW.PrintMore

def takeTx (l : List Int) (a : Int) : Option (List Int × List Int) :=
  (takeN l).bind fun p => if (p.1 : Int) > a then none else if p.1 > p.2.length then none else some (p.2.take p.1, p.2.drop p.1)
def triT : Option (List Int × List Int) → ByteArray × List Int × Int
  | some (t, r) => (strOfNums t, r, 0)
  | none => (⟨#[]⟩, [], 2)
theorem takeText_f {l : List Int} (a : Int) (hl : Byts l) (hb : l.length < 140737488355328) : Ev (fun k => code_TakeText.f k l a) (triT (takeTx l a)) := by
  unfold code_TakeText.f
  refine Ev.bind (takeNum_f hl hb) ?_
  unfold takeTx
  cases takeN l with
  | none => exact Ev.const rfl
  | some p =>
    obtain ⟨n, r⟩ := p
    refine Ev.pos (show (tri (some (n, r))).2.2 = 0 from rfl) ?_
    rw [Option.bind_some]
    by_cases c1 : (n : Int) > a
    · rw [if_pos c1]
      exact Ev.pos c1 (Ev.const rfl)
    · rw [if_neg c1]
      refine Ev.neg c1 ?_
      by_cases c2 : n > r.length
      · rw [if_pos c2]
        exact Ev.pos (show (n : Int) > (r.length : Int) by omega) (Ev.const rfl)
      · rw [if_neg c2]
        exact Ev.neg (show ¬ (n : Int) > (r.length : Int) by omega) (Ev.pos (show (0 : Int) ≤ (n : Int) by omega) (Ev.pos (show (n : Int) ≤ (r.length : Int) by omega) (Ev.const rfl)))
theorem bytesOf_byts (s : ByteArray) : Byts (bytesOf s) := by
  intro x hx
  unfold bytesOf at hx
  obtain ⟨b, _, rfl⟩ := List.mem_map.1 hx
  have := b.toNat_lt
  omega
theorem putText_f (l : List Int) (s : ByteArray) (hb : l.length + s.size + 18 < 140737488355328) : Ev (fun k => code_PutText.f k l s) (l ++ grp s.size ++ bytesOf s) := by
  unfold code_PutText.f
  have h9 := grp9 (n := s.size) (by omega)
  have := putNum_f l (s.size : Int) (by omega)
  rw [cap_of (by omega)] at this
  refine Ev.bind this (Ev.const ?_)
  unfold code_laid_string.f slices_Clone_byte_byte.f
  rw [if_pos (by rw [List.length_append]; omega), Option.bind_some, if_pos (by rw [List.length_append]; omega), Option.bind_some]
end Go.Proofs.Ytkebeiillddboaa.Sw

set_option linter.unusedVariables false
set_option linter.unusedSimpArgs false
namespace Go.Proofs.Ytkebeiillddboaa.Sw
open Go.RowKit Go.Proofs.Ytkebeiillddboaa.Px Go.Proofs.YtkebeiillddboaaW.PrintWords Go.Proofs.YtkebeiillddboaaW.PrintLast Go.Proofs.YtkebeiillddboaaW.PrintMore

abbrev W32 := BitVec 32
def poly : W32 := 3988292384#32
def turn (w : W32) : W32 := (w >>> 1) ^^^ (if w.getLsbD 0 then poly else 0#32)
def turns : Nat → W32 → W32
  | 0, w => w
  | n + 1, w => turns n (turn w)
def byteStep (w : W32) (c : Int) : W32 := turns 8 (w ^^^ BitVec.ofInt 32 c)
def crcFrom (w : W32) (l : List Int) : W32 := l.foldl byteStep w
def crc (l : List Int) : Int := ((~~~ crcFrom (BitVec.allOnes 32) l).toNat : Int)

def num32 (w : W32) : Int := (w.toNat : Int)
theorem num32_range (w : W32) : 0 ≤ num32 w ∧ num32 w < 4294967296 := by unfold num32; have := w.isLt; omega
theorem ofInt_num32 (w : W32) : BitVec.ofInt 32 (num32 w) = w := by
  unfold num32
  rw [BitVec.ofInt_natCast, BitVec.ofNat_toNat, BitVec.setWidth_eq]
theorem wrap_u32 (w : W32) : IntKind.u32.wrap ((w.toNat : Nat) : Int) = num32 w := by
  rw [IntKind.wrap_u32]
  have := w.isLt
  unfold num32
  omega
theorem xor_u32 (x y : Int) : Go.bits .xor .u32 x y = num32 (BitVec.ofInt 32 x ^^^ BitVec.ofInt 32 y) := wrap_u32 _
theorem and_u32 (x y : Int) : Go.bits .and .u32 x y = num32 (BitVec.ofInt 32 x &&& BitVec.ofInt 32 y) := wrap_u32 _
theorem num32_div2 (w : W32) : (num32 w / (2 : Int) : Int) = num32 (w >>> (1 : Nat)) := by
  unfold num32
  rw [BitVec.toNat_ushiftRight, Nat.shiftRight_eq_div_pow]
  omega
theorem lsb_mod (w : W32) : w.getLsbD 0 = decide (num32 w % 2 = 1) := by
  unfold num32
  rw [BitVec.getLsbD, Nat.testBit_zero]
  congr 1
  apply propext
  omega
theorem mask (w : W32) : BitVec.ofInt 32 ((-(num32 (w &&& 1#32))) % 4294967296) = if w.getLsbD 0 then BitVec.allOnes 32 else 0#32 := by
  have h1 : num32 (w &&& 1#32) = num32 w % 2 := by
    unfold num32
    rw [BitVec.toNat_and]
    have : (1#32).toNat = 1 := rfl
    rw [this, Nat.and_one_is_mod]
    omega
  rw [h1, lsb_mod]
  have := num32_range w
  by_cases c : num32 w % 2 = 1
  · rw [c, decide_eq_true rfl]; rfl
  · have c0 : num32 w % 2 = 0 := by omega
    rw [c0, decide_eq_false (by omega)]; rfl
theorem turn_code (w : W32) : Go.bits .xor .u32 (num32 w / 2) (Go.bits .and .u32 3988292384 ((-(Go.bits .and .u32 (num32 w) 1)) % 4294967296)) = num32 (turn w) := by
  rw [and_u32 (num32 w) 1, ofInt_num32, show BitVec.ofInt 32 1 = 1#32 from rfl, and_u32, mask, xor_u32, ofInt_num32, num32_div2, ofInt_num32, show BitVec.ofInt 32 3988292384 = poly from rfl]
  congr 1
  unfold turn
  congr 1
  by_cases c : w.getLsbD 0
  · rw [if_pos c, if_pos c, BitVec.and_allOnes]
  · rw [if_neg c, if_neg c, BitVec.and_zero]
theorem code_rounds (l : List Int) (n i : Int) (j : Nat) : ∀ (m : Nat) (w : W32), m + j = 8 → ∀ r, Ev (fun k => code_Crc.l0 k (num32 (turns m w)) l n (wrap64 (i + 1))) r → Ev (fun k => code_Crc.l1 k (num32 w) l n i (j : Int)) r := by
  intro m
  induction m generalizing j with
  | zero =>
    intro w hm r h
    refine Ev.step (fun k => ?_) h
    simp only [code_Crc.l1]
    rw [if_neg (by omega)]
    rfl
  | succ m ih =>
    intro w hm r h
    refine Ev.step (fun k => ?_) (show Ev (fun k => code_Crc.l1 k (num32 (turn w)) l n i ((j + 1 : Nat) : Int)) r from ih (j + 1) (turn w) (by omega) r h)
    simp only [code_Crc.l1]
    rw [if_pos (by omega), turn_code, wrap_in (by omega) (by omega)]
    rfl
theorem xor_byte (w : W32) (c : Int) (h0 : 0 ≤ c) (h1 : c < 256) : Go.bits .xor .u32 (num32 w) (c % 4294967296) = num32 (w ^^^ BitVec.ofInt 32 c) := by
  rw [xor_u32, ofInt_num32, show c % 4294967296 = c by omega]
theorem not_code (w : W32) : Go.bits .xor .u32 4294967295 (num32 w) = num32 (~~~ w) := by
  rw [xor_u32, ofInt_num32, show BitVec.ofInt 32 4294967295 = BitVec.allOnes 32 from rfl, BitVec.allOnes_xor]
theorem crc_loop (l : List Int) (hl : Byts l) (hb : l.length ≤ 140737488355328) (d : Nat) : ∀ (i : Nat) (w : W32), l.length - i = d → i ≤ l.length →
    Ev (fun k => code_Crc.l0 k (num32 w) l (l.length : Int) (i : Int)) (num32 (~~~ crcFrom w (l.drop i))) := by
  induction d with
  | zero =>
    intro i w hd hi
    rw [List.drop_eq_nil_of_le (by omega)]
    refine Ev.step (f := fun _ => some (num32 (~~~ w))) (fun k => ?_) (Ev.const rfl)
    simp only [code_Crc.l0]
    rw [if_neg (by omega), not_code]
  | succ d ih =>
    intro i w hd hi
    have hlt : i < l.length := by omega
    have hc := hl (l[i]) (List.getElem_mem _)
    rw [List.drop_eq_getElem_cons hlt]
    refine Ev.step (f := fun k => code_Crc.l1 k (num32 (w ^^^ BitVec.ofInt 32 (l[i]))) l (l.length : Int) (i : Int) ((0 : Nat) : Int)) (fun k => ?_) (code_rounds l _ _ 0 8 _ (by omega) _ ?_)
    · simp only [code_Crc.l0]
      rw [if_pos (by omega), if_pos (by omega), if_pos (by omega), rd_nat l i hlt, xor_byte _ _ hc.1 hc.2]
      rfl
    · have := ih (i + 1) (byteStep w (l[i])) (by omega) (by omega)
      rw [wrap_in (by omega) (by omega)]
      exact this
theorem crc_f {l : List Int} (hl : Byts l) (hb : l.length ≤ 140737488355328) : Ev (fun k => code_Crc.f k l) (crc l) := by
  unfold code_Crc.f
  exact crc_loop l hl hb l.length 0 (BitVec.allOnes 32) (by omega) (by omega)
theorem crc_range (l : List Int) : 0 ≤ crc l ∧ crc l < 4294967296 := num32_range _

theorem turn_xor (a b : W32) : turn (a ^^^ b) = turn a ^^^ turn b := by
  unfold turn
  rw [BitVec.ushiftRight_xor_distrib, BitVec.getLsbD_xor]
  generalize a >>> 1 = x
  generalize b >>> 1 = y
  generalize a.getLsbD 0 = p
  generalize b.getLsbD 0 = q
  apply BitVec.eq_of_getLsbD_eq
  intro i hi
  cases p <;> cases q <;> simp only [Bool.xor_false, Bool.xor_true, Bool.not_true, Bool.not_false, Bool.false_eq_true, if_true, if_false, BitVec.getLsbD_xor, BitVec.getLsbD_zero] <;> cases x.getLsbD i <;> cases y.getLsbD i <;> cases poly.getLsbD i <;> rfl
theorem turns_xor (n : Nat) : ∀ a b : W32, turns n (a ^^^ b) = turns n a ^^^ turns n b := by
  induction n with
  | zero => intro a b; rfl
  | succ n ih => intro a b; simp only [turns]; rw [turn_xor, ih]
theorem turn_zero {w : W32} (h : turn w = 0#32) : w = 0#32 := by
  unfold turn at h
  have hm : ((w >>> 1) ^^^ (if w.getLsbD 0 then poly else 0#32)).getLsbD 31 = false := by rw [h]; rfl
  rw [BitVec.getLsbD_xor, BitVec.getLsbD_ushiftRight] at hm
  have h32 : w.getLsbD (1 + 31) = false := BitVec.getLsbD_of_ge _ _ (by omega)
  rw [h32, Bool.false_xor] at hm
  have h0 : w.getLsbD 0 = false := by
    cases c : w.getLsbD 0 with
    | false => rfl
    | true => rw [c, if_pos rfl] at hm; exact absurd hm (by decide)
  rw [h0, if_neg (by simp), BitVec.xor_zero] at h
  apply BitVec.eq_of_getLsbD_eq
  intro i hi
  rw [BitVec.getLsbD_zero]
  cases i with
  | zero => exact h0
  | succ i =>
    have := congrArg (fun v : W32 => v.getLsbD i) h
    simp only [BitVec.getLsbD_ushiftRight, BitVec.getLsbD_zero] at this
    rw [Nat.add_comm] at this
    exact this
theorem turns_zero (n : Nat) : ∀ w : W32, turns n w = 0#32 → w = 0#32 := by
  induction n with
  | zero => intro w h; exact h
  | succ n ih => intro w h; exact turn_zero (ih _ h)
theorem xor_eq_zero {a b : W32} (h : a ^^^ b = 0#32) : a = b := by
  have := congrArg (· ^^^ b) h
  simpa [BitVec.xor_assoc] using this
theorem turns_inj (n : Nat) {a b : W32} (h : turns n a = turns n b) : a = b := by
  apply xor_eq_zero
  apply turns_zero n
  rw [turns_xor, h, BitVec.xor_self]
theorem byteStep_left {a b : W32} {c : Int} (h : byteStep a c = byteStep b c) : a = b := by
  have := turns_inj 8 h
  have h2 := congrArg (· ^^^ BitVec.ofInt 32 c) this
  simpa [BitVec.xor_assoc] using h2
theorem ofInt_byte {a b : Int} (ha : 0 ≤ a ∧ a < 256) (hb : 0 ≤ b ∧ b < 256) (h : BitVec.ofInt 32 a = BitVec.ofInt 32 b) : a = b := by
  have := congrArg BitVec.toInt h
  rw [BitVec.toInt_ofInt, BitVec.toInt_ofInt] at this
  rw [Int.bmod_eq_of_le (by simp; omega) (by simp; omega), Int.bmod_eq_of_le (by simp; omega) (by simp; omega)] at this
  exact this
theorem byteStep_right {w : W32} {a b : Int} (ha : 0 ≤ a ∧ a < 256) (hb : 0 ≤ b ∧ b < 256) (h : byteStep w a = byteStep w b) : a = b := by
  have h1 := turns_inj 8 h
  have h2 := congrArg (w ^^^ ·) h1
  simp only [← BitVec.xor_assoc, BitVec.xor_self, BitVec.zero_xor] at h2
  exact ofInt_byte ha hb h2
theorem crcFrom_inj : ∀ (l : List Int) {a b : W32}, crcFrom a l = crcFrom b l → a = b
  | [], _, _, h => h
  | c :: l, _, _, h => byteStep_left (crcFrom_inj l h)
theorem not_inj {a b : W32} (h : ~~~ a = ~~~ b) : a = b := by
  have := congrArg (~~~ ·) h
  simpa using this
theorem num32_inj {a b : W32} (h : num32 a = num32 b) : a = b := by
  rw [← ofInt_num32 a, h, ofInt_num32]
theorem crc_byte (x y : List Int) {a b : Int} (ha : 0 ≤ a ∧ a < 256) (hb : 0 ≤ b ∧ b < 256) (h : crc (x ++ a :: y) = crc (x ++ b :: y)) : a = b := by
  have h1 : crcFrom (BitVec.allOnes 32) (x ++ a :: y) = crcFrom (BitVec.allOnes 32) (x ++ b :: y) := not_inj (num32_inj h)
  unfold crcFrom at h1
  rw [List.foldl_append, List.foldl_append, List.foldl_cons, List.foldl_cons] at h1
  exact byteStep_right ha hb (crcFrom_inj y h1)
end Go.Proofs.Ytkebeiillddboaa.Sw

set_option linter.unusedVariables false
set_option linter.unusedSimpArgs false
namespace Go.Proofs.Ytkebeiillddboaa.Sw
open Go.RowKit Go.Proofs.Ytkebeiillddboaa.Px Go.Proofs.YtkebeiillddboaaW.PrintWords Go.Proofs.YtkebeiillddboaaW.PrintLast Go.Proofs.YtkebeiillddboaaW.PrintMore

theorem less_f {a b : List Int} (ha : Byts a) (hb : Byts b) : key_Less.f a b = some (less a b) := by
  unfold key_Less.f bytes_Compare.f
  rw [Option.bind_some, compare_less ha hb]
def has (l p : List Int) : Bool := decide (l.take p.length = p)
def trim : List Int → List Int
  | [] => []
  | c :: l => let t := trim l; if t = [] ∧ c = 255 then [] else c :: t
def bump : List Int → List Int
  | [] => []
  | [c] => [c + 1]
  | c :: d :: l => c :: bump (d :: l)
def next (l : List Int) : List Int := bump (trim l)
end Go.Proofs.Ytkebeiillddboaa.Sw

set_option linter.unusedVariables false
set_option linter.unusedSimpArgs false
namespace Go.Proofs.Ytkebeiillddboaa.Sw
open Go.RowKit Go.Proofs.Ytkebeiillddboaa.Px Go.Proofs.YtkebeiillddboaaW.PrintWords Go.Proofs.YtkebeiillddboaaW.PrintLast Go.Proofs.YtkebeiillddboaaW.PrintMore

end Go.Proofs.Ytkebeiillddboaa.Sw

set_option linter.unusedVariables false
set_option linter.unusedSimpArgs false
namespace Go.Proofs.Ytkebeiillddboaa.Sw
open Go.RowKit Go.Proofs.Ytkebeiillddboaa.Px Go.Proofs.YtkebeiillddboaaW.PrintWords Go.Proofs.YtkebeiillddboaaW.PrintLast Go.Proofs.YtkebeiillddboaaW.PrintMore

theorem rdE_nat (l : List S38) (i : Nat) (h : i < l.length) : rd_T38 l (i : Int) = l[i] := by
  unfold rd_T38
  rw [List.getD_eq_getElem?_getD]
  simp [h]
def okE (e : S38) : Bool := decide (1 ≤ e.f0.length ∧ e.f0.length ≤ 64 ∧ 0 ≤ e.f1 ∧ e.f1 ≤ 1099511627776 ∧ e.f3.length ≤ 1024 ∧ (e.f2 = true → e.f3.length = 0))
theorem okE_iff {e : S38} : okE e = true ↔ (1 ≤ e.f0.length ∧ e.f0.length ≤ 64 ∧ 0 ≤ e.f1 ∧ e.f1 ≤ 1099511627776 ∧ e.f3.length ≤ 1024 ∧ (e.f2 = true → e.f3.length = 0)) := by
  unfold okE
  exact decide_eq_true_iff
theorem skipCheck_f (e : S38) : skip_Check.f e.f0 e.f1 e.f2 e.f3 = some (if okE e = true then 0 else 1) := by
  unfold skip_Check.f
  by_cases h : okE e = true
  · have h2 := okE_iff.1 h
    obtain ⟨h3, h4, h5, h6, h7, h8⟩ := h2
    rw [if_pos h, if_pos (by omega), if_pos (by omega), if_pos (by omega), if_pos (by omega), if_pos (by omega)]
    by_cases g : e.f2 = true
    · rw [if_pos g, if_neg (by have := h8 g; omega)]
    · rw [if_neg g]
  · rw [if_neg h]
    have h2 : ¬ _ := fun x => h (okE_iff.2 x)
    repeat' split
    all_goals first
      | rfl
      | (exfalso; apply h2; refine ⟨by omega, by omega, by omega, by omega, by omega, fun g => ?_⟩; first | omega | (exfalso; simp_all))
def ahe (a b : S38) : Bool := less a.f0 b.f0 || (decide (a.f0 = b.f0) && decide (a.f1 > b.f1))
theorem ahead_f {a b : S38} (ha : Byts a.f0) (hb : Byts b.f0) : block_ahead.f a.f0 a.f1 a.f2 a.f3 b.f0 b.f1 b.f2 b.f3 = some (ahe a b) := by
  unfold block_ahead.f bytes_Equal.f ahe
  rw [less_f ha hb, Option.bind_some, str_eq ha hb, Option.bind_some]
  cases less a.f0 b.f0 <;> by_cases h : a.f0 = b.f0 <;> simp [h]
def rowOk : Option S38 → List S38 → Bool
  | _, [] => true
  | p, e :: r => (okE e && (match p with | none => true | some q => ahe q e)) && rowOk (some e) r
def chk (l : List S38) : Int := if 1 ≤ l.length ∧ l.length ≤ 8 ∧ rowOk none l = true then 0 else 1
theorem check_loop (l : List S38) (hw : ∀ e ∈ l, Byts e.f0) (hl : l.length ≤ 8) (d : Nat) : ∀ (i : Nat) (p : Option S38), l.length - i = d → i ≤ l.length → (i = 0 → p = none) → (0 < i → p = some (rd_T38 l ((i : Int) - 1))) →
    Ev (fun k => block_Check.l0 k l l (l.length : Int) (i : Int)) (if rowOk p (l.drop i) = true then 0 else 1) := by
  induction d with
  | zero =>
    intro i p hd hi h0 h1
    have hi : i = l.length := by omega
    subst hi
    refine Ev.step (fun k => block_Check.l0.eq_2 _ _ _ _ _) (Ev.neg (by omega) (Ev.const ?_))
    rw [List.drop_length]
    rfl
  | succ d ih =>
    intro i p hd hi h0 h1
    have hlt : i < l.length := by omega
    have hm : l[i] ∈ l := List.getElem_mem hlt
    have hwi := hw _ hm
    rw [List.drop_eq_getElem_cons hlt]
    refine Ev.step (fun k => block_Check.l0.eq_2 _ _ _ _ _) (Ev.pos (by omega) (Ev.pos (by omega) (Ev.pos (by omega) ?_)))
    rw [rdE_nat l i hlt]
    refine Ev.bindc (skipCheck_f l[i]) ?_
    have hn := ih (i + 1) (some l[i]) (by omega) (by omega) (by omega) (fun _ => by rw [show ((i + 1 : Nat) : Int) - 1 = (i : Int) by omega, rdE_nat l i hlt])
    unfold rowOk
    by_cases c : okE l[i] = true
    · rw [c]
      simp only [if_true, Bool.true_and]
      by_cases z : i = 0
      · subst z
        rw [h0 rfl]
        simp only [Bool.true_and]
        exact Ev.neg (by omega) (by rw [wrap_in (by omega) (by omega)]; exact hn)
      · have hp := h1 (by omega)
        have hj : i - 1 < l.length := by omega
        have e1 : (i : Int) - 1 = ((i - 1 : Nat) : Int) := by omega
        rw [hp]
        refine Ev.pos (by omega) ?_
        rw [wrap_in (by omega) (by omega), e1, rdE_nat l (i - 1) hj]
        refine Ev.pos (by omega) (Ev.pos (by omega) (Ev.bindc (ahead_f (hw _ (List.getElem_mem hj)) hwi) ?_))
        simp only
        by_cases ca : ahe l[i - 1] l[i] = true
        · refine Ev.pos ca ?_
          simp only [ca, Bool.true_and]
          rw [wrap_in (by omega) (by omega)]
          exact hn
        · refine Ev.neg ca (Ev.const ?_)
          simp [ca]
    · have c2 : okE l[i] = false := by simpa using c
      rw [c2]
      exact Ev.neg (by simp) (Ev.const (by simp))
theorem chk_f (l : List S38) (hw : ∀ e ∈ l, Byts e.f0) : Ev (fun k => block_Check.f k l) (chk l) := by
  unfold block_Check.f chk
  by_cases h1 : l.length < 1
  · refine Ev.pos (by omega) (Ev.step (fun k => block_Check.j0.eq_2 _ _ _) (Ev.pos rfl (Ev.const ?_)))
    rw [if_neg (by omega)]
  · refine Ev.neg (by omega) (Ev.step (fun k => block_Check.j0.eq_2 _ _ _) ?_)
    by_cases h8 : l.length > 8
    · refine Ev.pos (by simp; omega) (Ev.const ?_)
      rw [if_neg (by omega)]
    · refine Ev.neg (by simp; omega) ?_
      have := check_loop l hw (by omega) l.length 0 none (by omega) (by omega) (fun _ => rfl) (fun h => absurd h (by omega))
      rw [List.drop_zero] at this
      by_cases c : rowOk none l = true
      · rw [if_pos c] at this
        rw [if_pos ⟨by omega, by omega, c⟩]
        exact this
      · rw [if_neg c] at this
        rw [if_neg (fun x => c x.2.2)]
        exact this
def shr : List Int → List Int → Nat
  | a :: x, b :: y => if a = b then shr x y + 1 else 0
  | _, _ => 0
theorem shr_le : ∀ a b : List Int, shr a b ≤ a.length ∧ shr a b ≤ b.length
  | [], _ => ⟨Nat.zero_le _, Nat.zero_le _⟩
  | _ :: _, [] => ⟨Nat.zero_le _, Nat.zero_le _⟩
  | a :: x, b :: y => by
    unfold shr
    have := shr_le x y
    split
    · simp only [List.length_cons]; omega
    · exact ⟨Nat.zero_le _, Nat.zero_le _⟩
theorem shr_take : ∀ a b : List Int, a.take (shr a b) = b.take (shr a b)
  | [], b => by unfold shr; cases b <;> rfl
  | _ :: _, [] => rfl
  | a :: x, b :: y => by
    unfold shr
    split
    · rename_i h
      rw [List.take_succ_cons, List.take_succ_cons, shr_take x y, h]
    · rfl
theorem shared_loop (a b : List Int) (hl : a.length ≤ 140737488355328) (hl2 : b.length ≤ 140737488355328) (d : Nat) : ∀ i : Nat, a.length - i = d → i ≤ a.length → i ≤ b.length → Ev (fun k => block_shared.l0 k a b (i : Int)) ((i + shr (a.drop i) (b.drop i) : Nat) : Int) := by
  induction d with
  | zero =>
    intro i hd hi hi2
    have hi : i = a.length := by omega
    subst hi
    refine Ev.step (fun k => block_shared.l0.eq_2 _ _ _ _) (Ev.neg (by unfold mn; split <;> omega) (Ev.const ?_))
    rw [List.drop_length]
    cases b.drop a.length <;> simp [shr]
  | succ d ih =>
    intro i hd hi hi2
    have hlt : i < a.length := by omega
    refine Ev.step (fun k => block_shared.l0.eq_2 _ _ _ _) ?_
    by_cases c : i < b.length
    · refine Ev.pos (by unfold mn; split <;> omega) (Ev.pos (by omega) (Ev.pos (by omega) (Ev.pos (by omega) ?_)))
      rw [rd_nat a i hlt, rd_nat b i c, List.drop_eq_getElem_cons hlt, List.drop_eq_getElem_cons c]
      unfold shr
      by_cases e : a[i] = b[i]
      · rw [if_pos e]
        refine Ev.pos e ?_
        rw [wrap_in (by omega) (by omega)]
        have := ih (i + 1) (by omega) (by omega) (by omega)
        rw [show i + (shr (a.drop (i + 1)) (b.drop (i + 1)) + 1) = i + 1 + shr (a.drop (i + 1)) (b.drop (i + 1)) by omega]
        exact this
      · rw [if_neg e]
        exact Ev.neg e (Ev.const (by simp))
    · refine Ev.neg (by unfold mn; split <;> omega) (Ev.const ?_)
      rw [show b.drop i = [] from List.drop_eq_nil_of_le (by omega)]
      cases a.drop i <;> simp [shr]
theorem shared_f (a b : List Int) (hl : a.length ≤ 140737488355328) (hl2 : b.length ≤ 140737488355328) : Ev (fun k => block_shared.f k a b) (shr a b : Int) := by
  unfold block_shared.f
  have := shared_loop a b hl hl2 a.length 0 (by omega) (by omega) (by omega)
  simpa using this
end Go.Proofs.Ytkebeiillddboaa.Sw

set_option linter.unusedVariables false
set_option linter.unusedSimpArgs false
namespace Go.Proofs.Ytkebeiillddboaa.Sw
open Go.RowKit Go.Proofs.Ytkebeiillddboaa.Px Go.Proofs.YtkebeiillddboaaW.PrintWords Go.Proofs.YtkebeiillddboaaW.PrintLast Go.Proofs.YtkebeiillddboaaW.PrintMore

theorem str_size (l : List Int) : (strOfNums l).size = l.length := by
  simp [strOfNums, ByteArray.size]
theorem str_bytes {l : List Int} (h : Byts l) : bytesOf (strOfNums l) = l := by
  simp only [strOfNums, bytesOf]
  induction l with
  | nil => rfl
  | cons a r ih =>
    have h1 := h.head
    simp only [List.map_cons, List.cons.injEq]
    refine ⟨?_, by simpa using ih h.tail⟩
    rw [UInt8.toNat_ofNat']
    omega
def seqN (e : S38) : Nat := (2 * e.f1 + (if e.f2 = true then 1 else 0)).toNat
def ent (last : List Int) (e : S38) : List Int :=
  grp (shr last e.f0) ++ (grp (e.f0.drop (shr last e.f0)).length ++ e.f0.drop (shr last e.f0)) ++ grp (seqN e) ++ (grp e.f3.length ++ e.f3)
def bld : List Int → List S38 → List Int
  | _, [] => []
  | last, e :: r => ent last e ++ bld e.f0 r
def sum4 (l : List Int) : List Int := [(crc l / 16777216) % 256, (crc l / 65536) % 256, (crc l / 256) % 256, (crc l) % 256]
def blk (l : List S38) : List Int := (grp l.length ++ bld [] l) ++ sum4 (grp l.length ++ bld [] l)
theorem sum4_byts (l : List Int) : Byts (sum4 l) := by
  unfold sum4
  exact Byts.cons (by omega) (by omega) (Byts.cons (by omega) (by omega) (Byts.cons (by omega) (by omega) (Byts.cons (by omega) (by omega) Byts.nil)))
theorem seqN_le {e : S38} (h : okE e = true) : seqN e ≤ 4611686018427387903 := by
  have := okE_iff.1 h
  unfold seqN
  split <;> omega
theorem ent_byts {last : List Int} {e : S38} (h0 : Byts e.f0) (h3 : Byts e.f3) : Byts (ent last e) :=
  (((grp_byts _).append ((grp_byts _).append (h0.drop _))).append (grp_byts _)).append ((grp_byts _).append h3)
theorem ent_length {last : List Int} {e : S38} (h : okE e = true) : (ent last e).length ≤ 1200 := by
  have h1 := okE_iff.1 h
  have h2 := shr_le last e.f0
  have g1 := grp9 (n := shr last e.f0) (by omega)
  have g2 := grp9 (n := (e.f0.drop (shr last e.f0)).length) (by rw [List.length_drop]; omega)
  have g3 := grp9 (seqN_le h)
  have g4 := grp9 (n := e.f3.length) (by omega)
  unfold ent
  simp only [List.length_append, List.length_drop] at *
  omega
theorem summed_f {o : List Int} (ho : Byts o) (hl : o.length ≤ 100000) : Ev (fun k => block_summed.f k o) (o ++ sum4 o) := by
  unfold block_summed.f
  refine Ev.bind (crc_f ho (by omega)) (Ev.const ?_)
  rw [Option.bind_some, if_pos (by simp; omega)]
  rfl
def Fit (e : S38) : Prop := Byts e.f0 ∧ Byts e.f3 ∧ okE e = true
theorem seq_gone {e : S38} (h : okE e = true) (g : e.f2 = true) : wrap64 (wrap64 (2 * e.f1) + 1) = (seqN e : Int) := by
  have := okE_iff.1 h
  rw [wrap_in (n := 2 * e.f1) (by omega) (by omega), wrap_in (by omega) (by omega)]
  unfold seqN
  rw [if_pos g]
  omega
theorem seq_here {e : S38} (h : okE e = true) (g : ¬ e.f2 = true) : wrap64 (2 * e.f1) = (seqN e : Int) := by
  have := okE_iff.1 h
  rw [wrap_in (n := 2 * e.f1) (by omega) (by omega)]
  unfold seqN
  rw [if_neg g]
  omega
theorem laid_ent (acc last : List Int) (e : S38) (he : Fit e) (m : Int) (hm : m = (seqN e : Int)) :
    acc ++ grp (cap (shr last e.f0 : Int)) ++ grp (strOfNums (e.f0.drop (shr last e.f0 : Int).toNat)).size ++ bytesOf (strOfNums (e.f0.drop (shr last e.f0 : Int).toNat)) ++ grp (cap m) ++ grp (strOfNums e.f3).size ++ bytesOf (strOfNums e.f3) = acc ++ ent last e := by
  have h1 := okE_iff.1 he.2.2
  have h2 := shr_le last e.f0
  rw [str_size, str_size, str_bytes (he.1.drop _), str_bytes he.2.1, cap_of (by omega), hm, cap_of (seqN_le he.2.2)]
  unfold ent
  simp only [Int.toNat_natCast, List.append_assoc]
theorem build_loop (l : List S38) (hw : ∀ e ∈ l, Fit e) (hl : l.length ≤ 8) (d : Nat) : ∀ (i : Nat) (acc last : List Int), l.length - i = d → i ≤ l.length → last.length ≤ 64 → acc.length + d * 1200 ≤ 20000 → Byts acc →
    Ev (fun k => block_Build.l0 k acc last l (l.length : Int) (i : Int)) ((acc ++ bld last (l.drop i)) ++ sum4 (acc ++ bld last (l.drop i)), 0) := by
  induction d with
  | zero =>
    intro i acc last hd hi hla ha hb
    have hi : i = l.length := by omega
    subst hi
    refine Ev.step (fun k => block_Build.l0.eq_2 _ _ _ _ _ _) (Ev.neg (by omega) (Ev.bind (summed_f hb (by omega)) (Ev.const ?_)))
    rw [List.drop_length]
    simp [bld]
  | succ d ih =>
    intro i acc last hd hi hla ha hb
    have hlt : i < l.length := by omega
    have hm : l[i] ∈ l := List.getElem_mem hlt
    have he := hw _ hm
    have h1 := okE_iff.1 he.2.2
    have h2 := shr_le last l[i].f0
    have hel := ent_length (last := last) he.2.2
    have hn := ih (i + 1) (acc ++ ent last l[i]) l[i].f0 (by omega) (by omega) h1.2.1 (by rw [List.length_append]; omega) (hb.append (ent_byts he.1 he.2.1))
    rw [List.drop_eq_getElem_cons hlt, show bld last (l[i] :: l.drop (i + 1)) = ent last l[i] ++ bld l[i].f0 (l.drop (i + 1)) from rfl, ← List.append_assoc acc]
    have g1 := grp9 (n := cap (shr last l[i].f0 : Int)) (cap_le _)
    have g2 := grp9 (n := (strOfNums (l[i].f0.drop (shr last l[i].f0 : Int).toNat)).size) (by rw [str_size, List.length_drop]; omega)
    have b1 : (bytesOf (strOfNums (l[i].f0.drop (shr last l[i].f0 : Int).toNat))).length ≤ 64 := by rw [str_bytes (he.1.drop _), List.length_drop]; omega
    have s1 : (strOfNums (l[i].f0.drop (shr last l[i].f0 : Int).toNat)).size ≤ 64 := by rw [str_size, List.length_drop]; omega
    have s3 : (strOfNums l[i].f3).size ≤ 1024 := by rw [str_size]; omega
    refine Ev.step (fun k => block_Build.l0.eq_2 _ _ _ _ _ _) (Ev.pos (by omega) (Ev.pos (by omega) (Ev.pos (by omega) ?_)))
    rw [rdE_nat l i hlt]
    refine Ev.bind (shared_f last l[i].f0 (by omega) (by omega)) ?_
    by_cases g : l[i].f2 = true
    · have g3 := grp9 (n := cap (wrap64 (wrap64 (2 * l[i].f1) + 1))) (cap_le _)
      refine Ev.pos g (Ev.bind (putNum_f acc _ (by omega)) (Ev.pos (by omega) (Ev.pos (by omega) (Ev.bind (putText_f _ _ (by simp only [List.length_append]; omega)) (Ev.bind (putNum_f _ _ (by simp only [List.length_append]; omega)) (Ev.bind (putText_f _ _ (by simp only [List.length_append]; omega)) ?_))))))
      rw [laid_ent acc last l[i] he _ (seq_gone he.2.2 g), wrap_in (by omega) (by omega)]
      exact hn
    · have g3 := grp9 (n := cap (wrap64 (2 * l[i].f1))) (cap_le _)
      refine Ev.neg g (Ev.bind (putNum_f acc _ (by omega)) (Ev.pos (by omega) (Ev.pos (by omega) (Ev.bind (putText_f _ _ (by simp only [List.length_append]; omega)) (Ev.bind (putNum_f _ _ (by simp only [List.length_append]; omega)) (Ev.bind (putText_f _ _ (by simp only [List.length_append]; omega)) ?_))))))
      rw [laid_ent acc last l[i] he _ (seq_here he.2.2 g), wrap_in (by omega) (by omega)]
      exact hn
theorem rowOk_ok : ∀ (l : List S38) (p : Option S38), rowOk p l = true → ∀ e ∈ l, okE e = true
  | [], _, _, e, he => by cases he
  | a :: r, p, h, e, he => by
    unfold rowOk at h
    simp only [Bool.and_eq_true] at h
    rcases List.mem_cons.1 he with rfl | he
    · exact h.1.1
    · exact rowOk_ok r _ h.2 e he
def Good (e : S38) : Prop := Byts e.f0 ∧ Byts e.f3
theorem fit_of {l : List S38} (hw : ∀ e ∈ l, Good e) (h : chk l = 0) : (1 ≤ l.length ∧ l.length ≤ 8) ∧ ∀ e ∈ l, Fit e := by
  unfold chk at h
  split at h
  · rename_i c
    exact ⟨⟨c.1, c.2.1⟩, fun e he => ⟨(hw e he).1, (hw e he).2, rowOk_ok l none c.2.2 e he⟩⟩
  · exact absurd h (by decide)
theorem chk_or (l : List S38) : chk l = 0 ∨ chk l = 1 := by unfold chk; split <;> simp
def made (l : List S38) : List Int × Int := if chk l = 0 then (blk l, 0) else ([], 1)
theorem build_f {l : List S38} (hw : ∀ e ∈ l, Good e) : Ev (fun k => block_Build.f k l) (made l) := by
  unfold block_Build.f made
  refine Ev.bind (chk_f l (fun e he => (hw e he).1)) ?_
  by_cases c : chk l = 0
  · obtain ⟨⟨c1, c8⟩, hf⟩ := fit_of hw c
    rw [if_pos c]
    refine Ev.pos c (Ev.bind (putNum_f [] _ (by simp)) ?_)
    have g := grp9 (n := l.length) (by omega)
    have := build_loop l hf c8 l.length 0 (grp l.length) [] (by omega) (by omega) (by simp) (by omega) (grp_byts _)
    rw [List.drop_zero] at this
    rw [cap_of (by omega), List.nil_append]
    exact this
  · rw [if_neg c]
    refine Ev.neg c (Ev.const ?_)
    rcases chk_or l with h | h
    · exact absurd h c
    · rw [h]
theorem bld_byts : ∀ (l : List S38) (last : List Int), (∀ e ∈ l, Good e) → Byts (bld last l)
  | [], _, _ => Byts.nil
  | e :: r, last, h => (ent_byts (h e List.mem_cons_self).1 (h e List.mem_cons_self).2).append (bld_byts r e.f0 (fun x hx => h x (List.mem_cons_of_mem _ hx)))
theorem made_byts {l : List S38} (hw : ∀ e ∈ l, Good e) : Byts (made l).1 := by
  unfold made
  split
  · exact ((grp_byts _).append (bld_byts l [] hw)).append (sum4_byts _)
  · exact Byts.nil
theorem good_of_wf {l : List S38} (hw : ∀ e ∈ l, (∀ b ∈ e.f0, (Lit.int .u8 b).wf = true) ∧ (Lit.int .i64 e.f1).wf = true ∧ ∀ b ∈ e.f3, (Lit.int .u8 b).wf = true) : ∀ e ∈ l, Good e :=
  fun e he => ⟨byts_of_wf (hw e he).1, byts_of_wf (hw e he).2.2⟩
end Go.Proofs.Ytkebeiillddboaa.Sw

set_option linter.unusedVariables false
set_option linter.unusedSimpArgs false
namespace Go.Proofs.Ytkebeiillddboaa.Sw
open Go.RowKit Go.Proofs.Ytkebeiillddboaa.Px Go.Proofs.YtkebeiillddboaaW.PrintWords Go.Proofs.YtkebeiillddboaaW.PrintLast Go.Proofs.YtkebeiillddboaaW.PrintMore

theorem grp_inj {n m : Nat} {r s : List Int} (hn : n ≤ 4611686018427387903) (hm : m ≤ 4611686018427387903) (h : grp n ++ r = grp m ++ s) : n = m ∧ r = s := by
  have h1 := takeN_grp r hn
  rw [h, takeN_grp s hm] at h1
  simp only [Option.some.injEq, Prod.mk.injEq] at h1
  exact ⟨h1.1.symm, h1.2.symm⟩
theorem key_back (last key : List Int) : last.take (shr last key) ++ key.drop (shr last key) = key := by
  rw [shr_take, List.take_append_drop]
theorem ent_inj {last : List Int} {e e' : S38} {r r' : List Int} (he : okE e = true) (he' : okE e' = true) (h : ent last e ++ r = ent last e' ++ r') : e = e' ∧ r = r' := by
  have q := okE_iff.1 he
  have q' := okE_iff.1 he'
  have s1 := shr_le last e.f0
  have s2 := shr_le last e'.f0
  unfold ent at h
  simp only [List.append_assoc] at h
  obtain ⟨h1, h⟩ := grp_inj (by omega) (by omega) h
  obtain ⟨h2, h⟩ := grp_inj (by rw [List.length_drop]; omega) (by rw [List.length_drop]; omega) h
  obtain ⟨h3, h⟩ := List.append_inj h h2
  obtain ⟨h4, h⟩ := grp_inj (seqN_le he) (seqN_le he') h
  obtain ⟨h5, h⟩ := grp_inj (by omega) (by omega) h
  obtain ⟨h6, h⟩ := List.append_inj h h5
  refine ⟨?_, h⟩
  have k1 := key_back last e.f0
  have k2 := key_back last e'.f0
  rw [h3, h1, k2] at k1
  unfold seqN at h4
  have hf1 : e.f1 = e'.f1 ∧ e.f2 = e'.f2 := by
    cases g : e.f2 <;> cases g' : e'.f2 <;> simp [g, g'] at h4 ⊢ <;> omega
  cases e
  cases e'
  simp_all
theorem bld_inj : ∀ (l l' : List S38) (last r r' : List Int), l.length = l'.length → (∀ e ∈ l, okE e = true) → (∀ e ∈ l', okE e = true) → bld last l ++ r = bld last l' ++ r' → l = l' ∧ r = r'
  | [], [], _, _, _, _, _, _, h => ⟨rfl, by simpa [bld] using h⟩
  | [], _ :: _, _, _, _, hl, _, _, _ => by simp at hl
  | _ :: _, [], _, _, _, hl, _, _, _ => by simp at hl
  | e :: l, e' :: l', last, r, r', hl, ho, ho', h => by
    unfold bld at h
    simp only [List.append_assoc] at h
    obtain ⟨h1, h2⟩ := ent_inj (ho e List.mem_cons_self) (ho' e' List.mem_cons_self) h
    subst h1
    obtain ⟨h3, h4⟩ := bld_inj l l' e.f0 r r' (by simpa using hl) (fun x hx => ho x (List.mem_cons_of_mem _ hx)) (fun x hx => ho' x (List.mem_cons_of_mem _ hx)) h2
    exact ⟨by rw [h3], h4⟩
theorem chk_ok {l : List S38} (h : chk l = 0) : l.length ≤ 8 ∧ ∀ e ∈ l, okE e = true := by
  unfold chk at h
  split at h
  · rename_i c
    exact ⟨c.2.1, rowOk_ok l none c.2.2⟩
  · exact absurd h (by decide)
theorem blk_prefix {l m : List S38} {t : List Int} (hl : chk l = 0) (hm : chk m = 0) (h : blk m ++ t = blk l) : m = l ∧ t = [] := by
  obtain ⟨l8, lo⟩ := chk_ok hl
  obtain ⟨m8, mo⟩ := chk_ok hm
  unfold blk at h
  simp only [List.append_assoc] at h
  obtain ⟨h1, h⟩ := grp_inj (by omega) (by omega) h
  obtain ⟨h2, h3⟩ := bld_inj m l [] _ _ h1 mo lo h
  subst h2
  refine ⟨rfl, ?_⟩
  have h4 := congrArg List.length h3
  rw [List.length_append] at h4
  exact List.eq_nil_of_length_eq_zero (by omega)
theorem sum4_inj {x y : List Int} (h : sum4 x = sum4 y) : crc x = crc y := by
  have h1 := crc_range x
  have h2 := crc_range y
  unfold sum4 at h
  simp only [List.cons.injEq, and_true] at h
  omega
theorem set_split {p : List Int} {k : Nat} (hk : k < p.length) (v : Int) : p.set k v = p.take k ++ v :: p.drop (k + 1) := List.set_eq_take_append_cons_drop.trans (if_pos hk)
theorem split_at {p : List Int} {k : Nat} (hk : k < p.length) : p = p.take k ++ p[k] :: p.drop (k + 1) := by
  rw [← List.drop_eq_getElem_cons hk, List.take_append_drop]
theorem body_byts {l : List S38} (hg : ∀ e ∈ l, Good e) : Byts (grp l.length ++ bld [] l) := (grp_byts _).append (bld_byts l [] hg)
theorem blk_turned {l m : List S38} (hg : ∀ e ∈ l, Good e) {k : Nat} {v : Int} (hk : k < (blk l).length) (hv : 0 ≤ v ∧ v < 256) (hne : v ≠ (blk l)[k]) (h : blk m = (blk l).set k v) : False := by
  have hb := body_byts hg
  unfold blk at h hk hne
  obtain ⟨p, hp⟩ : ∃ p, p = grp l.length ++ bld [] l := ⟨_, rfl⟩
  obtain ⟨o, ho⟩ : ∃ o, o = grp m.length ++ bld [] m := ⟨_, rfl⟩
  simp only [← hp, ← ho] at h hk hne hb
  have h4 : ∀ x : List Int, (sum4 x).length = 4 := fun _ => rfl
  have hlen : o.length = p.length := by
    have := congrArg List.length h
    rw [List.length_set, List.length_append, List.length_append, h4, h4] at this
    omega
  by_cases c : k < p.length
  · rw [List.set_append_left _ _ c] at h
    obtain ⟨h1, h2⟩ := List.append_inj h (by rw [List.length_set]; exact hlen)
    have h3 := sum4_inj h2
    rw [h1, set_split c] at h3
    have h5 : crc (p.take k ++ v :: p.drop (k + 1)) = crc (p.take k ++ p[k] :: p.drop (k + 1)) := by rw [h3, ← split_at c]
    have h6 := crc_byte _ _ hv (hb _ (List.getElem_mem c)) h5
    apply hne
    rw [List.getElem_append_left c]
    exact h6
  · rw [List.set_append_right _ _ (by omega)] at h
    obtain ⟨h1, h2⟩ := List.append_inj h hlen
    rw [h1] at h2
    apply hne
    rw [List.length_append, h4] at hk
    rw [List.getElem_append_right (by omega)]
    have hj : k - p.length < (sum4 p).length := by rw [h4]; omega
    have h7 : ((sum4 p).set (k - p.length) v)[k - p.length]'(by rw [List.length_set]; exact hj) = v := List.getElem_set_self _
    rw [← h7]
    congr 1
    exact h2.symm
end Go.Proofs.Ytkebeiillddboaa.Sw

set_option linter.unusedVariables false
set_option linter.unusedSimpArgs false
namespace Go.Proofs.Ytkebeiillddboaa.Sw
open Go.RowKit Go.Proofs.Ytkebeiillddboaa.Px Go.Proofs.YtkebeiillddboaaW.PrintWords Go.Proofs.YtkebeiillddboaaW.PrintLast Go.Proofs.YtkebeiillddboaaW.PrintMore

theorem tri_ok {l : List Int} (hl : Byts l) : 0 ≤ (tri (takeN l)).1 ∧ Byts (tri (takeN l)).2.1 ∧ (tri (takeN l)).2.1.length ≤ l.length := by
  cases h : takeN l with
  | none => exact ⟨Int.le_refl _, Byts.nil, Nat.zero_le _⟩
  | some p =>
    obtain ⟨n, r⟩ := p
    have h2 := (takeN_back hl h).1
    rw [h2] at hl
    refine ⟨Int.natCast_nonneg _, hl.right, ?_⟩
    rw [h2, List.length_append]
    exact Nat.le_add_left _ _
theorem triT_ok {l : List Int} {a : Int} (ha : 0 ≤ a) (hl : Byts l) : Byts (triT (takeTx l a)).2.1 ∧ (triT (takeTx l a)).2.1.length ≤ l.length ∧ ((triT (takeTx l a)).1.size : Int) ≤ a := by
  have h0 := tri_ok hl
  unfold takeTx
  cases h : takeN l with
  | none => exact ⟨Byts.nil, Nat.zero_le _, ha⟩
  | some p =>
    obtain ⟨n, r⟩ := p
    rw [h] at h0
    have hr : Byts r := h0.2.1
    have hr2 : r.length ≤ l.length := h0.2.2
    rw [Option.bind_some]
    simp only
    split
    · exact ⟨Byts.nil, Nat.zero_le _, ha⟩
    · rename_i c
      split
      · exact ⟨Byts.nil, Nat.zero_le _, ha⟩
      · refine ⟨hr.drop _, ?_, ?_⟩
        · show (r.drop n).length ≤ l.length
          rw [List.length_drop]; omega
        · show ((strOfNums (r.take n)).size : Int) ≤ a
          rw [str_size, List.length_take]; omega
def entF (bs last : List Int) : Bool × List Int × Int × Bool × List Int × List Int × Bool :=
  if (tri (takeN bs)).1 ≤ (last.length : Int) then
    (true, last.take (tri (takeN bs)).1.toNat ++ bytesOf (triT (takeTx (tri (takeN bs)).2.1 64)).1, wrap64 (Int.tdiv (tri (takeN (triT (takeTx (tri (takeN bs)).2.1 64)).2.1)).1 2), (Int.tmod (tri (takeN (triT (takeTx (tri (takeN bs)).2.1 64)).2.1)).1 2 == 1),
      bytesOf (triT (takeTx (tri (takeN (triT (takeTx (tri (takeN bs)).2.1 64)).2.1)).2.1 1024)).1, (triT (takeTx (tri (takeN (triT (takeTx (tri (takeN bs)).2.1 64)).2.1)).2.1 1024)).2.1,
      ((((tri (takeN bs)).2.2 != 0) || (triT (takeTx (tri (takeN bs)).2.1 64)).2.2 != 0) || (tri (takeN (triT (takeTx (tri (takeN bs)).2.1 64)).2.1)).2.2 != 0) || (triT (takeTx (tri (takeN (triT (takeTx (tri (takeN bs)).2.1 64)).2.1)).2.1 1024)).2.2 != 0)
  else (false, [], 0, false, [], [], false)
theorem entry_f {bs last : List Int} (hb : Byts bs) (hl : Byts last) (hbl : bs.length < 140737488355328) (hll : last.length ≤ 10000) :
    Ev (fun k => block_entry.f k bs last) (entF bs last) ∧ ((entF bs last).1 = true → Byts (entF bs last).2.1 ∧ (entF bs last).2.1.length ≤ last.length + 64 ∧ Byts (entF bs last).2.2.2.2.1 ∧ Byts (entF bs last).2.2.2.2.2.1 ∧ (entF bs last).2.2.2.2.2.1.length ≤ bs.length) := by
  have o1 := tri_ok hb
  have o2 := triT_ok (a := 64) (by omega) o1.2.1
  have o3 := tri_ok o2.1
  have o4 := triT_ok (a := 1024) (by omega) o3.2.1
  have z2 := bytesOf_length (triT (takeTx (tri (takeN bs)).2.1 64)).1
  unfold entF
  by_cases c : (tri (takeN bs)).1 ≤ (last.length : Int)
  · rw [if_pos c]
    refine ⟨?_, fun _ => ⟨(hl.take _).append (bytesOf_byts _), ?_, bytesOf_byts _, o4.1, ?_⟩⟩
    · unfold block_entry.f
      refine Ev.bind (takeNum_f hb hbl) (Ev.pos c (Ev.pos o1.1 (Ev.bindc (a := last.take (tri (takeN bs)).1.toNat) ?_ ?_)))
      · unfold slices_Clone_byte_byte.f
        rw [if_pos (by rw [List.length_take]; omega)]
      · refine Ev.bind (takeText_f 64 o1.2.1 (by omega)) (Ev.pos ⟨by omega, by rw [List.length_take]; omega⟩ (Ev.bind (takeNum_f o2.1 (by omega)) (Ev.bind (takeText_f 1024 o3.2.1 (by omega)) (Ev.pos (by omega) (Ev.const rfl)))))
    · simp only [List.length_append, List.length_take]
      omega
    · simp only
      omega
  · rw [if_neg c]
    refine ⟨?_, fun h => by cases h⟩
    unfold block_entry.f
    exact Ev.bind (takeNum_f hb hbl) (Ev.neg c (Ev.const rfl))
def Fine (l : List Int) (r : List S38 × Int) : Prop := (∀ e ∈ r.1, Good e) ∧ ((r.2 = 2 ∧ r.1 = []) ∨ (r.2 = 0 ∧ made r.1 = (l, 0)))
theorem fine_no (l : List Int) : Fine l ([], 2) := ⟨(fun e he => by cases he), .inl ⟨rfl, rfl⟩⟩
theorem made_chk {m : List S38} {l : List Int} (h : made m = (l, 0)) : chk m = 0 ∧ blk m = l := by
  unfold made at h
  split at h
  · rename_i c
    exact ⟨c, (Prod.mk.injEq _ _ _ _ ▸ h).1⟩
  · simp at h
theorem fin_any {out : List S38} {bs l : List Int} {bad : Bool} (hg : ∀ e ∈ out, Good e) (hl : Byts l) : ∃ r, Ev (fun k => block_Parse.fin k out bs bad l) r ∧ Fine l r := by
  have hb := made_byts hg
  have hm := build_f hg
  have no : ∀ g : Nat → Option (List S38 × Int), Ev g ([], 2) → ∃ r, Ev g r ∧ Fine l r := fun g hgx => ⟨_, hgx, fine_no l⟩
  unfold block_Parse.fin
  by_cases c1 : bad = false
  · by_cases c2 : (made out).2 = 0
    · by_cases c3 : bs.length = 4
      · have he : bytes_Equal.f (made out).1 l = some (decide ((made out).1 = l)) := by unfold bytes_Equal.f; rw [str_eq hb hl]
        by_cases c4 : (made out).1 = l
        · refine ⟨(out, 0), Ev.bind hm (Ev.pos c1 (Ev.pos c2 (Ev.pos c3 (Ev.bindc he (Ev.pos (by simp [c4]) (Ev.const rfl)))))), hg, .inr ⟨rfl, ?_⟩⟩
          rw [← c4, ← c2]
        · exact no _ (Ev.bind hm (Ev.pos c1 (Ev.pos c2 (Ev.pos c3 (Ev.bindc he (Ev.neg (by simp [c4]) (Ev.const rfl)))))))
      · exact no _ (Ev.bind hm (Ev.pos c1 (Ev.pos c2 (Ev.neg c3 (Ev.const rfl)))))
    · exact no _ (Ev.bind hm (Ev.pos c1 (Ev.neg c2 (Ev.const rfl))))
  · exact no _ (Ev.bind hm (Ev.neg c1 (Ev.const rfl)))
theorem run_any (l : List Int) (hl : Byts l) (n : Int) (d : Nat) : ∀ (out : List S38) (last bs : List Int) (bad : Bool), 9 - out.length = d → (∀ e ∈ out, Good e) → Byts last → Byts bs → last.length ≤ 64 * out.length → bs.length < 140737488355328 →
    ∃ r, Ev (fun k => block_Parse.l0 k out last n bs bad l) r ∧ Fine l r := by
  have dofin : ∀ (out : List S38) (last bs : List Int) (bad : Bool), (∀ e ∈ out, Good e) → ¬ (0 < n ∧ n ≤ 8 ∧ (out.length : Int) < n ∧ bad = false) → ∃ r, Ev (fun k => block_Parse.l0 k out last n bs bad l) r ∧ Fine l r := by
    intro out last bs bad hg hc
    obtain ⟨r, h1, h2⟩ := fin_any (bs := bs) (bad := bad) hg hl
    refine ⟨r, Ev.step (fun k => block_Parse.l0.eq_2 _ _ _ _ _ _ _) ?_, h2⟩
    by_cases c1 : 0 < n
    · by_cases c2 : n ≤ 8
      · by_cases c3 : (out.length : Int) < n
        · exact Ev.pos c1 (Ev.pos c2 (Ev.pos c3 (Ev.neg (fun c4 => hc ⟨c1, c2, c3, c4⟩) h1)))
        · exact Ev.pos c1 (Ev.pos c2 (Ev.neg c3 h1))
      · exact Ev.pos c1 (Ev.neg c2 h1)
    · exact Ev.neg c1 h1
  induction d with
  | zero =>
    intro out last bs bad hd hg _ _ _ _
    exact dofin out last bs bad hg (fun c => by omega)
  | succ d ih =>
    intro out last bs bad hd hg hla hbs hll hbl
    by_cases c : 0 < n ∧ n ≤ 8 ∧ (out.length : Int) < n ∧ bad = false
    · obtain ⟨he, hk⟩ := entry_f hbs hla hbl (by omega)
      by_cases t : (entF bs last).1 = true
      · obtain ⟨k1, k2, k3, k4, k5⟩ := hk t
        obtain ⟨r, h1, h2⟩ := ih (out ++ [(⟨(entF bs last).2.1, (entF bs last).2.2.1, (entF bs last).2.2.2.1, (entF bs last).2.2.2.2.1⟩ : S38)]) (entF bs last).2.1 (entF bs last).2.2.2.2.2.1 (bad || (entF bs last).2.2.2.2.2.2)
          (by simp; omega) (fun e hm => by
            rcases List.mem_append.1 hm with hm | hm
            · exact hg e hm
            · rw [List.mem_singleton] at hm
              subst hm
              exact ⟨k1, k3⟩) k1 k4 (by simp; omega) (by omega)
        exact ⟨r, Ev.step (fun k => block_Parse.l0.eq_2 _ _ _ _ _ _ _) (Ev.pos c.1 (Ev.pos c.2.1 (Ev.pos c.2.2.1 (Ev.pos c.2.2.2 (Ev.bind he (Ev.pos t h1)))))), h2⟩
      · exact ⟨_, Ev.step (fun k => block_Parse.l0.eq_2 _ _ _ _ _ _ _) (Ev.pos c.1 (Ev.pos c.2.1 (Ev.pos c.2.2.1 (Ev.pos c.2.2.2 (Ev.bind he (Ev.neg t (Ev.const rfl))))))), fine_no l⟩
    · exact dofin out last bs bad hg c
theorem parse_any {l : List Int} (hl : Byts l) (hb : l.length < 140737488355328) : ∃ r, Ev (fun k => block_Parse.f k l) r ∧ Fine l r := by
  have o := tri_ok hl
  obtain ⟨r, h1, h2⟩ := run_any l hl (tri (takeN l)).1 9 [] [] (tri (takeN l)).2.1 ((tri (takeN l)).2.2 != 0) rfl (fun e he => by cases he) Byts.nil o.2.1 (by simp) (by omega)
  exact ⟨r, Ev.bind (takeNum_f hl hb) h1, h2⟩
end Go.Proofs.Ytkebeiillddboaa.Sw

set_option linter.unusedVariables false
namespace Go.Proofs.Ytkebeiillddboaa.Pure
open Go.RowKit Go.Proofs.Ytkebeiillddboaa.Px Go.Proofs.Ytkebeiillddboaa.Sw Go.Proofs.YtkebeiillddboaaW.PrintWords Go.Proofs.YtkebeiillddboaaW.PrintLast
theorem awake_f : Ev (fun k => sawyerlaw08_awake.f k) true := Ev.of sawyerlaw08_awake.mono (k := 400) (by kernel_rfl)
theorem and_mask (x : Int) (j : Nat) (hj : j ≤ 30) : 0 ≤ Go.bits .and .i64 x ((2 ^ j - 1 : Nat) : Int) ∧ Go.bits .and .i64 x ((2 ^ j - 1 : Nat) : Int) < 2 ^ j := by
  have h2 : (2 : Nat) ^ j ≤ 2 ^ 30 := Nat.pow_le_pow_right (by omega) hj
  have h0 : 0 < (2 : Nat) ^ j := Nat.pow_pos (by omega)
  have e : ∃ n : Nat, n < 2 ^ j ∧ Go.bits .and .i64 x ((2 ^ j - 1 : Nat) : Int) = (n : Int) := by
    refine ⟨((BitVec.ofInt 64 x) &&& (BitVec.ofInt 64 ((2 ^ j - 1 : Nat) : Int))).toNat, ?_, ?_⟩
    · rw [BitVec.ofInt_natCast, BitVec.toNat_and, BitVec.toNat_ofNat, Nat.mod_eq_of_lt (by omega), Nat.and_two_pow_sub_one_eq_mod]
      exact Nat.mod_lt _ h0
    · have hlt : ((BitVec.ofInt 64 x) &&& (BitVec.ofInt 64 ((2 ^ j - 1 : Nat) : Int))).toNat < 2 ^ j := by
        rw [BitVec.ofInt_natCast, BitVec.toNat_and, BitVec.toNat_ofNat, Nat.mod_eq_of_lt (by omega), Nat.and_two_pow_sub_one_eq_mod]
        exact Nat.mod_lt _ h0
      show IntKind.i64.wrap ((((BitVec.ofInt 64 x) &&& (BitVec.ofInt 64 ((2 ^ j - 1 : Nat) : Int))).toNat : Nat) : Int) = _
      revert hlt
      generalize ((BitVec.ofInt 64 x) &&& (BitVec.ofInt 64 ((2 ^ j - 1 : Nat) : Int))).toNat = n
      intro hlt
      simp only [IntKind.wrap, IntKind.bits, IntKind.signed]
      simp
      omega
  obtain ⟨n, hn, e⟩ := e
  rw [e]
  have : ((2 ^ j : Nat) : Int) = (2 : Int) ^ j := by simp
  omega
theorem xor_u8 (x y : Int) : Go.bits .xor .u8 x y = (((BitVec.ofInt 8 x ^^^ BitVec.ofInt 8 y).toNat : Nat) : Int) := by
  show IntKind.u8.wrap ((((BitVec.ofInt 8 x) ^^^ (BitVec.ofInt 8 y)).toNat : Nat) : Int) = _
  have hlt := ((BitVec.ofInt 8 x) ^^^ (BitVec.ofInt 8 y)).isLt
  revert hlt
  generalize ((BitVec.ofInt 8 x) ^^^ (BitVec.ofInt 8 y)).toNat = n
  intro hlt
  simp only [IntKind.wrap, IntKind.bits, IntKind.signed]
  simp
  omega
theorem byte_nat {x : Int} (h0 : 0 ≤ x) (h1 : x < 256) : ((BitVec.ofInt 8 x).toNat : Int) = x := by
  rw [BitVec.toNat_ofInt]
  omega
theorem turn_byte {x y : Int} (hx : 0 ≤ x ∧ x < 256) (hy : 0 ≤ y ∧ y < 256) (hne : y ≠ 0) : Go.bits .xor .u8 x y ≠ x ∧ 0 ≤ Go.bits .xor .u8 x y ∧ Go.bits .xor .u8 x y < 256 := by
  rw [xor_u8]
  have hlt := ((BitVec.ofInt 8 x) ^^^ (BitVec.ofInt 8 y)).isLt
  refine ⟨fun h => ?_, by omega, by omega⟩
  have h2 : (BitVec.ofInt 8 x ^^^ BitVec.ofInt 8 y) = BitVec.ofInt 8 x := by
    apply BitVec.eq_of_toNat_eq
    have := byte_nat hx.1 hx.2
    omega
  have h3 : BitVec.ofInt 8 x ^^^ (BitVec.ofInt 8 x ^^^ BitVec.ofInt 8 y) = BitVec.ofInt 8 x ^^^ BitVec.ofInt 8 x := by rw [h2]
  rw [← BitVec.xor_assoc, BitVec.xor_self, BitVec.zero_xor] at h3
  have h4 := byte_nat hy.1 hy.2
  rw [h3] at h4
  simp at h4
  omega
theorem no_parse {l : List S38} (hg : ∀ e ∈ l, Sw.Good e) {b : List Int} (hb : Byts b) (hl : b.length < 140737488355328) (h : ∀ m : List S38, chk m = 0 → blk m = b → False) : ∃ m, Ev (fun k => block_Parse.f k b) (m, 2) := by
  obtain ⟨r, hr, hf⟩ := parse_any hb hl
  rcases hf.2 with ⟨h2, h3⟩ | ⟨h2, h3⟩
  · exact ⟨r.1, by rw [← h2]; exact hr⟩
  · have := made_chk h3
    exact (h r.1 this.1 this.2).elim
theorem blk_short {l : List S38} (hg : ∀ e ∈ l, Sw.Good e) (c0 : chk l = 0) : 4 ≤ (blk l).length ∧ (blk l).length ≤ 100000 := by
  obtain ⟨⟨h1, h8⟩, hw⟩ := fit_of hg c0
  have hrl : ∀ (m : List S38) (la : List Int), (∀ e ∈ m, Fit e) → (bld la m).length ≤ 1200 * m.length := by
    intro m
    induction m with
    | nil => intro la _; exact Nat.le_refl _
    | cons a r ihm =>
      intro la hf
      have h3 := ent_length (last := la) (hf a List.mem_cons_self).2.2
      have h4 := ihm a.f0 (fun e hx => hf e (List.mem_cons_of_mem _ hx))
      show (ent la a ++ bld a.f0 r).length ≤ _
      rw [List.length_append, List.length_cons]
      omega
  have h5 := hrl l [] hw
  have g := grp9 (n := l.length) (by omega)
  have h7 : (sum4 (grp l.length ++ bld [] l)).length = 4 := rfl
  unfold blk
  simp only [List.length_append] at *
  omega
theorem BlockTurned (l : List S38) (at_ : Int) (y : Int) (hw : ∀ e ∈ l, (∀ b ∈ e.f0, (Lit.int .u8 b).wf = true) ∧ (Lit.int .i64 e.f1).wf = true ∧ ∀ b ∈ e.f3, (Lit.int .u8 b).wf = true) (w1 : (Lit.int .i64 at_).wf = true) (w2 : (Lit.int .u8 y).wf = true) : ∃ k, sawyerlaw08_BlockTurned.f k l at_ y = some true := by
  have hg := good_of_wf hw
  have hy := u8_of_wf w2
  refine Ev.rounds (r := true) ?_
  unfold sawyerlaw08_BlockTurned.f
  refine Ev.bind awake_f (Ev.bind (build_f hg) ?_)
  by_cases c : chk l = 0
  · have hm : made l = (blk l, 0) := by unfold made; rw [if_pos c]
    have hs := blk_short hg c
    rw [hm]
    refine Ev.pos rfl ?_
    by_cases y0 : y = 0
    · exact Ev.pos y0 (Ev.step (fun k => sawyerlaw08_BlockTurned.j0.eq_2 _ _ _ _ _ _ _) (Ev.pos rfl (Ev.pos rfl (Ev.neg (by simp) (Ev.const (by simp [y0]))))))
    · refine Ev.neg y0 (Ev.step (fun k => sawyerlaw08_BlockTurned.j0.eq_2 _ _ _ _ _ _ _) (Ev.neg (by simp; intro h; rw [h] at hs; simp at hs) ?_))
      have hbb : Byts (blk l) := (body_byts hg).append (sum4_byts _)
      obtain ⟨F, hF⟩ : ∃ F, F = blk l := ⟨_, rfl⟩
      rw [← hF] at hs hbb
      have hm0 : 0 ≤ Int.tmod (Go.bits .and .i64 at_ 1048575) (F.length : Int) := Int.tmod_nonneg _ (and_mask at_ 20 (by omega)).1
      have hm1 : Int.tmod (Go.bits .and .i64 at_ 1048575) (F.length : Int) < (F.length : Int) := Int.tmod_lt_of_pos _ (by omega)
      dsimp only
      rw [← hF]
      generalize Int.tmod (Go.bits .and .i64 at_ 1048575) (F.length : Int) = m at hm0 hm1 ⊢
      obtain ⟨i, rfl⟩ : ∃ i : Nat, m = (i : Int) := ⟨m.toNat, by omega⟩
      have hi : i < F.length := by omega
      have hv := turn_byte (hbb _ (List.getElem_mem hi)) hy y0
      obtain ⟨m1, p1⟩ := no_parse hg (b := F.take i) (hbb.take _) (by rw [List.length_take]; omega) (fun m cm hb => by
        have h1 : blk m ++ F.drop i = blk l := by rw [hb, List.take_append_drop, hF]
        have h2 := congrArg List.length (blk_prefix c cm h1).2
        rw [List.length_drop] at h2
        simp at h2
        omega)
      obtain ⟨m2, p2⟩ := no_parse hg (b := F ++ [y]) (hbb.append (Byts.one hy.1 hy.2)) (by rw [List.length_append]; simp; omega) (fun m cm hb => by
        have h1 : blk l ++ [y] = blk m := by rw [hb, hF]
        have h2 := (blk_prefix cm c h1).2
        cases h2)
      obtain ⟨m3, p3⟩ := no_parse hg (b := F.set i (Go.bits .xor .u8 (F[i]) y)) (hbb.set i hv.2.1 hv.2.2) (by rw [List.length_set]; omega) (fun m cm hb => by
        subst hF
        exact blk_turned hg hi hv.2 hv.1 hb)
      refine Ev.neg (show ¬ (F.length : Int) = 0 by omega) (Ev.pos (by omega) (Ev.pos (by omega) ?_))
      rw [Int.toNat_natCast, rd_nat F i hi]
      refine Ev.bind p1 (Ev.bindc (a := []) rfl (Ev.pos (by simp; omega) (Ev.bindc (a := F) rfl ?_)))
      refine Ev.pos (by omega) (Ev.bind p2 (Ev.pos (by omega) (Ev.bind p3 (Ev.pos rfl (Ev.pos rfl (Ev.pos rfl (Ev.const rfl)))))))
  · have hm : made l = ([], 1) := by unfold made; rw [if_neg c]
    rw [hm]
    exact Ev.neg (by simp) (Ev.step (fun k => sawyerlaw08_BlockTurned.j0.eq_2 _ _ _ _ _ _ _) (Ev.pos rfl (Ev.pos rfl (Ev.pos rfl (Ev.const rfl)))))
end Go.Proofs.Ytkebeiillddboaa.Pure
