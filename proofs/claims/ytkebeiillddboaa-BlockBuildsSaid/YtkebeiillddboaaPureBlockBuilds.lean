/- What the statement BlockBuilds needs: our texts Core, SpecA, SpecB, SpecU, SpecTake, SpecText, SpecCrc, SpecKey, SpecKeyR, SpecBlk, SpecBld, PureBlockBuilds as one. -/
import Derived.Test.YtkebeiillddboaaVWGuardMoreInvWords
import Derived.Lib.Bytealg
import Derived.Lib.Bytes
import Derived.KernelRfl
import Derived.Test.YtkebeiillddboaaPx0
import Derived.Test.YtkebeiillddboaaPx1
import Derived.Test.YtkebeiillddboaaPx2
import Derived.Test.YtkebeiillddboaaPx3
import Derived.Test.YtkebeiillddboaaPx4
import Derived.Test.YtkebeiillddboaaPx5
import Derived.Test.YtkebeiillddboaaPx6
import Derived.Test.YtkebeiillddboaaPx7
import Derived.Test.YtkebeiillddboaaPx8
import Derived.Test.YtkebeiillddboaaPx9
import Derived.Test.YtkebeiillddboaaPx10
import Derived.Test.YtkebeiillddboaaPx11
import Derived.Test.YtkebeiillddboaaPx12
import Derived.Test.YtkebeiillddboaaPx13
import Derived.Test.YtkebeiillddboaaPx14
import Derived.Test.YtkebeiillddboaaPx15
import Derived.Test.YtkebeiillddboaaPx19
import Derived.Test.YtkebeiillddboaaPx20
import Derived.Test.YtkebeiillddboaaPx21
import Derived.Test.YtkebeiillddboaaPx22
import Derived.Test.YtkebeiillddboaaPx23
import Derived.Test.YtkebeiillddboaaPx24
import Derived.Test.YtkebeiillddboaaPx25
import Derived.Test.YtkebeiillddboaaPx26
import Derived.Test.YtkebeiillddboaaPx27
import Derived.Test.YtkebeiillddboaaPx28
import Derived.Test.YtkebeiillddboaaPx29
import Derived.Test.YtkebeiillddboaaPx30
import Derived.Test.YtkebeiillddboaaPx31
import Derived.Test.YtkebeiillddboaaPx32
set_option linter.unusedVariables false
set_option linter.unusedSimpArgs false
namespace Go.Proofs.Ytkebeiillddboaa.Sw
open Go.RowKit Go.Proofs.YtkebeiillddboaaW.PrintWords Go.Proofs.YtkebeiillddboaaW.PrintMore

def Byts (l : List Int) : Prop := ∀ x ∈ l, 0 ≤ x ∧ x < 256
theorem Byts.nil : Byts [] := fun x hx => by cases hx
theorem Byts.cons {a : Int} {l : List Int} (h0 : 0 ≤ a) (h1 : a < 256) (h : Byts l) : Byts (a :: l) := by
  intro x hx
  rcases List.mem_cons.1 hx with rfl | hx
  · exact ⟨h0, h1⟩
  · exact h x hx
theorem Byts.head {a : Int} {l : List Int} (h : Byts (a :: l)) : 0 ≤ a ∧ a < 256 := h a List.mem_cons_self
theorem Byts.tail {a : Int} {l : List Int} (h : Byts (a :: l)) : Byts l := fun x hx => h x (List.mem_cons_of_mem _ hx)
theorem Byts.append {a b : List Int} (ha : Byts a) (hb : Byts b) : Byts (a ++ b) := by
  intro x hx
  rcases List.mem_append.1 hx with hx | hx
  · exact ha x hx
  · exact hb x hx
theorem Byts.left {a b : List Int} (h : Byts (a ++ b)) : Byts a := fun x hx => h x (List.mem_append_left _ hx)
theorem Byts.take {a : List Int} (h : Byts a) (n : Nat) : Byts (a.take n) := fun x hx => h x (List.mem_of_mem_take hx)
theorem Byts.drop {a : List Int} (h : Byts a) (n : Nat) : Byts (a.drop n) := fun x hx => h x (List.mem_of_mem_drop hx)
theorem Byts.one {a : Int} (h0 : 0 ≤ a) (h1 : a < 256) : Byts [a] := Byts.cons h0 h1 Byts.nil
theorem byts_of_wf {l : List Int} (h : ∀ x ∈ l, (Lit.int .u8 x).wf = true) : Byts l := by
  intro x hx
  have := h x hx
  simp only [Lit.wf, IntKind.min, IntKind.max, IntKind.signed, IntKind.bits, Bool.and_eq_true, decide_eq_true_eq] at this
  simp at this
  omega
def less : List Int → List Int → Bool
  | _, [] => false
  | [], _ :: _ => true
  | a :: x, b :: y => if a < b then true else if b < a then false else less x y
theorem u8_lt {a b : Int} (ha : 0 ≤ a ∧ a < 256) (hb : 0 ≤ b ∧ b < 256) : (UInt8.ofNat a.toNat < UInt8.ofNat b.toNat) ↔ a < b := by
  rw [UInt8.lt_iff_toNat_lt]
  simp only [UInt8.toNat_ofNat']
  omega
theorem u8_eq {a b : Int} (ha : 0 ≤ a ∧ a < 256) (hb : 0 ≤ b ∧ b < 256) : (UInt8.ofNat a.toNat = UInt8.ofNat b.toNat) ↔ a = b := by
  rw [← UInt8.toNat_inj]
  simp only [UInt8.toNat_ofNat']
  omega
theorem bytesOf_cons (a : Int) (l : List Int) : Lib.bytesOf (a :: l) = UInt8.ofNat a.toNat :: Lib.bytesOf l := rfl
theorem compare_less : ∀ {a b : List Int}, Byts a → Byts b → decide (Lib.compareBytes (Lib.bytesOf a) (Lib.bytesOf b) < 0) = less a b
  | [], [], _, _ => by simp [Lib.bytesOf, Lib.compareBytes, less]
  | [], _ :: _, _, _ => by simp [Lib.bytesOf, Lib.compareBytes, less]
  | _ :: _, [], _, _ => by simp [Lib.bytesOf, Lib.compareBytes, less]
  | a :: x, b :: y, ha, hb => by
    have ih := compare_less ha.tail hb.tail
    have h1 := u8_lt ha.head hb.head
    have h2 := u8_lt hb.head ha.head
    rw [bytesOf_cons, bytesOf_cons]
    unfold Lib.compareBytes less
    by_cases c : a < b
    · rw [if_pos (h1.2 c), if_pos c]; rfl
    · rw [if_neg (fun h => c (h1.1 h)), if_neg c]
      by_cases c2 : b < a
      · rw [if_pos (h2.2 c2), if_pos c2]; rfl
      · rw [if_neg (fun h => c2 (h2.1 h)), if_neg c2]; exact ih
theorem bytesOf_inj : ∀ {a b : List Int}, Byts a → Byts b → (Lib.bytesOf a = Lib.bytesOf b ↔ a = b)
  | [], [], _, _ => by simp
  | [], _ :: _, _, _ => by simp [Lib.bytesOf]
  | _ :: _, [], _, _ => by simp [Lib.bytesOf]
  | a :: x, b :: y, ha, hb => by
    have ih := bytesOf_inj ha.tail hb.tail
    have h3 := u8_eq ha.head hb.head
    rw [bytesOf_cons, bytesOf_cons, List.cons.injEq, List.cons.injEq, h3, ih]
theorem str_eq {a b : List Int} (ha : Byts a) (hb : Byts b) : ((strOfNums a).toList == (strOfNums b).toList) = decide (a = b) := by
  rw [Lib.strOfNums_toList, Lib.strOfNums_toList]
  by_cases c : a = b
  · subst c; simp
  · rw [decide_eq_false c, beq_eq_false_iff_ne]
    exact fun h => c ((bytesOf_inj ha hb).1 h)
theorem less_irrefl : ∀ a : List Int, less a a = false
  | [] => rfl
  | a :: x => by
    unfold less
    rw [if_neg (by omega), if_neg (by omega)]
    exact less_irrefl x
theorem wrap_in {n : Int} (h0 : -9223372036854775808 ≤ n) (h1 : n ≤ 9223372036854775807) : wrap64 n = n := by unfold wrap64; omega
theorem rd_nat (l : List Int) (i : Nat) (h : i < l.length) : rd l (i : Int) = l[i] := by
  unfold rd
  rw [Int.toNat_natCast, List.getD_eq_getElem?_getD, List.getElem?_eq_getElem h]
  rfl
end Go.Proofs.Ytkebeiillddboaa.Sw

set_option linter.unusedVariables false
set_option linter.unusedSimpArgs false
namespace Go.Proofs.Ytkebeiillddboaa.Sw
open Go.RowKit Go.Proofs.Ytkebeiillddboaa.Px Go.Proofs.YtkebeiillddboaaW.PrintWords Go.Proofs.YtkebeiillddboaaW.PrintLast Go.Proofs.YtkebeiillddboaaW.PrintMore

theorem Ev.pos {α : Type} {g f : Nat → Option α} {c : Prop} [Decidable c] {r : α} (hc : c) (h : Ev g r) : Ev (fun k => if c then g k else f k) r := by
  simp only [if_pos hc]; exact h
theorem Ev.neg {α : Type} {g f : Nat → Option α} {c : Prop} [Decidable c] {r : α} (hc : ¬ c) (h : Ev f r) : Ev (fun k => if c then g k else f k) r := by
  simp only [if_neg hc]; exact h
theorem Ev.bindc {α β : Type} {o : Option α} {f : Nat → α → Option β} {a : α} {r : β} (h : o = some a) (k : Ev (fun n => f n a) r) : Ev (fun n => o.bind (f n)) r := by
  subst h; exact k
theorem Ev.const {α : Type} {o : Option α} {r : α} (h : o = some r) : Ev (fun _ => o) r := ⟨0, fun _ _ => h⟩

def val : List Int → Int → Int
  | [], a => a
  | c :: l, a => val l (a * 256 + c)
theorem laid_f {a b : List Int} (h : a.length + b.length < 140737488355328) : code_laid_byte.f a b = some (a ++ b) := by
  unfold code_laid_byte.f slices_Clone_byte_byte.f
  rw [if_pos (by omega), Option.bind_some, if_pos h]
def grp (n : Nat) : List Int := if n < 128 then [(n : Int)] else ((n % 128 + 128 : Nat) : Int) :: grp (n / 128)
termination_by n
theorem grp_lo {n : Nat} (h : n < 128) : grp n = [(n : Int)] := by rw [grp, if_pos h]
theorem grp_hi {n : Nat} (h : ¬ n < 128) : grp n = ((n % 128 + 128 : Nat) : Int) :: grp (n / 128) := by rw [grp, if_neg h]
theorem grp_byts (n : Nat) : Byts (grp n) := by
  induction n using Nat.strongRecOn with
  | ind n ih =>
    by_cases h : n < 128
    · rw [grp_lo h]; exact Byts.one (by omega) (by omega)
    · rw [grp_hi h]; exact Byts.cons (by omega) (by omega) (ih _ (by omega))
theorem grp_length_le (k : Nat) : ∀ n : Nat, n < 128 ^ (k + 1) → (grp n).length ≤ k + 1 := by
  induction k with
  | zero => intro n h; rw [grp_lo (by simpa using h)]; simp
  | succ k ih =>
    intro n h
    by_cases c : n < 128
    · rw [grp_lo c]; simp
    · rw [grp_hi c, List.length_cons]
      have := ih (n / 128) (by rw [Nat.pow_succ] at h; exact Nat.div_lt_of_lt_mul (by rw [Nat.mul_comm]; exact h))
      omega
theorem grp_pos (n : Nat) : 0 < (grp n).length := by
  rw [grp]; split <;> simp
theorem grp9 {n : Nat} (h : n ≤ 4611686018427387903) : (grp n).length ≤ 9 := grp_length_le 8 n (by omega)
theorem or128 (y : Int) (h0 : 0 ≤ y) (h1 : y < 256) : Go.bits .or .u8 y 128 = y % 128 + 128 := by
  have h : ∀ n : Fin 256, Go.bits .or .u8 (n.val : Int) 128 = (n.val : Int) % 128 + 128 := by decide +kernel
  have := h ⟨y.toNat, by omega⟩
  simpa [Int.toNat_of_nonneg h0] using this
theorem putNum_loop (n : Nat) : ∀ (l acc : List Int), n ≤ 4611686018427387903 → l.length + 18 < 140737488355328 → acc.length + (grp n).length ≤ 9 →
    Ev (fun k => code_PutNum.l0 k l (n : Int) acc) (l ++ (acc ++ grp n)) := by
  induction n using Nat.strongRecOn with
  | ind n ih =>
    intro l acc hn hl ha
    by_cases h : n < 128
    · refine Ev.step (f := fun _ => some (l ++ (acc ++ grp n))) (fun k => ?_) (Ev.now _)
      simp only [code_PutNum.l0]
      rw [if_neg (by omega), if_pos (by omega), show ((n : Int) % 256) = n by omega, laid_f (by simp; omega), Option.bind_some, grp_lo h]
    · rw [grp_hi h] at ha ⊢
      rw [List.length_cons] at ha
      have := ih (n / 128) (by omega) l (acc ++ [((n % 128 + 128 : Nat) : Int)]) (by omega) hl (by simp; omega)
      refine Ev.step (fun k => ?_) (show Ev (fun k => code_PutNum.l0 k l ((n / 128 : Nat) : Int) (acc ++ [((n % 128 + 128 : Nat) : Int)])) _ from ?_)
      · simp only [code_PutNum.l0]
        rw [if_pos (by omega), if_pos (by have := grp_pos (n / 128); omega), or128 _ (by omega) (by omega), show (n : Int) / 128 = ((n / 128 : Nat) : Int) by omega, show (n : Int) % 256 % 128 + 128 = ((n % 128 + 128 : Nat) : Int) by omega]
      · rw [List.append_assoc] at this
        exact this
def cap (n : Int) : Nat := (min (max n 0) 4611686018427387903).toNat
theorem cap_le (n : Int) : cap n ≤ 4611686018427387903 := by unfold cap; omega
theorem cap_of {n : Nat} (h : n ≤ 4611686018427387903) : cap (n : Int) = n := by unfold cap; omega
theorem mn_cap (n : Int) : mn (mx n 0) 4611686018427387903 = (cap n : Int) := by
  unfold mn mx cap
  split <;> split <;> omega
theorem putNum_f (l : List Int) (n : Int) (hl : l.length + 18 < 140737488355328) : Ev (fun k => code_PutNum.f k l n) (l ++ grp (cap n)) := by
  unfold code_PutNum.f
  rw [mn_cap]
  have := putNum_loop (cap n) l [] (cap_le n) hl (by simpa using grp9 (cap_le n))
  simpa using this
end Go.Proofs.Ytkebeiillddboaa.Sw

set_option linter.unusedVariables false
set_option linter.unusedSimpArgs false
namespace Go.Proofs.Ytkebeiillddboaa.Sw
open Go.RowKit Go.Proofs.Ytkebeiillddboaa.Px Go.Proofs.YtkebeiillddboaaW.PrintWords Go.Proofs.YtkebeiillddboaaW.PrintLast Go.Proofs.YtkebeiillddboaaW.PrintMore

theorem refNum_loop (n : Nat) : ∀ (acc : List Int), n ≤ 4611686018427387903 → acc.length + (grp n).length < 140737488355328 →
    Ev (fun k => sawyerref02_PutNum.l0 k (n : Int) acc) (acc ++ grp n) := by
  induction n using Nat.strongRecOn with
  | ind n ih =>
    intro acc hn hl
    by_cases h : n < 128
    · rw [grp_lo h] at hl ⊢
      refine Ev.step (f := fun _ => some (acc ++ [(n : Int)])) (fun k => ?_) (Ev.now _)
      simp only [sawyerref02_PutNum.l0]
      rw [if_neg (by omega), if_pos (by simp at hl; omega), show ((n : Int) % 256) = n by omega]
    · rw [grp_hi h] at hl ⊢
      rw [List.length_cons] at hl
      have := ih (n / 128) (by omega) (acc ++ [((n % 128 + 128 : Nat) : Int)]) (by omega) (by simp; omega)
      refine Ev.step (fun k => ?_) (show Ev (fun k => sawyerref02_PutNum.l0 k ((n / 128 : Nat) : Int) (acc ++ [((n % 128 + 128 : Nat) : Int)])) _ from ?_)
      · simp only [sawyerref02_PutNum.l0]
        have e1 : Int.tdiv (n : Int) 128 = ((n / 128 : Nat) : Int) := by rw [Int.tdiv_eq_ediv_of_nonneg (by omega)]; omega
        have e2 : Int.tmod (n : Int) 128 = ((n % 128 : Nat) : Int) := by rw [Int.tmod_eq_emod_of_nonneg (by omega)]; omega
        rw [if_pos (by omega), if_pos (by omega), e1, e2, wrap_in (by omega) (by omega), wrap_in (by omega) (by omega), show (128 + ((n % 128 : Nat) : Int)) % 256 = ((n % 128 + 128 : Nat) : Int) by omega]
      · rw [List.append_assoc] at this
        exact this
theorem refNum_f (l : List Int) (n : Int) (hl : l.length + 9 < 140737488355328) : Ev (fun k => sawyerref02_PutNum.f k l n) (l ++ grp (cap n)) := by
  unfold sawyerref02_PutNum.f
  refine Ev.pos (by simp; omega) ?_
  rw [mn_cap]
  have := refNum_loop (cap n) ([] ++ l) (cap_le n) (by have := grp9 (cap_le n); simp; omega)
  simpa using this
theorem same_f {a b : List Int} (ha : Byts a) (hb : Byts b) : sawyerref02_Same.f a b = some (decide (a = b)) := by
  unfold sawyerref02_Same.f
  rw [str_eq ha hb]
end Go.Proofs.Ytkebeiillddboaa.Sw


set_option linter.unusedVariables false
set_option linter.unusedSimpArgs false
namespace Go.Proofs.Ytkebeiillddboaa.Sw
open Go.RowKit Go.Proofs.Ytkebeiillddboaa.Px Go.Proofs.YtkebeiillddboaaW.PrintWords Go.Proofs.YtkebeiillddboaaW.PrintLast Go.Proofs.YtkebeiillddboaaW.PrintMore

end Go.Proofs.Ytkebeiillddboaa.Sw

set_option linter.unusedVariables false
set_option linter.unusedSimpArgs false
namespace Go.Proofs.Ytkebeiillddboaa.Sw
open Go.RowKit Go.Proofs.Ytkebeiillddboaa.Px Go.Proofs.YtkebeiillddboaaW.PrintWords Go.Proofs.YtkebeiillddboaaW.PrintLast Go.Proofs.YtkebeiillddboaaW.PrintMore

end Go.Proofs.Ytkebeiillddboaa.Sw

set_option linter.unusedVariables false
set_option linter.unusedSimpArgs false
namespace Go.Proofs.Ytkebeiillddboaa.Sw
open Go.RowKit Go.Proofs.Ytkebeiillddboaa.Px Go.Proofs.YtkebeiillddboaaW.PrintWords Go.Proofs.YtkebeiillddboaaW.PrintLast Go.Proofs.YtkebeiillddboaaW.PrintMore

theorem putText_f (l : List Int) (s : ByteArray) (hb : l.length + s.size + 18 < 140737488355328) : Ev (fun k => code_PutText.f k l s) (l ++ grp s.size ++ bytesOf s) := by
  unfold code_PutText.f
  have h9 := grp9 (n := s.size) (by omega)
  have := putNum_f l (s.size : Int) (by omega)
  rw [cap_of (by omega)] at this
  refine Ev.bind this (Ev.const ?_)
  unfold code_laid_string.f slices_Clone_byte_byte.f
  rw [if_pos (by rw [List.length_append]; omega), Option.bind_some, if_pos (by rw [List.length_append]; omega), Option.bind_some]
theorem refPutText_f (l : List Int) (s : ByteArray) (hb : l.length + s.size + 18 < 140737488355328) : Ev (fun k => sawyerref02_PutText.f k l s) (l ++ grp s.size ++ bytesOf s) := by
  unfold sawyerref02_PutText.f
  have h9 := grp9 (n := s.size) (by omega)
  have := refNum_f l (s.size : Int) (by omega)
  rw [cap_of (by omega)] at this
  refine Ev.bind this (Ev.const ?_)
  rw [if_pos (by rw [List.length_append]; omega)]

end Go.Proofs.Ytkebeiillddboaa.Sw

set_option linter.unusedVariables false
set_option linter.unusedSimpArgs false
namespace Go.Proofs.Ytkebeiillddboaa.Sw
open Go.RowKit Go.Proofs.Ytkebeiillddboaa.Px Go.Proofs.YtkebeiillddboaaW.PrintWords Go.Proofs.YtkebeiillddboaaW.PrintLast Go.Proofs.YtkebeiillddboaaW.PrintMore

abbrev W32 := BitVec 32
def poly : W32 := 3988292384#32
def turn (w : W32) : W32 := (w >>> 1) ^^^ (if w.getLsbD 0 then poly else 0#32)
def turns : Nat → W32 → W32
  | 0, w => w
  | n + 1, w => turns n (turn w)
def byteStep (w : W32) (c : Int) : W32 := turns 8 (w ^^^ BitVec.ofInt 32 c)
def crcFrom (w : W32) (l : List Int) : W32 := l.foldl byteStep w
def crc (l : List Int) : Int := ((~~~ crcFrom (BitVec.allOnes 32) l).toNat : Int)

def num32 (w : W32) : Int := (w.toNat : Int)
theorem num32_range (w : W32) : 0 ≤ num32 w ∧ num32 w < 4294967296 := by unfold num32; have := w.isLt; omega
theorem ofInt_num32 (w : W32) : BitVec.ofInt 32 (num32 w) = w := by
  unfold num32
  rw [BitVec.ofInt_natCast, BitVec.ofNat_toNat, BitVec.setWidth_eq]
theorem wrap_u32 (w : W32) : IntKind.u32.wrap ((w.toNat : Nat) : Int) = num32 w := by
  rw [IntKind.wrap_u32]
  have := w.isLt
  unfold num32
  omega
theorem xor_u32 (x y : Int) : Go.bits .xor .u32 x y = num32 (BitVec.ofInt 32 x ^^^ BitVec.ofInt 32 y) := wrap_u32 _
theorem and_u32 (x y : Int) : Go.bits .and .u32 x y = num32 (BitVec.ofInt 32 x &&& BitVec.ofInt 32 y) := wrap_u32 _
theorem num32_div2 (w : W32) : (num32 w / (2 : Int) : Int) = num32 (w >>> (1 : Nat)) := by
  unfold num32
  rw [BitVec.toNat_ushiftRight, Nat.shiftRight_eq_div_pow]
  omega
theorem lsb_mod (w : W32) : w.getLsbD 0 = decide (num32 w % 2 = 1) := by
  unfold num32
  rw [BitVec.getLsbD, Nat.testBit_zero]
  congr 1
  apply propext
  omega
theorem mask (w : W32) : BitVec.ofInt 32 ((-(num32 (w &&& 1#32))) % 4294967296) = if w.getLsbD 0 then BitVec.allOnes 32 else 0#32 := by
  have h1 : num32 (w &&& 1#32) = num32 w % 2 := by
    unfold num32
    rw [BitVec.toNat_and]
    have : (1#32).toNat = 1 := rfl
    rw [this, Nat.and_one_is_mod]
    omega
  rw [h1, lsb_mod]
  have := num32_range w
  by_cases c : num32 w % 2 = 1
  · rw [c, decide_eq_true rfl]; rfl
  · have c0 : num32 w % 2 = 0 := by omega
    rw [c0, decide_eq_false (by omega)]; rfl
theorem turn_code (w : W32) : Go.bits .xor .u32 (num32 w / 2) (Go.bits .and .u32 3988292384 ((-(Go.bits .and .u32 (num32 w) 1)) % 4294967296)) = num32 (turn w) := by
  rw [and_u32 (num32 w) 1, ofInt_num32, show BitVec.ofInt 32 1 = 1#32 from rfl, and_u32, mask, xor_u32, ofInt_num32, num32_div2, ofInt_num32, show BitVec.ofInt 32 3988292384 = poly from rfl]
  congr 1
  unfold turn
  congr 1
  by_cases c : w.getLsbD 0
  · rw [if_pos c, if_pos c, BitVec.and_allOnes]
  · rw [if_neg c, if_neg c, BitVec.and_zero]
theorem turn_ref (w : W32) : (if (Int.tmod (num32 w) 2) = 1 then Go.bits .xor .u32 ((Int.tdiv (num32 w) 2) % 4294967296) 3988292384 else (Int.tdiv (num32 w) 2) % 4294967296) = num32 (turn w) := by
  have h := num32_range w
  rw [Int.tmod_eq_emod_of_nonneg h.1, Int.tdiv_eq_ediv_of_nonneg h.1, show num32 w / 2 % 4294967296 = num32 w / 2 by omega, num32_div2]
  unfold turn
  rw [lsb_mod]
  by_cases c : num32 w % 2 = 1
  · rw [if_pos c, decide_eq_true c, if_pos rfl, xor_u32, ofInt_num32]; rfl
  · rw [if_neg c, decide_eq_false c, if_neg (by simp), BitVec.xor_zero]
theorem code_rounds (l : List Int) (n i : Int) (j : Nat) : ∀ (m : Nat) (w : W32), m + j = 8 → ∀ r, Ev (fun k => code_Crc.l0 k (num32 (turns m w)) l n (wrap64 (i + 1))) r → Ev (fun k => code_Crc.l1 k (num32 w) l n i (j : Int)) r := by
  intro m
  induction m generalizing j with
  | zero =>
    intro w hm r h
    refine Ev.step (fun k => ?_) h
    simp only [code_Crc.l1]
    rw [if_neg (by omega)]
    rfl
  | succ m ih =>
    intro w hm r h
    refine Ev.step (fun k => ?_) (show Ev (fun k => code_Crc.l1 k (num32 (turn w)) l n i ((j + 1 : Nat) : Int)) r from ih (j + 1) (turn w) (by omega) r h)
    simp only [code_Crc.l1]
    rw [if_pos (by omega), turn_code, wrap_in (by omega) (by omega)]
    rfl
theorem ref_rounds (l : List Int) (i : Int) (j : Nat) : ∀ (m : Nat) (w : W32), m + j = 8 → ∀ r, Ev (fun k => sawyerref02_Crc.l0 k l (num32 (turns m w)) (wrap64 (i + 1))) r → Ev (fun k => sawyerref02_Crc.l1 k l (num32 w) i (j : Int)) r := by
  intro m
  induction m generalizing j with
  | zero =>
    intro w hm r h
    refine Ev.step (fun k => ?_) h
    simp only [sawyerref02_Crc.l1]
    rw [if_neg (by omega)]
    rfl
  | succ m ih =>
    intro w hm r h
    refine Ev.step (fun k => ?_) (show Ev (fun k => sawyerref02_Crc.l1 k l (num32 (turn w)) i ((j + 1 : Nat) : Int)) r from ih (j + 1) (turn w) (by omega) r h)
    simp only [sawyerref02_Crc.l1]
    rw [if_pos (by omega), wrap_in (n := (j : Int) + 1) (by omega) (by omega), show (j : Int) + 1 = ((j + 1 : Nat) : Int) by omega, ← turn_ref]
    split <;> rfl
theorem xor_byte (w : W32) (c : Int) (h0 : 0 ≤ c) (h1 : c < 256) : Go.bits .xor .u32 (num32 w) (c % 4294967296) = num32 (w ^^^ BitVec.ofInt 32 c) := by
  rw [xor_u32, ofInt_num32, show c % 4294967296 = c by omega]
theorem not_code (w : W32) : Go.bits .xor .u32 4294967295 (num32 w) = num32 (~~~ w) := by
  rw [xor_u32, ofInt_num32, show BitVec.ofInt 32 4294967295 = BitVec.allOnes 32 from rfl, BitVec.allOnes_xor]
theorem crc_loop (l : List Int) (hl : Byts l) (hb : l.length ≤ 140737488355328) (d : Nat) : ∀ (i : Nat) (w : W32), l.length - i = d → i ≤ l.length →
    Ev (fun k => code_Crc.l0 k (num32 w) l (l.length : Int) (i : Int)) (num32 (~~~ crcFrom w (l.drop i))) := by
  induction d with
  | zero =>
    intro i w hd hi
    rw [List.drop_eq_nil_of_le (by omega)]
    refine Ev.step (f := fun _ => some (num32 (~~~ w))) (fun k => ?_) (Ev.const rfl)
    simp only [code_Crc.l0]
    rw [if_neg (by omega), not_code]
  | succ d ih =>
    intro i w hd hi
    have hlt : i < l.length := by omega
    have hc := hl (l[i]) (List.getElem_mem _)
    rw [List.drop_eq_getElem_cons hlt]
    refine Ev.step (f := fun k => code_Crc.l1 k (num32 (w ^^^ BitVec.ofInt 32 (l[i]))) l (l.length : Int) (i : Int) ((0 : Nat) : Int)) (fun k => ?_) (code_rounds l _ _ 0 8 _ (by omega) _ ?_)
    · simp only [code_Crc.l0]
      rw [if_pos (by omega), if_pos (by omega), if_pos (by omega), rd_nat l i hlt, xor_byte _ _ hc.1 hc.2]
      rfl
    · have := ih (i + 1) (byteStep w (l[i])) (by omega) (by omega)
      rw [wrap_in (by omega) (by omega)]
      exact this
theorem crc_f {l : List Int} (hl : Byts l) (hb : l.length ≤ 140737488355328) : Ev (fun k => code_Crc.f k l) (crc l) := by
  unfold code_Crc.f
  exact crc_loop l hl hb l.length 0 (BitVec.allOnes 32) (by omega) (by omega)
theorem refCrc_loop (l : List Int) (hl : Byts l) (hb : l.length ≤ 140737488355328) (d : Nat) : ∀ (i : Nat) (w : W32), l.length - i = d → i ≤ l.length →
    Ev (fun k => sawyerref02_Crc.l0 k l (num32 w) (i : Int)) (num32 (~~~ crcFrom w (l.drop i))) := by
  induction d with
  | zero =>
    intro i w hd hi
    rw [List.drop_eq_nil_of_le (by omega)]
    refine Ev.step (f := fun _ => some (num32 (~~~ w))) (fun k => ?_) (Ev.const rfl)
    simp only [sawyerref02_Crc.l0]
    rw [if_neg (by omega), not_code]
  | succ d ih =>
    intro i w hd hi
    have hlt : i < l.length := by omega
    have hc := hl (l[i]) (List.getElem_mem _)
    rw [List.drop_eq_getElem_cons hlt]
    refine Ev.step (f := fun k => sawyerref02_Crc.l1 k l (num32 (w ^^^ BitVec.ofInt 32 (l[i]))) (i : Int) ((0 : Nat) : Int)) (fun k => ?_) (ref_rounds l _ 0 8 _ (by omega) _ ?_)
    · simp only [sawyerref02_Crc.l0]
      rw [if_pos (by omega), if_pos (by omega), rd_nat l i hlt, xor_byte _ _ hc.1 hc.2]
      rfl
    · have := ih (i + 1) (byteStep w (l[i])) (by omega) (by omega)
      rw [wrap_in (by omega) (by omega)]
      exact this
theorem refCrc_f {l : List Int} (hl : Byts l) (hb : l.length ≤ 140737488355328) : Ev (fun k => sawyerref02_Crc.f k l) (crc l) := by
  unfold sawyerref02_Crc.f
  exact refCrc_loop l hl hb l.length 0 (BitVec.allOnes 32) (by omega) (by omega)
end Go.Proofs.Ytkebeiillddboaa.Sw

set_option linter.unusedVariables false
set_option linter.unusedSimpArgs false
namespace Go.Proofs.Ytkebeiillddboaa.Sw
open Go.RowKit Go.Proofs.Ytkebeiillddboaa.Px Go.Proofs.YtkebeiillddboaaW.PrintWords Go.Proofs.YtkebeiillddboaaW.PrintLast Go.Proofs.YtkebeiillddboaaW.PrintMore

theorem less_f {a b : List Int} (ha : Byts a) (hb : Byts b) : key_Less.f a b = some (less a b) := by
  unfold key_Less.f bytes_Compare.f
  rw [Option.bind_some, compare_less ha hb]
def has (l p : List Int) : Bool := decide (l.take p.length = p)
end Go.Proofs.Ytkebeiillddboaa.Sw

set_option linter.unusedVariables false
set_option linter.unusedSimpArgs false
namespace Go.Proofs.Ytkebeiillddboaa.Sw
open Go.RowKit Go.Proofs.Ytkebeiillddboaa.Px Go.Proofs.YtkebeiillddboaaW.PrintWords Go.Proofs.YtkebeiillddboaaW.PrintLast Go.Proofs.YtkebeiillddboaaW.PrintMore

theorem refLess_loop (a b : List Int) (hl : a.length ≤ 140737488355328) (d : Nat) : ∀ i : Nat, a.length - i = d → i ≤ a.length → Ev (fun k => sawyerref03_Less.l0 k a b (i : Int)) (less (a.drop i) (b.drop i)) := by
  induction d with
  | zero =>
    intro i hd hi
    have hi : i = a.length := by omega
    subst hi
    refine Ev.step (f := fun k => sawyerref03_Less.j1 k a b (a.length : Int) false) (fun k => ?_) (Ev.step (f := fun _ => some (decide ((a.length : Int) < (b.length : Int)))) (fun k => ?_) (Ev.const ?_))
    · simp only [sawyerref03_Less.l0]; rw [if_neg (by omega)]
    · simp only [sawyerref03_Less.j1]; rw [if_neg (by simp)]
    · rw [List.drop_length]
      by_cases c : a.length < b.length
      · rw [List.drop_eq_getElem_cons c]
        simp [less, c]
      · rw [List.drop_eq_nil_of_le (by omega)]
        simp [less]
        omega
  | succ d ih =>
    intro i hd hi
    have hlt : i < a.length := by omega
    rw [List.drop_eq_getElem_cons hlt]
    by_cases c : i < b.length
    · rw [List.drop_eq_getElem_cons c]
      refine Ev.step (f := fun k => sawyerref03_Less.j1 k a b (i : Int) true) (fun k => ?_) ?_
      · simp only [sawyerref03_Less.l0]; rw [if_pos (by omega), decide_eq_true (by omega)]
      · by_cases e : a[i] = b[i]
        · refine Ev.step (f := fun k => sawyerref03_Less.l0 k a b ((i + 1 : Nat) : Int)) (fun k => ?_) ?_
          · simp only [sawyerref03_Less.j1]
            rw [if_pos trivial, if_pos (by omega), if_pos (by omega), if_pos (by omega), rd_nat a i hlt, rd_nat b i c, if_pos e, wrap_in (by omega) (by omega)]
            rfl
          · have := ih (i + 1) (by omega) (by omega)
            unfold less
            rw [if_neg (by omega), if_neg (by omega)]
            exact this
        · refine Ev.step (f := fun _ => some (decide (a[i] < b[i]))) (fun k => ?_) (Ev.const ?_)
          · simp only [sawyerref03_Less.j1]
            rw [if_pos trivial, if_pos (by omega), if_pos (by omega), if_pos (by omega), rd_nat a i hlt, rd_nat b i c, if_neg e]
          · unfold less
            by_cases e2 : a[i] < b[i]
            · rw [if_pos e2, decide_eq_true e2]
            · rw [if_neg e2, if_pos (by omega), decide_eq_false e2]
    · rw [show b.drop i = [] from List.drop_eq_nil_of_le (by omega)]
      refine Ev.step (f := fun k => sawyerref03_Less.j1 k a b (i : Int) false) (fun k => ?_) (Ev.step (f := fun _ => some (decide ((a.length : Int) < (b.length : Int)))) (fun k => ?_) (Ev.const ?_))
      · simp only [sawyerref03_Less.l0]; rw [if_pos (by omega), decide_eq_false (by omega)]
      · simp only [sawyerref03_Less.j1]; rw [if_neg (by simp)]
      · simp [less]; omega
theorem refLess_f (a b : List Int) (hl : a.length ≤ 140737488355328) : Ev (fun k => sawyerref03_Less.f k a b) (less a b) := by
  unfold sawyerref03_Less.f
  have := refLess_loop a b hl a.length 0 (by omega) (by omega)
  simpa using this
end Go.Proofs.Ytkebeiillddboaa.Sw

set_option linter.unusedVariables false
set_option linter.unusedSimpArgs false
namespace Go.Proofs.Ytkebeiillddboaa.Sw
open Go.RowKit Go.Proofs.Ytkebeiillddboaa.Px Go.Proofs.YtkebeiillddboaaW.PrintWords Go.Proofs.YtkebeiillddboaaW.PrintLast Go.Proofs.YtkebeiillddboaaW.PrintMore

theorem rdE_nat (l : List S38) (i : Nat) (h : i < l.length) : rd_T38 l (i : Int) = l[i] := by
  unfold rd_T38
  rw [List.getD_eq_getElem?_getD]
  simp [h]
def okE (e : S38) : Bool := decide (1 ≤ e.f0.length ∧ e.f0.length ≤ 64 ∧ 0 ≤ e.f1 ∧ e.f1 ≤ 1099511627776 ∧ e.f3.length ≤ 1024 ∧ (e.f2 = true → e.f3.length = 0))
theorem okE_iff {e : S38} : okE e = true ↔ (1 ≤ e.f0.length ∧ e.f0.length ≤ 64 ∧ 0 ≤ e.f1 ∧ e.f1 ≤ 1099511627776 ∧ e.f3.length ≤ 1024 ∧ (e.f2 = true → e.f3.length = 0)) := by
  unfold okE
  exact decide_eq_true_iff
theorem skipCheck_f (e : S38) : skip_Check.f e.f0 e.f1 e.f2 e.f3 = some (if okE e = true then 0 else 1) := by
  unfold skip_Check.f
  by_cases h : okE e = true
  · have h2 := okE_iff.1 h
    obtain ⟨h3, h4, h5, h6, h7, h8⟩ := h2
    rw [if_pos h, if_pos (by omega), if_pos (by omega), if_pos (by omega), if_pos (by omega), if_pos (by omega)]
    by_cases g : e.f2 = true
    · rw [if_pos g, if_neg (by have := h8 g; omega)]
    · rw [if_neg g]
  · rw [if_neg h]
    have h2 : ¬ _ := fun x => h (okE_iff.2 x)
    repeat' split
    all_goals first
      | rfl
      | (exfalso; apply h2; refine ⟨by omega, by omega, by omega, by omega, by omega, fun g => ?_⟩; first | omega | (exfalso; simp_all))
theorem refCheck_f (e : S38) : sawyerref06_Check.f e.f0 e.f1 e.f2 e.f3 = some (if okE e = true then 0 else 1) := by
  unfold sawyerref06_Check.f
  by_cases h : okE e = true
  · have h2 := okE_iff.1 h
    obtain ⟨h3, h4, h5, h6, h7, h8⟩ := h2
    rw [if_pos h, if_neg (by omega), if_neg (by omega), if_neg (by omega), if_neg (by omega), if_neg (by omega)]
    by_cases g : e.f2 = true
    · rw [if_pos g, if_neg (by have := h8 g; omega)]
    · rw [if_neg g]
  · rw [if_neg h]
    have h2 : ¬ _ := fun x => h (okE_iff.2 x)
    repeat' split
    all_goals first
      | rfl
      | (exfalso; apply h2; refine ⟨by omega, by omega, by omega, by omega, by omega, fun g => ?_⟩; first | omega | (exfalso; simp_all))
def ahe (a b : S38) : Bool := less a.f0 b.f0 || (decide (a.f0 = b.f0) && decide (a.f1 > b.f1))
theorem ahead_f {a b : S38} (ha : Byts a.f0) (hb : Byts b.f0) : block_ahead.f a.f0 a.f1 a.f2 a.f3 b.f0 b.f1 b.f2 b.f3 = some (ahe a b) := by
  unfold block_ahead.f bytes_Equal.f ahe
  rw [less_f ha hb, Option.bind_some, str_eq ha hb, Option.bind_some]
  cases less a.f0 b.f0 <;> by_cases h : a.f0 = b.f0 <;> simp [h]
theorem refAhead_f {a b : S38} (ha : Byts a.f0) (hb : Byts b.f0) (hl : a.f0.length ≤ 140737488355328) : Ev (fun k => sawyerref06_Ahead.f k a.f0 a.f1 a.f2 a.f3 b.f0 b.f1 b.f2 b.f3) (ahe a b) := by
  unfold sawyerref06_Ahead.f ahe
  have hs := str_eq ha hb
  by_cases h : a.f0 = b.f0
  · refine Ev.pos (by rw [h]) (Ev.const ?_)
    simp [h, less_irrefl]
  · refine Ev.neg ?_ (Ev.bind (refLess_f a.f0 b.f0 hl) (Ev.const ?_))
    · intro h2
      rw [h2] at hs
      simp [h] at hs
    · simp [h]
def rowOk : Option S38 → List S38 → Bool
  | _, [] => true
  | p, e :: r => (okE e && (match p with | none => true | some q => ahe q e)) && rowOk (some e) r
def chk (l : List S38) : Int := if 1 ≤ l.length ∧ l.length ≤ 8 ∧ rowOk none l = true then 0 else 1
theorem check_loop (l : List S38) (hw : ∀ e ∈ l, Byts e.f0) (hl : l.length ≤ 8) (d : Nat) : ∀ (i : Nat) (p : Option S38), l.length - i = d → i ≤ l.length → (i = 0 → p = none) → (0 < i → p = some (rd_T38 l ((i : Int) - 1))) →
    Ev (fun k => block_Check.l0 k l l (l.length : Int) (i : Int)) (if rowOk p (l.drop i) = true then 0 else 1) := by
  induction d with
  | zero =>
    intro i p hd hi h0 h1
    have hi : i = l.length := by omega
    subst hi
    refine Ev.step (fun k => block_Check.l0.eq_2 _ _ _ _ _) (Ev.neg (by omega) (Ev.const ?_))
    rw [List.drop_length]
    rfl
  | succ d ih =>
    intro i p hd hi h0 h1
    have hlt : i < l.length := by omega
    have hm : l[i] ∈ l := List.getElem_mem hlt
    have hwi := hw _ hm
    rw [List.drop_eq_getElem_cons hlt]
    refine Ev.step (fun k => block_Check.l0.eq_2 _ _ _ _ _) (Ev.pos (by omega) (Ev.pos (by omega) (Ev.pos (by omega) ?_)))
    rw [rdE_nat l i hlt]
    refine Ev.bindc (skipCheck_f l[i]) ?_
    have hn := ih (i + 1) (some l[i]) (by omega) (by omega) (by omega) (fun _ => by rw [show ((i + 1 : Nat) : Int) - 1 = (i : Int) by omega, rdE_nat l i hlt])
    unfold rowOk
    by_cases c : okE l[i] = true
    · rw [c]
      simp only [if_true, Bool.true_and]
      by_cases z : i = 0
      · subst z
        rw [h0 rfl]
        simp only [Bool.true_and]
        exact Ev.neg (by omega) (by rw [wrap_in (by omega) (by omega)]; exact hn)
      · have hp := h1 (by omega)
        have hj : i - 1 < l.length := by omega
        have e1 : (i : Int) - 1 = ((i - 1 : Nat) : Int) := by omega
        rw [hp]
        refine Ev.pos (by omega) ?_
        rw [wrap_in (by omega) (by omega), e1, rdE_nat l (i - 1) hj]
        refine Ev.pos (by omega) (Ev.pos (by omega) (Ev.bindc (ahead_f (hw _ (List.getElem_mem hj)) hwi) ?_))
        simp only
        by_cases ca : ahe l[i - 1] l[i] = true
        · refine Ev.pos ca ?_
          simp only [ca, Bool.true_and]
          rw [wrap_in (by omega) (by omega)]
          exact hn
        · refine Ev.neg ca (Ev.const ?_)
          simp [ca]
    · have c2 : okE l[i] = false := by simpa using c
      rw [c2]
      exact Ev.neg (by simp) (Ev.const (by simp))
theorem chk_f (l : List S38) (hw : ∀ e ∈ l, Byts e.f0) : Ev (fun k => block_Check.f k l) (chk l) := by
  unfold block_Check.f chk
  by_cases h1 : l.length < 1
  · refine Ev.pos (by omega) (Ev.step (fun k => block_Check.j0.eq_2 _ _ _) (Ev.pos rfl (Ev.const ?_)))
    rw [if_neg (by omega)]
  · refine Ev.neg (by omega) (Ev.step (fun k => block_Check.j0.eq_2 _ _ _) ?_)
    by_cases h8 : l.length > 8
    · refine Ev.pos (by simp; omega) (Ev.const ?_)
      rw [if_neg (by omega)]
    · refine Ev.neg (by simp; omega) ?_
      have := check_loop l hw (by omega) l.length 0 none (by omega) (by omega) (fun _ => rfl) (fun h => absurd h (by omega))
      rw [List.drop_zero] at this
      by_cases c : rowOk none l = true
      · rw [if_pos c] at this
        rw [if_pos ⟨by omega, by omega, c⟩]
        exact this
      · rw [if_neg c] at this
        rw [if_neg (fun x => c x.2.2)]
        exact this
theorem ordered_loop (l : List S38) (hw : ∀ e ∈ l, Byts e.f0) (hl : l.length ≤ 8) (d : Nat) : ∀ (i : Nat) (p : Option S38), l.length - i = d → i ≤ l.length → (i = 0 → p = none) → (0 < i → p = some (rd_T38 l ((i : Int) - 1))) → (0 < i → okE (rd_T38 l ((i : Int) - 1)) = true) →
    Ev (fun k => sawyerref08_Ordered.l0 k l (i : Int)) (rowOk p (l.drop i)) := by
  induction d with
  | zero =>
    intro i p hd hi h0 h1 h2
    have hi : i = l.length := by omega
    subst hi
    refine Ev.step (fun k => sawyerref08_Ordered.l0.eq_2 _ _ _) (Ev.neg (by omega) (Ev.const ?_))
    rw [List.drop_length]
    rfl
  | succ d ih =>
    intro i p hd hi h0 h1 h2
    have hlt : i < l.length := by omega
    have hm : l[i] ∈ l := List.getElem_mem hlt
    have hwi := hw _ hm
    rw [List.drop_eq_getElem_cons hlt]
    refine Ev.step (fun k => sawyerref08_Ordered.l0.eq_2 _ _ _) (Ev.pos (by omega) (Ev.pos (by omega) ?_))
    rw [rdE_nat l i hlt]
    refine Ev.bindc (refCheck_f l[i]) ?_
    unfold rowOk
    by_cases c : okE l[i] = true
    · have hn := ih (i + 1) (some l[i]) (by omega) (by omega) (by omega) (fun _ => by rw [show ((i + 1 : Nat) : Int) - 1 = (i : Int) by omega, rdE_nat l i hlt]) (fun _ => by rw [show ((i + 1 : Nat) : Int) - 1 = (i : Int) by omega, rdE_nat l i hlt]; exact c)
      rw [c]
      simp only [if_true, Bool.true_and]
      by_cases z : i = 0
      · subst z
        rw [h0 rfl]
        simp only [Bool.true_and]
        refine Ev.neg (by omega) ?_
        rw [wrap_in (by omega) (by omega)]
        exact hn
      · have hp := h1 (by omega)
        have hj : i - 1 < l.length := by omega
        have e1 : (i : Int) - 1 = ((i - 1 : Nat) : Int) := by omega
        have hk := h2 (by omega)
        rw [e1, rdE_nat l (i - 1) hj] at hk
        have hk2 := okE_iff.1 hk
        rw [hp]
        refine Ev.pos (by omega) ?_
        rw [show wrap64 ((i : Int) - 1) = ((i - 1 : Nat) : Int) by rw [wrap_in (by omega) (by omega), e1], e1, rdE_nat l (i - 1) hj]
        refine Ev.pos (by omega) (Ev.pos (by omega) (Ev.bind (refAhead_f (hw _ (List.getElem_mem hj)) hwi (by omega)) ?_))
        simp only
        by_cases ca : ahe l[i - 1] l[i] = true
        · refine Ev.pos ca ?_
          simp only [ca, Bool.true_and]
          rw [wrap_in (by omega) (by omega)]
          exact hn
        · refine Ev.neg ca (Ev.const ?_)
          simp [ca]
    · have c2 : okE l[i] = false := by simpa using c
      rw [c2]
      exact Ev.neg (by simp) (Ev.const (by simp))
theorem refChk_f (l : List S38) (hw : ∀ e ∈ l, Byts e.f0) : Ev (fun k => sawyerref08_Check.f k l) (chk l) := by
  unfold sawyerref08_Check.f chk
  by_cases h1 : l.length < 1
  · exact Ev.pos (by omega) (Ev.const (by rw [if_neg (by omega)]))
  · refine Ev.neg (by omega) ?_
    by_cases h8 : l.length > 8
    · exact Ev.pos (by omega) (Ev.const (by rw [if_neg (by omega)]))
    · refine Ev.neg (by omega) ?_
      have := ordered_loop l hw (by omega) l.length 0 none (by omega) (by omega) (fun _ => rfl) (fun h => absurd h (by omega)) (fun h => absurd h (by omega))
      rw [List.drop_zero] at this
      unfold sawyerref08_Ordered.f
      refine Ev.bind this (Ev.const ?_)
      by_cases c : rowOk none l = true
      · rw [if_pos c, if_pos ⟨by omega, by omega, c⟩]
      · rw [if_neg c, if_neg (fun x => c x.2.2)]
def shr : List Int → List Int → Nat
  | a :: x, b :: y => if a = b then shr x y + 1 else 0
  | _, _ => 0
theorem shr_le : ∀ a b : List Int, shr a b ≤ a.length ∧ shr a b ≤ b.length
  | [], _ => ⟨Nat.zero_le _, Nat.zero_le _⟩
  | _ :: _, [] => ⟨Nat.zero_le _, Nat.zero_le _⟩
  | a :: x, b :: y => by
    unfold shr
    have := shr_le x y
    split
    · simp only [List.length_cons]; omega
    · exact ⟨Nat.zero_le _, Nat.zero_le _⟩
theorem shared_loop (a b : List Int) (hl : a.length ≤ 140737488355328) (hl2 : b.length ≤ 140737488355328) (d : Nat) : ∀ i : Nat, a.length - i = d → i ≤ a.length → i ≤ b.length → Ev (fun k => block_shared.l0 k a b (i : Int)) ((i + shr (a.drop i) (b.drop i) : Nat) : Int) := by
  induction d with
  | zero =>
    intro i hd hi hi2
    have hi : i = a.length := by omega
    subst hi
    refine Ev.step (fun k => block_shared.l0.eq_2 _ _ _ _) (Ev.neg (by unfold mn; split <;> omega) (Ev.const ?_))
    rw [List.drop_length]
    cases b.drop a.length <;> simp [shr]
  | succ d ih =>
    intro i hd hi hi2
    have hlt : i < a.length := by omega
    refine Ev.step (fun k => block_shared.l0.eq_2 _ _ _ _) ?_
    by_cases c : i < b.length
    · refine Ev.pos (by unfold mn; split <;> omega) (Ev.pos (by omega) (Ev.pos (by omega) (Ev.pos (by omega) ?_)))
      rw [rd_nat a i hlt, rd_nat b i c, List.drop_eq_getElem_cons hlt, List.drop_eq_getElem_cons c]
      unfold shr
      by_cases e : a[i] = b[i]
      · rw [if_pos e]
        refine Ev.pos e ?_
        rw [wrap_in (by omega) (by omega)]
        have := ih (i + 1) (by omega) (by omega) (by omega)
        rw [show i + (shr (a.drop (i + 1)) (b.drop (i + 1)) + 1) = i + 1 + shr (a.drop (i + 1)) (b.drop (i + 1)) by omega]
        exact this
      · rw [if_neg e]
        exact Ev.neg e (Ev.const (by simp))
    · refine Ev.neg (by unfold mn; split <;> omega) (Ev.const ?_)
      rw [show b.drop i = [] from List.drop_eq_nil_of_le (by omega)]
      cases a.drop i <;> simp [shr]
theorem shared_f (a b : List Int) (hl : a.length ≤ 140737488355328) (hl2 : b.length ≤ 140737488355328) : Ev (fun k => block_shared.f k a b) (shr a b : Int) := by
  unfold block_shared.f
  have := shared_loop a b hl hl2 a.length 0 (by omega) (by omega) (by omega)
  simpa using this
theorem refShared_loop (a b : List Int) (hl : a.length ≤ 140737488355328) (hl2 : b.length ≤ 140737488355328) (d : Nat) : ∀ i : Nat, a.length - i = d → i ≤ a.length → i ≤ b.length → Ev (fun k => sawyerref08_shared.l0 k a b (i : Int)) ((i + shr (a.drop i) (b.drop i) : Nat) : Int) := by
  induction d with
  | zero =>
    intro i hd hi hi2
    have hi : i = a.length := by omega
    subst hi
    refine Ev.step (fun k => sawyerref08_shared.l0.eq_2 _ _ _ _) (Ev.neg (by omega) (Ev.const ?_))
    rw [List.drop_length]
    cases b.drop a.length <;> simp [shr]
  | succ d ih =>
    intro i hd hi hi2
    have hlt : i < a.length := by omega
    refine Ev.step (fun k => sawyerref08_shared.l0.eq_2 _ _ _ _) (Ev.pos (by omega) ?_)
    by_cases c : i < b.length
    · refine Ev.pos (by omega) (Ev.pos (by omega) ?_)
      rw [rd_nat a i hlt, rd_nat b i c, List.drop_eq_getElem_cons hlt, List.drop_eq_getElem_cons c]
      unfold shr
      by_cases e : a[i] = b[i]
      · rw [if_pos e]
        refine Ev.pos e ?_
        rw [wrap_in (by omega) (by omega)]
        have := ih (i + 1) (by omega) (by omega) (by omega)
        rw [show i + (shr (a.drop (i + 1)) (b.drop (i + 1)) + 1) = i + 1 + shr (a.drop (i + 1)) (b.drop (i + 1)) by omega]
        exact this
      · rw [if_neg e]
        exact Ev.neg e (Ev.const (by simp))
    · refine Ev.neg (by omega) (Ev.const ?_)
      rw [show b.drop i = [] from List.drop_eq_nil_of_le (by omega)]
      cases a.drop i <;> simp [shr]
theorem refShared_f (a b : List Int) (hl : a.length ≤ 140737488355328) (hl2 : b.length ≤ 140737488355328) : Ev (fun k => sawyerref08_shared.f k a b) (shr a b : Int) := by
  unfold sawyerref08_shared.f
  have := refShared_loop a b hl hl2 a.length 0 (by omega) (by omega) (by omega)
  simpa using this
end Go.Proofs.Ytkebeiillddboaa.Sw

set_option linter.unusedVariables false
set_option linter.unusedSimpArgs false
namespace Go.Proofs.Ytkebeiillddboaa.Sw
open Go.RowKit Go.Proofs.Ytkebeiillddboaa.Px Go.Proofs.YtkebeiillddboaaW.PrintWords Go.Proofs.YtkebeiillddboaaW.PrintLast Go.Proofs.YtkebeiillddboaaW.PrintMore

theorem str_size (l : List Int) : (strOfNums l).size = l.length := by
  simp [strOfNums, ByteArray.size]
theorem str_bytes {l : List Int} (h : Byts l) : bytesOf (strOfNums l) = l := by
  simp only [strOfNums, bytesOf]
  induction l with
  | nil => rfl
  | cons a r ih =>
    have h1 := h.head
    simp only [List.map_cons, List.cons.injEq]
    refine ⟨?_, by simpa using ih h.tail⟩
    rw [UInt8.toNat_ofNat']
    omega
def seqN (e : S38) : Nat := (2 * e.f1 + (if e.f2 = true then 1 else 0)).toNat
def ent (last : List Int) (e : S38) : List Int :=
  grp (shr last e.f0) ++ (grp (e.f0.drop (shr last e.f0)).length ++ e.f0.drop (shr last e.f0)) ++ grp (seqN e) ++ (grp e.f3.length ++ e.f3)
def bld : List Int → List S38 → List Int
  | _, [] => []
  | last, e :: r => ent last e ++ bld e.f0 r
def sum4 (l : List Int) : List Int := [(crc l / 16777216) % 256, (crc l / 65536) % 256, (crc l / 256) % 256, (crc l) % 256]
def blk (l : List S38) : List Int := (grp l.length ++ bld [] l) ++ sum4 (grp l.length ++ bld [] l)
theorem sum4_byts (l : List Int) : Byts (sum4 l) := by
  unfold sum4
  exact Byts.cons (by omega) (by omega) (Byts.cons (by omega) (by omega) (Byts.cons (by omega) (by omega) (Byts.cons (by omega) (by omega) Byts.nil)))
theorem seqN_le {e : S38} (h : okE e = true) : seqN e ≤ 4611686018427387903 := by
  have := okE_iff.1 h
  unfold seqN
  split <;> omega
theorem ent_byts {last : List Int} {e : S38} (h0 : Byts e.f0) (h3 : Byts e.f3) : Byts (ent last e) :=
  (((grp_byts _).append ((grp_byts _).append (h0.drop _))).append (grp_byts _)).append ((grp_byts _).append h3)
theorem ent_length {last : List Int} {e : S38} (h : okE e = true) : (ent last e).length ≤ 1200 := by
  have h1 := okE_iff.1 h
  have h2 := shr_le last e.f0
  have g1 := grp9 (n := shr last e.f0) (by omega)
  have g2 := grp9 (n := (e.f0.drop (shr last e.f0)).length) (by rw [List.length_drop]; omega)
  have g3 := grp9 (seqN_le h)
  have g4 := grp9 (n := e.f3.length) (by omega)
  unfold ent
  simp only [List.length_append, List.length_drop] at *
  omega
theorem summed_f {o : List Int} (ho : Byts o) (hl : o.length ≤ 100000) : Ev (fun k => block_summed.f k o) (o ++ sum4 o) := by
  unfold block_summed.f
  refine Ev.bind (crc_f ho (by omega)) (Ev.const ?_)
  rw [Option.bind_some, if_pos (by simp; omega)]
  rfl
theorem refSummed_f {o : List Int} (ho : Byts o) (hl : o.length ≤ 100000) : Ev (fun k => sawyerref08_Summed.f k o) (o ++ sum4 o) := by
  unfold sawyerref08_Summed.f
  refine Ev.bind (refCrc_f ho (by omega)) (Ev.const ?_)
  rw [Option.bind_some, if_pos (by simp; omega), Option.bind_some, Option.bind_some, if_pos (by simp; omega)]
  rfl
def Fit (e : S38) : Prop := Byts e.f0 ∧ Byts e.f3 ∧ okE e = true
theorem seq_gone {e : S38} (h : okE e = true) (g : e.f2 = true) : wrap64 (wrap64 (2 * e.f1) + 1) = (seqN e : Int) := by
  have := okE_iff.1 h
  rw [wrap_in (n := 2 * e.f1) (by omega) (by omega), wrap_in (by omega) (by omega)]
  unfold seqN
  rw [if_pos g]
  omega
theorem seq_here {e : S38} (h : okE e = true) (g : ¬ e.f2 = true) : wrap64 (2 * e.f1) = (seqN e : Int) := by
  have := okE_iff.1 h
  rw [wrap_in (n := 2 * e.f1) (by omega) (by omega)]
  unfold seqN
  rw [if_neg g]
  omega
theorem laid_ent (acc last : List Int) (e : S38) (he : Fit e) (m : Int) (hm : m = (seqN e : Int)) :
    acc ++ grp (cap (shr last e.f0 : Int)) ++ grp (strOfNums (e.f0.drop (shr last e.f0 : Int).toNat)).size ++ bytesOf (strOfNums (e.f0.drop (shr last e.f0 : Int).toNat)) ++ grp (cap m) ++ grp (strOfNums e.f3).size ++ bytesOf (strOfNums e.f3) = acc ++ ent last e := by
  have h1 := okE_iff.1 he.2.2
  have h2 := shr_le last e.f0
  rw [str_size, str_size, str_bytes (he.1.drop _), str_bytes he.2.1, cap_of (by omega), hm, cap_of (seqN_le he.2.2)]
  unfold ent
  simp only [Int.toNat_natCast, List.append_assoc]
theorem build_loop (l : List S38) (hw : ∀ e ∈ l, Fit e) (hl : l.length ≤ 8) (d : Nat) : ∀ (i : Nat) (acc last : List Int), l.length - i = d → i ≤ l.length → last.length ≤ 64 → acc.length + d * 1200 ≤ 20000 → Byts acc →
    Ev (fun k => block_Build.l0 k acc last l (l.length : Int) (i : Int)) ((acc ++ bld last (l.drop i)) ++ sum4 (acc ++ bld last (l.drop i)), 0) := by
  induction d with
  | zero =>
    intro i acc last hd hi hla ha hb
    have hi : i = l.length := by omega
    subst hi
    refine Ev.step (fun k => block_Build.l0.eq_2 _ _ _ _ _ _) (Ev.neg (by omega) (Ev.bind (summed_f hb (by omega)) (Ev.const ?_)))
    rw [List.drop_length]
    simp [bld]
  | succ d ih =>
    intro i acc last hd hi hla ha hb
    have hlt : i < l.length := by omega
    have hm : l[i] ∈ l := List.getElem_mem hlt
    have he := hw _ hm
    have h1 := okE_iff.1 he.2.2
    have h2 := shr_le last l[i].f0
    have hel := ent_length (last := last) he.2.2
    have hn := ih (i + 1) (acc ++ ent last l[i]) l[i].f0 (by omega) (by omega) h1.2.1 (by rw [List.length_append]; omega) (hb.append (ent_byts he.1 he.2.1))
    rw [List.drop_eq_getElem_cons hlt, show bld last (l[i] :: l.drop (i + 1)) = ent last l[i] ++ bld l[i].f0 (l.drop (i + 1)) from rfl, ← List.append_assoc acc]
    have g1 := grp9 (n := cap (shr last l[i].f0 : Int)) (cap_le _)
    have g2 := grp9 (n := (strOfNums (l[i].f0.drop (shr last l[i].f0 : Int).toNat)).size) (by rw [str_size, List.length_drop]; omega)
    have b1 : (bytesOf (strOfNums (l[i].f0.drop (shr last l[i].f0 : Int).toNat))).length ≤ 64 := by rw [str_bytes (he.1.drop _), List.length_drop]; omega
    have s1 : (strOfNums (l[i].f0.drop (shr last l[i].f0 : Int).toNat)).size ≤ 64 := by rw [str_size, List.length_drop]; omega
    have s3 : (strOfNums l[i].f3).size ≤ 1024 := by rw [str_size]; omega
    refine Ev.step (fun k => block_Build.l0.eq_2 _ _ _ _ _ _) (Ev.pos (by omega) (Ev.pos (by omega) (Ev.pos (by omega) ?_)))
    rw [rdE_nat l i hlt]
    refine Ev.bind (shared_f last l[i].f0 (by omega) (by omega)) ?_
    by_cases g : l[i].f2 = true
    · have g3 := grp9 (n := cap (wrap64 (wrap64 (2 * l[i].f1) + 1))) (cap_le _)
      refine Ev.pos g (Ev.bind (putNum_f acc _ (by omega)) (Ev.pos (by omega) (Ev.pos (by omega) (Ev.bind (putText_f _ _ (by simp only [List.length_append]; omega)) (Ev.bind (putNum_f _ _ (by simp only [List.length_append]; omega)) (Ev.bind (putText_f _ _ (by simp only [List.length_append]; omega)) ?_))))))
      rw [laid_ent acc last l[i] he _ (seq_gone he.2.2 g), wrap_in (by omega) (by omega)]
      exact hn
    · have g3 := grp9 (n := cap (wrap64 (2 * l[i].f1))) (cap_le _)
      refine Ev.neg g (Ev.bind (putNum_f acc _ (by omega)) (Ev.pos (by omega) (Ev.pos (by omega) (Ev.bind (putText_f _ _ (by simp only [List.length_append]; omega)) (Ev.bind (putNum_f _ _ (by simp only [List.length_append]; omega)) (Ev.bind (putText_f _ _ (by simp only [List.length_append]; omega)) ?_))))))
      rw [laid_ent acc last l[i] he _ (seq_here he.2.2 g), wrap_in (by omega) (by omega)]
      exact hn
theorem refBuild_loop (l : List S38) (hw : ∀ e ∈ l, Fit e) (hl : l.length ≤ 8) (d : Nat) : ∀ (i : Nat) (acc last : List Int), l.length - i = d → i ≤ l.length → last.length ≤ 64 → acc.length + d * 1200 ≤ 20000 → Byts acc →
    Ev (fun k => sawyerref08_Build.l0 k l acc last (i : Int)) ((acc ++ bld last (l.drop i)) ++ sum4 (acc ++ bld last (l.drop i)), 0) := by
  induction d with
  | zero =>
    intro i acc last hd hi hla ha hb
    have hi : i = l.length := by omega
    subst hi
    refine Ev.step (fun k => sawyerref08_Build.l0.eq_2 _ _ _ _ _) (Ev.neg (by omega) (Ev.bind (refSummed_f hb (by omega)) (Ev.const ?_)))
    rw [List.drop_length]
    simp [bld]
  | succ d ih =>
    intro i acc last hd hi hla ha hb
    have hlt : i < l.length := by omega
    have hm : l[i] ∈ l := List.getElem_mem hlt
    have he := hw _ hm
    have h1 := okE_iff.1 he.2.2
    have h2 := shr_le last l[i].f0
    have hel := ent_length (last := last) he.2.2
    have hn := ih (i + 1) (acc ++ ent last l[i]) l[i].f0 (by omega) (by omega) h1.2.1 (by rw [List.length_append]; omega) (hb.append (ent_byts he.1 he.2.1))
    rw [List.drop_eq_getElem_cons hlt, show bld last (l[i] :: l.drop (i + 1)) = ent last l[i] ++ bld l[i].f0 (l.drop (i + 1)) from rfl, ← List.append_assoc acc]
    have g1 := grp9 (n := cap (shr last l[i].f0 : Int)) (cap_le _)
    have g2 := grp9 (n := (strOfNums (l[i].f0.drop (shr last l[i].f0 : Int).toNat)).size) (by rw [str_size, List.length_drop]; omega)
    have b1 : (bytesOf (strOfNums (l[i].f0.drop (shr last l[i].f0 : Int).toNat))).length ≤ 64 := by rw [str_bytes (he.1.drop _), List.length_drop]; omega
    have s1 : (strOfNums (l[i].f0.drop (shr last l[i].f0 : Int).toNat)).size ≤ 64 := by rw [str_size, List.length_drop]; omega
    have s3 : (strOfNums l[i].f3).size ≤ 1024 := by rw [str_size]; omega
    refine Ev.step (fun k => sawyerref08_Build.l0.eq_2 _ _ _ _ _) (Ev.pos (by omega) (Ev.pos (by omega) ?_))
    rw [rdE_nat l i hlt]
    refine Ev.bind (refShared_f last l[i].f0 (by omega) (by omega)) (Ev.bind (refNum_f acc _ (by omega)) (Ev.pos (by omega) (Ev.pos (by omega) (Ev.bind (refPutText_f _ _ (by simp only [List.length_append]; omega)) ?_))))
    by_cases g : l[i].f2 = true
    · have g3 := grp9 (n := cap (wrap64 (wrap64 (2 * l[i].f1) + 1))) (cap_le _)
      refine Ev.pos g (Ev.bind (refNum_f _ _ (by simp only [List.length_append]; omega)) (Ev.bind (refPutText_f _ _ (by simp only [List.length_append]; omega)) ?_))
      rw [laid_ent acc last l[i] he _ (seq_gone he.2.2 g), wrap_in (by omega) (by omega)]
      exact hn
    · have g3 := grp9 (n := cap (wrap64 (2 * l[i].f1))) (cap_le _)
      refine Ev.neg g (Ev.bind (refNum_f _ _ (by simp only [List.length_append]; omega)) (Ev.bind (refPutText_f _ _ (by simp only [List.length_append]; omega)) ?_))
      rw [laid_ent acc last l[i] he _ (seq_here he.2.2 g), wrap_in (by omega) (by omega)]
      exact hn
theorem rowOk_ok : ∀ (l : List S38) (p : Option S38), rowOk p l = true → ∀ e ∈ l, okE e = true
  | [], _, _, e, he => by cases he
  | a :: r, p, h, e, he => by
    unfold rowOk at h
    simp only [Bool.and_eq_true] at h
    rcases List.mem_cons.1 he with rfl | he
    · exact h.1.1
    · exact rowOk_ok r _ h.2 e he
def Good (e : S38) : Prop := Byts e.f0 ∧ Byts e.f3
theorem fit_of {l : List S38} (hw : ∀ e ∈ l, Good e) (h : chk l = 0) : (1 ≤ l.length ∧ l.length ≤ 8) ∧ ∀ e ∈ l, Fit e := by
  unfold chk at h
  split at h
  · rename_i c
    exact ⟨⟨c.1, c.2.1⟩, fun e he => ⟨(hw e he).1, (hw e he).2, rowOk_ok l none c.2.2 e he⟩⟩
  · exact absurd h (by decide)
theorem chk_or (l : List S38) : chk l = 0 ∨ chk l = 1 := by unfold chk; split <;> simp
def made (l : List S38) : List Int × Int := if chk l = 0 then (blk l, 0) else ([], 1)
theorem build_f {l : List S38} (hw : ∀ e ∈ l, Good e) : Ev (fun k => block_Build.f k l) (made l) := by
  unfold block_Build.f made
  refine Ev.bind (chk_f l (fun e he => (hw e he).1)) ?_
  by_cases c : chk l = 0
  · obtain ⟨⟨c1, c8⟩, hf⟩ := fit_of hw c
    rw [if_pos c]
    refine Ev.pos c (Ev.bind (putNum_f [] _ (by simp)) ?_)
    have g := grp9 (n := l.length) (by omega)
    have := build_loop l hf c8 l.length 0 (grp l.length) [] (by omega) (by omega) (by simp) (by omega) (grp_byts _)
    rw [List.drop_zero] at this
    rw [cap_of (by omega), List.nil_append]
    exact this
  · rw [if_neg c]
    refine Ev.neg c (Ev.const ?_)
    rcases chk_or l with h | h
    · exact absurd h c
    · rw [h]
theorem refBuild_f {l : List S38} (hw : ∀ e ∈ l, Good e) : Ev (fun k => sawyerref08_Build.f k l) (made l) := by
  unfold sawyerref08_Build.f made
  refine Ev.bind (refChk_f l (fun e he => (hw e he).1)) ?_
  by_cases c : chk l = 0
  · obtain ⟨⟨c1, c8⟩, hf⟩ := fit_of hw c
    rw [if_pos c]
    refine Ev.pos c (Ev.bind (refNum_f [] _ (by simp)) ?_)
    have g := grp9 (n := l.length) (by omega)
    have := refBuild_loop l hf c8 l.length 0 (grp l.length) [] (by omega) (by omega) (by simp) (by omega) (grp_byts _)
    rw [List.drop_zero] at this
    rw [cap_of (by omega), List.nil_append]
    exact this
  · rw [if_neg c]
    exact Ev.neg c (Ev.const rfl)
theorem bld_byts : ∀ (l : List S38) (last : List Int), (∀ e ∈ l, Good e) → Byts (bld last l)
  | [], _, _ => Byts.nil
  | e :: r, last, h => (ent_byts (h e List.mem_cons_self).1 (h e List.mem_cons_self).2).append (bld_byts r e.f0 (fun x hx => h x (List.mem_cons_of_mem _ hx)))
theorem made_byts {l : List S38} (hw : ∀ e ∈ l, Good e) : Byts (made l).1 := by
  unfold made
  split
  · exact ((grp_byts _).append (bld_byts l [] hw)).append (sum4_byts _)
  · exact Byts.nil
theorem good_of_wf {l : List S38} (hw : ∀ e ∈ l, (∀ b ∈ e.f0, (Lit.int .u8 b).wf = true) ∧ (Lit.int .i64 e.f1).wf = true ∧ ∀ b ∈ e.f3, (Lit.int .u8 b).wf = true) : ∀ e ∈ l, Good e :=
  fun e he => ⟨byts_of_wf (hw e he).1, byts_of_wf (hw e he).2.2⟩
end Go.Proofs.Ytkebeiillddboaa.Sw

set_option linter.unusedVariables false
namespace Go.Proofs.Ytkebeiillddboaa.Pure
open Go.RowKit Go.Proofs.Ytkebeiillddboaa.Px Go.Proofs.Ytkebeiillddboaa.Sw Go.Proofs.YtkebeiillddboaaW.PrintWords Go.Proofs.YtkebeiillddboaaW.PrintLast
theorem awake_f : Ev (fun k => sawyerlaw08_awake.f k) true := Ev.of sawyerlaw08_awake.mono (k := 400) (by kernel_rfl)
theorem BlockBuilds (l : List S38) (hw : ∀ e ∈ l, (∀ b ∈ e.f0, (Lit.int .u8 b).wf = true) ∧ (Lit.int .i64 e.f1).wf = true ∧ ∀ b ∈ e.f3, (Lit.int .u8 b).wf = true) : ∃ k, sawyerlaw08_BlockBuilds.f k l = some true := by
  have hg := good_of_wf hw
  have hb := made_byts hg
  refine Ev.rounds (r := true) ?_
  unfold sawyerlaw08_BlockBuilds.f
  refine Ev.bind awake_f (Ev.bind (build_f hg) (Ev.bind (refBuild_f hg) (Ev.pos rfl (Ev.pos rfl (Ev.bindc (same_f hb hb) (Ev.pos (by simp) ?_))))))
  refine Ev.bind (chk_f l (fun e he => (hg e he).1)) (Ev.bind (refChk_f l (fun e he => (hg e he).1)) (Ev.const ?_))
  simp
end Go.Proofs.Ytkebeiillddboaa.Pure
