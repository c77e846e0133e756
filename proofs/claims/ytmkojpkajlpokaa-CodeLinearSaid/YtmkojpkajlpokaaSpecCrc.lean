/- What the sums compute: a word of 32 bits, turned byte by byte; it is linear, and one byte turned turns it. -/
import Derived.Test.YtmkojpkajlpokaaPx4
import Derived.Test.YtmkojpkajlpokaaPx5
import Derived.Test.YtmkojpkajlpokaaSpecA
set_option linter.unusedVariables false
set_option linter.unusedSimpArgs false
namespace Go.Proofs.Ytmkojpkajlpokaa.Sw
open Go.RowKit Go.Proofs.Ytmkojpkajlpokaa.Px Go.Proofs.YtmkojpkajlpokaaW.PrintWords Go.Proofs.YtmkojpkajlpokaaW.PrintLast Go.Proofs.YtmkojpkajlpokaaW.PrintMore

abbrev W32 := BitVec 32
def poly : W32 := 3988292384#32
/-- One step of eight: a place down, and, if the bit that left was one, turned by the polynomial. -/
def turn (w : W32) : W32 := (w >>> 1) ^^^ (if w.getLsbD 0 then poly else 0#32)
def turns : Nat → W32 → W32
  | 0, w => w
  | n + 1, w => turns n (turn w)
def byteStep (w : W32) (c : Int) : W32 := turns 8 (w ^^^ BitVec.ofInt 32 c)
def crcFrom (w : W32) (l : List Int) : W32 := l.foldl byteStep w
/-- The sum of a row of bytes, as a number. -/
def crc (l : List Int) : Int := ((~~~ crcFrom (BitVec.allOnes 32) l).toNat : Int)

/-- A word as the program has it: a number from 0 to 2^32 - 1. -/
def num32 (w : W32) : Int := (w.toNat : Int)
theorem num32_range (w : W32) : 0 ≤ num32 w ∧ num32 w < 4294967296 := by unfold num32; have := w.isLt; omega
theorem ofInt_num32 (w : W32) : BitVec.ofInt 32 (num32 w) = w := by
  unfold num32
  rw [BitVec.ofInt_natCast, BitVec.ofNat_toNat, BitVec.setWidth_eq]
theorem wrap_u32 (w : W32) : IntKind.u32.wrap ((w.toNat : Nat) : Int) = num32 w := by
  rw [IntKind.wrap_u32]
  have := w.isLt
  unfold num32
  omega
theorem xor_u32 (x y : Int) : Go.bits .xor .u32 x y = num32 (BitVec.ofInt 32 x ^^^ BitVec.ofInt 32 y) := wrap_u32 _
theorem and_u32 (x y : Int) : Go.bits .and .u32 x y = num32 (BitVec.ofInt 32 x &&& BitVec.ofInt 32 y) := wrap_u32 _
theorem num32_div2 (w : W32) : (num32 w / (2 : Int) : Int) = num32 (w >>> (1 : Nat)) := by
  unfold num32
  rw [BitVec.toNat_ushiftRight, Nat.shiftRight_eq_div_pow]
  omega
theorem lsb_mod (w : W32) : w.getLsbD 0 = decide (num32 w % 2 = 1) := by
  unfold num32
  rw [BitVec.getLsbD, Nat.testBit_zero]
  congr 1
  apply propext
  omega
theorem mask (w : W32) : BitVec.ofInt 32 ((-(num32 (w &&& 1#32))) % 4294967296) = if w.getLsbD 0 then BitVec.allOnes 32 else 0#32 := by
  have h1 : num32 (w &&& 1#32) = num32 w % 2 := by
    unfold num32
    rw [BitVec.toNat_and]
    have : (1#32).toNat = 1 := rfl
    rw [this, Nat.and_one_is_mod]
    omega
  rw [h1, lsb_mod]
  have := num32_range w
  by_cases c : num32 w % 2 = 1
  · rw [c, decide_eq_true rfl]; rfl
  · have c0 : num32 w % 2 = 0 := by omega
    rw [c0, decide_eq_false (by omega)]; rfl
/-- What the program does in a step. -/
theorem turn_code (w : W32) : Go.bits .xor .u32 (num32 w / 2) (Go.bits .and .u32 3988292384 ((-(Go.bits .and .u32 (num32 w) 1)) % 4294967296)) = num32 (turn w) := by
  rw [and_u32 (num32 w) 1, ofInt_num32, show BitVec.ofInt 32 1 = 1#32 from rfl, and_u32, mask, xor_u32, ofInt_num32, num32_div2, ofInt_num32, show BitVec.ofInt 32 3988292384 = poly from rfl]
  congr 1
  unfold turn
  congr 1
  by_cases c : w.getLsbD 0
  · rw [if_pos c, if_pos c, BitVec.and_allOnes]
  · rw [if_neg c, if_neg c, BitVec.and_zero]
theorem turn_ref (w : W32) : (if (Int.tmod (num32 w) 2) = 1 then Go.bits .xor .u32 ((Int.tdiv (num32 w) 2) % 4294967296) 3988292384 else (Int.tdiv (num32 w) 2) % 4294967296) = num32 (turn w) := by
  have h := num32_range w
  rw [Int.tmod_eq_emod_of_nonneg h.1, Int.tdiv_eq_ediv_of_nonneg h.1, show num32 w / 2 % 4294967296 = num32 w / 2 by omega, num32_div2]
  unfold turn
  rw [lsb_mod]
  by_cases c : num32 w % 2 = 1
  · rw [if_pos c, decide_eq_true c, if_pos rfl, xor_u32, ofInt_num32]; rfl
  · rw [if_neg c, decide_eq_false c, if_neg (by simp), BitVec.xor_zero]
theorem code_rounds (l : List Int) (n i : Int) (j : Nat) : ∀ (m : Nat) (w : W32), m + j = 8 → ∀ r, Ev (fun k => code_Crc.l0 k (num32 (turns m w)) l n (wrap64 (i + 1))) r → Ev (fun k => code_Crc.l1 k (num32 w) l n i (j : Int)) r := by
  intro m
  induction m generalizing j with
  | zero =>
    intro w hm r h
    refine Ev.step (fun k => ?_) h
    simp only [code_Crc.l1]
    rw [if_neg (by omega)]
    rfl
  | succ m ih =>
    intro w hm r h
    refine Ev.step (fun k => ?_) (show Ev (fun k => code_Crc.l1 k (num32 (turn w)) l n i ((j + 1 : Nat) : Int)) r from ih (j + 1) (turn w) (by omega) r h)
    simp only [code_Crc.l1]
    rw [if_pos (by omega), turn_code, wrap_in (by omega) (by omega)]
    rfl
theorem ref_rounds (l : List Int) (i : Int) (j : Nat) : ∀ (m : Nat) (w : W32), m + j = 8 → ∀ r, Ev (fun k => sawyerref02_Crc.l0 k l (num32 (turns m w)) (wrap64 (i + 1))) r → Ev (fun k => sawyerref02_Crc.l1 k l (num32 w) i (j : Int)) r := by
  intro m
  induction m generalizing j with
  | zero =>
    intro w hm r h
    refine Ev.step (fun k => ?_) h
    simp only [sawyerref02_Crc.l1]
    rw [if_neg (by omega)]
    rfl
  | succ m ih =>
    intro w hm r h
    refine Ev.step (fun k => ?_) (show Ev (fun k => sawyerref02_Crc.l1 k l (num32 (turn w)) i ((j + 1 : Nat) : Int)) r from ih (j + 1) (turn w) (by omega) r h)
    simp only [sawyerref02_Crc.l1]
    rw [if_pos (by omega), wrap_in (n := (j : Int) + 1) (by omega) (by omega), show (j : Int) + 1 = ((j + 1 : Nat) : Int) by omega, ← turn_ref]
    split <;> rfl
theorem xor_byte (w : W32) (c : Int) (h0 : 0 ≤ c) (h1 : c < 256) : Go.bits .xor .u32 (num32 w) (c % 4294967296) = num32 (w ^^^ BitVec.ofInt 32 c) := by
  rw [xor_u32, ofInt_num32, show c % 4294967296 = c by omega]
theorem not_code (w : W32) : Go.bits .xor .u32 4294967295 (num32 w) = num32 (~~~ w) := by
  rw [xor_u32, ofInt_num32, show BitVec.ofInt 32 4294967295 = BitVec.allOnes 32 from rfl, BitVec.allOnes_xor]
theorem crc_loop (l : List Int) (hl : Byts l) (hb : l.length ≤ 140737488355328) (d : Nat) : ∀ (i : Nat) (w : W32), l.length - i = d → i ≤ l.length →
    Ev (fun k => code_Crc.l0 k (num32 w) l (l.length : Int) (i : Int)) (num32 (~~~ crcFrom w (l.drop i))) := by
  induction d with
  | zero =>
    intro i w hd hi
    rw [List.drop_eq_nil_of_le (by omega)]
    refine Ev.step (f := fun _ => some (num32 (~~~ w))) (fun k => ?_) (Ev.const rfl)
    simp only [code_Crc.l0]
    rw [if_neg (by omega), not_code]
  | succ d ih =>
    intro i w hd hi
    have hlt : i < l.length := by omega
    have hc := hl (l[i]) (List.getElem_mem _)
    rw [List.drop_eq_getElem_cons hlt]
    refine Ev.step (f := fun k => code_Crc.l1 k (num32 (w ^^^ BitVec.ofInt 32 (l[i]))) l (l.length : Int) (i : Int) ((0 : Nat) : Int)) (fun k => ?_) (code_rounds l _ _ 0 8 _ (by omega) _ ?_)
    · simp only [code_Crc.l0]
      rw [if_pos (by omega), if_pos (by omega), if_pos (by omega), rd_nat l i hlt, xor_byte _ _ hc.1 hc.2]
      rfl
    · have := ih (i + 1) (byteStep w (l[i])) (by omega) (by omega)
      rw [wrap_in (by omega) (by omega)]
      exact this
theorem crc_f {l : List Int} (hl : Byts l) (hb : l.length ≤ 140737488355328) : Ev (fun k => code_Crc.f k l) (crc l) := by
  unfold code_Crc.f
  exact crc_loop l hl hb l.length 0 (BitVec.allOnes 32) (by omega) (by omega)
theorem refCrc_loop (l : List Int) (hl : Byts l) (hb : l.length ≤ 140737488355328) (d : Nat) : ∀ (i : Nat) (w : W32), l.length - i = d → i ≤ l.length →
    Ev (fun k => sawyerref02_Crc.l0 k l (num32 w) (i : Int)) (num32 (~~~ crcFrom w (l.drop i))) := by
  induction d with
  | zero =>
    intro i w hd hi
    rw [List.drop_eq_nil_of_le (by omega)]
    refine Ev.step (f := fun _ => some (num32 (~~~ w))) (fun k => ?_) (Ev.const rfl)
    simp only [sawyerref02_Crc.l0]
    rw [if_neg (by omega), not_code]
  | succ d ih =>
    intro i w hd hi
    have hlt : i < l.length := by omega
    have hc := hl (l[i]) (List.getElem_mem _)
    rw [List.drop_eq_getElem_cons hlt]
    refine Ev.step (f := fun k => sawyerref02_Crc.l1 k l (num32 (w ^^^ BitVec.ofInt 32 (l[i]))) (i : Int) ((0 : Nat) : Int)) (fun k => ?_) (ref_rounds l _ 0 8 _ (by omega) _ ?_)
    · simp only [sawyerref02_Crc.l0]
      rw [if_pos (by omega), if_pos (by omega), rd_nat l i hlt, xor_byte _ _ hc.1 hc.2]
      rfl
    · have := ih (i + 1) (byteStep w (l[i])) (by omega) (by omega)
      rw [wrap_in (by omega) (by omega)]
      exact this
theorem refCrc_f {l : List Int} (hl : Byts l) (hb : l.length ≤ 140737488355328) : Ev (fun k => sawyerref02_Crc.f k l) (crc l) := by
  unfold sawyerref02_Crc.f
  exact refCrc_loop l hl hb l.length 0 (BitVec.allOnes 32) (by omega) (by omega)
theorem crc_range (l : List Int) : 0 ≤ crc l ∧ crc l < 4294967296 := num32_range _

/-! ### the sum is linear, and no two words come to one -/
theorem turn_xor (a b : W32) : turn (a ^^^ b) = turn a ^^^ turn b := by
  unfold turn
  rw [BitVec.ushiftRight_xor_distrib, BitVec.getLsbD_xor]
  generalize a >>> 1 = x
  generalize b >>> 1 = y
  generalize a.getLsbD 0 = p
  generalize b.getLsbD 0 = q
  apply BitVec.eq_of_getLsbD_eq
  intro i hi
  cases p <;> cases q <;> simp only [Bool.xor_false, Bool.xor_true, Bool.not_true, Bool.not_false, Bool.false_eq_true, if_true, if_false, BitVec.getLsbD_xor, BitVec.getLsbD_zero] <;> cases x.getLsbD i <;> cases y.getLsbD i <;> cases poly.getLsbD i <;> rfl
theorem turns_xor (n : Nat) : ∀ a b : W32, turns n (a ^^^ b) = turns n a ^^^ turns n b := by
  induction n with
  | zero => intro a b; rfl
  | succ n ih => intro a b; simp only [turns]; rw [turn_xor, ih]
theorem turn_zero {w : W32} (h : turn w = 0#32) : w = 0#32 := by
  unfold turn at h
  have hm : ((w >>> 1) ^^^ (if w.getLsbD 0 then poly else 0#32)).getLsbD 31 = false := by rw [h]; rfl
  rw [BitVec.getLsbD_xor, BitVec.getLsbD_ushiftRight] at hm
  have h32 : w.getLsbD (1 + 31) = false := BitVec.getLsbD_of_ge _ _ (by omega)
  rw [h32, Bool.false_xor] at hm
  have h0 : w.getLsbD 0 = false := by
    cases c : w.getLsbD 0 with
    | false => rfl
    | true => rw [c, if_pos rfl] at hm; exact absurd hm (by decide)
  rw [h0, if_neg (by simp), BitVec.xor_zero] at h
  apply BitVec.eq_of_getLsbD_eq
  intro i hi
  rw [BitVec.getLsbD_zero]
  cases i with
  | zero => exact h0
  | succ i =>
    have := congrArg (fun v : W32 => v.getLsbD i) h
    simp only [BitVec.getLsbD_ushiftRight, BitVec.getLsbD_zero] at this
    rw [Nat.add_comm] at this
    exact this
theorem turns_zero (n : Nat) : ∀ w : W32, turns n w = 0#32 → w = 0#32 := by
  induction n with
  | zero => intro w h; exact h
  | succ n ih => intro w h; exact turn_zero (ih _ h)
theorem xor_eq_zero {a b : W32} (h : a ^^^ b = 0#32) : a = b := by
  have := congrArg (· ^^^ b) h
  simpa [BitVec.xor_assoc] using this
theorem turns_inj (n : Nat) {a b : W32} (h : turns n a = turns n b) : a = b := by
  apply xor_eq_zero
  apply turns_zero n
  rw [turns_xor, h, BitVec.xor_self]
theorem byteStep_left {a b : W32} {c : Int} (h : byteStep a c = byteStep b c) : a = b := by
  have := turns_inj 8 h
  have h2 := congrArg (· ^^^ BitVec.ofInt 32 c) this
  simpa [BitVec.xor_assoc] using h2
theorem ofInt_byte {a b : Int} (ha : 0 ≤ a ∧ a < 256) (hb : 0 ≤ b ∧ b < 256) (h : BitVec.ofInt 32 a = BitVec.ofInt 32 b) : a = b := by
  have := congrArg BitVec.toInt h
  rw [BitVec.toInt_ofInt, BitVec.toInt_ofInt] at this
  rw [Int.bmod_eq_of_le (by simp; omega) (by simp; omega), Int.bmod_eq_of_le (by simp; omega) (by simp; omega)] at this
  exact this
theorem byteStep_right {w : W32} {a b : Int} (ha : 0 ≤ a ∧ a < 256) (hb : 0 ≤ b ∧ b < 256) (h : byteStep w a = byteStep w b) : a = b := by
  have h1 := turns_inj 8 h
  have h2 := congrArg (w ^^^ ·) h1
  simp only [← BitVec.xor_assoc, BitVec.xor_self, BitVec.zero_xor] at h2
  exact ofInt_byte ha hb h2
theorem crcFrom_inj : ∀ (l : List Int) {a b : W32}, crcFrom a l = crcFrom b l → a = b
  | [], _, _, h => h
  | c :: l, _, _, h => byteStep_left (crcFrom_inj l h)
theorem not_inj {a b : W32} (h : ~~~ a = ~~~ b) : a = b := by
  have := congrArg (~~~ ·) h
  simpa using this
theorem num32_inj {a b : W32} (h : num32 a = num32 b) : a = b := by
  rw [← ofInt_num32 a, h, ofInt_num32]
/-- One byte turned turns the sum. -/
theorem crc_byte (x y : List Int) {a b : Int} (ha : 0 ≤ a ∧ a < 256) (hb : 0 ≤ b ∧ b < 256) (h : crc (x ++ a :: y) = crc (x ++ b :: y)) : a = b := by
  have h1 : crcFrom (BitVec.allOnes 32) (x ++ a :: y) = crcFrom (BitVec.allOnes 32) (x ++ b :: y) := not_inj (num32_inj h)
  unfold crcFrom at h1
  rw [List.foldl_append, List.foldl_append, List.foldl_cons, List.foldl_cons] at h1
  exact byteStep_right ha hb (crcFrom_inj y h1)
end Go.Proofs.Ytmkojpkajlpokaa.Sw
