/- The pure statement of CodeLinear: of three texts of one length, added bit by bit, the sum is that of their sums, added so. No condition. -/
import Derived.Test.YtmkojpkajlpokaaPx4
import Derived.Test.YtmkojpkajlpokaaPx12
import Derived.Test.YtmkojpkajlpokaaPx13
import Derived.Test.YtmkojpkajlpokaaPx18
import Derived.Test.YtmkojpkajlpokaaSpecCrc
import Derived.Test.YtmkojpkajlpokaaSpecB
namespace Go.Proofs.Ytmkojpkajlpokaa.Pure
open Go.RowKit Go.Proofs.Ytmkojpkajlpokaa.Px Go.Proofs.Ytmkojpkajlpokaa.Sw Go.Proofs.YtmkojpkajlpokaaW.PrintWords Go.Proofs.YtmkojpkajlpokaaW.PrintLast
/-- Two bytes added bit by bit. -/
def x8 (a b : Int) : Int := ((a.toNat ^^^ b.toNat : Nat) : Int)
theorem x8_range {a b : Int} (ha : 0 ≤ a ∧ a < 256) (hb : 0 ≤ b ∧ b < 256) : 0 ≤ x8 a b ∧ x8 a b < 256 := by
  unfold x8
  have := Nat.xor_lt_two_pow (n := 8) (x := a.toNat) (y := b.toNat) (by omega) (by omega)
  omega
theorem x8_bits {a b : Int} (ha : 0 ≤ a ∧ a < 256) (hb : 0 ≤ b ∧ b < 256) : Go.bits .xor .u8 a b = x8 a b := by
  obtain ⟨m, rfl⟩ := Int.eq_ofNat_of_zero_le ha.1
  obtain ⟨n, rfl⟩ := Int.eq_ofNat_of_zero_le hb.1
  have := Nat.xor_lt_two_pow (n := 8) (x := m) (y := n) (by omega) (by omega)
  have hm : m % 2 ^ 8 = m := Nat.mod_eq_of_lt (by omega)
  have hn : n % 2 ^ 8 = n := Nat.mod_eq_of_lt (by omega)
  show IntKind.u8.wrap (((BitVec.ofInt 8 (m:Int)) ^^^ (BitVec.ofInt 8 (n:Int))).toNat : Int) = _
  rw [BitVec.ofInt_natCast, BitVec.ofInt_natCast, BitVec.toNat_xor, BitVec.toNat_ofNat, BitVec.toNat_ofNat, hm, hn, IntKind.wrap_u8]
  unfold x8
  rw [Int.toNat_natCast, Int.toNat_natCast]
  omega
theorem x8_word {a b : Int} (ha : 0 ≤ a ∧ a < 256) (hb : 0 ≤ b ∧ b < 256) : BitVec.ofInt 32 (x8 a b) = BitVec.ofInt 32 a ^^^ BitVec.ofInt 32 b := by
  obtain ⟨m, rfl⟩ := Int.eq_ofNat_of_zero_le ha.1
  obtain ⟨n, rfl⟩ := Int.eq_ofNat_of_zero_le hb.1
  unfold x8
  rw [BitVec.ofInt_natCast, BitVec.ofInt_natCast, BitVec.ofInt_natCast]
  apply BitVec.eq_of_toNat_eq
  rw [BitVec.toNat_xor, BitVec.toNat_ofNat, BitVec.toNat_ofNat, BitVec.toNat_ofNat, Int.toNat_natCast, Int.toNat_natCast, Nat.xor_mod_two_pow]
def sum3 : List Int → List Int → List Int → List Int
  | a :: x, b :: y, c :: z => x8 (x8 a b) c :: sum3 x y z
  | _, _, _ => []
theorem sum3_byts : ∀ {x y z : List Int}, Byts x → Byts y → Byts z → Byts (sum3 x y z)
  | [], _, _, _, _, _ => by unfold sum3; exact Byts.nil
  | _ :: _, [], _, _, _, _ => by unfold sum3; exact Byts.nil
  | _ :: _, _ :: _, [], _, _, _ => by unfold sum3; exact Byts.nil
  | a :: x, b :: y, c :: z, hx, hy, hz => by
    unfold sum3
    have h1 := x8_range (x8_range hx.head hy.head) hz.head
    exact Byts.cons h1.1 h1.2 (sum3_byts hx.tail hy.tail hz.tail)
theorem word_xor (a b c d e f : W32) : (a ^^^ b ^^^ c) ^^^ (d ^^^ e ^^^ f) = (a ^^^ d) ^^^ (b ^^^ e) ^^^ (c ^^^ f) := by
  apply BitVec.eq_of_getLsbD_eq
  intro i hi
  simp only [BitVec.getLsbD_xor]
  cases a.getLsbD i <;> cases b.getLsbD i <;> cases c.getLsbD i <;> cases d.getLsbD i <;> cases e.getLsbD i <;> cases f.getLsbD i <;> rfl
theorem crcFrom_sum3 : ∀ (x y z : List Int) (u v w : W32), Byts x → Byts y → Byts z → x.length = y.length → x.length = z.length →
    crcFrom (u ^^^ v ^^^ w) (sum3 x y z) = crcFrom u x ^^^ crcFrom v y ^^^ crcFrom w z
  | [], [], [], _, _, _, _, _, _, _, _ => by unfold sum3; rfl
  | [], _ :: _, _, _, _, _, _, _, _, h, _ => by simp at h
  | [], [], _ :: _, _, _, _, _, _, _, _, h => by simp at h
  | _ :: _, [], _, _, _, _, _, _, _, h, _ => by simp at h
  | _ :: _, _ :: _, [], _, _, _, _, _, _, _, h => by simp at h
  | a :: x, b :: y, c :: z, u, v, w, hx, hy, hz, h1, h2 => by
    have ih := crcFrom_sum3 x y z (byteStep u a) (byteStep v b) (byteStep w c) hx.tail hy.tail hz.tail (by simpa using h1) (by simpa using h2)
    unfold sum3
    unfold crcFrom at ih ⊢
    rw [List.foldl_cons, List.foldl_cons, List.foldl_cons, List.foldl_cons, ← ih]
    congr 1
    unfold byteStep
    rw [x8_word (x8_range hx.head hy.head) hz.head, x8_word hx.head hy.head, word_xor, turns_xor, turns_xor]
theorem not3 (a b c : W32) : ~~~ (a ^^^ b ^^^ c) = ~~~ a ^^^ ~~~ b ^^^ ~~~ c := by
  apply BitVec.eq_of_getLsbD_eq
  intro i hi
  simp only [BitVec.getLsbD_xor, BitVec.getLsbD_not, hi, decide_true, Bool.true_and]
  cases a.getLsbD i <;> cases b.getLsbD i <;> cases c.getLsbD i <;> rfl
theorem crc_sum3 {x y z : List Int} (hx : Byts x) (hy : Byts y) (hz : Byts z) (h1 : x.length = y.length) (h2 : x.length = z.length) :
    crc (sum3 x y z) = Go.bits .xor .u32 (Go.bits .xor .u32 (crc x) (crc y)) (crc z) := by
  have e : ∀ l, crc l = num32 (~~~ crcFrom (BitVec.allOnes 32) l) := fun _ => rfl
  have e1 : (BitVec.allOnes 32 ^^^ BitVec.allOnes 32 ^^^ BitVec.allOnes 32 : W32) = BitVec.allOnes 32 := by decide
  have := crcFrom_sum3 x y z (BitVec.allOnes 32) (BitVec.allOnes 32) (BitVec.allOnes 32) hx hy hz h1 h2
  rw [e1] at this
  have inner : ∀ a b : W32, Go.bits .xor .u32 (num32 a) (num32 b) = num32 (a ^^^ b) := fun a b => by rw [xor_u32, ofInt_num32, ofInt_num32]
  rw [e, e, e, e, inner, inner, this, not3]
theorem sum3_snoc : ∀ (x y z : List Int) (a b c : Int), x.length = y.length → x.length = z.length → sum3 (x ++ [a]) (y ++ [b]) (z ++ [c]) = sum3 x y z ++ [x8 (x8 a b) c]
  | [], [], [], _, _, _, _, _ => by simp [sum3]
  | [], _ :: _, _, _, _, _, h, _ => by simp at h
  | [], [], _ :: _, _, _, _, _, h => by simp at h
  | _ :: _, [], _, _, _, _, h, _ => by simp at h
  | _ :: _, _ :: _, [], _, _, _, _, h => by simp at h
  | _ :: x, _ :: y, _ :: z, a, b, c, h1, h2 => by
    have := sum3_snoc x y z a b c (by simpa using h1) (by simpa using h2)
    simp only [List.cons_append, sum3, this]
theorem sum3_length : ∀ (x y z : List Int), x.length = y.length → x.length = z.length → (sum3 x y z).length = x.length
  | [], _, _, _, _ => by simp [sum3]
  | _ :: _, [], _, h, _ => by simp at h
  | _ :: _, _ :: _, [], _, h => by simp at h
  | _ :: x, _ :: y, _ :: z, h1, h2 => by
    have := sum3_length x y z (by simpa using h1) (by simpa using h2)
    simp [sum3, this]
theorem lin_loop (x y z : List Int) (hx : Byts x) (hy : Byts y) (hz : Byts z) (h1 : x.length = y.length) (h2 : x.length = z.length) (hb : x.length ≤ 5000) (d : Nat) :
    ∀ i : Nat, x.length - i = d → i ≤ x.length → Ev (fun k => sawyerlaw02_CodeLinear.l0 k x y z (sum3 (x.take i) (y.take i) (z.take i)) (i : Int)) true := by
  induction d with
  | zero =>
    intro i hd hi
    have hi : i = x.length := by omega
    rw [List.take_of_length_le (by omega), List.take_of_length_le (by omega), List.take_of_length_le (by omega)]
    have hs := sum3_byts hx hy hz
    refine Ev.step (f := fun k => ((code_Crc.f k (sum3 x y z)).bind fun t220 => ((code_Crc.f k x).bind fun t221 => ((code_Crc.f k y).bind fun t222 => ((code_Crc.f k z).bind fun t223 => (if t220 = (Go.bits .xor .u32 (Go.bits .xor .u32 t221 t222) t223) then ((code_Crc.f k (([97] : List Int))).bind fun t227 => (some (t227 != 0))) else (some false))))))) (fun k => ?_) ?_
    · simp only [sawyerlaw02_CodeLinear.l0]
      rw [if_neg (by omega)]
    · refine Ev.bind (crc_f hs (by rw [sum3_length _ _ _ h1 h2]; omega)) ?_
      refine Ev.bind (crc_f hx (by omega)) ?_
      refine Ev.bind (crc_f hy (by omega)) ?_
      refine Ev.bind (crc_f hz (by omega)) ?_
      refine Ev.pos (crc_sum3 hx hy hz h1 h2) ?_
      refine Ev.bind (crc_f (Byts.one (by omega) (by omega)) (by simp)) ?_
      exact Ev.const (by decide +kernel)
  | succ d ih =>
    intro i hd hi
    have i1 : i < x.length := by omega
    have i2 : i < y.length := by omega
    have i3 : i < z.length := by omega
    have b1 := hx (x[i]) (List.getElem_mem _)
    have b2 := hy (y[i]) (List.getElem_mem _)
    have b3 := hz (z[i]) (List.getElem_mem _)
    have l1 : (x.take i).length = i := by rw [List.length_take]; omega
    have l2 : (y.take i).length = i := by rw [List.length_take]; omega
    have l3 : (z.take i).length = i := by rw [List.length_take]; omega
    refine Ev.step (fun k => ?_) (show Ev (fun k => sawyerlaw02_CodeLinear.l0 k x y z (sum3 (x.take (i + 1)) (y.take (i + 1)) (z.take (i + 1))) ((i + 1 : Nat) : Int)) true from ih (i + 1) (by omega) (by omega))
    have hs : (sum3 (x.take i) (y.take i) (z.take i)).length = i := by rw [sum3_length _ _ _ (by omega) (by omega), l1]
    simp only [sawyerlaw02_CodeLinear.l0]
    rw [if_pos (by omega), if_pos (by omega), if_pos (by omega), if_pos (by omega), if_pos (by omega), rd_nat x i i1, rd_nat y i i2, rd_nat z i i3, x8_bits b1 b2, x8_bits (x8_range b1 b2) b3, wrap_in (by omega) (by omega)]
    rw [List.take_succ_eq_append_getElem i1, List.take_succ_eq_append_getElem i2, List.take_succ_eq_append_getElem i3, sum3_snoc _ _ _ _ _ _ (by omega) (by omega)]
    rfl
theorem lin_off (x y z : List Int) : Ev (fun k => sawyerlaw02_CodeLinear.j0 k x y z true) true := by
  refine Ev.step (f := fun k => (code_PutNum.f k ([] : List Int) 1).bind fun t210 => ((sawyerref02_Same.f t210 ([] : List Int)).bind fun t213 => (some (!t213)))) (fun k => ?_) ?_
  · simp only [sawyerlaw02_CodeLinear.j0]
    rw [if_pos trivial]
  · refine Ev.bind (putNum_f [] 1 (by simp)) ?_
    have h1 : grp (cap 1) = [1] := by rw [show cap 1 = 1 by decide, grp_lo (by omega)]; rfl
    rw [List.nil_append, h1]
    refine Ev.bindc (same_f (Byts.one (by omega) (by omega)) Byts.nil) ?_
    exact Ev.const (by simp)
theorem CodeLinear : sawyerlaw02_CodeLinear.Pure := by
  intro x y z _ _ wx _ _ wy _ _ wz
  have hx := byts_of_wf wx
  have hy := byts_of_wf wy
  have hz := byts_of_wf wz
  refine Ev.rounds (r := true) ?_
  unfold sawyerlaw02_CodeLinear.f
  by_cases h1 : (x.length : Int) = (y.length : Int)
  · refine Ev.pos h1 ?_
    by_cases h2 : (x.length : Int) = (z.length : Int)
    · refine Ev.pos h2 ?_
      by_cases h3 : (x.length : Int) > 5000
      · rw [decide_eq_true h3]
        exact lin_off x y z
      · rw [decide_eq_false h3]
        refine Ev.step (f := fun k => sawyerlaw02_CodeLinear.l0 k x y z ([] : List Int) 0) (fun k => ?_) ?_
        · simp only [sawyerlaw02_CodeLinear.j0]
          rw [if_neg (by simp)]
        · have := lin_loop x y z hx hy hz (by omega) (by omega) (by omega) x.length 0 (by omega) (by omega)
          simpa [sum3] using this
    · exact Ev.neg h2 (lin_off x y z)
  · exact Ev.neg h1 (lin_off x y z)
end Go.Proofs.Ytmkojpkajlpokaa.Pure
