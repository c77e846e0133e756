/- EditBack, walked. Conditions: those of each theorem. -/
import Derived.Test.YthpklhkibcenoaaCore
import Derived.Test.YthpklhkibcenoaaHap
import Derived.Test.YthpklhkibcenoaaHaw
import Derived.Test.YthpklhkibcenoaaHcv
import Derived.Test.YthpklhkibcenoaaHdc
import Derived.Test.YthpklhkibcenoaaHde
import Derived.Test.YthpklhkibcenoaaHdp
import Derived.Test.YthpklhkibcenoaaHen
import Derived.Test.YthpklhkibcenoaaHpl
import Derived.Test.YthpklhkibcenoaaHrb
import Derived.Test.YthpklhkibcenoaaHto
import Derived.Test.YthpklhkibcenoaaME
import Derived.Test.YthpklhkibcenoaaPx0
import Derived.Test.YthpklhkibcenoaaSpecA
namespace Go.Proofs.Ythpklhkibcenoaa.Sk
open Go.RowKit Go.Proofs.YthpklhkibcenoaaW.PrintWords Go.Proofs.YthpklhkibcenoaaW.PrintLast Go.Proofs.YthpklhkibcenoaaW.PrintMore Go.Proofs.Ythpklhkibcenoaa.Px Go.Proofs.Ythpklhkibcenoaa.Sw
set_option linter.unusedVariables false
set_option linter.unusedSimpArgs false
theorem and_mask (x : Int) (j : Nat) (hj : j ≤ 30) : 0 ≤ Go.bits .and .i64 x ((2 ^ j - 1 : Nat) : Int) ∧ Go.bits .and .i64 x ((2 ^ j - 1 : Nat) : Int) < 2 ^ j := by
 have h2 : (2 : Nat) ^ j ≤ 2 ^ 30 := Nat.pow_le_pow_right (by omega) hj
 have h0 : 0 < (2 : Nat) ^ j := Nat.pow_pos (by omega)
 have e : ∃ n : Nat, n < 2 ^ j ∧ Go.bits .and .i64 x ((2 ^ j - 1 : Nat) : Int) = (n : Int) := by
  refine ⟨((BitVec.ofInt 64 x) &&& (BitVec.ofInt 64 ((2 ^ j - 1 : Nat) : Int))).toNat, ?_, ?_⟩
  ·
   rw [BitVec.ofInt_natCast, BitVec.toNat_and, BitVec.toNat_ofNat, Nat.mod_eq_of_lt (by omega), Nat.and_two_pow_sub_one_eq_mod]
   exact Nat.mod_lt _ h0
  ·
   have hlt : ((BitVec.ofInt 64 x) &&& (BitVec.ofInt 64 ((2 ^ j - 1 : Nat) : Int))).toNat < 2 ^ j := by
    rw [BitVec.ofInt_natCast, BitVec.toNat_and, BitVec.toNat_ofNat, Nat.mod_eq_of_lt (by omega), Nat.and_two_pow_sub_one_eq_mod]
    exact Nat.mod_lt _ h0
   show IntKind.i64.wrap ((((BitVec.ofInt 64 x) &&& (BitVec.ofInt 64 ((2 ^ j - 1 : Nat) : Int))).toNat : Nat) : Int) = _
   revert hlt
   generalize ((BitVec.ofInt 64 x) &&& (BitVec.ofInt 64 ((2 ^ j - 1 : Nat) : Int))).toNat = n
   intro hlt
   simp only [IntKind.wrap, IntKind.bits, IntKind.signed]
   simp
   omega
 obtain ⟨n, hn, e⟩ := e
 rw [e]
 have : ((2 ^ j : Nat) : Int) = (2 : Int) ^ j := by simp
 omega

theorem dec_enc {w : World} {g n s q : Int} {A : Option Addr} {c : Nat} {y : List Int} {ts : List S57} (hc : checkB g n s q ts = true) (hy : y = encM g n s q ts) (hC : Kd.C (Kd.int .u8) w A y.length y) (hlc : y.length ≤ c) (hL : Byts y) (hN : y.length ≤ 140737488351232) :
  Calls Try.prog 23 #[.slice A y.length c] w fun ex w' => ∃ v', ex = .returned (.tuple #[.agg #[.int .i64 g, .int .i64 n, .int .i64 s, .int .i64 q, v'], .int .i64 0]) ∧ Kd.N k57 57 w' w.heap.size (fun k => w.heap.size ≤ k) v' ts ∧ Below w.heap.size w w' := by
 refine (decode_calls hC hlc hL hN).mono ?_
 have e : decV 4097 y = (g, n, s, q, ts, 0) := by rw [hy]; exact decV_enc hc 4097 (by omega)
 rw [e]
 exact fun ex w' hh => hh
theorem dec_none {w : World} {A : Option Addr} {c : Nat} {y : List Int} (h : decV 4097 y = (0, 0, 0, 0, [], 2)) (hC : Kd.C (Kd.int .u8) w A y.length y) (hlc : y.length ≤ c) (hL : Byts y) (hN : y.length ≤ 140737488351232) :
  Calls Try.prog 23 #[.slice A y.length c] w fun ex w' => ∃ A' c', ex = .returned (.tuple #[.agg #[.int .i64 0, .int .i64 0, .int .i64 0, .int .i64 0, .slice A' 0 c'], .int .i64 2]) ∧ Below w.heap.size w w' := by
 refine (decode_calls hC hlc hL hN).mono ?_
 rw [h]
 rintro ex w' ⟨v', rfl, hn, hb⟩
 obtain ⟨A', c', rfl⟩ := Kd.N_slice hn
 exact ⟨A', c', rfl, hb⟩
theorem dec_cut {g n s q : Int} {ts : List S57} {y : List Int} (hc : checkB g n s q ts = true) (hy : y = encM g n s q ts) {i : Nat} (hi : i < y.length) : decV 4097 (y.take i) = (0, 0, 0, 0, [], 2) := by
 rcases decV_cases 4097 (y.take i) with h | ⟨g', n', s', q', ts', hc', he⟩
 ·
  exact h
 ·
  have h2 := enc_apart (r := y.drop i) hc hc' (by rw [he, List.take_append_drop, hy])
  have h3 := congrArg List.length h2
  rw [List.length_drop, List.length_nil] at h3
  omega
theorem dec_more {g n s q : Int} {ts : List S57} {y : List Int} (hc : checkB g n s q ts = true) (hy : y = encM g n s q ts) (x : Int) : decV 4097 (y ++ [x]) = (0, 0, 0, 0, [], 2) := by
 rcases decV_cases 4097 (y ++ [x]) with h | ⟨g', n', s', q', ts', hc', he⟩
 ·
  exact h
 ·
  have h2 := enc_apart (r := [x]) hc' hc (by rw [he, hy])
  cases h2
theorem enc_long {g n s q : Int} {ts : List S57} (hc : checkB g n s q ts = true) : 0 < (encM g n s q ts).length ∧ (encM g n s q ts).length ≤ 1000000 := by
 have h1 := notesB_len (checkB_right hc)
 have h2 := (checkB_len hc).1
 have a0 := grp9 (cap_le g)
 have a1 := grp9 (cap_le n)
 have a2 := grp9 (cap_le s)
 have a3 := grp9 (cap_le q)
 have a4 := grp9 (n := ts.length) (by omega)
 have p0 := grp_pos (cap g)
 unfold encM
 simp only [List.length_append]
 omega
theorem mine_calls' {w : World} (g n s q : Int) {A : Option Addr} {c : Nat} {l : List S37} (hC : Kd.C k37 w A l.length l) (hlc : l.length ≤ c) (hl : l.length ≤ 1954687338211) :
  Calls Try.prog 12 #[.agg #[.int .i64 g, .int .i64 n, .int .i64 s, .int .i64 q, .slice A l.length c]] w fun ex w' => ∃ A' c', ex = .returned (.agg #[.int .i64 g, .int .i64 n, .int .i64 s, .int .i64 q, .slice A' (l.map toM).length c']) ∧ (l.map toM).length ≤ c' ∧ Kd.C k57 w' A' (l.map toM).length (l.map toM) ∧ Below w.heap.size w w' := mine_callsH g n s q rfl hC hl
theorem theirs_calls' {w : World} (g n s q : Int) {A : Option Addr} {c : Nat} {l : List S37} (hC : Kd.C k57 w A (l.map toM).length (l.map toM)) (hlc : (l.map toM).length ≤ c) (hl : l.length ≤ 4096) :
  Calls Try.prog 26 #[.agg #[.int .i64 g, .int .i64 n, .int .i64 s, .int .i64 q, .slice A l.length c]] w fun ex w' => ∃ A' c', ex = .returned (.agg #[.int .i64 g, .int .i64 n, .int .i64 s, .int .i64 q, .slice A' l.length c']) ∧ l.length ≤ c' ∧ Kd.C k37 w' A' l.length l ∧ Below w.heap.size w w' := by
 have h0 := theirs_callsH (c := c) g n s q (rs := l) (l := l.map toM) (map_toR_toM l).symm hC (by rw [List.length_map]; omega)
 rw [List.length_map] at h0
 exact h0

theorem own_after {v v1 : Value} {W W1 : World} (h : ∀ k, v.ownBlock = some k → W.heap.size ≤ k) (hs : W.heap.size ≤ W1.heap.size) (hat : v1.ownBlock = v.ownBlock ∨ ∃ b, v1.ownBlock = some b ∧ W1.heap.size ≤ b) : ∀ k, v1.ownBlock = some k → W.heap.size ≤ k := by
 intro k hk
 rcases hat with h2 | ⟨b, h1, h2⟩
 ·
  exact h k (h2 ▸ hk)
 ·
  rw [h1] at hk
  injection hk with hk
  omega
set_option maxHeartbeats 40000000 in
set_option maxRecDepth 100000 in
theorem back_calls {w : World} (g n s q : Int) {A : Option Addr} {c : Nat} {l : List S37} (at_ : Int) (hC : Kd.C k37 w A l.length l) (hlc : l.length ≤ c) (hM : ∀ m ∈ l.map toM, MB m) (hl : l.length ≤ 1954687338211) :
  Calls Try.prog 9 #[.agg #[.int .i64 g, .int .i64 n, .int .i64 s, .int .i64 q, .slice A l.length c], .int .i64 at_] w fun ex w' => ex = .returned (.bool true) ∧ Below w.heap.size w w' := by
 have huV := Try.underlying28
 have huW := Try.underlying24
 have HC := Aside0.mk hC
 clear hC
 have HLC := Aside0.mk hlc
 clear hlc
 have HM := Aside0.mk hM
 clear hM
 have HL := Aside0.mk hl
 clear hl
 cases hck : checkB g n s q (l.map toM) with
 | false =>
  as_aux_lemma =>
  have HCK := Aside0.mk hck
  clear hck
  go_enter Try.func9, Try.ntmps9
  go_wp2_with (first
   | ((with_reducible refine gate_dst (N := 2) rfl ?_); (try (refine gate_guard (by rfl) ?_; dsimp only)); refine box_event ?hg (N := 2) ?hd (cs := #[.int .i64 g, .int .i64 n, .int .i64 s, .int .i64 q, .slice A l.length c]) (t := 24) ?hr ?_; (case hd => rfl); (case hg => rfl); (case hr => first | (go_simp; done) | (go_simp; rfl)); intro gb hqgb w1 hxgb hbgb; have n_ := Aside0.mk hqgb; clear hqgb; have hqgb := n_; clear n_; have n_ := Aside0.mk hxgb; clear hxgb; have hxgb := n_; clear n_; have n_ := Aside0.mk hbgb; clear hbgb; have hbgb := n_; clear n_; have Q1 := Aside0.mk (show w.heap.size ≤ gb from Nat.le_of_eq hqgb.out.symm))
   | ((with_reducible refine gate_dst (N := 14) rfl ?_); (try (refine gate_guard (by rfl) ?_; dsimp only)); refine goesL_ (some 14) rfl rfl Try.func10 (by kernel_rfl) rfl #[] rfl (by (try simp only [List.map_toArray, List.map_cons, List.map_nil]); first | done | rfl) ?_; refine (awake_calls _).mono ?_; rintro ex w2 ⟨rfl, hb⟩; refine ⟨_, rfl, ?_⟩; have X2 := Aside0.mk (blk_below hxgb.out hb); have B2 := Aside0.mk (below_step hbgb.out hb); clear hb hxgb hbgb hqgb; have hca0 : w2.cell? ⟨gb, 0, none⟩ = some (.int .i64 g) := (blk_cell X2.out 0).trans rfl; have hca1 : w2.cell? ⟨gb, 1, none⟩ = some (.int .i64 n) := (blk_cell X2.out 1).trans rfl; have hca2 : w2.cell? ⟨gb, 2, none⟩ = some (.int .i64 s) := (blk_cell X2.out 2).trans rfl; have hca3 : w2.cell? ⟨gb, 3, none⟩ = some (.int .i64 q) := (blk_cell X2.out 3).trans rfl; have hca4 : w2.cell? ⟨gb, 4, none⟩ = some (.slice A l.length c) := (blk_cell X2.out 4).trans rfl)
   | ((with_reducible refine gate_dst (N := 17) rfl ?_); (try (refine gate_guard (by rfl) ?_; dsimp only)); refine goesL_ (some 17) rfl rfl Try.func12 (by kernel_rfl) rfl #[.agg #[.int .i64 g, .int .i64 n, .int .i64 s, .int .i64 q, .slice A l.length c]] rfl (by (try simp only [List.map_toArray, List.map_cons, List.map_nil]); first | done | rfl) ?_; refine (mine_calls' g n s q (Kd.C_below HC.out B2.out) HLC.out HL.out).mono ?_; rintro ex w3 ⟨Am, cm, rfl, hlm, hcm, hb⟩; refine ⟨_, rfl, ?_⟩; have X3 := Aside0.mk (blk_below X2.out hb); have B3 := Aside0.mk (below_step B2.out hb); have M3 := Aside0.mk hcm; have LM3 := Aside0.mk hlm; clear hb hcm hlm)
   | ((with_reducible refine gate_dst (N := 18) rfl ?_); (try (refine gate_guard (by rfl) ?_; dsimp only)); refine goesL_ (some 18) rfl rfl Try.func20 (by kernel_rfl) rfl #[.agg #[.int .i64 g, .int .i64 n, .int .i64 s, .int .i64 q, .slice Am (l.map toM).length cm]] rfl (by (try simp only [List.map_toArray, List.map_cons, List.map_nil]); first | done | rfl) ?_; refine (encode_no g n s q M3.out LM3.out HM.out HCK.out).mono ?_; rintro ex w4 ⟨v4, rfl, hr, hb⟩; refine ⟨_, rfl, ?_⟩; have X4 := Aside0.mk (blk_below X3.out hb); have B4 := Aside0.mk (below_step B3.out hb); obtain ⟨h1_, A4, c4, rfl, hl_, hf_⟩ := hr; have L4 := Aside0.mk hl_; skip; clear hb h1_ hl_ hf_))
  go_ret
  exact ⟨rfl, B4.out⟩
 | true =>
  as_aux_lemma =>
  have HCK := Aside0.mk hck
  clear hck
  obtain ⟨y, hy⟩ : ∃ y, y = encM g n s q (l.map toM) := ⟨_, rfl⟩
  have HY := Aside0.mk hy
  have HYL := Aside0.mk (show 0 < y.length ∧ y.length ≤ 1000000 by rw [hy]; exact enc_long HCK.out)
  have HYB := Aside0.mk (show Byts y by rw [hy]; exact encM_byts g n s q HM.out)
  have HL4 := Aside0.mk (show l.length ≤ 4096 by have h := (checkB_len HCK.out).1; rw [List.length_map] at h; exact h)
  have y0 : ((y.length : Int) == 0) = false := beq_eq_false_iff_ne.mpr (by have h := HYL.out.1; omega)
  have y1 : ((y.length : Int) != 0) = true := bne_iff_ne.mpr (by have h := HYL.out.1; omega)
  have y2 : ¬ (y = []) := fun h_ => by have h := HYL.out.1; rw [h_] at h; exact Nat.lt_irrefl _ h
  clear hy
  go_enter Try.func9, Try.ntmps9
  go_upto_region 6 with (first
   | ((with_reducible refine gate_dst (N := 2) rfl ?_); (try (refine gate_guard (by rfl) ?_; dsimp only)); refine box_event ?hg (N := 2) ?hd (cs := #[.int .i64 g, .int .i64 n, .int .i64 s, .int .i64 q, .slice A l.length c]) (t := 24) ?hr ?_; (case hd => rfl); (case hg => rfl); (case hr => first | (go_simp; done) | (go_simp; rfl)); intro gb hqgb w1 hxgb hbgb; have n_ := Aside0.mk hqgb; clear hqgb; have hqgb := n_; clear n_; have n_ := Aside0.mk hxgb; clear hxgb; have hxgb := n_; clear n_; have n_ := Aside0.mk hbgb; clear hbgb; have hbgb := n_; clear n_; have Q1 := Aside0.mk (show w.heap.size ≤ gb from Nat.le_of_eq hqgb.out.symm))
   | ((with_reducible refine gate_dst (N := 14) rfl ?_); (try (refine gate_guard (by rfl) ?_; dsimp only)); refine goesL_ (some 14) rfl rfl Try.func10 (by kernel_rfl) rfl #[] rfl (by (try simp only [List.map_toArray, List.map_cons, List.map_nil]); first | done | rfl) ?_; refine (awake_calls _).mono ?_; rintro ex w2 ⟨rfl, hb⟩; refine ⟨_, rfl, ?_⟩; have X2 := Aside0.mk (blk_below hxgb.out hb); have B2 := Aside0.mk (below_step hbgb.out hb); clear hb hxgb hbgb hqgb; have hca0 : w2.cell? ⟨gb, 0, none⟩ = some (.int .i64 g) := (blk_cell X2.out 0).trans rfl; have hca1 : w2.cell? ⟨gb, 1, none⟩ = some (.int .i64 n) := (blk_cell X2.out 1).trans rfl; have hca2 : w2.cell? ⟨gb, 2, none⟩ = some (.int .i64 s) := (blk_cell X2.out 2).trans rfl; have hca3 : w2.cell? ⟨gb, 3, none⟩ = some (.int .i64 q) := (blk_cell X2.out 3).trans rfl; have hca4 : w2.cell? ⟨gb, 4, none⟩ = some (.slice A l.length c) := (blk_cell X2.out 4).trans rfl)
   | ((with_reducible refine gate_dst (N := 17) rfl ?_); (try (refine gate_guard (by rfl) ?_; dsimp only)); refine goesL_ (some 17) rfl rfl Try.func12 (by kernel_rfl) rfl #[.agg #[.int .i64 g, .int .i64 n, .int .i64 s, .int .i64 q, .slice A l.length c]] rfl (by (try simp only [List.map_toArray, List.map_cons, List.map_nil]); first | done | rfl) ?_; refine (mine_calls' g n s q (Kd.C_below HC.out B2.out) HLC.out HL.out).mono ?_; rintro ex w3 ⟨Am, cm, rfl, hlm, hcm, hb⟩; refine ⟨_, rfl, ?_⟩; have X3 := Aside0.mk (blk_below X2.out hb); have B3 := Aside0.mk (below_step B2.out hb); have M3 := Aside0.mk hcm; have LM3 := Aside0.mk hlm; clear hb hcm hlm)
   | ((with_reducible refine gate_dst (N := 18) rfl ?_); (try (refine gate_guard (by rfl) ?_; dsimp only)); refine goesL_ (some 18) rfl rfl Try.func20 (by kernel_rfl) rfl #[.agg #[.int .i64 g, .int .i64 n, .int .i64 s, .int .i64 q, .slice Am (l.map toM).length cm]] rfl (by (try simp only [List.map_toArray, List.map_cons, List.map_nil]); first | done | rfl) ?_; refine (encode_yes g n s q M3.out LM3.out HM.out HCK.out).mono ?_; rintro ex w4 ⟨v4, rfl, hr, hb⟩; refine ⟨_, rfl, ?_⟩; have X4 := Aside0.mk (blk_below X3.out hb); have B4 := Aside0.mk (below_step B3.out hb); rw [← HY.out] at hr; obtain ⟨h1_, A4, c4, rfl, hl_, hf_⟩ := hr; have L4 := Aside0.mk hl_; have F4 := Aside0.mk (Kd.F_mono hf_ (fun k hk => (show gb < k from Nat.lt_of_lt_of_le (blk_lt X3.out) hk))); clear hb h1_ hl_ hf_)
   | ((with_reducible refine gate_dst (N := 35) rfl ?_); (try (refine gate_guard (by rfl) ?_; dsimp only)); refine goesL_ (some 35) rfl rfl Try.func23 (by kernel_rfl) rfl #[.slice A4 y.length c4] rfl (by (try simp only [List.map_toArray, List.map_cons, List.map_nil]); first | done | rfl) ?_; refine (dec_enc HCK.out HY.out (Kd.F_now F4.out) L4.out HYB.out (by have h := HYL.out.2; omega)).mono ?_; rintro ex w5 ⟨v5, rfl, hn, hb⟩; refine ⟨_, rfl, ?_⟩; obtain ⟨A5, c5, rfl⟩ := Kd.N_slice hn; have X5 := Aside0.mk (blk_below X4.out hb); have B5 := Aside0.mk (below_step B4.out hb); have F5 := Aside0.mk (Kd.F_below F4.out hb); have N5 := Aside0.mk (Kd.N_F hn); have NL := Aside0.mk (Kd.N_reads' hn).2.1; have Q5 := Aside0.mk (show gb < w4.heap.size from blk_lt X4.out); clear hn hb)
   | ((with_reducible refine gate_dst (N := 8) rfl ?_); (try (refine gate_guard (by rfl) ?_; dsimp only)); refine box_event ?hg (N := 8) ?hd (cs := #[.int .i64 0, .int .i64 0, .int .i64 0, .int .i64 0, .slice none 0 0]) (t := 28) ?hr ?_; (case hd => rfl); (case hg => rfl); (case hr => first | (go_simp; done) | (go_simp; rfl)); intro g8 hqg8 w6 hxg8 hbg8; have n_ := Aside0.mk hqg8; clear hqg8; have hqg8 := n_; clear n_; have n_ := Aside0.mk hxg8; clear hxg8; have hxg8 := n_; clear n_; have n_ := Aside0.mk hbg8; clear hbg8; have hbg8 := n_; clear n_; have X6 := Aside0.mk (blk_below X5.out hbg8.out); have B6 := Aside0.mk (below_step B5.out hbg8.out); have F6 := Aside0.mk (Kd.F_mono (Kd.F_below (Kd.F_bound F5.out) hbg8.out) (fun k hk => (⟨hk.1, by have h := hqg8.out; have h2 := hk.2; omega⟩ : gb < k ∧ k ≠ g8))); have N6 := Aside0.mk (Kd.F_mono (Kd.F_below (Kd.F_bound N5.out) hbg8.out) (fun k hk => (⟨by have h := Q5.out; have h2 := hk.1; omega, by have h := hqg8.out; have h2 := hk.2; omega⟩ : gb < k ∧ k ≠ g8))); have Q6 := Aside0.mk (show gb < g8 ∧ w.heap.size ≤ g8 by have h := hqg8.out; have h2 := blk_lt X5.out; have h3 := B5.out.size; omega); have hcsg80 : w6.cell? ⟨g8, 0, none⟩ = some (.int .i64 0) := (blk_cell hxg8.out 0).trans rfl; have hcsg81 : w6.cell? ⟨g8, 1, none⟩ = some (.int .i64 0) := (blk_cell hxg8.out 1).trans rfl; have hcsg82 : w6.cell? ⟨g8, 2, none⟩ = some (.int .i64 0) := (blk_cell hxg8.out 2).trans rfl; have hcsg83 : w6.cell? ⟨g8, 3, none⟩ = some (.int .i64 0) := (blk_cell hxg8.out 3).trans rfl; have hcsg84 : w6.cell? ⟨g8, 4, none⟩ = some (.slice none 0 0) := (blk_cell hxg8.out 4).trans rfl; have hfsg80 : w6.frozen? ⟨g8, 0, none⟩ = false := blk_frozen hxg8.out 0; have hfsg81 : w6.frozen? ⟨g8, 1, none⟩ = false := blk_frozen hxg8.out 1; have hfsg82 : w6.frozen? ⟨g8, 2, none⟩ = false := blk_frozen hxg8.out 2; have hfsg83 : w6.frozen? ⟨g8, 3, none⟩ = false := blk_frozen hxg8.out 3; have hfsg84 : w6.frozen? ⟨g8, 4, none⟩ = false := blk_frozen hxg8.out 4))
  have Yg8 := Aside0.mk (setsE (v0 := .int .i64 g) (v1 := .int .i64 n) (v2 := .int .i64 s) (v3 := .int .i64 q) (v4 := .slice A5 l.length c5) hxg8.out)
  have X7 := Aside0.mk (show (((((w6.setCell ⟨g8, 0, none⟩ (.int .i64 g)).setCell ⟨g8, 1, none⟩ (.int .i64 n)).setCell ⟨g8, 2, none⟩ (.int .i64 s)).setCell ⟨g8, 3, none⟩ (.int .i64 q)).setCell ⟨g8, 4, none⟩ (.slice A5 l.length c5)).heap[gb]? = some (.cells #[.int .i64 g, .int .i64 n, .int .i64 s, .int .i64 q, .slice A l.length c] 24 (0, 0)) from blk_keep X6.out (keep5 _ _ _ _ _ _ _) (by have h := Q6.out; omega))
  have B7 := Aside0.mk (show Below w.heap.size w (((((w6.setCell ⟨g8, 0, none⟩ (.int .i64 g)).setCell ⟨g8, 1, none⟩ (.int .i64 n)).setCell ⟨g8, 2, none⟩ (.int .i64 s)).setCell ⟨g8, 3, none⟩ (.int .i64 q)).setCell ⟨g8, 4, none⟩ (.slice A5 l.length c5)) from below5 _ _ _ _ _ B6.out Q6.out.2)
  have F7 := Aside0.mk (show Kd.F (Kd.int .u8) (((((w6.setCell ⟨g8, 0, none⟩ (.int .i64 g)).setCell ⟨g8, 1, none⟩ (.int .i64 n)).setCell ⟨g8, 2, none⟩ (.int .i64 s)).setCell ⟨g8, 3, none⟩ (.int .i64 q)).setCell ⟨g8, 4, none⟩ (.slice A5 l.length c5)) (fun k => gb < k ∧ k ≠ g8) A4 y.length y from Kd.F_keep F6.out (keep5 _ _ _ _ _ _ _) (fun k hk => hk.2))
  have N7 := Aside0.mk (show Kd.F k57 (((((w6.setCell ⟨g8, 0, none⟩ (.int .i64 g)).setCell ⟨g8, 1, none⟩ (.int .i64 n)).setCell ⟨g8, 2, none⟩ (.int .i64 s)).setCell ⟨g8, 3, none⟩ (.int .i64 q)).setCell ⟨g8, 4, none⟩ (.slice A5 l.length c5)) (fun k => gb < k ∧ k ≠ g8) A5 (l.map toM).length (l.map toM) from Kd.F_keep N6.out (keep5 _ _ _ _ _ _ _) (fun k hk => hk.2))
  clear X6 B6 F6 N6 X5 B5 F5 N5 X4 B4 F4 X3 B3 M3 LM3 X2 B2 Q5 hcsg80 hfsg80 hcsg81 hfsg81 hcsg82 hfsg82 hcsg83 hfsg83 hcsg84 hfsg84 hxg8 hqg8 hbg8
  generalize (((((w6.setCell ⟨g8, 0, none⟩ (.int .i64 g)).setCell ⟨g8, 1, none⟩ (.int .i64 n)).setCell ⟨g8, 2, none⟩ (.int .i64 s)).setCell ⟨g8, 3, none⟩ (.int .i64 q)).setCell ⟨g8, 4, none⟩ (.slice A5 l.length c5)) = w7 at Yg8 X7 B7 F7 N7 ⊢
  as_aux_lemma =>
  obtain ⟨ji, hji⟩ : ∃ j_ : Int, (Int.tmod (Go.bits .and .i64 at_ 1048575) (y.length : Int)) = j_ := ⟨_, rfl⟩
  have hj0 : 0 ≤ ji := by rw [← hji]; exact Int.tmod_nonneg _ (and_mask at_ 20 (by omega)).1
  have hj1 : ji < (y.length : Int) := by rw [← hji]; exact Int.tmod_lt_of_pos _ (by have h := HYL.out.1; omega)
  have HJ := Aside0.mk (show ji.toNat < y.length by omega)
  obtain ⟨z, hz⟩ : ∃ z, z = y.take ji.toNat := ⟨_, rfl⟩
  have HZ := Aside0.mk hz
  have HZL := Aside0.mk (show z.length = ji.toNat by rw [hz, List.length_take]; have h := HJ.out; omega)
  have HZB := Aside0.mk (show Byts z by rw [hz]; exact HYB.out.take _)
  have HZD := Aside0.mk (show decV 4097 z = (0, 0, 0, 0, [], 2) by rw [hz]; exact dec_cut HCK.out HY.out HJ.out)
  have HZF := Aside0.mk (show Kd.F (Kd.int .u8) w7 (fun k => gb < k ∧ k ≠ g8) A4 z.length z by rw [hz]; exact Kd.F_take (m := ji.toNat) F7.out (by have h := HJ.out; omega))
  have q1 : (0 ≤ ji) = True := eq_true hj0
  have q2 : decide (0 ≤ ji) = true := decide_eq_true hj0
  have q3 : (ji ≤ (y.length : Int)) = True := eq_true (by omega)
  have q4 : decide (ji ≤ (y.length : Int)) = true := decide_eq_true (by omega)
  obtain ⟨i0, hi0, _, hsz, _⟩ := info_parts info5
  have hcut := cut_to (P := Try.prog) 35 5 .i64 Try.underlying35 hi0 A4 y.length c4 ji hj0 (by omega) L4.out
  rw [← HZL.out] at hcut
  clear hz hj0 hj1 hsz hi0
  go_upto_region 7 with (first
   | ((with_reducible refine gate_dst (N := 46) rfl ?_); (try (refine gate_guard (by rfl) ?_; dsimp only)); refine goesL_ (some 46) rfl rfl Try.func23 (by kernel_rfl) rfl #[.slice A4 z.length c4] rfl (by (try simp only [List.map_toArray, List.map_cons, List.map_nil]); first | done | rfl) ?_; refine (dec_none HZD.out (Kd.F_now HZF.out) (by have h := HZL.out; have h2 := HJ.out; have h3 := L4.out; omega) HZB.out (by have h := HZL.out; have h2 := HJ.out; have h3 := HYL.out.2; omega)).mono ?_; rintro ex w8 ⟨A8, c8, rfl, hb⟩; refine ⟨_, rfl, ?_⟩; have X8 := Aside0.mk (blk_below X7.out hb); have Y8 := Aside0.mk (blk_below Yg8.out hb); have B8 := Aside0.mk (below_step B7.out hb); have F8 := Aside0.mk (Kd.F_below F7.out hb); have N8 := Aside0.mk (Kd.F_below N7.out hb); clear hb HZF)
   | ((with_reducible refine gate_dst (N := 10) rfl ?_); (try (refine gate_guard (by rfl) ?_; dsimp only)); refine box_event ?hg (N := 10) ?hd (cs := #[.int .i64 0, .int .i64 0, .int .i64 0, .int .i64 0, .slice none 0 0]) (t := 28) ?hr ?_; (case hd => rfl); (case hg => rfl); (case hr => first | (go_simp; done) | (go_simp; rfl)); intro g10 hqg10 w9 hxg10 hbg10; have n_ := Aside0.mk hqg10; clear hqg10; have hqg10 := n_; clear n_; have n_ := Aside0.mk hxg10; clear hxg10; have hxg10 := n_; clear n_; have n_ := Aside0.mk hbg10; clear hbg10; have hbg10 := n_; clear n_; have X9 := Aside0.mk (blk_below X8.out hbg10.out); have Z9 := Aside0.mk (blk_below Y8.out hbg10.out); have B9 := Aside0.mk (below_step B8.out hbg10.out); have F9 := Aside0.mk (Kd.F_mono (Kd.F_below (Kd.F_bound F8.out) hbg10.out) (fun k hk => (⟨hk.1, by have h := hqg10.out; have h2 := hk.2; omega⟩ : (gb < k ∧ k ≠ g8) ∧ k ≠ g10))); have N9 := Aside0.mk (Kd.F_mono (Kd.F_below (Kd.F_bound N8.out) hbg10.out) (fun k hk => (⟨hk.1, by have h := hqg10.out; have h2 := hk.2; omega⟩ : (gb < k ∧ k ≠ g8) ∧ k ≠ g10))); have Q9 := Aside0.mk (show gb < g10 ∧ g8 < g10 ∧ w.heap.size ≤ g10 by have h := hqg10.out; have h2 := blk_lt X8.out; have h3 := blk_lt Y8.out; have h4 := B8.out.size; omega); have hcsg100 : w9.cell? ⟨g10, 0, none⟩ = some (.int .i64 0) := (blk_cell hxg10.out 0).trans rfl; have hcsg101 : w9.cell? ⟨g10, 1, none⟩ = some (.int .i64 0) := (blk_cell hxg10.out 1).trans rfl; have hcsg102 : w9.cell? ⟨g10, 2, none⟩ = some (.int .i64 0) := (blk_cell hxg10.out 2).trans rfl; have hcsg103 : w9.cell? ⟨g10, 3, none⟩ = some (.int .i64 0) := (blk_cell hxg10.out 3).trans rfl; have hcsg104 : w9.cell? ⟨g10, 4, none⟩ = some (.slice none 0 0) := (blk_cell hxg10.out 4).trans rfl; have hfsg100 : w9.frozen? ⟨g10, 0, none⟩ = false := blk_frozen hxg10.out 0; have hfsg101 : w9.frozen? ⟨g10, 1, none⟩ = false := blk_frozen hxg10.out 1; have hfsg102 : w9.frozen? ⟨g10, 2, none⟩ = false := blk_frozen hxg10.out 2; have hfsg103 : w9.frozen? ⟨g10, 3, none⟩ = false := blk_frozen hxg10.out 3; have hfsg104 : w9.frozen? ⟨g10, 4, none⟩ = false := blk_frozen hxg10.out 4))
  have Yg10 := Aside0.mk (setsE (v0 := .int .i64 0) (v1 := .int .i64 0) (v2 := .int .i64 0) (v3 := .int .i64 0) (v4 := .slice A8 0 c8) hxg10.out)
  have X10 := Aside0.mk (show (((((w9.setCell ⟨g10, 0, none⟩ (.int .i64 0)).setCell ⟨g10, 1, none⟩ (.int .i64 0)).setCell ⟨g10, 2, none⟩ (.int .i64 0)).setCell ⟨g10, 3, none⟩ (.int .i64 0)).setCell ⟨g10, 4, none⟩ (.slice A8 0 c8)).heap[gb]? = some (.cells #[.int .i64 g, .int .i64 n, .int .i64 s, .int .i64 q, .slice A l.length c] 24 (0, 0)) from blk_keep X9.out (keep5 _ _ _ _ _ _ _) (by have h := Q9.out; omega))
  have Z10 := Aside0.mk (show (((((w9.setCell ⟨g10, 0, none⟩ (.int .i64 0)).setCell ⟨g10, 1, none⟩ (.int .i64 0)).setCell ⟨g10, 2, none⟩ (.int .i64 0)).setCell ⟨g10, 3, none⟩ (.int .i64 0)).setCell ⟨g10, 4, none⟩ (.slice A8 0 c8)).heap[g8]? = some (.cells #[.int .i64 g, .int .i64 n, .int .i64 s, .int .i64 q, .slice A5 l.length c5] 28 (0, 0)) from blk_keep Z9.out (keep5 _ _ _ _ _ _ _) (by have h := Q9.out; omega))
  have B10 := Aside0.mk (show Below w.heap.size w (((((w9.setCell ⟨g10, 0, none⟩ (.int .i64 0)).setCell ⟨g10, 1, none⟩ (.int .i64 0)).setCell ⟨g10, 2, none⟩ (.int .i64 0)).setCell ⟨g10, 3, none⟩ (.int .i64 0)).setCell ⟨g10, 4, none⟩ (.slice A8 0 c8)) from below5 _ _ _ _ _ B9.out Q9.out.2.2)
  have F10 := Aside0.mk (show Kd.F (Kd.int .u8) (((((w9.setCell ⟨g10, 0, none⟩ (.int .i64 0)).setCell ⟨g10, 1, none⟩ (.int .i64 0)).setCell ⟨g10, 2, none⟩ (.int .i64 0)).setCell ⟨g10, 3, none⟩ (.int .i64 0)).setCell ⟨g10, 4, none⟩ (.slice A8 0 c8)) (fun k => (gb < k ∧ k ≠ g8) ∧ k ≠ g10) A4 y.length y from Kd.F_keep F9.out (keep5 _ _ _ _ _ _ _) (fun k hk => hk.2))
  have N10 := Aside0.mk (show Kd.F k57 (((((w9.setCell ⟨g10, 0, none⟩ (.int .i64 0)).setCell ⟨g10, 1, none⟩ (.int .i64 0)).setCell ⟨g10, 2, none⟩ (.int .i64 0)).setCell ⟨g10, 3, none⟩ (.int .i64 0)).setCell ⟨g10, 4, none⟩ (.slice A8 0 c8)) (fun k => (gb < k ∧ k ≠ g8) ∧ k ≠ g10) A5 (l.map toM).length (l.map toM) from Kd.F_keep N9.out (keep5 _ _ _ _ _ _ _) (fun k hk => hk.2))
  clear X9 Z9 B9 F9 N9 X8 Y8 B8 F8 N8 X7 B7 F7 N7 Yg8 HZL HZB HZD HZ HJ q1 q2 q3 q4 hcut hji Yg10 hcsg100 hfsg100 hcsg101 hfsg101 hcsg102 hfsg102 hcsg103 hfsg103 hcsg104 hfsg104 hxg10 hqg10 hbg10
  generalize (((((w9.setCell ⟨g10, 0, none⟩ (.int .i64 0)).setCell ⟨g10, 1, none⟩ (.int .i64 0)).setCell ⟨g10, 2, none⟩ (.int .i64 0)).setCell ⟨g10, 3, none⟩ (.int .i64 0)).setCell ⟨g10, 4, none⟩ (.slice A8 0 c8)) = w10 at X10 Z10 B10 F10 N10 ⊢
  as_aux_lemma =>
  go_upto_region 8 with (first
   | ((with_reducible refine gate_dst (N := 50) rfl ?_); (try (refine gate_guard (by rfl) ?_; dsimp only)); refine Kd.R_lit (w0 := w) (Kd.int .u8) w.heap.size 5 ?hg (N := 50) ?hd (xs := ([] : List Int)) (inner := []) (ok := fun k => w10.heap.size ≤ k) (okp := fun _ => False) ?hr ?hp (fun _ hk => hk.elim) (Nat.le_refl _) B10.out B10.out.size (by simp) ?_; (case hd => rfl); (case hg => rfl); (case hr => first | (go_simp; done) | (go_simp; rfl)); (case hp => exact (Reps.none _ _)); intro v11 w11 ho hb hg_ hnew_; have R11 := Aside0.mk ho; have B11 := Aside0.mk hb; have G11 := Aside0.mk hg_; have X11 := Aside0.mk (blk_grown X10.out hg_ (by simp)); have Z11 := Aside0.mk (blk_grown Z10.out hg_ (by simp)); have F11 := Aside0.mk (Kd.F_mono (Kd.F_grown (Kd.F_bound F10.out) hg_ (by simp)) (fun k hk => (⟨hk.1, hk.2⟩ : ((gb < k ∧ k ≠ g8) ∧ k ≠ g10) ∧ k < w10.heap.size))); have N11 := Aside0.mk (Kd.F_mono (Kd.F_grown (Kd.F_bound N10.out) hg_ (by simp)) (fun k hk => (⟨hk.1, hk.2⟩ : ((gb < k ∧ k ≠ g8) ∧ k ≠ g10) ∧ k < w10.heap.size))); have Q11 := Aside0.mk (show gb < w10.heap.size ∧ g8 < w10.heap.size from ⟨blk_lt X10.out, blk_lt Z10.out⟩); have O11 := Aside0.mk (show ∀ k, v11.ownBlock = some k → w10.heap.size ≤ k by obtain ⟨b_, hb1_, hb2_⟩ := hnew_; intro k hk; rw [hb1_] at hk; injection hk with hk; omega); have S11 := Aside0.mk hg_.size; clear ho hb hg_ hnew_ G11)
   | ((with_reducible refine gate_builtin (b := .append) (xs := #[.tmp 50, .tmp 51]) rfl ?_); (try (refine gate_guard (by rfl) ?_; dsimp only)); at_builtin; refine Kd.R_append_rows (Kd.int .u8) (w0 := w) w.heap.size rfl (.tmp 50) (.tmp 51) 35 5 (.int .u8 0) 1 rfl Try.underlying35 info5 rfl (by decide) (by omega) v11 [] y A4 _ _ (fun k => w10.heap.size ≤ k) (fun _ => False) rfl rfl ?aO ?aR (fun _ _ h => h) (fun _ h => h.elim) ?aF ?aB ?aS ?aL ?_; (case aR => exact Kd.F_now F11.out); (case aB => exact B11.out); (case aF => exact fun k hk => Nat.le_trans S11.out hk); (case aO => exact R11.out); (case aS => exact B11.out.size); (case aL => have h := HYL.out.2; simp only [List.length_nil]; omega); intro v12 w12 ho hb hg hat; rw [List.nil_append] at ho; have X12 := Aside0.mk (blk_grown X11.out hg (fun he => by have h1 := O11.out _ he.symm; have h2 := Q11.out; omega)); have Z12 := Aside0.mk (blk_grown Z11.out hg (fun he => by have h1 := O11.out _ he.symm; have h2 := Q11.out; omega)); have F12 := Aside0.mk (Kd.F_grown F11.out hg (fun k hk he => by have h1 := O11.out _ he.symm; have h2 := hk.2; omega)); have N12 := Aside0.mk (Kd.F_grown N11.out hg (fun k hk he => by have h1 := O11.out _ he.symm; have h2 := hk.2; omega)); have O12 := Aside0.mk (show ∀ k, v12.ownBlock = some k → w10.heap.size ≤ k from own_after O11.out S11.out hat); have R12 := Aside0.mk ho; have B12 := Aside0.mk hb; have S12 := Aside0.mk (Nat.le_trans S11.out hg.size); clear ho hb hg hat R11 B11 X11 Z11 F11 N11)
   | ((with_reducible refine gate_builtin (b := .append) (xs := #[.tmp 52, .tmp 53]) rfl ?_); (try (refine gate_guard (by rfl) ?_; dsimp only)); at_builtin; refine Kd.R_append (Kd.int .u8) (w0 := w) w.heap.size rfl (.tmp 52) (.tmp 53) 35 5 (.int .u8 0) 1 rfl Try.underlying35 info5 rfl (by decide) (by omega) v12 y 0 [.int .u8 0] (fun k => w10.heap.size ≤ k) (fun _ => False) rfl rfl ?aP (fun _ hk => hk.elim) ?aF ?aO ?aB ?aS ?aL ?_; (case aP => exact rfl); (case aB => exact B12.out); (case aF => exact fun k hk => Nat.le_trans S12.out hk); (case aO => exact R12.out); (case aS => exact B12.out.size); (case aL => have h := HYL.out.2; omega); intro v13 w13 ho hb hg hat; have X13 := Aside0.mk (blk_grown X12.out hg (fun he => by have h1 := O12.out _ he.symm; have h2 := Q11.out; omega)); have Z13 := Aside0.mk (blk_grown Z12.out hg (fun he => by have h1 := O12.out _ he.symm; have h2 := Q11.out; omega)); have F13 := Aside0.mk (Kd.F_grown F12.out hg (fun k hk he => by have h1 := O12.out _ he.symm; have h2 := hk.2; omega)); have N13 := Aside0.mk (Kd.F_grown N12.out hg (fun k hk he => by have h1 := O12.out _ he.symm; have h2 := hk.2; omega)); have hyl_ : (y ++ [0]).length = y.length + 1 := (by simp); obtain ⟨x, hx⟩ : ∃ x, x = y ++ [0] := ⟨_, rfl⟩; rw [← hx] at ho; have HX := Aside0.mk hx; have HXL := Aside0.mk (show x.length = y.length + 1 by rw [hx]; exact hyl_); have HXB := Aside0.mk (show Byts x by rw [hx]; exact HYB.out.append (by intro b_ hb_; rw [List.mem_singleton.1 hb_]; omega)); have HXD := Aside0.mk (show decV 4097 x = (0, 0, 0, 0, [], 2) by rw [hx]; exact dec_more HCK.out HY.out 0); clear hx hyl_; obtain ⟨A13, c13, rfl⟩ := Kd.R_slice ho; have R13 := Aside0.mk (Kd.R_reads' ho).2; have B13 := Aside0.mk hb; clear ho hb hg hat R12 B12 X12 Z12 F12 N12 O12 O11)
   | ((with_reducible refine gate_dst (N := 55) rfl ?_); (try (refine gate_guard (by rfl) ?_; dsimp only)); refine goesL_ (some 55) rfl rfl Try.func23 (by kernel_rfl) rfl #[.slice A13 x.length c13] rfl (by (try simp only [List.map_toArray, List.map_cons, List.map_nil]); first | done | rfl) ?_; refine (dec_none HXD.out R13.out.2 R13.out.1 HXB.out (by have h := HXL.out; have h3 := HYL.out.2; omega)).mono ?_; rintro ex w14 ⟨A14, c14, rfl, hb⟩; refine ⟨_, rfl, ?_⟩; have X14 := Aside0.mk (blk_below X13.out hb); have Z14 := Aside0.mk (blk_below Z13.out hb); have B14 := Aside0.mk (below_step B13.out hb); have N14 := Aside0.mk (Kd.F_below N13.out hb); clear hb R13 X13 Z13 B13 N13 F13)
   | ((with_reducible refine gate_dst (N := 12) rfl ?_); (try (refine gate_guard (by rfl) ?_; dsimp only)); refine box_event ?hg (N := 12) ?hd (cs := #[.int .i64 0, .int .i64 0, .int .i64 0, .int .i64 0, .slice none 0 0]) (t := 28) ?hr ?_; (case hd => rfl); (case hg => rfl); (case hr => first | (go_simp; done) | (go_simp; rfl)); intro g12 hqg12 w15 hxg12 hbg12; have n_ := Aside0.mk hqg12; clear hqg12; have hqg12 := n_; clear n_; have n_ := Aside0.mk hxg12; clear hxg12; have hxg12 := n_; clear n_; have n_ := Aside0.mk hbg12; clear hbg12; have hbg12 := n_; clear n_; have X15 := Aside0.mk (blk_below X14.out hbg12.out); have Z15 := Aside0.mk (blk_below Z14.out hbg12.out); have B15 := Aside0.mk (below_step B14.out hbg12.out); have N15 := Aside0.mk (Kd.F_below (Kd.F_bound N14.out) hbg12.out); have Q15 := Aside0.mk (show gb < g12 ∧ g8 < g12 ∧ w.heap.size ≤ g12 ∧ g12 = w14.heap.size by have h := hqg12.out; have h2 := blk_lt X14.out; have h3 := blk_lt Z14.out; have h4 := B14.out.size; omega); have hcsg120 : w15.cell? ⟨g12, 0, none⟩ = some (.int .i64 0) := (blk_cell hxg12.out 0).trans rfl; have hcsg121 : w15.cell? ⟨g12, 1, none⟩ = some (.int .i64 0) := (blk_cell hxg12.out 1).trans rfl; have hcsg122 : w15.cell? ⟨g12, 2, none⟩ = some (.int .i64 0) := (blk_cell hxg12.out 2).trans rfl; have hcsg123 : w15.cell? ⟨g12, 3, none⟩ = some (.int .i64 0) := (blk_cell hxg12.out 3).trans rfl; have hcsg124 : w15.cell? ⟨g12, 4, none⟩ = some (.slice none 0 0) := (blk_cell hxg12.out 4).trans rfl; have hfsg120 : w15.frozen? ⟨g12, 0, none⟩ = false := blk_frozen hxg12.out 0; have hfsg121 : w15.frozen? ⟨g12, 1, none⟩ = false := blk_frozen hxg12.out 1; have hfsg122 : w15.frozen? ⟨g12, 2, none⟩ = false := blk_frozen hxg12.out 2; have hfsg123 : w15.frozen? ⟨g12, 3, none⟩ = false := blk_frozen hxg12.out 3; have hfsg124 : w15.frozen? ⟨g12, 4, none⟩ = false := blk_frozen hxg12.out 4))
  have Yg12 := Aside0.mk (setsE (v0 := .int .i64 0) (v1 := .int .i64 0) (v2 := .int .i64 0) (v3 := .int .i64 0) (v4 := .slice A14 0 c14) hxg12.out)
  have X16 := Aside0.mk (show (((((w15.setCell ⟨g12, 0, none⟩ (.int .i64 0)).setCell ⟨g12, 1, none⟩ (.int .i64 0)).setCell ⟨g12, 2, none⟩ (.int .i64 0)).setCell ⟨g12, 3, none⟩ (.int .i64 0)).setCell ⟨g12, 4, none⟩ (.slice A14 0 c14)).heap[gb]? = some (.cells #[.int .i64 g, .int .i64 n, .int .i64 s, .int .i64 q, .slice A l.length c] 24 (0, 0)) from blk_keep X15.out (keep5 _ _ _ _ _ _ _) (by have h := Q15.out; omega))
  have Z16 := Aside0.mk (show (((((w15.setCell ⟨g12, 0, none⟩ (.int .i64 0)).setCell ⟨g12, 1, none⟩ (.int .i64 0)).setCell ⟨g12, 2, none⟩ (.int .i64 0)).setCell ⟨g12, 3, none⟩ (.int .i64 0)).setCell ⟨g12, 4, none⟩ (.slice A14 0 c14)).heap[g8]? = some (.cells #[.int .i64 g, .int .i64 n, .int .i64 s, .int .i64 q, .slice A5 l.length c5] 28 (0, 0)) from blk_keep Z15.out (keep5 _ _ _ _ _ _ _) (by have h := Q15.out; omega))
  have B16 := Aside0.mk (show Below w.heap.size w (((((w15.setCell ⟨g12, 0, none⟩ (.int .i64 0)).setCell ⟨g12, 1, none⟩ (.int .i64 0)).setCell ⟨g12, 2, none⟩ (.int .i64 0)).setCell ⟨g12, 3, none⟩ (.int .i64 0)).setCell ⟨g12, 4, none⟩ (.slice A14 0 c14)) from below5 _ _ _ _ _ B15.out Q15.out.2.2.1)
  have N16 := Aside0.mk (show Kd.C k57 (((((w15.setCell ⟨g12, 0, none⟩ (.int .i64 0)).setCell ⟨g12, 1, none⟩ (.int .i64 0)).setCell ⟨g12, 2, none⟩ (.int .i64 0)).setCell ⟨g12, 3, none⟩ (.int .i64 0)).setCell ⟨g12, 4, none⟩ (.slice A14 0 c14)) A5 (l.map toM).length (l.map toM) from Kd.F_now (Kd.F_keep N15.out (keep5 _ _ _ _ _ _ _) (fun k hk => by have h := Q15.out; have h2 := hk.2; omega)))
  clear X15 Z15 B15 N15 X14 Z14 B14 N14 Yg12 Q15 HX HXL HXB HXD hcsg120 hfsg120 hcsg121 hfsg121 hcsg122 hfsg122 hcsg123 hfsg123 hcsg124 hfsg124 hxg12 hqg12 hbg12
  generalize (((((w15.setCell ⟨g12, 0, none⟩ (.int .i64 0)).setCell ⟨g12, 1, none⟩ (.int .i64 0)).setCell ⟨g12, 2, none⟩ (.int .i64 0)).setCell ⟨g12, 3, none⟩ (.int .i64 0)).setCell ⟨g12, 4, none⟩ (.slice A14 0 c14)) = w16 at X16 Z16 B16 N16 ⊢
  as_aux_lemma =>
  refine s_ 20 [] (fun w' => w'.cell? ⟨g8, 0, none⟩ = some (.int .i64 g) ∧ w'.cell? ⟨g8, 1, none⟩ = some (.int .i64 n) ∧ w'.cell? ⟨g8, 2, none⟩ = some (.int .i64 s) ∧ w'.cell? ⟨g8, 3, none⟩ = some (.int .i64 q) ∧ w'.cell? ⟨g8, 4, none⟩ = some (.slice A5 l.length c5) ∧ w'.cell? ⟨gb, 0, none⟩ = some (.int .i64 g) ∧ w'.cell? ⟨gb, 1, none⟩ = some (.int .i64 n) ∧ w'.cell? ⟨gb, 2, none⟩ = some (.int .i64 s) ∧ w'.cell? ⟨gb, 3, none⟩ = some (.int .i64 q) ∧ w'.cell? ⟨gb, 4, none⟩ = some (.slice A l.length c)) (hS := ⟨(blk_cell (blk_drew Z16.out) 0).trans rfl, (blk_cell (blk_drew Z16.out) 1).trans rfl, (blk_cell (blk_drew Z16.out) 2).trans rfl, (blk_cell (blk_drew Z16.out) 3).trans rfl, (blk_cell (blk_drew Z16.out) 4).trans rfl, (blk_cell (blk_drew X16.out) 0).trans rfl, (blk_cell (blk_drew X16.out) 1).trans rfl, (blk_cell (blk_drew X16.out) 2).trans rfl, (blk_cell (blk_drew X16.out) 3).trans rfl, (blk_cell (blk_drew X16.out) 4).trans rfl⟩) (h := fun hHeld => ?_)
  have X17 := Aside0.mk (blk_drew X16.out)
  have Z17 := Aside0.mk (blk_drew Z16.out)
  have N17 := Aside0.mk (Kd.C_drew N16.out)
  have B17 := Aside0.mk (below_drew B16.out)
  clear X16 Z16 N16 B16
  generalize w16.drew = w17 at X17 Z17 N17 B17 hHeld ⊢
  refine p_ 0 58 (bb 20 1) (h := ?_)
  refine p_ 1 59 (bb 20 3) (h := ?_)
  refine p_ 2 60 (bb 20 7) (h := ?_)
  refine p_ 3 61 (bb 20 15) (h := ?_)
  refine p_ 4 62 (bb 20 31) (h := ?_)
  refine p_ 5 63 (bb 20 63) (h := ?_)
  refine t_ 6 64 (bb 20 127) hHeld (h := ?_)
  refine t_ 8 66 (bb 20 383) hHeld (h := ?_)
  refine n_ 7 65 (bb 20 511) (h := fun K hK => ?_)
  refine goes_ Try.func26 (by kernel_rfl) rfl #[.agg #[.int .i64 g, .int .i64 n, .int .i64 s, .int .i64 q, .slice A5 l.length c5]] (by rfl) rfl rfl (by (try simp only [List.map_toArray, List.map_cons, List.map_nil]); first | done | rfl) ?_
  refine (theirs_calls' g n s q N17.out NL.out HL4.out).mono ?_
  rintro ex w18 ⟨A18, c18, rfl, hl_, hc_, hb⟩
  refine ⟨_, rfl, ?_⟩
  have X18 := Aside0.mk (blk_below X17.out hb)
  have Z18 := Aside0.mk (blk_below Z17.out hb)
  have B18 := Aside0.mk (below_step B17.out hb)
  have L18 := Aside0.mk hl_
  have M18 := Aside0.mk hc_
  clear hb hl_ hc_
  refine hK.out _ _ ⟨(blk_cell Z18.out 0).trans rfl, (blk_cell Z18.out 1).trans rfl, (blk_cell Z18.out 2).trans rfl, (blk_cell Z18.out 3).trans rfl, (blk_cell Z18.out 4).trans rfl, (blk_cell X18.out 0).trans rfl, (blk_cell X18.out 1).trans rfl, (blk_cell X18.out 2).trans rfl, (blk_cell X18.out 3).trans rfl, (blk_cell X18.out 4).trans rfl⟩ (fun hHeld => ?_)
  clear hK K
  refine m_ 65 (h := ?_)
  refine n_ 9 67 (bb 20 1023) (h := fun K hK => ?_)
  refine goes_ Try.func25 (by kernel_rfl) rfl #[.agg #[.int .i64 g, .int .i64 n, .int .i64 s, .int .i64 q, .slice A18 l.length c18], .agg #[.int .i64 g, .int .i64 n, .int .i64 s, .int .i64 q, .slice A l.length c]] (by rfl) rfl rfl (by (try simp only [List.map_toArray, List.map_cons, List.map_nil]); first | done | rfl) ?_
  refine (same_callsH g n s q M18.out (Kd.C_below HC.out B18.out) HL.out).mono ?_
  rintro ex w30 ⟨rfl, hb⟩
  refine ⟨_, rfl, ?_⟩
  have X30 := Aside0.mk (blk_below X18.out hb)
  have Z30 := Aside0.mk (blk_below Z18.out hb)
  have B30 := Aside0.mk (below_step B18.out hb)
  clear hb
  refine hK.out _ _ ⟨(blk_cell Z30.out 0).trans rfl, (blk_cell Z30.out 1).trans rfl, (blk_cell Z30.out 2).trans rfl, (blk_cell Z30.out 3).trans rfl, (blk_cell Z30.out 4).trans rfl, (blk_cell X30.out 0).trans rfl, (blk_cell X30.out 1).trans rfl, (blk_cell X30.out 2).trans rfl, (blk_cell X30.out 3).trans rfl, (blk_cell X30.out 4).trans rfl⟩ (fun hHeld => ?_)
  clear hK K
  refine m_ 67 (h := ?_)
  refine p_ 10 68 (bb 20 2047) (h := ?_)
  refine p_ 11 69 (bb 20 4095) (h := ?_)
  refine p_ 12 70 (bb 20 8191) (h := ?_)
  refine p_ 13 71 (bb 20 16383) (h := ?_)
  refine p_ 14 72 (bb 20 32767) (h := ?_)
  refine p_ 15 73 (bb 20 65535) (h := ?_)
  refine p_ 16 74 (bb 20 131071) (h := ?_)
  refine p_ 17 75 (bb 20 262143) (h := ?_)
  refine p_ 18 76 (bb 20 524287) (h := ?_)
  refine p_ 19 4 (bb 20 1048575) (h := ?_)
  refine d_ (h := ?_)
  go_wp2
  go_ret
  exact ⟨rfl, B30.out⟩
end Go.Proofs.Ythpklhkibcenoaa.Sk
