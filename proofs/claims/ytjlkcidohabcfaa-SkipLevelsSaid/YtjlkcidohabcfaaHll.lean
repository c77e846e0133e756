/- The law SkipLevels as a contract of its function. Conditions: those of each theorem. -/
import Derived.Test.YtjlkcidohabcfaaPx4
import Derived.Test.YtjlkcidohabcfaaPx5
import Derived.Test.YtjlkcidohabcfaaPx13
import Derived.Test.YtjlkcidohabcfaaPx20
import Derived.Test.YtjlkcidohabcfaaPx21
import Derived.Test.YtjlkcidohabcfaaPx22
import Derived.Test.YtjlkcidohabcfaaPx23
import Derived.Test.YtjlkcidohabcfaaPx24
import Derived.Test.YtjlkcidohabcfaaPx25
import Derived.Test.YtjlkcidohabcfaaPx27
import Derived.Test.YtjlkcidohabcfaaPx29
import Derived.Test.YtjlkcidohabcfaaH0
import Derived.Test.YtjlkcidohabcfaaHp
import Derived.Test.YtjlkcidohabcfaaHq
import Derived.Test.YtjlkcidohabcfaaHr
import Derived.Test.YtjlkcidohabcfaaHu
import Derived.Test.YtjlkcidohabcfaaHv
import Derived.Test.YtjlkcidohabcfaaHg
import Derived.Test.YtjlkcidohabcfaaHh
import Derived.Test.YtjlkcidohabcfaaHi
import Derived.Test.YtjlkcidohabcfaaHk
import Derived.Test.YtjlkcidohabcfaaHy
import Derived.Test.YtjlkcidohabcfaaHj
import Derived.Test.YtjlkcidohabcfaaHl
import Derived.Test.YtjlkcidohabcfaaHaa
import Derived.Test.YtjlkcidohabcfaaHab
import Derived.Test.YtjlkcidohabcfaaHac
import Derived.Test.YtjlkcidohabcfaaHad
namespace Go.Proofs.Ytjlkcidohabcfaa.Sk
open Go.RowKit Go.Proofs.YtjlkcidohabcfaaW.PrintWords Go.Proofs.YtjlkcidohabcfaaW.PrintLast Go.Proofs.YtjlkcidohabcfaaW.PrintMore Go.Proofs.Ytjlkcidohabcfaa.Px
set_option linter.unusedVariables false
set_option linter.unusedSimpArgs false
open Go.Proofs.Ytjlkcidohabcfaa.Sw
theorem and_mask (x : Int) (j : Nat) (hj : j ≤ 30) : 0 ≤ Go.bits .and .i64 x ((2 ^ j - 1 : Nat) : Int) ∧ Go.bits .and .i64 x ((2 ^ j - 1 : Nat) : Int) < 2 ^ j := by
  have h2 : (2 : Nat) ^ j ≤ 2 ^ 30 := Nat.pow_le_pow_right (by omega) hj
  have h0 : 0 < (2 : Nat) ^ j := Nat.pow_pos (by omega)
  have e : ∃ n : Nat, n < 2 ^ j ∧ Go.bits .and .i64 x ((2 ^ j - 1 : Nat) : Int) = (n : Int) := by
    refine ⟨((BitVec.ofInt 64 x) &&& (BitVec.ofInt 64 ((2 ^ j - 1 : Nat) : Int))).toNat, ?_, ?_⟩
    · rw [BitVec.ofInt_natCast, BitVec.toNat_and, BitVec.toNat_ofNat, Nat.mod_eq_of_lt (by omega), Nat.and_two_pow_sub_one_eq_mod]
      exact Nat.mod_lt _ h0
    · have hlt : ((BitVec.ofInt 64 x) &&& (BitVec.ofInt 64 ((2 ^ j - 1 : Nat) : Int))).toNat < 2 ^ j := by
        rw [BitVec.ofInt_natCast, BitVec.toNat_and, BitVec.toNat_ofNat, Nat.mod_eq_of_lt (by omega), Nat.and_two_pow_sub_one_eq_mod]
        exact Nat.mod_lt _ h0
      show IntKind.i64.wrap ((((BitVec.ofInt 64 x) &&& (BitVec.ofInt 64 ((2 ^ j - 1 : Nat) : Int))).toNat : Nat) : Int) = _
      revert hlt
      generalize ((BitVec.ofInt 64 x) &&& (BitVec.ofInt 64 ((2 ^ j - 1 : Nat) : Int))).toNat = n
      intro hlt
      simp only [IntKind.wrap, IntKind.bits, IntKind.signed]
      simp
      omega
  obtain ⟨n, hn, e⟩ := e
  rw [e]
  have : ((2 ^ j : Nat) : Int) = (2 : Int) ^ j := by simp
  omega
theorem same_dec {a b : S34} : decide (a.f0 = b.f0 ∧ a.f1 = b.f1 ∧ a.f2 = b.f2 ∧ a.f3 = b.f3) = true ↔ a = b := by
  cases a
  cases b
  simp [S34.mk.injEq]
theorem lev_sublist (T : List Tw) (h : Int) : (levT T (h + 1)).Sublist (levT T h) := by
  unfold levT
  refine List.Sublist.map _ ?_
  rw [show T.filter (fun t => decide (h + 1 ≤ t.h)) = (T.filter (fun t => decide (h ≤ t.h))).filter (fun t => decide (h + 1 ≤ t.h)) by
    rw [List.filter_filter]
    apply List.filter_congr
    intro t _
    by_cases h1 : h + 1 ≤ t.h
    · have : h ≤ t.h := by omega
      simp [h1, this]
    · simp [h1]]
  exact List.filter_sublist
theorem sub_skip {α : Type} {x y : α} {a b : List α} (h : (x :: a).Sublist (y :: b)) (hne : y ≠ x) : (x :: a).Sublist b := by
  cases h with
  | cons _ h => exact h
  | cons_cons _ h => exact absurd rfl hne
theorem lev_one {T : List Tw} (hT : FitT T) : levT T 1 = T.map (fun t => t.e) := by
  unfold levT
  rw [List.filter_eq_self.2 (fun t ht => decide_eq_true (hT.ok t ht).2.2.1)]
set_option maxHeartbeats 4000000 in
set_option maxRecDepth 100000 in
theorem levels_calls {w : World} (A : Option Addr) (c : Nat) (l : List SOp) (hr : Kd.C kOp w A l.length l) (hc : l.length ≤ c) (hg : ∀ o, o ∈ l → GoodO o) (x : Int) (hwx : (Lit.int .i64 x).wf = true) :
    Calls Try.prog 8 #[.slice A l.length c, .int .i64 x] w fun ex w' => ex = .returned (.bool true) ∧ Below w.heap.size w w' := by
  have hu34 := Try.underlying34
  have hu36 := Try.underlying36
  have hu30 := Try.underlying30
  have HR := Aside0.mk hr
  have HG := Aside0.mk hg
  have HMAX := Aside0.mk (Kd.C_max hr)
  clear hr hg
  have HC := Aside0.mk hc
  clear hc
  have HT := Aside0.mk (runT_fit HG.out 60)
  have HTL := Aside0.mk (runT_len HG.out 60)
  obtain ⟨T, hTT⟩ : ∃ T, T = runT 60 l := ⟨_, rfl⟩
  rw [← hTT] at HT HTL
  have HTT := Aside0.mk hTT
  clear hTT
  obtain ⟨h, hh⟩ : ∃ h, h = 1 + Go.bits BinOp.and IntKind.i64 x 15 := ⟨_, rfl⟩
  have hm := and_mask x 4 (by omega)
  have HH := Aside0.mk (show 1 ≤ h ∧ h ≤ 16 by
    have h1 : Go.bits BinOp.and IntKind.i64 x 15 = Go.bits .and .i64 x ((2 ^ 4 - 1 : Nat) : Int) := rfl
    rw [← h1] at hm
    rw [hh]
    have h2 : (2 : Int) ^ 4 = 16 := by decide
    rw [h2] at hm
    generalize Go.bits BinOp.and IntKind.i64 x 15 = b at hm ⊢
    omega)
  have hwh : wrap64 (1 + Go.bits BinOp.and IntKind.i64 x 15) = h := by rw [← hh]; exact wrap_in (by have := HH.out; omega) (by have := HH.out; omega)
  have HWH := Aside0.mk hwh
  have HWH2 := Aside0.mk (show wrap64 (wrap64 (1 + Go.bits BinOp.and IntKind.i64 x 15) + 1) = h + 1 by rw [hwh]; exact wrap_in (by have := HH.out; omega) (by have := HH.out; omega))
  have HSUB := Aside0.mk (lev_sublist T h)
  have HLO := Aside0.mk (lev_sub h HT.out.good)
  have HHI := Aside0.mk (lev_sub (h + 1) HT.out.good)
  have HLL := Aside0.mk (show (levT T h).length ≤ 60 ∧ (levT T (h + 1)).length ≤ 60 from ⟨Nat.le_trans (lev_len T h) HTL.out, Nat.le_trans (lev_len T (h + 1)) HTL.out⟩)
  clear hm hh hwh
  go_enter Try.func8, Try.ntmps8
  go_wp2_with (first
    | ((with_reducible refine gate_callee (f := 10) rfl ?_); (try (refine gate_guard (by rfl) ?_; dsimp only)); refine goesL_ (some 12) rfl rfl Try.func10 (by kernel_rfl) rfl #[] rfl (by (try simp only [List.map_toArray, List.map_cons, List.map_nil]); first | done | rfl) ?_; refine (awake_calls w).mono ?_; rintro ex w1 ⟨rfl, hb1⟩; refine ⟨_, rfl, ?_⟩; have n_ := Aside0.mk hb1; clear hb1; have hb1 := n_; clear n_)
    | ((with_reducible refine gate_callee (f := 28) rfl ?_); (try (refine gate_guard (by rfl) ?_; dsimp only)); refine goesL_ (some 14) rfl rfl Try.func28 (by kernel_rfl) rfl #[.slice A l.length c] rfl (by (try simp only [List.map_toArray, List.map_cons, List.map_nil]); first | done | rfl) ?_; refine (filled_calls A c l (Kd.C_below HR.out hb1.out) HC.out HG.out).mono ?_; rintro ex w2 ⟨g, gr, rfl, hst2, hb2⟩; rw [← HTT.out] at hst2; refine ⟨_, rfl, ?_⟩; have n_ := Aside0.mk hst2; clear hst2; have hst2 := n_; clear n_; have n_ := Aside0.mk hb2; clear hb2; have hb2 := n_; clear n_; have HS1 := Aside0.mk (hst2.out.one); have B2 := Aside0.mk (below_step hb1.out hb2.out))
    | ((with_reducible refine gate_callee (f := 23) rfl ?_); (try (refine gate_guard (by rfl) ?_; dsimp only)); refine goesL_ (some 26) rfl rfl Try.func23 (by kernel_rfl) rfl #[.pointer (some ⟨g, 0, none⟩), .int .i64 (wrap64 (1 + Go.bits BinOp.and IntKind.i64 x 15))] rfl (by (try simp only [List.map_toArray, List.map_cons, List.map_nil]); first | done | rfl) ?_; refine (calls_of_args (by rw [HWH.out]) (s1_level HS1.out HT.out (by have := HTL.out; omega) h (by have := HH.out; omega))).mono ?_; rintro ex w3 ⟨v3, rfl, hn3, hb3⟩; refine ⟨_, rfl, ?_⟩; obtain ⟨A3, c3, rfl⟩ := Kd.N_slice hn3; have n_ := Aside0.mk hn3; clear hn3; have hn3 := n_; clear n_; have n_ := Aside0.mk hb3; clear hb3; have hb3 := n_; clear n_; have B3 := Aside0.mk (below_step B2.out hb3.out); have HS3 := Aside0.mk (HS1.out.below hb3.out))
    | ((with_reducible refine gate_callee (f := 23) rfl ?_); (try (refine gate_guard (by rfl) ?_; dsimp only)); refine goesL_ (some 30) rfl rfl Try.func23 (by kernel_rfl) rfl #[.pointer (some ⟨g, 0, none⟩), .int .i64 (wrap64 ((wrap64 (1 + Go.bits BinOp.and IntKind.i64 x 15)) + 1))] rfl (by (try simp only [List.map_toArray, List.map_cons, List.map_nil]); first | done | rfl) ?_; refine (calls_of_args (by rw [HWH2.out]) (s1_level HS3.out HT.out (by have := HTL.out; omega) (h + 1) (by have := HH.out; omega))).mono ?_; rintro ex w4 ⟨v4, rfl, hn4, hb4⟩; refine ⟨_, rfl, ?_⟩; obtain ⟨A4, c4, rfl⟩ := Kd.N_slice hn4; have n_ := Aside0.mk hn4; clear hn4; have hn4 := n_; clear n_; have n_ := Aside0.mk hb4; clear hb4; have hb4 := n_; clear n_; have B4 := Aside0.mk (below_step B3.out hb4.out); have HS4 := Aside0.mk (HS3.out.below hb4.out); have HN3 := Aside0.mk (Kd.N_below hn3.out hb4.out); generalize hlo : levT T h = lo at HN3 HSUB HLO HLL ⊢; generalize hhi : levT T (h + 1) = hi at hn4 HSUB HHI HLL ⊢; clear hlo hhi hn3))
  go_loopg [10, 11] hi.length (fun kq v10 v11 w' => ∃ (i p : Nat), v10 = .int .i64 (p : Int) ∧ v11 = .int .i64 (i : Int) ∧ Aside0 (kq + i = hi.length) ∧ Aside0 ((hi.drop i).Sublist (lo.drop p)) ∧ Aside0 (p ≤ lo.length) ∧ Aside0 (Below w4.heap.size w4 w'))
  case atStart => exact ⟨0, 0, rfl, rfl, ⟨rfl⟩, HSUB, ⟨Nat.zero_le _⟩, ⟨Below.refl _ _⟩⟩
  case round =>
    obtain ⟨i, p, rfl, rfl, HK, HSB, HPL, HBr⟩ := hrel
    cases gk with
    | zero =>
      have HSe := Aside0.mk (HS4.out.below HBr.out)
      have hlt : (i < hi.length) = False := eq_false (by have := HK.out; omega)
      go_wp2_with (first
        | ((with_reducible refine gate_callee (f := 23) rfl ?_); (try (refine gate_guard (by rfl) ?_; dsimp only)); refine goesL_ (some 62) rfl rfl Try.func23 (by kernel_rfl) rfl #[.pointer (some ⟨g, 0, none⟩), .int .i64 1] rfl (by (try simp only [List.map_toArray, List.map_cons, List.map_nil]); first | done | rfl) ?_; refine (s1_level HSe.out HT.out (by have := HTL.out; omega) 1 (by omega)).mono ?_; rintro ex w7 ⟨v7, rfl, hn7, hb7⟩; refine ⟨_, rfl, ?_⟩; rw [lev_one HT.out] at hn7; obtain ⟨A7, c7, rfl⟩ := Kd.N_slice hn7; rw [List.length_map]; have n_ := Aside0.mk hn7; clear hn7; have hn7 := n_; clear n_; have n_ := Aside0.mk hb7; clear hb7; have hb7 := n_; clear n_; have HS7 := Aside0.mk (HSe.out.below hb7.out))
        | ((with_reducible refine gate_callee (f := 19) rfl ?_); (try (refine gate_guard (by rfl) ?_; dsimp only)); refine goesL_ (some 64) rfl rfl Try.func19 (by kernel_rfl) rfl #[.pointer (some ⟨g, 0, none⟩)] rfl (by (try simp only [List.map_toArray, List.map_cons, List.map_nil]); first | done | rfl) ?_; refine (s1_all HS7.out HT.out (by have := HTL.out; omega)).mono ?_; rintro ex w8 ⟨v8, rfl, hn8, hb8⟩; refine ⟨_, rfl, ?_⟩; obtain ⟨A8, c8, rfl⟩ := Kd.N_slice hn8; rw [List.length_map]; have n_ := Aside0.mk hn8; clear hn8; have hn8 := n_; clear n_; have n_ := Aside0.mk hb8; clear hb8; have hb8 := n_; clear n_; have HS8 := Aside0.mk (HS7.out.below hb8.out))
        | ((with_reducible refine gate_callee (f := 18) rfl ?_); (try (refine gate_guard (by rfl) ?_; dsimp only)); refine goesL_ (some 65) rfl rfl Try.func18 (by kernel_rfl) rfl #[.slice A7 T.length c7, .slice A8 T.length c8] rfl (by (try simp only [List.map_toArray, List.map_cons, List.map_nil]); first | done | rfl) ?_; refine (calls_of_args (by rw [List.length_map]) (sameC HT.out.good (by rw [List.length_map]; have := HTL.out; omega) (Kd.C_below (Kd.N_reads' hn7.out).2.2 hb8.out) (Kd.N_reads' hn7.out).2.1 (Kd.N_reads' hn8.out).2.2 (Kd.N_reads' hn8.out).2.1)).mono ?_; rintro ex w9 ⟨rfl, hb9⟩; refine ⟨_, rfl, ?_⟩; have n_ := Aside0.mk hb9; clear hb9; have hb9 := n_; clear n_)
        | ((with_reducible refine gate_callee (f := 23) rfl ?_); (try (refine gate_guard (by rfl) ?_; dsimp only)); refine goesL_ (some 68) rfl rfl Try.func23 (by kernel_rfl) rfl #[.pointer (some ⟨g, 0, none⟩), .int .i64 13] rfl (by (try simp only [List.map_toArray, List.map_cons, List.map_nil]); first | done | rfl) ?_; refine (s1_level (HS8.out.below hb9.out) HT.out (by have := HTL.out; omega) 13 (by omega)).mono ?_; rintro ex w10 ⟨v10, rfl, hn10, hb10⟩; refine ⟨_, rfl, ?_⟩; rw [levT_none HT.out (by omega)] at hn10; obtain ⟨A10, c10, rfl⟩ := Kd.N_slice hn10; have n_ := Aside0.mk hb10; clear hb10; have hb10 := n_; clear n_; clear hn10))
      go_ret
      exact ⟨rfl, below_step B4.out (below_step HBr.out (below_step hb7.out (below_step hb8.out (below_step hb9.out hb10.out))))⟩
    | succ k1 =>
      have hil : i < hi.length := by have := HK.out; omega
      have HIL := Aside0.mk hil
      have hlt : (i < hi.length) = True := eq_true hil
      obtain ⟨y, hy⟩ : ∃ y, hi[i]? = some y := ⟨_, List.getElem?_eq_getElem hil⟩
      have HY := Aside0.mk hy
      have HYD := Aside0.mk (show hi.drop i = y :: hi.drop (i + 1) by rw [List.drop_eq_getElem_cons hil]; congr 1; exact Option.some.inj ((List.getElem?_eq_getElem hil).symm.trans hy))
      have HWI := Aside0.mk (show wrap64 ((i : Int) + 1) = ((i + 1 : Nat) : Int) by rw [wrap_in (by omega) (by have := HLL.out; omega)]; rfl)
      clear hy hil
      go_wp2
      clear hlt
      go_loopg [10] (lo.length - p) (fun kq v10 w' => ∃ (at_ : Nat), v10 = .int .i64 (at_ : Int) ∧ Aside0 (kq + at_ = lo.length) ∧ Aside0 ((hi.drop i).Sublist (lo.drop at_)) ∧ Aside0 (Below w4.heap.size w4 w'))
      case atStart => exact ⟨p, rfl, ⟨by have := HPL.out; omega⟩, HSB, HBr⟩
      case round =>
        clear HSB HBr
        obtain ⟨at_, rfl, HKA, HSB, HBr⟩ := hrel
        have hal : at_ < lo.length := by
          have h1 := HSB.out
          rw [HYD.out] at h1
          rcases Nat.lt_or_ge at_ lo.length with h2 | h2
          · exact h2
          · rw [List.drop_eq_nil_of_le h2] at h1
            cases h1
        have hlt : (at_ < lo.length) = True := eq_true hal
        have HAL := Aside0.mk hal
        have hil := HIL.out
        have hlh : (i < hi.length) = True := eq_true hil
        obtain ⟨z, hz⟩ : ∃ z, lo[at_]? = some z := ⟨_, List.getElem?_eq_getElem hal⟩
        have HZ := Aside0.mk hz
        have hy := HY.out
        have HZD := Aside0.mk (show lo.drop at_ = z :: lo.drop (at_ + 1) by rw [List.drop_eq_getElem_cons hal]; congr 1; exact Option.some.inj ((List.getElem?_eq_getElem hal).symm.trans hz))
        have HWA := Aside0.mk (show wrap64 ((at_ : Int) + 1) = ((at_ + 1 : Nat) : Int) by rw [wrap_in (by omega) (by have := HLL.out; omega)]; rfl)
        have HNl := Aside0.mk (Kd.N_below HN3.out HBr.out)
        have HNh := Aside0.mk (Kd.N_below hn4.out HBr.out)
        obtain ⟨al, hA⟩ := N_addr HNl.out (by omega)
        subst hA
        obtain ⟨ah, hA⟩ := N_addr HNh.out (by omega)
        subst hA
        obtain ⟨B0, b0, B3, b3, hb0, hb1, hb2_, hb3_, hFB⟩ := at_N34 HNl.out at_ z hz
        obtain ⟨D0, d0, D3, d3, hd0, hd1, hd2, hd3, hFD⟩ := at_N34 HNh.out i y hy
        have HFB := Aside0.mk (Kd.FK_below hFB (below_drew (Below.refl _ _)))
        have HFD := Aside0.mk (Kd.FK_below hFD (below_drew (Below.refl _ _)))
        clear hFB hFD
        have hne : ((at_ : Int) == (lo.length : Int)) = false := by rw [beq_eq_false_iff_ne]; omega
        have hne2 : (at_ == lo.length) = false := by rw [beq_eq_false_iff_ne]; omega
        have hne3 : (at_ = lo.length) = False := eq_false (by omega)
        clear hz hy hal hil
        by_cases hzy : z = y
        · have HSD := Aside0.mk (same_dec.2 hzy)
          have HNX := Aside0.mk (show (hi.drop (i + 1)).Sublist (lo.drop (at_ + 1)) by
            have h1 := HSB.out
            rw [HYD.out, HZD.out, hzy] at h1
            exact List.cons_sublist_cons.1 h1)
          clear hzy
          go_wp2
          refine s_ 16 [] (fun w' => w'.cell? (al.add (at_ * 4)) = some (.slice B0 z.f0.length b0) ∧ w'.cell? ⟨(al.add (at_ * 4)).block, (al.add (at_ * 4)).off + 1, none⟩ = some (.int .i64 z.f1) ∧ w'.cell? ⟨(al.add (at_ * 4)).block, (al.add (at_ * 4)).off + 2, none⟩ = some (.bool z.f2) ∧ w'.cell? ⟨(al.add (at_ * 4)).block, (al.add (at_ * 4)).off + 3, none⟩ = some (.slice B3 z.f3.length b3) ∧ w'.cell? (ah.add (i * 4)) = some (.slice D0 y.f0.length d0) ∧ w'.cell? ⟨(ah.add (i * 4)).block, (ah.add (i * 4)).off + 1, none⟩ = some (.int .i64 y.f1) ∧ w'.cell? ⟨(ah.add (i * 4)).block, (ah.add (i * 4)).off + 2, none⟩ = some (.bool y.f2) ∧ w'.cell? ⟨(ah.add (i * 4)).block, (ah.add (i * 4)).off + 3, none⟩ = some (.slice D3 y.f3.length d3)) (hS := ⟨(show wr.drew.cell? _ = _ from hb0), (show wr.drew.cell? _ = _ from hb1), (show wr.drew.cell? _ = _ from hb2_), (show wr.drew.cell? _ = _ from hb3_), (show wr.drew.cell? _ = _ from hd0), (show wr.drew.cell? _ = _ from hd1), (show wr.drew.cell? _ = _ from hd2), (show wr.drew.cell? _ = _ from hd3)⟩) (h := fun hHeld => ?_)
          refine p_ 0 37 (bb 16 1) (h := ?_)
          refine p_ 1 38 (bb 16 3) (h := ?_)
          refine p_ 2 39 (bb 16 7) (h := ?_)
          refine p_ 3 40 (bb 16 15) (h := ?_)
          refine p_ 4 41 (bb 16 31) (h := ?_)
          refine p_ 5 42 (bb 16 63) (h := ?_)
          refine p_ 6 43 (bb 16 127) (h := ?_)
          refine p_ 7 44 (bb 16 255) (h := ?_)
          refine t_ 8 45 (bb 16 511) hHeld (h := ?_)
          refine p_ 9 46 (bb 16 1023) (h := ?_)
          refine p_ 10 47 (bb 16 2047) (h := ?_)
          refine p_ 11 48 (bb 16 4095) (h := ?_)
          refine t_ 12 49 (bb 16 8191) hHeld (h := ?_)
          refine n_ 13 50 (bb 16 16383) (h := fun K hK => ?_)
          refine goes_ Try.func24 (by kernel_rfl) rfl #[.agg #[.slice B0 z.f0.length b0, .int .i64 z.f1, .bool z.f2, .slice B3 z.f3.length b3], .agg #[.slice D0 y.f0.length d0, .int .i64 y.f1, .bool y.f2, .slice D3 y.f3.length d3]] (by rfl) rfl rfl (by (try simp only [List.map_toArray, List.map_cons, List.map_nil]); first | done | rfl) ?_
          refine (sameOneC (HLO.out z (List.mem_of_getElem? HZ.out)) (HHI.out y (List.mem_of_getElem? HY.out)) (K34_C (Kd.FK_now HFB.out)).2.1 (K34_C (Kd.FK_now HFB.out)).1 (K34_C (Kd.FK_now HFB.out)).2.2.2 (K34_C (Kd.FK_now HFB.out)).2.2.1 (K34_C (Kd.FK_now HFD.out)).2.1 (K34_C (Kd.FK_now HFD.out)).1 (K34_C (Kd.FK_now HFD.out)).2.2.2 (K34_C (Kd.FK_now HFD.out)).2.2.1).mono ?_
          rintro ex w5 ⟨rfl, hb5⟩
          refine ⟨_, rfl, ?_⟩
          rw [HSD.out]
          have hb5 := Aside0.mk hb5
          refine hK.out _ _ ⟨pw_cell_below hb5.out hHeld.1, pw_cell_below hb5.out hHeld.2.1, pw_cell_below hb5.out hHeld.2.2.1, pw_cell_below hb5.out hHeld.2.2.2.1, pw_cell_below hb5.out hHeld.2.2.2.2.1, pw_cell_below hb5.out hHeld.2.2.2.2.2.1, pw_cell_below hb5.out hHeld.2.2.2.2.2.2.1, pw_cell_below hb5.out hHeld.2.2.2.2.2.2.2⟩ (fun hHeld => ?_)
          clear hK K
          refine m_ 50 (h := ?_)
          refine p_ 14 51 (bb 16 32767) (h := ?_)
          refine p_ 15 52 (bb 16 65535) (h := ?_)
          refine d_ (h := ?_)

          clear hHeld
          go_wp2
          go_roundg k1
          case measure => exact Nat.lt_succ_self _
          case rel => exact ⟨i + 1, at_ + 1, by first | rfl | rw [HWA.out], by first | rfl | rw [HWI.out], ⟨by have := HK.out; omega⟩, HNX, ⟨HAL.out⟩, ⟨below_step (below_drew HBr.out) hb5.out⟩⟩
        · have HSD := Aside0.mk (Bool.eq_false_iff.2 (fun h => hzy (same_dec.1 h)))
          have HNX := Aside0.mk (show (hi.drop i).Sublist (lo.drop (at_ + 1)) by
            have h1 := HSB.out
            rw [HYD.out, HZD.out] at h1
            rw [HYD.out]
            exact sub_skip h1 hzy)
          clear hzy
          cases gk with
          | zero => exact absurd HKA.out (by have := HAL.out; omega)
          | succ k2 =>
            go_wp2
            refine s_ 16 [] (fun w' => w'.cell? (al.add (at_ * 4)) = some (.slice B0 z.f0.length b0) ∧ w'.cell? ⟨(al.add (at_ * 4)).block, (al.add (at_ * 4)).off + 1, none⟩ = some (.int .i64 z.f1) ∧ w'.cell? ⟨(al.add (at_ * 4)).block, (al.add (at_ * 4)).off + 2, none⟩ = some (.bool z.f2) ∧ w'.cell? ⟨(al.add (at_ * 4)).block, (al.add (at_ * 4)).off + 3, none⟩ = some (.slice B3 z.f3.length b3) ∧ w'.cell? (ah.add (i * 4)) = some (.slice D0 y.f0.length d0) ∧ w'.cell? ⟨(ah.add (i * 4)).block, (ah.add (i * 4)).off + 1, none⟩ = some (.int .i64 y.f1) ∧ w'.cell? ⟨(ah.add (i * 4)).block, (ah.add (i * 4)).off + 2, none⟩ = some (.bool y.f2) ∧ w'.cell? ⟨(ah.add (i * 4)).block, (ah.add (i * 4)).off + 3, none⟩ = some (.slice D3 y.f3.length d3)) (hS := ⟨(show wr.drew.cell? _ = _ from hb0), (show wr.drew.cell? _ = _ from hb1), (show wr.drew.cell? _ = _ from hb2_), (show wr.drew.cell? _ = _ from hb3_), (show wr.drew.cell? _ = _ from hd0), (show wr.drew.cell? _ = _ from hd1), (show wr.drew.cell? _ = _ from hd2), (show wr.drew.cell? _ = _ from hd3)⟩) (h := fun hHeld => ?_)
            refine p_ 0 37 (bb 16 1) (h := ?_)
            refine p_ 1 38 (bb 16 3) (h := ?_)
            refine p_ 2 39 (bb 16 7) (h := ?_)
            refine p_ 3 40 (bb 16 15) (h := ?_)
            refine p_ 4 41 (bb 16 31) (h := ?_)
            refine p_ 5 42 (bb 16 63) (h := ?_)
            refine p_ 6 43 (bb 16 127) (h := ?_)
            refine p_ 7 44 (bb 16 255) (h := ?_)
            refine t_ 8 45 (bb 16 511) hHeld (h := ?_)
            refine p_ 9 46 (bb 16 1023) (h := ?_)
            refine p_ 10 47 (bb 16 2047) (h := ?_)
            refine p_ 11 48 (bb 16 4095) (h := ?_)
            refine t_ 12 49 (bb 16 8191) hHeld (h := ?_)
            refine n_ 13 50 (bb 16 16383) (h := fun K hK => ?_)
            refine goes_ Try.func24 (by kernel_rfl) rfl #[.agg #[.slice B0 z.f0.length b0, .int .i64 z.f1, .bool z.f2, .slice B3 z.f3.length b3], .agg #[.slice D0 y.f0.length d0, .int .i64 y.f1, .bool y.f2, .slice D3 y.f3.length d3]] (by rfl) rfl rfl (by (try simp only [List.map_toArray, List.map_cons, List.map_nil]); first | done | rfl) ?_
            refine (sameOneC (HLO.out z (List.mem_of_getElem? HZ.out)) (HHI.out y (List.mem_of_getElem? HY.out)) (K34_C (Kd.FK_now HFB.out)).2.1 (K34_C (Kd.FK_now HFB.out)).1 (K34_C (Kd.FK_now HFB.out)).2.2.2 (K34_C (Kd.FK_now HFB.out)).2.2.1 (K34_C (Kd.FK_now HFD.out)).2.1 (K34_C (Kd.FK_now HFD.out)).1 (K34_C (Kd.FK_now HFD.out)).2.2.2 (K34_C (Kd.FK_now HFD.out)).2.2.1).mono ?_
            rintro ex w5 ⟨rfl, hb5⟩
            refine ⟨_, rfl, ?_⟩
            rw [HSD.out]
            have hb5 := Aside0.mk hb5
            refine hK.out _ _ ⟨pw_cell_below hb5.out hHeld.1, pw_cell_below hb5.out hHeld.2.1, pw_cell_below hb5.out hHeld.2.2.1, pw_cell_below hb5.out hHeld.2.2.2.1, pw_cell_below hb5.out hHeld.2.2.2.2.1, pw_cell_below hb5.out hHeld.2.2.2.2.2.1, pw_cell_below hb5.out hHeld.2.2.2.2.2.2.1, pw_cell_below hb5.out hHeld.2.2.2.2.2.2.2⟩ (fun hHeld => ?_)
            clear hK K
            refine m_ 50 (h := ?_)
            refine p_ 14 51 (bb 16 32767) (h := ?_)
            refine p_ 15 52 (bb 16 65535) (h := ?_)
            refine d_ (h := ?_)

            clear hHeld
            go_wp2
            go_roundg k2
            case measure => exact Nat.lt_succ_self _
            case rel => exact ⟨at_ + 1, by first | rfl | rw [HWA.out], ⟨by have := HKA.out; omega⟩, HNX, ⟨below_step (below_drew HBr.out) hb5.out⟩⟩
end Go.Proofs.Ytjlkcidohabcfaa.Sk
