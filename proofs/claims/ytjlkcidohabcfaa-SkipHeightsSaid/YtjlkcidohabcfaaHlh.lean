/- The law SkipHeights as a contract of its function. Conditions: those of each theorem. -/
import Derived.Test.YtjlkcidohabcfaaPx4
import Derived.Test.YtjlkcidohabcfaaPx5
import Derived.Test.YtjlkcidohabcfaaPx13
import Derived.Test.YtjlkcidohabcfaaPx20
import Derived.Test.YtjlkcidohabcfaaPx21
import Derived.Test.YtjlkcidohabcfaaPx22
import Derived.Test.YtjlkcidohabcfaaPx23
import Derived.Test.YtjlkcidohabcfaaPx24
import Derived.Test.YtjlkcidohabcfaaPx25
import Derived.Test.YtjlkcidohabcfaaPx27
import Derived.Test.YtjlkcidohabcfaaPx29
import Derived.Test.YtjlkcidohabcfaaH0
import Derived.Test.YtjlkcidohabcfaaHp
import Derived.Test.YtjlkcidohabcfaaHq
import Derived.Test.YtjlkcidohabcfaaHr
import Derived.Test.YtjlkcidohabcfaaHu
import Derived.Test.YtjlkcidohabcfaaHv
import Derived.Test.YtjlkcidohabcfaaHw
import Derived.Test.YtjlkcidohabcfaaHg
import Derived.Test.YtjlkcidohabcfaaHh
import Derived.Test.YtjlkcidohabcfaaHi
import Derived.Test.YtjlkcidohabcfaaHk
import Derived.Test.YtjlkcidohabcfaaHy
import Derived.Test.YtjlkcidohabcfaaHj
import Derived.Test.YtjlkcidohabcfaaHl
import Derived.Test.YtjlkcidohabcfaaHn
import Derived.Test.YtjlkcidohabcfaaHaa
import Derived.Test.YtjlkcidohabcfaaHab
import Derived.Test.YtjlkcidohabcfaaHac
import Derived.Test.YtjlkcidohabcfaaHad
import Derived.Test.YtjlkcidohabcfaaHbh
namespace Go.Proofs.Ytjlkcidohabcfaa.Sk
open Go.RowKit Go.Proofs.YtjlkcidohabcfaaW.PrintWords Go.Proofs.YtjlkcidohabcfaaW.PrintLast Go.Proofs.YtjlkcidohabcfaaW.PrintMore Go.Proofs.Ytjlkcidohabcfaa.Px
set_option linter.unusedVariables false
set_option linter.unusedSimpArgs false
open Go.Proofs.Ytjlkcidohabcfaa.Sw
theorem and_mask (x : Int) (j : Nat) (hj : j ≤ 30) : 0 ≤ Go.bits .and .i64 x ((2 ^ j - 1 : Nat) : Int) ∧ Go.bits .and .i64 x ((2 ^ j - 1 : Nat) : Int) < 2 ^ j := by
  have h2 : (2 : Nat) ^ j ≤ 2 ^ 30 := Nat.pow_le_pow_right (by omega) hj
  have h0 : 0 < (2 : Nat) ^ j := Nat.pow_pos (by omega)
  have e : ∃ n : Nat, n < 2 ^ j ∧ Go.bits .and .i64 x ((2 ^ j - 1 : Nat) : Int) = (n : Int) := by
    refine ⟨((BitVec.ofInt 64 x) &&& (BitVec.ofInt 64 ((2 ^ j - 1 : Nat) : Int))).toNat, ?_, ?_⟩
    · rw [BitVec.ofInt_natCast, BitVec.toNat_and, BitVec.toNat_ofNat, Nat.mod_eq_of_lt (by omega), Nat.and_two_pow_sub_one_eq_mod]
      exact Nat.mod_lt _ h0
    · have hlt : ((BitVec.ofInt 64 x) &&& (BitVec.ofInt 64 ((2 ^ j - 1 : Nat) : Int))).toNat < 2 ^ j := by
        rw [BitVec.ofInt_natCast, BitVec.toNat_and, BitVec.toNat_ofNat, Nat.mod_eq_of_lt (by omega), Nat.and_two_pow_sub_one_eq_mod]
        exact Nat.mod_lt _ h0
      show IntKind.i64.wrap ((((BitVec.ofInt 64 x) &&& (BitVec.ofInt 64 ((2 ^ j - 1 : Nat) : Int))).toNat : Nat) : Int) = _
      revert hlt
      generalize ((BitVec.ofInt 64 x) &&& (BitVec.ofInt 64 ((2 ^ j - 1 : Nat) : Int))).toNat = n
      intro hlt
      simp only [IntKind.wrap, IntKind.bits, IntKind.signed]
      simp
      omega
  obtain ⟨n, hn, e⟩ := e
  rw [e]
  have : ((2 ^ j : Nat) : Int) = (2 : Int) ^ j := by simp
  omega
theorem cell_heap_lt {w w1 : World} {base : Nat} (hb : Below base w w1) {p : Addr} (hp : p.block < base) {v : Value} (h : w.cell? p = some v) : w1.cell? p = some v := by
  have := hb.block p.block hp
  unfold World.cell? at h ⊢
  rw [this]
  exact h
theorem op_block {w : World} {A : Option Addr} {n : Nat} {xs : List SOp} (h : Kd.C kOp w A n xs) {ad : Addr} (hA : A = some ad) (i : Nat) (o : SOp) (ho : xs[i]? = some o) : (ad.add (i * 8)).block < w.heap.size := by
  subst hA
  have hn := Kd.C_len h
  subst hn
  obtain ⟨ad', A0, c0, A3, c3, A4, c4, e, h0, _⟩ := at_Op h i o ho
  injection e with e
  subst e
  exact World.block_lt_of_cell? w _ h0

section
variable {ops : Array Oper} {rest : List Oper} {o : Oper} {a : Act} {Q : Exit → Act → World → Prop}
theorem app_row {W : World} {base ga gb : Nat} {A B : List Tw} {v : Value} {xs : List S34} (s x : Operand) (hgd : o.guard = none) (ho : o.op = .call { callee := .builtin .append, args := #[s, x], argTypes := #[27, 27] }) (h : H2 W base ga gb A B v xs) (hxl : xs.length ≤ 1000000) (e : S34) {A0 A3 : Option Addr} {c0 c3 : Nat} (hl0 : e.f0.length ≤ c0) (hF0 : Kd.F (Kd.int .u8) W (fun k => k < base) A0 e.f0.length e.f0) (hl3 : e.f3.length ≤ c3) (hF3 : Kd.F (Kd.int .u8) W (fun k => k < base) A3 e.f3.length e.f3)
    (hs : a.eval s = v) (hx : a.eval x = .slice (some ⟨W.heap.size, 0, none⟩) 1 1) (hk : ∀ v1 w1, H2 w1 base ga gb A B v1 (xs ++ [e]) → Below base W w1 → wpList Try.prog ops Q rest (a.put o.dst v1) w1) :
    wpList Try.prog ops Q (o :: rest) a (W.alloc (.cells [.slice A0 e.f0.length c0, .int .i64 e.f1, .bool e.f2, .slice A3 e.f3.length c3].toArray 34)) := by
  have hbl := h.base_le
  obtain ⟨Da, Db, Dp, h1, h2, h3, h4, h5, h6⟩ := h
  refine Kd.N_append k34 (w0 := W) base hgd s x 27 34 (.agg #[(.slice none 0 0), (.int .i64 0), (.bool false), (.slice none 0 0)]) 64 ho Try.underlying27 info34 rfl (by decide) (by omega) v xs e _ (fun k => k < base ∨ (Dp k ∨ W.heap.size ≤ k)) (fun k => k < base) hs hx (k34_mkF W _ e hl0 hF0 hl3 hF3) (fun k hk => ⟨.inl hk, fun he => by have := Kd.N_base h3 k he.symm; omega⟩) (fun k hk => .inr (.inr hk)) (Kd.N_mono h3 (fun k hk => hk.imp id .inl)) (Below.refl _ _) hbl (by omega) ?_
  intro v1 w1 hn hb hg hat
  have hv : ∀ k, v.ownBlock = some k → Dp k := fun k hk => (h3.1 k hk).elim (fun h => by have := Kd.N_base h3 k hk; omega) id
  refine hk v1 w1 ⟨Da, Db, fun k => (Dp k ∨ W.heap.size ≤ k) ∧ base ≤ k ∧ k < w1.heap.size, h1.step hg.size (fun k hk hlt => hg.block k hlt (fun he => (h5 k hk).2 (hv k he.symm))), h2.step hg.size (fun k hk hlt => hg.block k hlt (fun he => h6 k hk (hv k he.symm))), Kd.N_mono (Kd.N_bound hn) (fun k hk => ?_), ?_, ?_, ?_⟩ hb
  · rcases hk.1 with h7 | h7
    · exact .inl h7
    · by_cases hb : k < base
      · exact .inl hb
      · exact .inr ⟨h7, by omega, hk.2⟩
  · rintro k (hk | hk | hk)
    · exact ⟨(h4 k (.inl hk)).1, Nat.lt_of_lt_of_le (h4 k (.inl hk)).2 hg.size⟩
    · exact ⟨(h4 k (.inr (.inl hk))).1, Nat.lt_of_lt_of_le (h4 k (.inr (.inl hk))).2 hg.size⟩
    · exact hk.2
  · exact fun k hk => ⟨(h5 k hk).1, fun h7 => h7.1.elim (fun h8 => (h5 k hk).2 h8) (fun h8 => by have := (h4 k (.inl hk)).2; omega)⟩
  · exact fun k hk h7 => h7.1.elim (fun h8 => h6 k hk h8) (fun h8 => by have := (h4 k (.inr (.inl hk))).2; omega)
end
theorem int_cell {w : World} {A : Option Addr} {xs : List Int} (h : Kd.C (Kd.int .i64) w A xs.length xs) (i : Nat) (x : Int) (hx : xs[i]? = some x) : ∃ ad, A = some ad ∧ w.cell? (ad.add i) = some (.int .i64 x) := by
  have hi : i < xs.length := (List.getElem?_eq_some_iff.1 hx).1
  obtain ⟨ad, c, e, _, hK, hc0⟩ := Kd.C_get h x (i : Int) (by omega) (by omega)
  rw [Int.toNat_natCast, List.getD_eq_getElem?_getD, hx] at hK
  have hK2 : c = [.int .i64 x] := hK
  subst hK2
  have h2 := hc0 0 _ rfl
  rw [Int.toNat_natCast] at h2
  have e2 : i * (Kd.int IntKind.i64).sz + 0 = i := by show i * 1 + 0 = i; omega
  rw [e2] at h2
  exact ⟨ad, e, h2⟩
theorem C_heap {w wr : World} {A : Option Addr} {n : Nat} {xs : List Int} {k : IntKind} (hb : Below w.heap.size w wr) (h : Kd.C (Kd.int k) w A n xs) : Kd.C (Kd.int k) wr A n xs := Kd.C_below h hb

theorem below_weakW {w wr w' : World} {base : Nat} (h : Below w.heap.size w wr) (hb : Below base wr w') (hle : w.heap.size ≤ base := by exact Aside0.out (by assumption)) : Below w.heap.size wr w' := ⟨hb.os, hb.tape, hb.output, hb.size, fun k hk => hb.block k (by omega)⟩
set_option maxHeartbeats 4000000 in
set_option maxRecDepth 100000 in
theorem heights_calls {w : World} (A : Option Addr) (c : Nat) (l : List SOp) (hr : Kd.C kOp w A l.length l) (hc : l.length ≤ c) (hg : ∀ o, o ∈ l → GoodO o) (Ah : Option Addr) (ch : Nat) (hs : List Int) (hrh : Kd.C (Kd.int .i64) w Ah hs.length hs) (hch : hs.length ≤ ch) (hwh : ∀ n ∈ hs, (Lit.int .i64 n).wf = true) (Ak : Option Addr) (ck : Nat) (key : List Int) (hrk : Kd.C (Kd.int .u8) w Ak key.length key) (hck : key.length ≤ ck) (hwk : ∀ n ∈ key, (Lit.int .u8 n).wf = true) (sq : Int) (hwq : (Lit.int .i64 sq).wf = true) :
    Calls Try.prog 4 #[.slice A l.length c, .slice Ah hs.length ch, .slice Ak key.length ck, .int .i64 sq] w fun ex w' => ex = .returned (.bool true) ∧ Below w.heap.size w w' := by
  have hu34 := Try.underlying34
  have hu36 := Try.underlying36
  have hu30 := Try.underlying30
  have HR := Aside0.mk hr
  have HG := Aside0.mk hg
  have HMAX := Aside0.mk (Kd.C_max hr)
  clear hr hg
  have HC := Aside0.mk hc
  have HRH := Aside0.mk hrh
  have HCHH := Aside0.mk hch
  have HRK := Aside0.mk hrk
  have HCK := Aside0.mk hck
  have HKB := Aside0.mk (byts_of_wf hwk)
  clear hc hrh hch hwh hrk hck hwk hwq
  go_enter Try.func4, Try.ntmps4
  go_wp2_with (first
    | ((with_reducible refine gate_callee (f := 10) rfl ?_); (try (refine gate_guard (by rfl) ?_; dsimp only)); refine goesL_ (some 20) rfl rfl Try.func10 (by kernel_rfl) rfl #[] rfl (by (try simp only [List.map_toArray, List.map_cons, List.map_nil]); first | done | rfl) ?_; refine (awake_calls w).mono ?_; rintro ex w1 ⟨rfl, hb1⟩; refine ⟨_, rfl, ?_⟩; have n_ := Aside0.mk hb1; clear hb1; have hb1 := n_; clear n_)
    | ((with_reducible refine gate_callee (f := 11) rfl ?_); (try (refine gate_guard (by rfl) ?_; dsimp only)); refine goesL_ (some 21) rfl rfl Try.func11 (by kernel_rfl) rfl #[] rfl (by (try simp only [List.map_toArray, List.map_cons, List.map_nil]); first | done | rfl) ?_; refine (s1_new w1).mono ?_; rintro ex w2 ⟨ga, rfl, hs1, hb2⟩; refine ⟨_, rfl, ?_⟩; have n_ := Aside0.mk hs1; clear hs1; have hs1 := n_; clear n_; have n_ := Aside0.mk hb2; clear hb2; have hb2 := n_; clear n_)
    | ((with_reducible refine gate_callee (f := 11) rfl ?_); (try (refine gate_guard (by rfl) ?_; dsimp only)); refine goesL_ (some 22) rfl rfl Try.func11 (by kernel_rfl) rfl #[] rfl (by (try simp only [List.map_toArray, List.map_cons, List.map_nil]); first | done | rfl) ?_; refine (s1_new w2).mono ?_; rintro ex w3 ⟨gb, rfl, hs2, hb3⟩; refine ⟨_, rfl, ?_⟩; have n_ := Aside0.mk hs2; clear hs2; have hs2 := n_; clear n_; have n_ := Aside0.mk hb3; clear hb3; have hb3 := n_; clear n_; have H23 := Aside0.mk (H2.fresh hs1.out hb2.out hs2.out hb3.out); have B3 := Aside0.mk (below_step hb2.out hb3.out)))
  go_loopg [12, 13] (min l.length 60) (fun kq v12 v13 w' => ∃ n : Nat, v13 = .int .i64 (n : Int) ∧ Aside0 (kq + n = min l.length 60) ∧ Aside0 (H2 w' w1.heap.size ga gb (hrun n l).1 [] v12 (hrun n l).2) ∧ Aside0 (Below w1.heap.size w1 w'))
  case atStart => exact ⟨0, rfl, ⟨rfl⟩, ⟨by rw [hrun_zero]; exact H23.out⟩, B3⟩
  case round =>
    obtain ⟨n, rfl, HK, HSr, HB⟩ := hrel
    have HBS := Aside0.mk HSr.out.base_le
    cases gk with
    | zero =>
      have HEQ := Aside0.mk (show hrun n l = hrun 60 l by rw [← hrun_over l 60]; congr 1; have h1 := HK.out; omega)
      have HI60 := Aside0.mk (hrun_inv HG.out 60)
      rw [HEQ.out] at HSr
      obtain ⟨A, hA⟩ : ∃ A, A = (hrun 60 l).1 := ⟨_, rfl⟩
      obtain ⟨P, hP⟩ : ∃ P, P = (hrun 60 l).2 := ⟨_, rfl⟩
      obtain ⟨sq60, hsq60⟩ : ∃ s, s = hrun 60 l := ⟨_, rfl⟩
      rw [← hsq60] at HI60 HSr hA hP
      subst hA
      subst hP
      obtain ⟨A, P⟩ := sq60
      have HAF := Aside0.mk HI60.out.fit
      have HAL := Aside0.mk HI60.out.len
      clear hsq60 HEQ
      by_cases hnl : n < l.length
      · have hlt : (n < l.length) = True := eq_true hnl
        have h60 : decide ((n : Int) < 60) = false := decide_eq_false (by have h1 := HK.out; omega)
        clear hnl
        have HLE := Aside0.mk (show w.heap.size ≤ w1.heap.size from hb1.out.size)
        clear HK
        have HXL := Aside0.mk (show P.length ≤ 60 by rw [← HI60.out.perm.length_eq, List.length_map]; exact HI60.out.len)
        have HWP := Aside0.mk (show wrap64 ((P.length : Int) - 1) = (P.length : Int) - 1 from wrap_in (by omega) (by have := HXL.out; omega))
        obtain ⟨Av, cv, rfl⟩ := Kd.N_slice HSr.out.row
        go_wp2
        go_loopg [14, 15] P.length (fun kq v14 v15 w' => ∃ (m : Nat) (B : List Tw), v14 = .int .i64 ((m : Int) - 1) ∧ Aside0 (kq = m) ∧ Aside0 (FitT B) ∧ Aside0 ((B.map (fun t => t.e)).Perm (P.drop m)) ∧ Aside0 (B.length + m ≤ 60) ∧ Aside0 (H2 w' w1.heap.size ga gb A B (.slice Av P.length cv) P) ∧ Aside0 (Below w.heap.size w w') ∧ Aside0 (m ≤ P.length))
        case atStart => exact ⟨P.length, [], by first | rfl | rw [HWP.out], ⟨rfl⟩, ⟨FitT.nil⟩, ⟨by rw [List.drop_length]; exact List.Perm.nil⟩, ⟨by have := HXL.out; simpa using this⟩, HSr, ⟨hb1.out.trans (below_weakB hb1.out.size HB.out)⟩, ⟨Nat.le_refl _⟩⟩
        case round =>
          clear HSr HB HBS
          obtain ⟨m, B, rfl, HK, HBF, HBP, HBL, HSr, HBr, HML⟩ := hrel
          cases m with
          | zero =>
            have e0 : ((0 : Nat) : Int) - 1 = -1 := rfl
            rw [e0]
            have HBL := Aside0.mk (show B.length ≤ 60 by have := HBL.out; omega)
            rw [List.drop_zero] at HBP
            have HSA := Aside0.mk HSr.out.one
            have HSB := Aside0.mk HSr.out.swap.one
            have HMAP := Aside0.mk (same_map HAF.out HBF.out HI60.out.perm HBP.out)
            have HGET := Aside0.mk (getN_map HAF.out HBF.out HMAP.out key sq)
            have HSCN := Aside0.mk (scan_map HAF.out HBF.out HMAP.out key [] sq)
            have HSZ := Aside0.mk (size_map HMAP.out)
            go_wp2_with (first
              | ((with_reducible refine gate_callee (f := 20) rfl ?_); (try (refine gate_guard (by rfl) ?_; dsimp only)); refine goesL_ (some 94) rfl rfl Try.func20 (by kernel_rfl) rfl #[.pointer (some ⟨ga, 0, none⟩), .slice Ak key.length ck, .int .i64 sq] rfl (by (try simp only [List.map_toArray, List.map_cons, List.map_nil]); first | done | rfl) ?_; refine (s1_get HSA.out HAF.out Ak ck key sq (C_heap HBr.out HRK.out) HCK.out HKB.out).mono ?_; rintro ex x2 ⟨v0, v3, rfl, hv2, hx2⟩; refine ⟨_, rfl, ?_⟩; obtain ⟨⟨P0, p0, rfl, hl0, hF0⟩, ⟨P3, p3, rfl, hl3, hF3⟩⟩ := hv2; have n_ := Aside0.mk hl0; clear hl0; have hl0 := n_; clear n_; have n_ := Aside0.mk hF0; clear hF0; have hF0 := n_; clear n_; have n_ := Aside0.mk hl3; clear hl3; have hl3 := n_; clear n_; have n_ := Aside0.mk hF3; clear hF3; have hF3 := n_; clear n_; have n_ := Aside0.mk hx2; clear hx2; have hx2 := n_; clear n_)
              | ((with_reducible refine gate_dst (N := 16) rfl ?_); (try (refine gate_guard (by rfl) ?_; dsimp only)); refine box_event ?hg (N := 16) ?hd (cs := #[.slice none 0 0, .int .i64 0, .bool false, .slice none 0 0]) (t := 34) ?hr ?_; (case hd => rfl); (case hg => rfl); (case hr => first | (go_simp; done) | (go_simp; rfl)); intro g7 hqg7 x3 hxg7 hbg7; have n_ := Aside0.mk hqg7; clear hqg7; have hqg7 := n_; clear n_; have n_ := Aside0.mk hxg7; clear hxg7; have hxg7 := n_; clear n_; have n_ := Aside0.mk hbg7; clear hbg7; have hbg7 := n_; clear n_; have hcy0 : x3.cell? ⟨g7, 0, none⟩ = some (.slice none 0 0) := (blk_cell hxg7.out 0).trans rfl; have hcy1 : x3.cell? ⟨g7, 1, none⟩ = some (.int .i64 0) := (blk_cell hxg7.out 1).trans rfl; have hcy2 : x3.cell? ⟨g7, 2, none⟩ = some (.bool false) := (blk_cell hxg7.out 2).trans rfl; have hcy3 : x3.cell? ⟨g7, 3, none⟩ = some (.slice none 0 0) := (blk_cell hxg7.out 3).trans rfl; have hfy0 : x3.frozen? ⟨g7, 0, none⟩ = false := blk_frozen hxg7.out 0; have hfy1 : x3.frozen? ⟨g7, 1, none⟩ = false := blk_frozen hxg7.out 1; have hfy2 : x3.frozen? ⟨g7, 2, none⟩ = false := blk_frozen hxg7.out 2; have hfy3 : x3.frozen? ⟨g7, 3, none⟩ = false := blk_frozen hxg7.out 3)
              | ((with_reducible refine gate_dst (N := 101) rfl ?_); have X4 := Aside0.mk (sets4 (a := .slice P0 (getN A key sq).1.f0.length p0) (b := .int .i64 (getN A key sq).1.f1) (c := .bool (getN A key sq).1.f2) (d := .slice P3 (getN A key sq).1.f3.length p3) hxg7.out); have X34 := Aside0.mk (show Below x2.heap.size x2 ((((x3.setCell ⟨g7, 0, none⟩ (.slice P0 (getN A key sq).1.f0.length p0)).setCell ⟨g7, 1, none⟩ (.int .i64 (getN A key sq).1.f1)).setCell ⟨g7, 2, none⟩ (.bool (getN A key sq).1.f2)).setCell ⟨g7, 3, none⟩ (.slice P3 (getN A key sq).1.f3.length p3)) from below_set (below_set (below_set (below_set hbg7.out (Nat.le_of_eq hqg7.out.symm)) (Nat.le_of_eq hqg7.out.symm)) (Nat.le_of_eq hqg7.out.symm)) (Nat.le_of_eq hqg7.out.symm)); clear hcy0 hcy1 hcy2 hcy3 hfy0 hfy1 hfy2 hfy3; generalize ((((x3.setCell ⟨g7, 0, none⟩ (.slice P0 (getN A key sq).1.f0.length p0)).setCell ⟨g7, 1, none⟩ (.int .i64 (getN A key sq).1.f1)).setCell ⟨g7, 2, none⟩ (.bool (getN A key sq).1.f2)).setCell ⟨g7, 3, none⟩ (.slice P3 (getN A key sq).1.f3.length p3)) = x4 at X4 X34 ⊢; have Y4 := Aside0.mk (below_step hx2.out X34.out); (try (refine gate_guard (by rfl) ?_; dsimp only)); refine goesL_ (some 101) rfl rfl Try.func20 (by kernel_rfl) rfl #[.pointer (some ⟨gb, 0, none⟩), .slice Ak key.length ck, .int .i64 sq] rfl (by (try simp only [List.map_toArray, List.map_cons, List.map_nil]); first | done | rfl) ?_; refine (s1_get (HSB.out.below Y4.out) HBF.out Ak ck key sq (Kd.C_below (C_heap HBr.out HRK.out) Y4.out) HCK.out HKB.out).mono ?_; rintro ex x5 ⟨v0b, v3b, rfl, hv5, hx5⟩; refine ⟨_, rfl, ?_⟩; rw [← HGET.out] at hv5 ⊢; obtain ⟨⟨Q0, q0, rfl, hm0, hG0⟩, ⟨Q3, q3, rfl, hm3, hG3⟩⟩ := hv5; have n_ := Aside0.mk hm0; clear hm0; have hm0 := n_; clear n_; have n_ := Aside0.mk hG0; clear hG0; have hG0 := n_; clear n_; have n_ := Aside0.mk hm3; clear hm3; have hm3 := n_; clear n_; have n_ := Aside0.mk hG3; clear hG3; have hG3 := n_; clear n_; have n_ := Aside0.mk hx5; clear hx5; have hx5 := n_; clear n_; have Y5 := Aside0.mk (below_step Y4.out hx5.out); have X5 := Aside0.mk (blk_below X4.out hx5.out))
              | ((with_reducible refine gate_dst (N := 18) rfl ?_); (try (refine gate_guard (by rfl) ?_; dsimp only)); refine box_event ?hg (N := 18) ?hd (cs := #[.slice none 0 0, .int .i64 0, .bool false, .slice none 0 0]) (t := 34) ?hr ?_; (case hd => rfl); (case hg => rfl); (case hr => first | (go_simp; done) | (go_simp; rfl)); intro g9 hqg9 x6 hxg9 hbg9; have n_ := Aside0.mk hqg9; clear hqg9; have hqg9 := n_; clear n_; have n_ := Aside0.mk hxg9; clear hxg9; have hxg9 := n_; clear n_; have n_ := Aside0.mk hbg9; clear hbg9; have hbg9 := n_; clear n_; have X6 := Aside0.mk (blk_below X5.out hbg9.out); have hcx0 : x6.cell? ⟨g7, 0, none⟩ = some (.slice P0 (getN A key sq).1.f0.length p0) := (blk_cell X6.out 0).trans rfl; have hcx1 : x6.cell? ⟨g7, 1, none⟩ = some (.int .i64 (getN A key sq).1.f1) := (blk_cell X6.out 1).trans rfl; have hcx2 : x6.cell? ⟨g7, 2, none⟩ = some (.bool (getN A key sq).1.f2) := (blk_cell X6.out 2).trans rfl; have hcx3 : x6.cell? ⟨g7, 3, none⟩ = some (.slice P3 (getN A key sq).1.f3.length p3) := (blk_cell X6.out 3).trans rfl; have hcz0 : x6.cell? ⟨g9, 0, none⟩ = some (.slice none 0 0) := (blk_cell hxg9.out 0).trans rfl; have hcz1 : x6.cell? ⟨g9, 1, none⟩ = some (.int .i64 0) := (blk_cell hxg9.out 1).trans rfl; have hcz2 : x6.cell? ⟨g9, 2, none⟩ = some (.bool false) := (blk_cell hxg9.out 2).trans rfl; have hcz3 : x6.cell? ⟨g9, 3, none⟩ = some (.slice none 0 0) := (blk_cell hxg9.out 3).trans rfl; have hfz0 : x6.frozen? ⟨g9, 0, none⟩ = false := blk_frozen hxg9.out 0; have hfz1 : x6.frozen? ⟨g9, 1, none⟩ = false := blk_frozen hxg9.out 1; have hfz2 : x6.frozen? ⟨g9, 2, none⟩ = false := blk_frozen hxg9.out 2; have hfz3 : x6.frozen? ⟨g9, 3, none⟩ = false := blk_frozen hxg9.out 3; have hne3 : (g7 = g9) = False := eq_false (by have h1 := hqg9.out; have h2 := blk_lt X5.out; omega); have hne4 : (g9 = g7) = False := eq_false (by have h1 := hqg9.out; have h2 := blk_lt X5.out; omega))
              | ((with_reducible refine gate_callee (f := 24) rfl ?_); have X57 := Aside0.mk (show Below x5.heap.size x5 ((((x6.setCell ⟨g9, 0, none⟩ (.slice Q0 (getN A key sq).1.f0.length q0)).setCell ⟨g9, 1, none⟩ (.int .i64 (getN A key sq).1.f1)).setCell ⟨g9, 2, none⟩ (.bool (getN A key sq).1.f2)).setCell ⟨g9, 3, none⟩ (.slice Q3 (getN A key sq).1.f3.length q3)) from below_set (below_set (below_set (below_set hbg9.out (Nat.le_of_eq hqg9.out.symm)) (Nat.le_of_eq hqg9.out.symm)) (Nat.le_of_eq hqg9.out.symm)) (Nat.le_of_eq hqg9.out.symm)); clear hcz0 hcz1 hcz2 hcz3 hfz0 hfz1 hfz2 hfz3 hcx0 hcx1 hcx2 hcx3 hne3 hne4; generalize ((((x6.setCell ⟨g9, 0, none⟩ (.slice Q0 (getN A key sq).1.f0.length q0)).setCell ⟨g9, 1, none⟩ (.int .i64 (getN A key sq).1.f1)).setCell ⟨g9, 2, none⟩ (.bool (getN A key sq).1.f2)).setCell ⟨g9, 3, none⟩ (.slice Q3 (getN A key sq).1.f3.length q3)) = x7 at X57 ⊢; have Y7 := Aside0.mk (below_step Y5.out X57.out); (try (refine gate_guard (by rfl) ?_; dsimp only)); refine goesL_ (some 110) rfl rfl Try.func24 (by kernel_rfl) rfl #[.agg #[.slice P0 (getN A key sq).1.f0.length p0, .int .i64 (getN A key sq).1.f1, .bool (getN A key sq).1.f2, .slice P3 (getN A key sq).1.f3.length p3], .agg #[.slice Q0 (getN A key sq).1.f0.length q0, .int .i64 (getN A key sq).1.f1, .bool (getN A key sq).1.f2, .slice Q3 (getN A key sq).1.f3.length q3]] rfl (by (try simp only [List.map_toArray, List.map_cons, List.map_nil]); first | done | rfl) ?_; refine (sameOneC (good_get HAF.out key sq) (good_get HAF.out key sq) (Kd.C_below (Kd.F_now hF0.out) (below_step X34.out (below_step hx5.out X57.out))) hl0.out (Kd.C_below (Kd.F_now hF3.out) (below_step X34.out (below_step hx5.out X57.out))) hl3.out (Kd.C_below (Kd.F_now hG0.out) X57.out) hm0.out (Kd.C_below (Kd.F_now hG3.out) X57.out) hm3.out).mono ?_; rintro ex x8 ⟨rfl, hx8⟩; refine ⟨_, rfl, ?_⟩; rw [show decide ((getN A key sq).1.f0 = (getN A key sq).1.f0 ∧ (getN A key sq).1.f1 = (getN A key sq).1.f1 ∧ (getN A key sq).1.f2 = (getN A key sq).1.f2 ∧ (getN A key sq).1.f3 = (getN A key sq).1.f3) = true from decide_eq_true ⟨rfl, rfl, rfl, rfl⟩]; have n_ := Aside0.mk hx8; clear hx8; have hx8 := n_; clear n_; have Y8 := Aside0.mk (below_step Y7.out hx8.out))
              | ((with_reducible refine gate_callee (f := 19) rfl ?_); (try (refine gate_guard (by rfl) ?_; dsimp only)); refine goesL_ (some 114) rfl rfl Try.func19 (by kernel_rfl) rfl #[.pointer (some ⟨ga, 0, none⟩)] rfl (by (try simp only [List.map_toArray, List.map_cons, List.map_nil]); first | done | rfl) ?_; refine (s1_all (HSA.out.below Y8.out) HAF.out (Nat.le_trans HAL.out (by omega))).mono ?_; rintro ex x9 ⟨v9, rfl, hn9, hx9⟩; refine ⟨_, rfl, ?_⟩; obtain ⟨A9, c9, rfl⟩ := Kd.N_slice hn9; rw [List.length_map]; have n_ := Aside0.mk hn9; clear hn9; have hn9 := n_; clear n_; have n_ := Aside0.mk hx9; clear hx9; have hx9 := n_; clear n_; have Y9 := Aside0.mk (below_step Y8.out hx9.out))
              | ((with_reducible refine gate_callee (f := 19) rfl ?_); (try (refine gate_guard (by rfl) ?_; dsimp only)); refine goesL_ (some 116) rfl rfl Try.func19 (by kernel_rfl) rfl #[.pointer (some ⟨gb, 0, none⟩)] rfl (by (try simp only [List.map_toArray, List.map_cons, List.map_nil]); first | done | rfl) ?_; refine (s1_all (HSB.out.below Y9.out) HBF.out (Nat.le_trans HBL.out (by omega))).mono ?_; rintro ex x10 ⟨v10, rfl, hn10, hx10⟩; refine ⟨_, rfl, ?_⟩; rw [← HMAP.out] at hn10; obtain ⟨A10, c10, rfl⟩ := Kd.N_slice hn10; rw [List.length_map]; have n_ := Aside0.mk hn10; clear hn10; have hn10 := n_; clear n_; have n_ := Aside0.mk hx10; clear hx10; have hx10 := n_; clear n_; have Y10 := Aside0.mk (below_step Y9.out hx10.out))
              | ((with_reducible refine gate_callee (f := 18) rfl ?_); (try (refine gate_guard (by rfl) ?_; dsimp only)); refine goesL_ (some 117) rfl rfl Try.func18 (by kernel_rfl) rfl #[.slice A9 A.length c9, .slice A10 A.length c10] rfl (by (try simp only [List.map_toArray, List.map_cons, List.map_nil]); first | done | rfl) ?_; refine (calls_of_args (by rw [List.length_map]) (sameC HAF.out.good (by rw [List.length_map]; exact Nat.le_trans HAL.out (by omega)) (Kd.C_below (Kd.N_reads' hn9.out).2.2 hx10.out) (Kd.N_reads' hn9.out).2.1 (Kd.N_reads' hn10.out).2.2 (Kd.N_reads' hn10.out).2.1)).mono ?_; rintro ex x11 ⟨rfl, hx11⟩; refine ⟨_, rfl, ?_⟩; have n_ := Aside0.mk hx11; clear hx11; have hx11 := n_; clear n_; have Y11 := Aside0.mk (below_step Y10.out hx11.out))
              | ((with_reducible refine gate_callee (f := 22) rfl ?_); (try (refine gate_guard (by rfl) ?_; dsimp only)); refine goesL_ (some 123) rfl rfl Try.func22 (by kernel_rfl) rfl #[.pointer (some ⟨ga, 0, none⟩), .slice Ak key.length ck, .slice none 0 0, .int .i64 sq] rfl (by (try simp only [List.map_toArray, List.map_cons, List.map_nil]); first | done | rfl) ?_; refine (calls_of_args (by rfl) (s1_scan (HSA.out.below Y11.out) HAF.out (Nat.le_trans HAL.out (by omega)) Ak ck key none 0 [] sq (Kd.C_below (C_heap HBr.out HRK.out) Y11.out) HCK.out HKB.out (Kd.C_nil _ _) (Nat.le_refl _) Byts.nil)).mono ?_; rintro ex x12 ⟨v12, rfl, hn12, hx12⟩; refine ⟨_, rfl, ?_⟩; obtain ⟨A12, c12, rfl⟩ := Kd.N_slice hn12; have n_ := Aside0.mk hn12; clear hn12; have hn12 := n_; clear n_; have n_ := Aside0.mk hx12; clear hx12; have hx12 := n_; clear n_; have Y12 := Aside0.mk (below_step Y11.out hx12.out))
              | ((with_reducible refine gate_callee (f := 22) rfl ?_); (try (refine gate_guard (by rfl) ?_; dsimp only)); refine goesL_ (some 127) rfl rfl Try.func22 (by kernel_rfl) rfl #[.pointer (some ⟨gb, 0, none⟩), .slice Ak key.length ck, .slice none 0 0, .int .i64 sq] rfl (by (try simp only [List.map_toArray, List.map_cons, List.map_nil]); first | done | rfl) ?_; refine (calls_of_args (by rfl) (s1_scan (HSB.out.below Y12.out) HBF.out (Nat.le_trans HBL.out (by omega)) Ak ck key none 0 [] sq (Kd.C_below (C_heap HBr.out HRK.out) Y12.out) HCK.out HKB.out (Kd.C_nil _ _) (Nat.le_refl _) Byts.nil)).mono ?_; rintro ex x13 ⟨v13, rfl, hn13, hx13⟩; refine ⟨_, rfl, ?_⟩; rw [← HSCN.out] at hn13; obtain ⟨A13, c13, rfl⟩ := Kd.N_slice hn13; have n_ := Aside0.mk hn13; clear hn13; have hn13 := n_; clear n_; have n_ := Aside0.mk hx13; clear hx13; have hx13 := n_; clear n_; have Y13 := Aside0.mk (below_step Y12.out hx13.out))
              | ((with_reducible refine gate_callee (f := 18) rfl ?_); (try (refine gate_guard (by rfl) ?_; dsimp only)); refine goesL_ (some 128) rfl rfl Try.func18 (by kernel_rfl) rfl #[.slice A12 (scanT A key [] sq).length c12, .slice A13 (scanT A key [] sq).length c13] rfl (by (try simp only [List.map_toArray, List.map_cons, List.map_nil]); first | done | rfl) ?_; refine (sameC (scan_sub key [] sq HAF.out.good) (Nat.le_trans (scan_len A key [] sq) (Nat.le_trans HAL.out (by omega))) (Kd.C_below (Kd.N_reads' hn12.out).2.2 hx13.out) (Kd.N_reads' hn12.out).2.1 (Kd.N_reads' hn13.out).2.2 (Kd.N_reads' hn13.out).2.1).mono ?_; rintro ex x14 ⟨rfl, hx14⟩; refine ⟨_, rfl, ?_⟩; have n_ := Aside0.mk hx14; clear hx14; have hx14 := n_; clear n_; have Y14 := Aside0.mk (below_step Y13.out hx14.out))
              | ((with_reducible refine gate_callee (f := 16) rfl ?_); (try (refine gate_guard (by rfl) ?_; dsimp only)); refine goesL_ (some 132) rfl rfl Try.func16 (by kernel_rfl) rfl #[.pointer (some ⟨ga, 0, none⟩)] rfl (by (try simp only [List.map_toArray, List.map_cons, List.map_nil]); first | done | rfl) ?_; refine (s1_size (HSA.out.below Y14.out)).mono ?_; rintro ex x15 ⟨rfl, hx15⟩; refine ⟨_, rfl, ?_⟩; have n_ := Aside0.mk hx15; clear hx15; have hx15 := n_; clear n_; have Y15 := Aside0.mk (below_step Y14.out hx15.out))
              | ((with_reducible refine gate_callee (f := 16) rfl ?_); (try (refine gate_guard (by rfl) ?_; dsimp only)); refine goesL_ (some 134) rfl rfl Try.func16 (by kernel_rfl) rfl #[.pointer (some ⟨gb, 0, none⟩)] rfl (by (try simp only [List.map_toArray, List.map_cons, List.map_nil]); first | done | rfl) ?_; refine (s1_size (HSB.out.below Y15.out)).mono ?_; rintro ex x16 ⟨rfl, hx16⟩; refine ⟨_, rfl, ?_⟩; rw [← HSZ.out]; have n_ := Aside0.mk hx16; clear hx16; have hx16 := n_; clear n_))
            go_ret
            exact ⟨rfl, HBr.out.trans (below_weakB HBr.out.size (below_step Y15.out hx16.out))⟩
          | succ m =>
            have e0 : ((m + 1 : Nat) : Int) - 1 = (m : Int) := by omega
            rw [e0]
            have HMP := Aside0.mk (show B.length + m + 1 ≤ 60 by have := HBL.out; omega)
            have HBL := Aside0.mk (show B.length ≤ 60 by have := HMP.out; omega)
            have HRK2 := HK
            have hmp : m < P.length := by have := HML.out; omega
            have hmt : (m < P.length) = True := eq_true hmp
            have HWD := Aside0.mk (show wrap64 ((m : Int) - 1) = (m : Int) - 1 from wrap_in (by omega) (by have := HXL.out; omega))
            obtain ⟨z, hz⟩ : ∃ z, P[m]? = some z := ⟨_, List.getElem?_eq_getElem hmp⟩
            obtain ⟨av, hA⟩ := N_addr HSr.out.row (by omega)
            subst hA
            obtain ⟨B0, b0, B3, b3, hb0, hb1', hb2', hb3', hFK⟩ := at_N34 HSr.out.row m z hz
            have HFK := Aside0.mk hFK
            have HZO := Aside0.mk (HI60.out.ok z (List.mem_of_getElem? hz))
            clear hFK hmp
            by_cases hmh : m < hs.length
            · have hmh1 : (m < hs.length) = True := eq_true hmh
              obtain ⟨x, hx⟩ : ∃ x, hs[m]? = some x := ⟨_, List.getElem?_eq_getElem hmh⟩
              obtain ⟨ah, hA, hcx⟩ := int_cell (C_heap HBr.out HRH.out) m x hx
              subst hA
              have hm := and_mask x 10 (by omega)
              obtain ⟨b, hb⟩ : ∃ b, Go.bits BinOp.and IntKind.i64 x 1023 = b := ⟨_, rfl⟩
              have hbb : 0 ≤ b ∧ b ≤ 1023 := by
                have h1 : Go.bits BinOp.and IntKind.i64 x 1023 = Go.bits .and .i64 x ((2 ^ 10 - 1 : Nat) : Int) := rfl
                rw [← h1, hb] at hm
                have h2 : (2 : Int) ^ 10 = 1024 := by decide
                rw [h2] at hm
                omega
              obtain ⟨hbl, hbu⟩ := hbb
              obtain ⟨hv, hhv⟩ : ∃ hv, 1 + b % 12 = hv := ⟨_, rfl⟩
              have HHB := Aside0.mk (show 1 ≤ hv ∧ hv ≤ 12 by omega)
              clear hx hm hmh
              have HPO := Aside0.mk (back_put HBF.out HBP.out hz HI60.out.diff HZO.out.1 HZO.out.2 HHB.out.1 HHB.out.2)
              have HLP := Aside0.mk (len_put HBF.out z hv)
              go_wp2_with ((with_reducible refine gate_callee (f := 21) rfl ?_); (try (refine gate_guard (by rfl) ?_; dsimp only)); refine goesL_ (some 88) rfl rfl Try.func21 (by kernel_rfl) rfl #[.pointer (some ⟨gb, 0, none⟩), .agg #[.slice B0 z.f0.length b0, .int .i64 z.f1, .bool z.f2, .slice B3 z.f3.length b3], .int .i64 (hv)] rfl (by (try simp only [List.map_toArray, List.map_cons, List.map_nil]); first | done | rfl) ?_; refine (calls_of_args (rfl) (H2.putA HSr.out.swap HBF.out (Nat.le_trans HBL.out (by omega)) B0 b0 z B3 b3 (K34_C (Kd.FK_now HFK.out)).2.1 (K34_C (Kd.FK_now HFK.out)).1 (K34_C (Kd.FK_now HFK.out)).2.2.2 (K34_C (Kd.FK_now HFK.out)).2.2.1 HZO.out.2 hv)).mono ?_; rintro ex w6 ⟨rfl, hs6, hb6⟩; refine ⟨_, rfl, ?_⟩; rw [HPO.out.1, if_pos rfl]; have n_ := Aside0.mk hs6; clear hs6; have hs6 := n_; clear n_; have n_ := Aside0.mk hb6; clear hb6; have hb6 := n_; clear n_)
              go_roundg m
              case measure => have h1 := HK.out; omega
              case rel => exact ⟨m, putT B z hv, by first | rfl | rw [HWD.out], ⟨rfl⟩, ⟨HPO.out.2.1⟩, ⟨HPO.out.2.2⟩, ⟨by have h1 := HLP.out; have h2 := HBL.out; have h3 := HMP.out; omega⟩, ⟨hs6.out.swap⟩, ⟨HBr.out.trans (below_weakW HBr.out hb6.out HLE.out)⟩, ⟨by have := HML.out; omega⟩⟩
            · have hmh1 : (m < hs.length) = False := eq_false hmh
              obtain ⟨hv, hhv⟩ : ∃ hv : Int, hv = 1 := ⟨_, rfl⟩
              have HHB := Aside0.mk (show 1 ≤ hv ∧ hv ≤ 12 by omega)
              have HHV := Aside0.mk hhv.symm
              clear hmh hhv
              have HPO := Aside0.mk (back_put HBF.out HBP.out hz HI60.out.diff HZO.out.1 HZO.out.2 HHB.out.1 HHB.out.2)
              have HLP := Aside0.mk (len_put HBF.out z hv)
              go_wp2_with ((with_reducible refine gate_callee (f := 21) rfl ?_); (try (refine gate_guard (by rfl) ?_; dsimp only)); refine goesL_ (some 88) rfl rfl Try.func21 (by kernel_rfl) rfl #[.pointer (some ⟨gb, 0, none⟩), .agg #[.slice B0 z.f0.length b0, .int .i64 z.f1, .bool z.f2, .slice B3 z.f3.length b3], .int .i64 (1)] rfl (by (try simp only [List.map_toArray, List.map_cons, List.map_nil]); first | done | rfl) ?_; refine (calls_of_args (by rw [HHV.out]) (H2.putA HSr.out.swap HBF.out (Nat.le_trans HBL.out (by omega)) B0 b0 z B3 b3 (K34_C (Kd.FK_now HFK.out)).2.1 (K34_C (Kd.FK_now HFK.out)).1 (K34_C (Kd.FK_now HFK.out)).2.2.2 (K34_C (Kd.FK_now HFK.out)).2.2.1 HZO.out.2 hv)).mono ?_; rintro ex w6 ⟨rfl, hs6, hb6⟩; refine ⟨_, rfl, ?_⟩; rw [HPO.out.1, if_pos rfl]; have n_ := Aside0.mk hs6; clear hs6; have hs6 := n_; clear n_; have n_ := Aside0.mk hb6; clear hb6; have hb6 := n_; clear n_)
              go_roundg m
              case measure => have h1 := HK.out; omega
              case rel => exact ⟨m, putT B z hv, by first | rfl | rw [HWD.out], ⟨rfl⟩, ⟨HPO.out.2.1⟩, ⟨HPO.out.2.2⟩, ⟨by have h1 := HLP.out; have h2 := HBL.out; have h3 := HMP.out; omega⟩, ⟨hs6.out.swap⟩, ⟨HBr.out.trans (below_weakW HBr.out hb6.out HLE.out)⟩, ⟨by have := HML.out; omega⟩⟩
      · have hlt : (n < l.length) = False := eq_false hnl
        clear hnl
        have HLE := Aside0.mk (show w.heap.size ≤ w1.heap.size from hb1.out.size)
        clear HK
        have HXL := Aside0.mk (show P.length ≤ 60 by rw [← HI60.out.perm.length_eq, List.length_map]; exact HI60.out.len)
        have HWP := Aside0.mk (show wrap64 ((P.length : Int) - 1) = (P.length : Int) - 1 from wrap_in (by omega) (by have := HXL.out; omega))
        obtain ⟨Av, cv, rfl⟩ := Kd.N_slice HSr.out.row
        go_wp2
        go_loopg [14, 15] P.length (fun kq v14 v15 w' => ∃ (m : Nat) (B : List Tw), v14 = .int .i64 ((m : Int) - 1) ∧ Aside0 (kq = m) ∧ Aside0 (FitT B) ∧ Aside0 ((B.map (fun t => t.e)).Perm (P.drop m)) ∧ Aside0 (B.length + m ≤ 60) ∧ Aside0 (H2 w' w1.heap.size ga gb A B (.slice Av P.length cv) P) ∧ Aside0 (Below w.heap.size w w') ∧ Aside0 (m ≤ P.length))
        case atStart => exact ⟨P.length, [], by first | rfl | rw [HWP.out], ⟨rfl⟩, ⟨FitT.nil⟩, ⟨by rw [List.drop_length]; exact List.Perm.nil⟩, ⟨by have := HXL.out; simpa using this⟩, HSr, ⟨hb1.out.trans (below_weakB hb1.out.size HB.out)⟩, ⟨Nat.le_refl _⟩⟩
        case round =>
          clear HSr HB HBS
          obtain ⟨m, B, rfl, HK, HBF, HBP, HBL, HSr, HBr, HML⟩ := hrel
          cases m with
          | zero =>
            have e0 : ((0 : Nat) : Int) - 1 = -1 := rfl
            rw [e0]
            have HBL := Aside0.mk (show B.length ≤ 60 by have := HBL.out; omega)
            rw [List.drop_zero] at HBP
            have HSA := Aside0.mk HSr.out.one
            have HSB := Aside0.mk HSr.out.swap.one
            have HMAP := Aside0.mk (same_map HAF.out HBF.out HI60.out.perm HBP.out)
            have HGET := Aside0.mk (getN_map HAF.out HBF.out HMAP.out key sq)
            have HSCN := Aside0.mk (scan_map HAF.out HBF.out HMAP.out key [] sq)
            have HSZ := Aside0.mk (size_map HMAP.out)
            go_wp2_with (first
              | ((with_reducible refine gate_callee (f := 20) rfl ?_); (try (refine gate_guard (by rfl) ?_; dsimp only)); refine goesL_ (some 94) rfl rfl Try.func20 (by kernel_rfl) rfl #[.pointer (some ⟨ga, 0, none⟩), .slice Ak key.length ck, .int .i64 sq] rfl (by (try simp only [List.map_toArray, List.map_cons, List.map_nil]); first | done | rfl) ?_; refine (s1_get HSA.out HAF.out Ak ck key sq (C_heap HBr.out HRK.out) HCK.out HKB.out).mono ?_; rintro ex x2 ⟨v0, v3, rfl, hv2, hx2⟩; refine ⟨_, rfl, ?_⟩; obtain ⟨⟨P0, p0, rfl, hl0, hF0⟩, ⟨P3, p3, rfl, hl3, hF3⟩⟩ := hv2; have n_ := Aside0.mk hl0; clear hl0; have hl0 := n_; clear n_; have n_ := Aside0.mk hF0; clear hF0; have hF0 := n_; clear n_; have n_ := Aside0.mk hl3; clear hl3; have hl3 := n_; clear n_; have n_ := Aside0.mk hF3; clear hF3; have hF3 := n_; clear n_; have n_ := Aside0.mk hx2; clear hx2; have hx2 := n_; clear n_)
              | ((with_reducible refine gate_dst (N := 16) rfl ?_); (try (refine gate_guard (by rfl) ?_; dsimp only)); refine box_event ?hg (N := 16) ?hd (cs := #[.slice none 0 0, .int .i64 0, .bool false, .slice none 0 0]) (t := 34) ?hr ?_; (case hd => rfl); (case hg => rfl); (case hr => first | (go_simp; done) | (go_simp; rfl)); intro g7 hqg7 x3 hxg7 hbg7; have n_ := Aside0.mk hqg7; clear hqg7; have hqg7 := n_; clear n_; have n_ := Aside0.mk hxg7; clear hxg7; have hxg7 := n_; clear n_; have n_ := Aside0.mk hbg7; clear hbg7; have hbg7 := n_; clear n_; have hcy0 : x3.cell? ⟨g7, 0, none⟩ = some (.slice none 0 0) := (blk_cell hxg7.out 0).trans rfl; have hcy1 : x3.cell? ⟨g7, 1, none⟩ = some (.int .i64 0) := (blk_cell hxg7.out 1).trans rfl; have hcy2 : x3.cell? ⟨g7, 2, none⟩ = some (.bool false) := (blk_cell hxg7.out 2).trans rfl; have hcy3 : x3.cell? ⟨g7, 3, none⟩ = some (.slice none 0 0) := (blk_cell hxg7.out 3).trans rfl; have hfy0 : x3.frozen? ⟨g7, 0, none⟩ = false := blk_frozen hxg7.out 0; have hfy1 : x3.frozen? ⟨g7, 1, none⟩ = false := blk_frozen hxg7.out 1; have hfy2 : x3.frozen? ⟨g7, 2, none⟩ = false := blk_frozen hxg7.out 2; have hfy3 : x3.frozen? ⟨g7, 3, none⟩ = false := blk_frozen hxg7.out 3)
              | ((with_reducible refine gate_dst (N := 101) rfl ?_); have X4 := Aside0.mk (sets4 (a := .slice P0 (getN A key sq).1.f0.length p0) (b := .int .i64 (getN A key sq).1.f1) (c := .bool (getN A key sq).1.f2) (d := .slice P3 (getN A key sq).1.f3.length p3) hxg7.out); have X34 := Aside0.mk (show Below x2.heap.size x2 ((((x3.setCell ⟨g7, 0, none⟩ (.slice P0 (getN A key sq).1.f0.length p0)).setCell ⟨g7, 1, none⟩ (.int .i64 (getN A key sq).1.f1)).setCell ⟨g7, 2, none⟩ (.bool (getN A key sq).1.f2)).setCell ⟨g7, 3, none⟩ (.slice P3 (getN A key sq).1.f3.length p3)) from below_set (below_set (below_set (below_set hbg7.out (Nat.le_of_eq hqg7.out.symm)) (Nat.le_of_eq hqg7.out.symm)) (Nat.le_of_eq hqg7.out.symm)) (Nat.le_of_eq hqg7.out.symm)); clear hcy0 hcy1 hcy2 hcy3 hfy0 hfy1 hfy2 hfy3; generalize ((((x3.setCell ⟨g7, 0, none⟩ (.slice P0 (getN A key sq).1.f0.length p0)).setCell ⟨g7, 1, none⟩ (.int .i64 (getN A key sq).1.f1)).setCell ⟨g7, 2, none⟩ (.bool (getN A key sq).1.f2)).setCell ⟨g7, 3, none⟩ (.slice P3 (getN A key sq).1.f3.length p3)) = x4 at X4 X34 ⊢; have Y4 := Aside0.mk (below_step hx2.out X34.out); (try (refine gate_guard (by rfl) ?_; dsimp only)); refine goesL_ (some 101) rfl rfl Try.func20 (by kernel_rfl) rfl #[.pointer (some ⟨gb, 0, none⟩), .slice Ak key.length ck, .int .i64 sq] rfl (by (try simp only [List.map_toArray, List.map_cons, List.map_nil]); first | done | rfl) ?_; refine (s1_get (HSB.out.below Y4.out) HBF.out Ak ck key sq (Kd.C_below (C_heap HBr.out HRK.out) Y4.out) HCK.out HKB.out).mono ?_; rintro ex x5 ⟨v0b, v3b, rfl, hv5, hx5⟩; refine ⟨_, rfl, ?_⟩; rw [← HGET.out] at hv5 ⊢; obtain ⟨⟨Q0, q0, rfl, hm0, hG0⟩, ⟨Q3, q3, rfl, hm3, hG3⟩⟩ := hv5; have n_ := Aside0.mk hm0; clear hm0; have hm0 := n_; clear n_; have n_ := Aside0.mk hG0; clear hG0; have hG0 := n_; clear n_; have n_ := Aside0.mk hm3; clear hm3; have hm3 := n_; clear n_; have n_ := Aside0.mk hG3; clear hG3; have hG3 := n_; clear n_; have n_ := Aside0.mk hx5; clear hx5; have hx5 := n_; clear n_; have Y5 := Aside0.mk (below_step Y4.out hx5.out); have X5 := Aside0.mk (blk_below X4.out hx5.out))
              | ((with_reducible refine gate_dst (N := 18) rfl ?_); (try (refine gate_guard (by rfl) ?_; dsimp only)); refine box_event ?hg (N := 18) ?hd (cs := #[.slice none 0 0, .int .i64 0, .bool false, .slice none 0 0]) (t := 34) ?hr ?_; (case hd => rfl); (case hg => rfl); (case hr => first | (go_simp; done) | (go_simp; rfl)); intro g9 hqg9 x6 hxg9 hbg9; have n_ := Aside0.mk hqg9; clear hqg9; have hqg9 := n_; clear n_; have n_ := Aside0.mk hxg9; clear hxg9; have hxg9 := n_; clear n_; have n_ := Aside0.mk hbg9; clear hbg9; have hbg9 := n_; clear n_; have X6 := Aside0.mk (blk_below X5.out hbg9.out); have hcx0 : x6.cell? ⟨g7, 0, none⟩ = some (.slice P0 (getN A key sq).1.f0.length p0) := (blk_cell X6.out 0).trans rfl; have hcx1 : x6.cell? ⟨g7, 1, none⟩ = some (.int .i64 (getN A key sq).1.f1) := (blk_cell X6.out 1).trans rfl; have hcx2 : x6.cell? ⟨g7, 2, none⟩ = some (.bool (getN A key sq).1.f2) := (blk_cell X6.out 2).trans rfl; have hcx3 : x6.cell? ⟨g7, 3, none⟩ = some (.slice P3 (getN A key sq).1.f3.length p3) := (blk_cell X6.out 3).trans rfl; have hcz0 : x6.cell? ⟨g9, 0, none⟩ = some (.slice none 0 0) := (blk_cell hxg9.out 0).trans rfl; have hcz1 : x6.cell? ⟨g9, 1, none⟩ = some (.int .i64 0) := (blk_cell hxg9.out 1).trans rfl; have hcz2 : x6.cell? ⟨g9, 2, none⟩ = some (.bool false) := (blk_cell hxg9.out 2).trans rfl; have hcz3 : x6.cell? ⟨g9, 3, none⟩ = some (.slice none 0 0) := (blk_cell hxg9.out 3).trans rfl; have hfz0 : x6.frozen? ⟨g9, 0, none⟩ = false := blk_frozen hxg9.out 0; have hfz1 : x6.frozen? ⟨g9, 1, none⟩ = false := blk_frozen hxg9.out 1; have hfz2 : x6.frozen? ⟨g9, 2, none⟩ = false := blk_frozen hxg9.out 2; have hfz3 : x6.frozen? ⟨g9, 3, none⟩ = false := blk_frozen hxg9.out 3; have hne3 : (g7 = g9) = False := eq_false (by have h1 := hqg9.out; have h2 := blk_lt X5.out; omega); have hne4 : (g9 = g7) = False := eq_false (by have h1 := hqg9.out; have h2 := blk_lt X5.out; omega))
              | ((with_reducible refine gate_callee (f := 24) rfl ?_); have X57 := Aside0.mk (show Below x5.heap.size x5 ((((x6.setCell ⟨g9, 0, none⟩ (.slice Q0 (getN A key sq).1.f0.length q0)).setCell ⟨g9, 1, none⟩ (.int .i64 (getN A key sq).1.f1)).setCell ⟨g9, 2, none⟩ (.bool (getN A key sq).1.f2)).setCell ⟨g9, 3, none⟩ (.slice Q3 (getN A key sq).1.f3.length q3)) from below_set (below_set (below_set (below_set hbg9.out (Nat.le_of_eq hqg9.out.symm)) (Nat.le_of_eq hqg9.out.symm)) (Nat.le_of_eq hqg9.out.symm)) (Nat.le_of_eq hqg9.out.symm)); clear hcz0 hcz1 hcz2 hcz3 hfz0 hfz1 hfz2 hfz3 hcx0 hcx1 hcx2 hcx3 hne3 hne4; generalize ((((x6.setCell ⟨g9, 0, none⟩ (.slice Q0 (getN A key sq).1.f0.length q0)).setCell ⟨g9, 1, none⟩ (.int .i64 (getN A key sq).1.f1)).setCell ⟨g9, 2, none⟩ (.bool (getN A key sq).1.f2)).setCell ⟨g9, 3, none⟩ (.slice Q3 (getN A key sq).1.f3.length q3)) = x7 at X57 ⊢; have Y7 := Aside0.mk (below_step Y5.out X57.out); (try (refine gate_guard (by rfl) ?_; dsimp only)); refine goesL_ (some 110) rfl rfl Try.func24 (by kernel_rfl) rfl #[.agg #[.slice P0 (getN A key sq).1.f0.length p0, .int .i64 (getN A key sq).1.f1, .bool (getN A key sq).1.f2, .slice P3 (getN A key sq).1.f3.length p3], .agg #[.slice Q0 (getN A key sq).1.f0.length q0, .int .i64 (getN A key sq).1.f1, .bool (getN A key sq).1.f2, .slice Q3 (getN A key sq).1.f3.length q3]] rfl (by (try simp only [List.map_toArray, List.map_cons, List.map_nil]); first | done | rfl) ?_; refine (sameOneC (good_get HAF.out key sq) (good_get HAF.out key sq) (Kd.C_below (Kd.F_now hF0.out) (below_step X34.out (below_step hx5.out X57.out))) hl0.out (Kd.C_below (Kd.F_now hF3.out) (below_step X34.out (below_step hx5.out X57.out))) hl3.out (Kd.C_below (Kd.F_now hG0.out) X57.out) hm0.out (Kd.C_below (Kd.F_now hG3.out) X57.out) hm3.out).mono ?_; rintro ex x8 ⟨rfl, hx8⟩; refine ⟨_, rfl, ?_⟩; rw [show decide ((getN A key sq).1.f0 = (getN A key sq).1.f0 ∧ (getN A key sq).1.f1 = (getN A key sq).1.f1 ∧ (getN A key sq).1.f2 = (getN A key sq).1.f2 ∧ (getN A key sq).1.f3 = (getN A key sq).1.f3) = true from decide_eq_true ⟨rfl, rfl, rfl, rfl⟩]; have n_ := Aside0.mk hx8; clear hx8; have hx8 := n_; clear n_; have Y8 := Aside0.mk (below_step Y7.out hx8.out))
              | ((with_reducible refine gate_callee (f := 19) rfl ?_); (try (refine gate_guard (by rfl) ?_; dsimp only)); refine goesL_ (some 114) rfl rfl Try.func19 (by kernel_rfl) rfl #[.pointer (some ⟨ga, 0, none⟩)] rfl (by (try simp only [List.map_toArray, List.map_cons, List.map_nil]); first | done | rfl) ?_; refine (s1_all (HSA.out.below Y8.out) HAF.out (Nat.le_trans HAL.out (by omega))).mono ?_; rintro ex x9 ⟨v9, rfl, hn9, hx9⟩; refine ⟨_, rfl, ?_⟩; obtain ⟨A9, c9, rfl⟩ := Kd.N_slice hn9; rw [List.length_map]; have n_ := Aside0.mk hn9; clear hn9; have hn9 := n_; clear n_; have n_ := Aside0.mk hx9; clear hx9; have hx9 := n_; clear n_; have Y9 := Aside0.mk (below_step Y8.out hx9.out))
              | ((with_reducible refine gate_callee (f := 19) rfl ?_); (try (refine gate_guard (by rfl) ?_; dsimp only)); refine goesL_ (some 116) rfl rfl Try.func19 (by kernel_rfl) rfl #[.pointer (some ⟨gb, 0, none⟩)] rfl (by (try simp only [List.map_toArray, List.map_cons, List.map_nil]); first | done | rfl) ?_; refine (s1_all (HSB.out.below Y9.out) HBF.out (Nat.le_trans HBL.out (by omega))).mono ?_; rintro ex x10 ⟨v10, rfl, hn10, hx10⟩; refine ⟨_, rfl, ?_⟩; rw [← HMAP.out] at hn10; obtain ⟨A10, c10, rfl⟩ := Kd.N_slice hn10; rw [List.length_map]; have n_ := Aside0.mk hn10; clear hn10; have hn10 := n_; clear n_; have n_ := Aside0.mk hx10; clear hx10; have hx10 := n_; clear n_; have Y10 := Aside0.mk (below_step Y9.out hx10.out))
              | ((with_reducible refine gate_callee (f := 18) rfl ?_); (try (refine gate_guard (by rfl) ?_; dsimp only)); refine goesL_ (some 117) rfl rfl Try.func18 (by kernel_rfl) rfl #[.slice A9 A.length c9, .slice A10 A.length c10] rfl (by (try simp only [List.map_toArray, List.map_cons, List.map_nil]); first | done | rfl) ?_; refine (calls_of_args (by rw [List.length_map]) (sameC HAF.out.good (by rw [List.length_map]; exact Nat.le_trans HAL.out (by omega)) (Kd.C_below (Kd.N_reads' hn9.out).2.2 hx10.out) (Kd.N_reads' hn9.out).2.1 (Kd.N_reads' hn10.out).2.2 (Kd.N_reads' hn10.out).2.1)).mono ?_; rintro ex x11 ⟨rfl, hx11⟩; refine ⟨_, rfl, ?_⟩; have n_ := Aside0.mk hx11; clear hx11; have hx11 := n_; clear n_; have Y11 := Aside0.mk (below_step Y10.out hx11.out))
              | ((with_reducible refine gate_callee (f := 22) rfl ?_); (try (refine gate_guard (by rfl) ?_; dsimp only)); refine goesL_ (some 123) rfl rfl Try.func22 (by kernel_rfl) rfl #[.pointer (some ⟨ga, 0, none⟩), .slice Ak key.length ck, .slice none 0 0, .int .i64 sq] rfl (by (try simp only [List.map_toArray, List.map_cons, List.map_nil]); first | done | rfl) ?_; refine (calls_of_args (by rfl) (s1_scan (HSA.out.below Y11.out) HAF.out (Nat.le_trans HAL.out (by omega)) Ak ck key none 0 [] sq (Kd.C_below (C_heap HBr.out HRK.out) Y11.out) HCK.out HKB.out (Kd.C_nil _ _) (Nat.le_refl _) Byts.nil)).mono ?_; rintro ex x12 ⟨v12, rfl, hn12, hx12⟩; refine ⟨_, rfl, ?_⟩; obtain ⟨A12, c12, rfl⟩ := Kd.N_slice hn12; have n_ := Aside0.mk hn12; clear hn12; have hn12 := n_; clear n_; have n_ := Aside0.mk hx12; clear hx12; have hx12 := n_; clear n_; have Y12 := Aside0.mk (below_step Y11.out hx12.out))
              | ((with_reducible refine gate_callee (f := 22) rfl ?_); (try (refine gate_guard (by rfl) ?_; dsimp only)); refine goesL_ (some 127) rfl rfl Try.func22 (by kernel_rfl) rfl #[.pointer (some ⟨gb, 0, none⟩), .slice Ak key.length ck, .slice none 0 0, .int .i64 sq] rfl (by (try simp only [List.map_toArray, List.map_cons, List.map_nil]); first | done | rfl) ?_; refine (calls_of_args (by rfl) (s1_scan (HSB.out.below Y12.out) HBF.out (Nat.le_trans HBL.out (by omega)) Ak ck key none 0 [] sq (Kd.C_below (C_heap HBr.out HRK.out) Y12.out) HCK.out HKB.out (Kd.C_nil _ _) (Nat.le_refl _) Byts.nil)).mono ?_; rintro ex x13 ⟨v13, rfl, hn13, hx13⟩; refine ⟨_, rfl, ?_⟩; rw [← HSCN.out] at hn13; obtain ⟨A13, c13, rfl⟩ := Kd.N_slice hn13; have n_ := Aside0.mk hn13; clear hn13; have hn13 := n_; clear n_; have n_ := Aside0.mk hx13; clear hx13; have hx13 := n_; clear n_; have Y13 := Aside0.mk (below_step Y12.out hx13.out))
              | ((with_reducible refine gate_callee (f := 18) rfl ?_); (try (refine gate_guard (by rfl) ?_; dsimp only)); refine goesL_ (some 128) rfl rfl Try.func18 (by kernel_rfl) rfl #[.slice A12 (scanT A key [] sq).length c12, .slice A13 (scanT A key [] sq).length c13] rfl (by (try simp only [List.map_toArray, List.map_cons, List.map_nil]); first | done | rfl) ?_; refine (sameC (scan_sub key [] sq HAF.out.good) (Nat.le_trans (scan_len A key [] sq) (Nat.le_trans HAL.out (by omega))) (Kd.C_below (Kd.N_reads' hn12.out).2.2 hx13.out) (Kd.N_reads' hn12.out).2.1 (Kd.N_reads' hn13.out).2.2 (Kd.N_reads' hn13.out).2.1).mono ?_; rintro ex x14 ⟨rfl, hx14⟩; refine ⟨_, rfl, ?_⟩; have n_ := Aside0.mk hx14; clear hx14; have hx14 := n_; clear n_; have Y14 := Aside0.mk (below_step Y13.out hx14.out))
              | ((with_reducible refine gate_callee (f := 16) rfl ?_); (try (refine gate_guard (by rfl) ?_; dsimp only)); refine goesL_ (some 132) rfl rfl Try.func16 (by kernel_rfl) rfl #[.pointer (some ⟨ga, 0, none⟩)] rfl (by (try simp only [List.map_toArray, List.map_cons, List.map_nil]); first | done | rfl) ?_; refine (s1_size (HSA.out.below Y14.out)).mono ?_; rintro ex x15 ⟨rfl, hx15⟩; refine ⟨_, rfl, ?_⟩; have n_ := Aside0.mk hx15; clear hx15; have hx15 := n_; clear n_; have Y15 := Aside0.mk (below_step Y14.out hx15.out))
              | ((with_reducible refine gate_callee (f := 16) rfl ?_); (try (refine gate_guard (by rfl) ?_; dsimp only)); refine goesL_ (some 134) rfl rfl Try.func16 (by kernel_rfl) rfl #[.pointer (some ⟨gb, 0, none⟩)] rfl (by (try simp only [List.map_toArray, List.map_cons, List.map_nil]); first | done | rfl) ?_; refine (s1_size (HSB.out.below Y15.out)).mono ?_; rintro ex x16 ⟨rfl, hx16⟩; refine ⟨_, rfl, ?_⟩; rw [← HSZ.out]; have n_ := Aside0.mk hx16; clear hx16; have hx16 := n_; clear n_))
            go_ret
            exact ⟨rfl, HBr.out.trans (below_weakB HBr.out.size (below_step Y15.out hx16.out))⟩
          | succ m =>
            have e0 : ((m + 1 : Nat) : Int) - 1 = (m : Int) := by omega
            rw [e0]
            have HMP := Aside0.mk (show B.length + m + 1 ≤ 60 by have := HBL.out; omega)
            have HBL := Aside0.mk (show B.length ≤ 60 by have := HMP.out; omega)
            have HRK2 := HK
            have hmp : m < P.length := by have := HML.out; omega
            have hmt : (m < P.length) = True := eq_true hmp
            have HWD := Aside0.mk (show wrap64 ((m : Int) - 1) = (m : Int) - 1 from wrap_in (by omega) (by have := HXL.out; omega))
            obtain ⟨z, hz⟩ : ∃ z, P[m]? = some z := ⟨_, List.getElem?_eq_getElem hmp⟩
            obtain ⟨av, hA⟩ := N_addr HSr.out.row (by omega)
            subst hA
            obtain ⟨B0, b0, B3, b3, hb0, hb1', hb2', hb3', hFK⟩ := at_N34 HSr.out.row m z hz
            have HFK := Aside0.mk hFK
            have HZO := Aside0.mk (HI60.out.ok z (List.mem_of_getElem? hz))
            clear hFK hmp
            by_cases hmh : m < hs.length
            · have hmh1 : (m < hs.length) = True := eq_true hmh
              obtain ⟨x, hx⟩ : ∃ x, hs[m]? = some x := ⟨_, List.getElem?_eq_getElem hmh⟩
              obtain ⟨ah, hA, hcx⟩ := int_cell (C_heap HBr.out HRH.out) m x hx
              subst hA
              have hm := and_mask x 10 (by omega)
              obtain ⟨b, hb⟩ : ∃ b, Go.bits BinOp.and IntKind.i64 x 1023 = b := ⟨_, rfl⟩
              have hbb : 0 ≤ b ∧ b ≤ 1023 := by
                have h1 : Go.bits BinOp.and IntKind.i64 x 1023 = Go.bits .and .i64 x ((2 ^ 10 - 1 : Nat) : Int) := rfl
                rw [← h1, hb] at hm
                have h2 : (2 : Int) ^ 10 = 1024 := by decide
                rw [h2] at hm
                omega
              obtain ⟨hbl, hbu⟩ := hbb
              obtain ⟨hv, hhv⟩ : ∃ hv, 1 + b % 12 = hv := ⟨_, rfl⟩
              have HHB := Aside0.mk (show 1 ≤ hv ∧ hv ≤ 12 by omega)
              clear hx hm hmh
              have HPO := Aside0.mk (back_put HBF.out HBP.out hz HI60.out.diff HZO.out.1 HZO.out.2 HHB.out.1 HHB.out.2)
              have HLP := Aside0.mk (len_put HBF.out z hv)
              go_wp2_with ((with_reducible refine gate_callee (f := 21) rfl ?_); (try (refine gate_guard (by rfl) ?_; dsimp only)); refine goesL_ (some 88) rfl rfl Try.func21 (by kernel_rfl) rfl #[.pointer (some ⟨gb, 0, none⟩), .agg #[.slice B0 z.f0.length b0, .int .i64 z.f1, .bool z.f2, .slice B3 z.f3.length b3], .int .i64 (hv)] rfl (by (try simp only [List.map_toArray, List.map_cons, List.map_nil]); first | done | rfl) ?_; refine (calls_of_args (rfl) (H2.putA HSr.out.swap HBF.out (Nat.le_trans HBL.out (by omega)) B0 b0 z B3 b3 (K34_C (Kd.FK_now HFK.out)).2.1 (K34_C (Kd.FK_now HFK.out)).1 (K34_C (Kd.FK_now HFK.out)).2.2.2 (K34_C (Kd.FK_now HFK.out)).2.2.1 HZO.out.2 hv)).mono ?_; rintro ex w6 ⟨rfl, hs6, hb6⟩; refine ⟨_, rfl, ?_⟩; rw [HPO.out.1, if_pos rfl]; have n_ := Aside0.mk hs6; clear hs6; have hs6 := n_; clear n_; have n_ := Aside0.mk hb6; clear hb6; have hb6 := n_; clear n_)
              go_roundg m
              case measure => have h1 := HK.out; omega
              case rel => exact ⟨m, putT B z hv, by first | rfl | rw [HWD.out], ⟨rfl⟩, ⟨HPO.out.2.1⟩, ⟨HPO.out.2.2⟩, ⟨by have h1 := HLP.out; have h2 := HBL.out; have h3 := HMP.out; omega⟩, ⟨hs6.out.swap⟩, ⟨HBr.out.trans (below_weakW HBr.out hb6.out HLE.out)⟩, ⟨by have := HML.out; omega⟩⟩
            · have hmh1 : (m < hs.length) = False := eq_false hmh
              obtain ⟨hv, hhv⟩ : ∃ hv : Int, hv = 1 := ⟨_, rfl⟩
              have HHB := Aside0.mk (show 1 ≤ hv ∧ hv ≤ 12 by omega)
              have HHV := Aside0.mk hhv.symm
              clear hmh hhv
              have HPO := Aside0.mk (back_put HBF.out HBP.out hz HI60.out.diff HZO.out.1 HZO.out.2 HHB.out.1 HHB.out.2)
              have HLP := Aside0.mk (len_put HBF.out z hv)
              go_wp2_with ((with_reducible refine gate_callee (f := 21) rfl ?_); (try (refine gate_guard (by rfl) ?_; dsimp only)); refine goesL_ (some 88) rfl rfl Try.func21 (by kernel_rfl) rfl #[.pointer (some ⟨gb, 0, none⟩), .agg #[.slice B0 z.f0.length b0, .int .i64 z.f1, .bool z.f2, .slice B3 z.f3.length b3], .int .i64 (1)] rfl (by (try simp only [List.map_toArray, List.map_cons, List.map_nil]); first | done | rfl) ?_; refine (calls_of_args (by rw [HHV.out]) (H2.putA HSr.out.swap HBF.out (Nat.le_trans HBL.out (by omega)) B0 b0 z B3 b3 (K34_C (Kd.FK_now HFK.out)).2.1 (K34_C (Kd.FK_now HFK.out)).1 (K34_C (Kd.FK_now HFK.out)).2.2.2 (K34_C (Kd.FK_now HFK.out)).2.2.1 HZO.out.2 hv)).mono ?_; rintro ex w6 ⟨rfl, hs6, hb6⟩; refine ⟨_, rfl, ?_⟩; rw [HPO.out.1, if_pos rfl]; have n_ := Aside0.mk hs6; clear hs6; have hs6 := n_; clear n_; have n_ := Aside0.mk hb6; clear hb6; have hb6 := n_; clear n_)
              go_roundg m
              case measure => have h1 := HK.out; omega
              case rel => exact ⟨m, putT B z hv, by first | rfl | rw [HWD.out], ⟨rfl⟩, ⟨HPO.out.2.1⟩, ⟨HPO.out.2.2⟩, ⟨by have h1 := HLP.out; have h2 := HBL.out; have h3 := HMP.out; omega⟩, ⟨hs6.out.swap⟩, ⟨HBr.out.trans (below_weakW HBr.out hb6.out HLE.out)⟩, ⟨by have := HML.out; omega⟩⟩
    | succ k1 =>
      have hnl : n < l.length := by have h1 := HK.out; omega
      have HN := Aside0.mk (show n < 60 by have h1 := HK.out; omega)
      have hlt : (n < l.length) = True := eq_true hnl
      have h60 : (n : Int) < 60 := by have := HN.out; omega
      have HW := Aside0.mk (show wrap64 ((n : Int) + 1) = ((n + 1 : Nat) : Int) by rw [wrap_in (by omega) (by omega)]; rfl)
      obtain ⟨o, ho⟩ : ∃ o, l[n]? = some o := ⟨_, List.getElem?_eq_getElem hnl⟩
      obtain ⟨ad, A0, c0, A3, c3, A4, c4, hA, hd0, hd1, hd2, hd3, hd4, hd5, hd6, hd7, hl0, hF0, hl3, hF3, hl4, hF4⟩ := at_Op2 (Kd.C_below HR.out hb1.out) HB.out n o ho
      subst hA
      have HL0 := Aside0.mk hl0
      have HF0 := Aside0.mk hF0
      have HL3 := Aside0.mk hl3
      have HF3 := Aside0.mk hF3
      have HL4 := Aside0.mk hl4
      have HF4 := Aside0.mk hF4
      have HGO := Aside0.mk (HG.out o (List.mem_of_getElem? ho))
      have HO := Aside0.mk ho
      clear hl0 hF0 hl3 hF3 hl4 hF4 ho
      have HADL := Aside0.mk (op_block (Kd.C_below HR.out hb1.out) rfl n o HO.out)
      have HI := Aside0.mk (hrun_inv HG.out n)
      have HSTP := Aside0.mk (hrun_succ HO.out)
      clear hnl
      obtain ⟨sn, hsn⟩ : ∃ s, s = hrun n l := ⟨_, rfl⟩
      rw [← hsn] at HI HSTP HSr
      obtain ⟨A, xs⟩ := sn
      have HXL := Aside0.mk (show xs.length ≤ 1000000 by
        have h1 := HI.out.perm.length_eq
        have h2 := HI.out.len
        rw [List.length_map] at h1
        have h3 := HN.out
        show (A, xs).2.length ≤ 1000000
        omega)
      clear hsn
      obtain ⟨Av, cv, rfl⟩ := Kd.N_slice HSr.out.row
      by_cases hpk : putOk A o.e o.h = true
      · have HPK := Aside0.mk (show (if putOk A o.e o.h = true then (0 : Int) else 1) = 0 from if_pos hpk)
        have HST2 := Aside0.mk (show hrun (n + 1) l = (putT A o.e o.h, xs ++ [o.e]) by rw [HSTP.out]; show (putT A o.e o.h, if putOk A o.e o.h = true then xs ++ [o.e] else xs) = _; rw [if_pos hpk])
        clear hpk
        go_wp2
        refine s_ 13 [] (fun w' => w'.cell? ⟨(ad.add (n * 8)).block, (ad.add (n * 8)).off + 1, none⟩ = some (.int .i64 o.h) ∧ w'.cell? ⟨(ad.add (n * 8)).block, (ad.add (n * 8)).off + 3, none⟩ = some (.slice A0 o.e.f0.length c0) ∧ w'.cell? ⟨(ad.add (n * 8)).block, (ad.add (n * 8)).off + 4, none⟩ = some (.int .i64 o.e.f1) ∧ w'.cell? ⟨(ad.add (n * 8)).block, (ad.add (n * 8)).off + 5, none⟩ = some (.bool o.e.f2) ∧ w'.cell? ⟨(ad.add (n * 8)).block, (ad.add (n * 8)).off + 6, none⟩ = some (.slice A3 o.e.f3.length c3)) (hS := ⟨(show wr.drew.cell? _ = _ from hd1), (show wr.drew.cell? _ = _ from hd3), (show wr.drew.cell? _ = _ from hd4), (show wr.drew.cell? _ = _ from hd5), (show wr.drew.cell? _ = _ from hd6)⟩) (h := fun hHeld => ?_)
        refine p_ 0 43 (bb 13 1) (h := ?_)
        refine p_ 1 44 (bb 13 3) (h := ?_)
        refine p_ 2 45 (bb 13 7) (h := ?_)
        refine p_ 3 46 (bb 13 15) (h := ?_)
        refine p_ 4 47 (bb 13 31) (h := ?_)
        refine t_ 5 48 (bb 13 63) hHeld (h := ?_)
        refine p_ 6 49 (bb 13 127) (h := ?_)
        refine p_ 7 50 (bb 13 255) (h := ?_)
        refine p_ 8 51 (bb 13 511) (h := ?_)
        refine p_ 9 52 (bb 13 1023) (h := ?_)
        refine t_ 10 53 (bb 13 2047) hHeld (h := ?_)
        refine n_ 11 54 (bb 13 4095) (h := fun K hK => ?_)
        refine goes_ Try.func21 (by kernel_rfl) rfl #[.pointer (some ⟨ga, 0, none⟩), .agg #[.slice A0 o.e.f0.length c0, .int .i64 o.e.f1, .bool o.e.f2, .slice A3 o.e.f3.length c3], .int .i64 o.h] (by rfl) rfl rfl (by (try simp only [List.map_toArray, List.map_cons, List.map_nil]); first | done | rfl) ?_
        refine (H2.putA (HSr.out.below (below_drew (Below.refl _ _))) HI.out.fit (Nat.le_trans HI.out.len (by have := HN.out; omega)) A0 c0 o.e A3 c3 (Kd.C_drew (Kd.F_now HF0.out)) HL0.out (Kd.C_drew (Kd.F_now HF3.out)) HL3.out HGO.out.1 o.h).mono ?_
        rintro ex w4 ⟨rfl, hs4, hb4⟩
        refine ⟨_, rfl, ?_⟩
        rw [HPK.out]
        have hs4 := Aside0.mk hs4
        have hb4 := Aside0.mk hb4
        have HC4 := Aside0.mk (show w4.cell? ⟨(ad.add (n * 8)).block, (ad.add (n * 8)).off + 1, none⟩ = some (.int .i64 o.h) ∧ w4.cell? ⟨(ad.add (n * 8)).block, (ad.add (n * 8)).off + 3, none⟩ = some (.slice A0 o.e.f0.length c0) ∧ w4.cell? ⟨(ad.add (n * 8)).block, (ad.add (n * 8)).off + 4, none⟩ = some (.int .i64 o.e.f1) ∧ w4.cell? ⟨(ad.add (n * 8)).block, (ad.add (n * 8)).off + 5, none⟩ = some (.bool o.e.f2) ∧ w4.cell? ⟨(ad.add (n * 8)).block, (ad.add (n * 8)).off + 6, none⟩ = some (.slice A3 o.e.f3.length c3) from ⟨(cell_heap_lt hb4.out (by exact HADL.out) hHeld.1), (cell_heap_lt hb4.out (by exact HADL.out) hHeld.2.1), (cell_heap_lt hb4.out (by exact HADL.out) hHeld.2.2.1), (cell_heap_lt hb4.out (by exact HADL.out) hHeld.2.2.2.1), (cell_heap_lt hb4.out (by exact HADL.out) hHeld.2.2.2.2)⟩)
        refine hK.out _ _ HC4.out (fun hHeld => ?_)
        clear hK K
        refine m_ 54 (h := ?_)
        refine p_ 12 55 (bb 13 8191) (h := ?_)
        refine d_ (h := ?_)

        obtain ⟨e1, e3, e4, e5, e6⟩ := hHeld
        have HF04 := Aside0.mk (Kd.F_step (Kd.F_drew HF0.out) (fun k hk _ => hb4.out.block k hk))
        have HF34 := Aside0.mk (Kd.F_step (Kd.F_drew HF3.out) (fun k hk _ => hb4.out.block k hk))
        go_wp2_with ((with_reducible refine gate_builtin (b := .append) (xs := #[.tmp 56, .tmp 62]) rfl ?_); at_builtin; refine app_row (.tmp 56) (.tmp 62) rfl rfl hs4.out HXL.out o.e HL0.out HF04.out HL3.out HF34.out rfl (by first | rfl | (go_simp; done) | (go_simp; rfl)) ?_; intro v63 w5 hs5 hb5; have hs5 := Aside0.mk hs5; have hb5 := Aside0.mk hb5)
        go_roundg k1
        case measure => exact Nat.lt_succ_self _
        case rel => exact ⟨n + 1, by first | rfl | rw [HW.out], ⟨by have h1 := HK.out; omega⟩, ⟨by rw [HST2.out]; exact hs5.out⟩, ⟨HB.out.trans ((show Below w1.heap.size wr wr.drew from below_weakB HBS.out (below_drew (Below.refl _ _))).trans (hb4.out.trans hb5.out))⟩⟩
      · have HPK := Aside0.mk (show (if putOk A o.e o.h = true then (0 : Int) else 1) = 1 from if_neg hpk)
        have HST2 := Aside0.mk (show hrun (n + 1) l = (putT A o.e o.h, xs) by rw [HSTP.out]; show (putT A o.e o.h, if putOk A o.e o.h = true then xs ++ [o.e] else xs) = _; rw [if_neg hpk])
        clear hpk
        go_wp2
        refine s_ 13 [] (fun w' => w'.cell? ⟨(ad.add (n * 8)).block, (ad.add (n * 8)).off + 1, none⟩ = some (.int .i64 o.h) ∧ w'.cell? ⟨(ad.add (n * 8)).block, (ad.add (n * 8)).off + 3, none⟩ = some (.slice A0 o.e.f0.length c0) ∧ w'.cell? ⟨(ad.add (n * 8)).block, (ad.add (n * 8)).off + 4, none⟩ = some (.int .i64 o.e.f1) ∧ w'.cell? ⟨(ad.add (n * 8)).block, (ad.add (n * 8)).off + 5, none⟩ = some (.bool o.e.f2) ∧ w'.cell? ⟨(ad.add (n * 8)).block, (ad.add (n * 8)).off + 6, none⟩ = some (.slice A3 o.e.f3.length c3)) (hS := ⟨(show wr.drew.cell? _ = _ from hd1), (show wr.drew.cell? _ = _ from hd3), (show wr.drew.cell? _ = _ from hd4), (show wr.drew.cell? _ = _ from hd5), (show wr.drew.cell? _ = _ from hd6)⟩) (h := fun hHeld => ?_)
        refine p_ 0 43 (bb 13 1) (h := ?_)
        refine p_ 1 44 (bb 13 3) (h := ?_)
        refine p_ 2 45 (bb 13 7) (h := ?_)
        refine p_ 3 46 (bb 13 15) (h := ?_)
        refine p_ 4 47 (bb 13 31) (h := ?_)
        refine t_ 5 48 (bb 13 63) hHeld (h := ?_)
        refine p_ 6 49 (bb 13 127) (h := ?_)
        refine p_ 7 50 (bb 13 255) (h := ?_)
        refine p_ 8 51 (bb 13 511) (h := ?_)
        refine p_ 9 52 (bb 13 1023) (h := ?_)
        refine t_ 10 53 (bb 13 2047) hHeld (h := ?_)
        refine n_ 11 54 (bb 13 4095) (h := fun K hK => ?_)
        refine goes_ Try.func21 (by kernel_rfl) rfl #[.pointer (some ⟨ga, 0, none⟩), .agg #[.slice A0 o.e.f0.length c0, .int .i64 o.e.f1, .bool o.e.f2, .slice A3 o.e.f3.length c3], .int .i64 o.h] (by rfl) rfl rfl (by (try simp only [List.map_toArray, List.map_cons, List.map_nil]); first | done | rfl) ?_
        refine (H2.putA (HSr.out.below (below_drew (Below.refl _ _))) HI.out.fit (Nat.le_trans HI.out.len (by have := HN.out; omega)) A0 c0 o.e A3 c3 (Kd.C_drew (Kd.F_now HF0.out)) HL0.out (Kd.C_drew (Kd.F_now HF3.out)) HL3.out HGO.out.1 o.h).mono ?_
        rintro ex w4 ⟨rfl, hs4, hb4⟩
        refine ⟨_, rfl, ?_⟩
        rw [HPK.out]
        have hs4 := Aside0.mk hs4
        have hb4 := Aside0.mk hb4
        have HC4 := Aside0.mk (show w4.cell? ⟨(ad.add (n * 8)).block, (ad.add (n * 8)).off + 1, none⟩ = some (.int .i64 o.h) ∧ w4.cell? ⟨(ad.add (n * 8)).block, (ad.add (n * 8)).off + 3, none⟩ = some (.slice A0 o.e.f0.length c0) ∧ w4.cell? ⟨(ad.add (n * 8)).block, (ad.add (n * 8)).off + 4, none⟩ = some (.int .i64 o.e.f1) ∧ w4.cell? ⟨(ad.add (n * 8)).block, (ad.add (n * 8)).off + 5, none⟩ = some (.bool o.e.f2) ∧ w4.cell? ⟨(ad.add (n * 8)).block, (ad.add (n * 8)).off + 6, none⟩ = some (.slice A3 o.e.f3.length c3) from ⟨(cell_heap_lt hb4.out (by exact HADL.out) hHeld.1), (cell_heap_lt hb4.out (by exact HADL.out) hHeld.2.1), (cell_heap_lt hb4.out (by exact HADL.out) hHeld.2.2.1), (cell_heap_lt hb4.out (by exact HADL.out) hHeld.2.2.2.1), (cell_heap_lt hb4.out (by exact HADL.out) hHeld.2.2.2.2)⟩)
        refine hK.out _ _ HC4.out (fun hHeld => ?_)
        clear hK K
        refine m_ 54 (h := ?_)
        refine p_ 12 55 (bb 13 8191) (h := ?_)
        refine d_ (h := ?_)

        clear hHeld
        go_wp2
        go_roundg k1
        case measure => exact Nat.lt_succ_self _
        case rel => exact ⟨n + 1, by first | rfl | rw [HW.out], ⟨by have h1 := HK.out; omega⟩, ⟨by rw [HST2.out]; exact hs4.out⟩, ⟨HB.out.trans ((show Below w1.heap.size wr wr.drew from below_weakB HBS.out (below_drew (Below.refl _ _))).trans hb4.out)⟩⟩
end Go.Proofs.Ytjlkcidohabcfaa.Sk
