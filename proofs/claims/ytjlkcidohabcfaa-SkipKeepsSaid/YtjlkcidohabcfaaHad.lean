/- A whole script of operations played on both lists. Conditions: those of each theorem. -/
import Derived.Test.YtjlkcidohabcfaaPx4
import Derived.Test.YtjlkcidohabcfaaPx5
import Derived.Test.YtjlkcidohabcfaaPx13
import Derived.Test.YtjlkcidohabcfaaPx20
import Derived.Test.YtjlkcidohabcfaaPx21
import Derived.Test.YtjlkcidohabcfaaPx22
import Derived.Test.YtjlkcidohabcfaaPx23
import Derived.Test.YtjlkcidohabcfaaPx24
import Derived.Test.YtjlkcidohabcfaaPx25
import Derived.Test.YtjlkcidohabcfaaPx27
import Derived.Test.YtjlkcidohabcfaaPx29
import Derived.Test.YtjlkcidohabcfaaH0
import Derived.Test.YtjlkcidohabcfaaHp
import Derived.Test.YtjlkcidohabcfaaHq
import Derived.Test.YtjlkcidohabcfaaHr
import Derived.Test.YtjlkcidohabcfaaHu
import Derived.Test.YtjlkcidohabcfaaHv
import Derived.Test.YtjlkcidohabcfaaHg
import Derived.Test.YtjlkcidohabcfaaHh
import Derived.Test.YtjlkcidohabcfaaHi
import Derived.Test.YtjlkcidohabcfaaHk
import Derived.Test.YtjlkcidohabcfaaHy
import Derived.Test.YtjlkcidohabcfaaHj
import Derived.Test.YtjlkcidohabcfaaHl
import Derived.Test.YtjlkcidohabcfaaHaa
import Derived.Test.YtjlkcidohabcfaaHab
import Derived.Test.YtjlkcidohabcfaaHac
namespace Go.Proofs.Ytjlkcidohabcfaa.Sk
open Go.RowKit Go.Proofs.YtjlkcidohabcfaaW.PrintWords Go.Proofs.YtjlkcidohabcfaaW.PrintLast Go.Proofs.YtjlkcidohabcfaaW.PrintMore Go.Proofs.Ytjlkcidohabcfaa.Px
set_option linter.unusedVariables false
set_option linter.unusedSimpArgs false

open Go.Proofs.Ytjlkcidohabcfaa.Sw
/-- What a script leaves, up to n operations of it. -/
def runT (n : Nat) (l : List SOp) : List Tw := (l.take n).foldl stepT []
theorem runT_zero (l : List SOp) : runT 0 l = [] := by simp [runT]
theorem runT_succ {l : List SOp} {i : Nat} {o : SOp} (h : l[i]? = some o) : runT (i + 1) l = stepT (runT i l) o := by
  unfold runT
  rw [take_snoc' h, List.foldl_append]
  rfl
theorem runT_fit {l : List SOp} (hg : ∀ o, o ∈ l → GoodO o) : ∀ n, FitT (runT n l) := by
  intro n
  induction n with
  | zero => rw [runT_zero]; exact FitT.nil
  | succ n ih =>
    by_cases h : n < l.length
    · rw [runT_succ (List.getElem?_eq_getElem h)]
      exact ih.step (hg _ (List.getElem_mem h))
    · have : runT (n + 1) l = runT n l := by
        unfold runT
        rw [List.take_of_length_le (by omega), List.take_of_length_le (by omega)]
      rw [this]
      exact ih
theorem runT_len {l : List SOp} (hg : ∀ o, o ∈ l → GoodO o) : ∀ n, (runT n l).length ≤ n := by
  intro n
  induction n with
  | zero => rw [runT_zero]; exact Nat.le_refl _
  | succ n ih =>
    by_cases h : n < l.length
    · rw [runT_succ (List.getElem?_eq_getElem h)]
      have := len_step (runT_fit hg n) l[n]
      omega
    · have : runT (n + 1) l = runT n l := by
        unfold runT
        rw [List.take_of_length_le (by omega), List.take_of_length_le (by omega)]
      rw [this]
      omega
theorem runT_min (l : List SOp) (n : Nat) : runT (min l.length n) l = runT n l := by
  unfold runT
  congr 1
  by_cases h : l.length ≤ n
  · rw [Nat.min_eq_left h, List.take_of_length_le (Nat.le_refl _), List.take_of_length_le h]
  · rw [Nat.min_eq_right (by omega)]
/-- Rows of an operation that came in are read in whatever the call leaves alone. -/
theorem op_F {w wr : World} {A : Option Addr} {n : Nat} {xs : List Int} (hb : Below w.heap.size w wr) (h : Kd.C (Kd.int .u8) w A n xs) : Kd.F (Kd.int .u8) wr (fun k => k < w.heap.size) A n xs := Kd.F_step (C_F h) (fun k hk _ => hb.block k hk)
theorem at_Op2 {w wr : World} {A : Option Addr} {xs : List SOp} (h : Kd.C kOp w A xs.length xs) (hb : Below w.heap.size w wr) (i : Nat) (o : SOp) (ho : xs[i]? = some o) : ∃ ad A0 c0 A3 c3 A4 c4, A = some ad ∧ wr.cell? (ad.add (i * 8)) = some (.int .i64 o.what) ∧ wr.cell? ⟨(ad.add (i * 8)).block, (ad.add (i * 8)).off + 1, none⟩ = some (.int .i64 o.h) ∧ wr.cell? ⟨(ad.add (i * 8)).block, (ad.add (i * 8)).off + 2, none⟩ = some (.int .i64 o.n) ∧ wr.cell? ⟨(ad.add (i * 8)).block, (ad.add (i * 8)).off + 3, none⟩ = some (.slice A0 o.e.f0.length c0) ∧ wr.cell? ⟨(ad.add (i * 8)).block, (ad.add (i * 8)).off + 4, none⟩ = some (.int .i64 o.e.f1) ∧ wr.cell? ⟨(ad.add (i * 8)).block, (ad.add (i * 8)).off + 5, none⟩ = some (.bool o.e.f2) ∧ wr.cell? ⟨(ad.add (i * 8)).block, (ad.add (i * 8)).off + 6, none⟩ = some (.slice A3 o.e.f3.length c3) ∧ wr.cell? ⟨(ad.add (i * 8)).block, (ad.add (i * 8)).off + 7, none⟩ = some (.slice A4 o.hi.length c4) ∧ o.e.f0.length ≤ c0 ∧ Kd.F (Kd.int .u8) wr (fun k => k < w.heap.size) A0 o.e.f0.length o.e.f0 ∧ o.e.f3.length ≤ c3 ∧ Kd.F (Kd.int .u8) wr (fun k => k < w.heap.size) A3 o.e.f3.length o.e.f3 ∧ o.hi.length ≤ c4 ∧ Kd.F (Kd.int .u8) wr (fun k => k < w.heap.size) A4 o.hi.length o.hi := by
  obtain ⟨ad, A0, c0, A3, c3, A4, c4, e, h0, h1, h2, h3, h4, h5, h6, h7, l0, g0, l3, g3, l4, g4⟩ := at_Op h i o ho
  exact ⟨ad, A0, c0, A3, c3, A4, c4, e, pw_cell_below hb h0, pw_cell_below hb h1, pw_cell_below hb h2, pw_cell_below hb h3, pw_cell_below hb h4, pw_cell_below hb h5, pw_cell_below hb h6, pw_cell_below hb h7, l0, op_F hb g0, l3, op_F hb g3, l4, op_F hb g4⟩
/-- Two new lists. -/
theorem St.fresh {w w1 w2 : World} {g gr : Nat} (hs : S1 w1 w.heap.size g []) (hb : Below w.heap.size w w1) (hgr : gr = w1.heap.size) (hx : w2.heap[gr]? = some (.cells #[.slice none 0 0, .slice none 0 0] 30 (0, 0))) (hb2 : Below w1.heap.size w1 w2) : St w2 w.heap.size g gr [] [] := by
  obtain ⟨D, h1, h3⟩ := hs
  refine ⟨D, fun k => k = gr, h1.below hb2, ⟨_, _, hx, Kd.N_nil _ _ _ _ _, Kd.N_nil _ _ _ _ _, rfl, fun k hk => by rw [hk, hgr]; exact hb.size⟩, fun k hk => Nat.lt_of_lt_of_le (h3 k hk) hb2.size, fun k hk => by rw [hk]; exact blk_lt hx, fun k hk hk' => by have := h3 k hk; omega⟩
set_option maxHeartbeats 4000000 in
set_option maxRecDepth 100000 in
theorem filled_calls {w : World} (A : Option Addr) (c : Nat) (l : List SOp) (hr : Kd.C kOp w A l.length l) (hc : l.length ≤ c) (hg : ∀ o, o ∈ l → GoodO o)  :
    Calls Try.prog 28 #[.slice A l.length c] w fun ex w' => ∃ g gr, ex = .returned (.pointer (some ⟨g, 0, none⟩)) ∧ St w' w.heap.size g gr (runT 60 l) (runT 60 l) ∧ Below w.heap.size w w' := by
  have hu34 := Try.underlying34
  have hu36 := Try.underlying36
  have hu30 := Try.underlying30
  have HR := Aside0.mk hr
  have HG := Aside0.mk hg
  have HMAX := Aside0.mk (Kd.C_max hr)
  clear hr hg
  go_enter Try.func28, Try.ntmps28
  go_wp2_with (first
    | ((with_reducible refine gate_callee (f := 11) rfl ?_); (try (refine gate_guard (by rfl) ?_; dsimp only)); refine goesL_ (some 6) rfl rfl Try.func11 (by kernel_rfl) rfl #[] rfl (by (try simp only [List.map_toArray, List.map_cons, List.map_nil]); first | done | rfl) ?_; refine (s1_new w).mono ?_; rintro ex w1 ⟨g, rfl, hs1, hb1⟩; refine ⟨_, rfl, ?_⟩; have n_ := Aside0.mk hs1; clear hs1; have hs1 := n_; clear n_; have n_ := Aside0.mk hb1; clear hb1; have hb1 := n_; clear n_)
    | ((with_reducible refine gate_dst (N := 8) rfl ?_); (try (refine gate_guard (by rfl) ?_; dsimp only)); refine box_event ?hg (N := 8) ?hd (cs := #[.slice none 0 0, .slice none 0 0]) (t := 30) ?hr ?_; (case hd => rfl); (case hg => rfl); (case hr => first | (go_simp; done) | (go_simp; rfl)); intro gr hqgr w2 hxgr hbgr; have n_ := Aside0.mk hqgr; clear hqgr; have hqgr := n_; clear n_; have n_ := Aside0.mk hxgr; clear hxgr; have hxgr := n_; clear n_; have n_ := Aside0.mk hbgr; clear hbgr; have hbgr := n_; clear n_; have ST2 := Aside0.mk (St.fresh hs1.out hb1.out hqgr.out hxgr.out hbgr.out); have B2 := Aside0.mk (below_step hb1.out hbgr.out)))
  go_loopg [5] (min l.length 60) (fun kq v5 w' => ∃ n : Nat, v5 = .int .i64 (n : Int) ∧ Aside0 (kq + n = min l.length 60) ∧ Aside0 (St w' w.heap.size g gr (runT n l) (runT n l)) ∧ Aside0 (Below w.heap.size w w'))
  case atStart => exact ⟨0, rfl, ⟨rfl⟩, ⟨by rw [runT_zero]; exact ST2.out⟩, B2⟩
  case round =>
    obtain ⟨n, rfl, HK, HST, HB⟩ := hrel
    cases gk with
    | zero =>
      have HE := Aside0.mk (show runT n l = runT 60 l by rw [← runT_min l 60]; congr 1; have h1 := HK.out; omega)
      by_cases hnl : n < l.length
      · have hlt : (n < l.length) = True := eq_true hnl
        have h60 : decide ((n : Int) < 60) = false := decide_eq_false (by have h1 := HK.out; omega)
        clear hnl
        go_wp2
        go_ret
        exact ⟨g, gr, rfl, HE.out ▸ HST.out, HB.out⟩
      · have hlt : (n < l.length) = False := eq_false hnl
        clear hnl
        go_wp2
        go_ret
        exact ⟨g, gr, rfl, HE.out ▸ HST.out, HB.out⟩
    | succ k1 =>
      have hnl : n < l.length := by have h1 := HK.out; omega
      have HN := Aside0.mk (show n < 60 by have h1 := HK.out; omega)
      have hlt : (n < l.length) = True := eq_true hnl
      have h60 : (n : Int) < 60 := by have := HN.out; omega
      have HW := Aside0.mk (show wrap64 ((n : Int) + 1) = ((n + 1 : Nat) : Int) by rw [wrap_in (by omega) (by omega)]; rfl)
      obtain ⟨o, ho⟩ : ∃ o, l[n]? = some o := ⟨_, List.getElem?_eq_getElem hnl⟩
      obtain ⟨ad, A0, c0, A3, c3, A4, c4, hA, hd0, hd1, hd2, hd3, hd4, hd5, hd6, hd7, hl0, hF0, hl3, hF3, hl4, hF4⟩ := at_Op2 HR.out HB.out n o ho
      subst hA
      have HL0 := Aside0.mk hl0
      have HF0 := Aside0.mk hF0
      have HL3 := Aside0.mk hl3
      have HF3 := Aside0.mk hF3
      have HL4 := Aside0.mk hl4
      have HF4 := Aside0.mk hF4
      have HGO := Aside0.mk (HG.out o (List.mem_of_getElem? ho))
      have HO := Aside0.mk ho
      clear hl0 hF0 hl3 hF3 hl4 hF4 ho
      clear hnl
      go_wp2_with ((with_reducible refine gate_callee (f := 12) rfl ?_); (try (refine gate_guard (by rfl) ?_; dsimp only)); refine goesL_ (some 29) rfl rfl Try.func12 (by kernel_rfl) rfl #[.pointer (some ⟨g, 0, none⟩), .pointer (some ⟨gr, 0, none⟩), .agg #[.int .i64 o.what, .int .i64 o.h, .int .i64 o.n, .slice A0 o.e.f0.length c0, .int .i64 o.e.f1, .bool o.e.f2, .slice A3 o.e.f3.length c3, .slice A4 o.hi.length c4]] rfl (by (try simp only [List.map_toArray, List.map_cons, List.map_nil]); first | done | rfl) ?_; refine (step_calls HST.out (runT_fit HG.out n) (Nat.le_trans (runT_len HG.out n) (by have := HN.out; omega)) o A0 c0 A3 c3 A4 c4 HF0.out HL0.out HF3.out HL3.out HF4.out HL4.out HGO.out).mono ?_; rintro ex w3 ⟨rfl, hs3, hb3⟩; refine ⟨_, rfl, ?_⟩; have n_ := Aside0.mk hs3; clear hs3; have hs3 := n_; clear n_; have n_ := Aside0.mk hb3; clear hb3; have hb3 := n_; clear n_)
      go_roundg k1
      case measure => exact Nat.lt_succ_self _
      case rel => exact ⟨n + 1, by first | rfl | rw [HW.out], ⟨by have h1 := HK.out; omega⟩, ⟨by rw [runT_succ HO.out]; exact hs3.out⟩, ⟨HB.out.trans hb3.out⟩⟩
end Go.Proofs.Ytjlkcidohabcfaa.Sk
