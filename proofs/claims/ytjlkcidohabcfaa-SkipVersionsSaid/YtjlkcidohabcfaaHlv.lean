/- The law SkipVersions as a contract of its function. Conditions: those of each theorem. -/
import Derived.Test.YtjlkcidohabcfaaPx4
import Derived.Test.YtjlkcidohabcfaaPx5
import Derived.Test.YtjlkcidohabcfaaPx13
import Derived.Test.YtjlkcidohabcfaaPx20
import Derived.Test.YtjlkcidohabcfaaPx21
import Derived.Test.YtjlkcidohabcfaaPx22
import Derived.Test.YtjlkcidohabcfaaPx23
import Derived.Test.YtjlkcidohabcfaaPx24
import Derived.Test.YtjlkcidohabcfaaPx25
import Derived.Test.YtjlkcidohabcfaaPx27
import Derived.Test.YtjlkcidohabcfaaPx29
import Derived.Test.YtjlkcidohabcfaaH0
import Derived.Test.YtjlkcidohabcfaaHp
import Derived.Test.YtjlkcidohabcfaaHq
import Derived.Test.YtjlkcidohabcfaaHr
import Derived.Test.YtjlkcidohabcfaaHu
import Derived.Test.YtjlkcidohabcfaaHv
import Derived.Test.YtjlkcidohabcfaaHw
import Derived.Test.YtjlkcidohabcfaaHg
import Derived.Test.YtjlkcidohabcfaaHh
import Derived.Test.YtjlkcidohabcfaaHi
import Derived.Test.YtjlkcidohabcfaaHk
import Derived.Test.YtjlkcidohabcfaaHy
import Derived.Test.YtjlkcidohabcfaaHj
import Derived.Test.YtjlkcidohabcfaaHl
import Derived.Test.YtjlkcidohabcfaaHn
import Derived.Test.YtjlkcidohabcfaaHaa
import Derived.Test.YtjlkcidohabcfaaHab
import Derived.Test.YtjlkcidohabcfaaHac
import Derived.Test.YtjlkcidohabcfaaHad
namespace Go.Proofs.Ytjlkcidohabcfaa.Sk
open Go.RowKit Go.Proofs.YtjlkcidohabcfaaW.PrintWords Go.Proofs.YtjlkcidohabcfaaW.PrintLast Go.Proofs.YtjlkcidohabcfaaW.PrintMore Go.Proofs.Ytjlkcidohabcfaa.Px
set_option linter.unusedVariables false
set_option linter.unusedSimpArgs false
open Go.Proofs.Ytjlkcidohabcfaa.Sw

theorem f_far4 {w : World} {ok : Nat → Prop} {A : Option Addr} {n : Nat} {xs : List Int} {g : Nat} (h : Kd.F (Kd.int .u8) w ok A n xs) (hok : ∀ k, ok k → k ≠ g) (a b c d : Value) : Kd.F (Kd.int .u8) ((((w.setCell ⟨g, 0, none⟩ a).setCell ⟨g, 1, none⟩ b).setCell ⟨g, 2, none⟩ c).setCell ⟨g, 3, none⟩ d) ok A n xs :=
  Kd.F_far (p := ⟨g, 3, none⟩) (Kd.F_far (p := ⟨g, 2, none⟩) (Kd.F_far (p := ⟨g, 1, none⟩) (Kd.F_far (p := ⟨g, 0, none⟩) h hok a) hok b) hok c) hok d

theorem find_split {X Y : List Tw} {t : Tw} {k : List Int} {s : Int} (hX : ∀ x, x ∈ X → x.e.f0 = k → s < x.e.f1) (hk : t.e.f0 = k) (hs : t.e.f1 ≤ s) : version ((X ++ t :: Y).map (fun t => t.e)) k s = (t.e, true) := by
  unfold version
  rw [List.map_append, List.map_cons, List.find?_append, List.find?_eq_none.2 (fun e he => by
    obtain ⟨x, hx, rfl⟩ := List.mem_map.1 he
    intro hh
    simp only [Bool.and_eq_true, decide_eq_true_eq] at hh
    have := hX x hx hh.1
    omega), Option.none_or, List.find?_cons_of_pos (by simp [hk, hs])]
theorem ahe_seq {a b : S34} (h : ahe a b = true) (hk : a.f0 = b.f0) : b.f1 < a.f1 := by
  unfold ahe at h
  rw [hk, less_irrefl] at h
  simpa using h
theorem at_split {T : List Tw} {n : Nat} {t : Tw} (h : T[n]? = some t) : T = T.take n ++ t :: T.drop (n + 1) := by
  have hn := (List.getElem?_eq_some_iff.1 h).1
  conv => lhs; rw [← List.take_append_drop n T]
  rw [List.drop_eq_getElem_cons hn]
  congr 2
  exact Option.some.inj ((List.getElem?_eq_getElem hn).symm.trans h)
/-- A version is found from its own number on. -/
theorem get_self {T : List Tw} (hT : FitT T) {n : Nat} {t : Tw} (h : T[n]? = some t) : getN T t.e.f0 t.e.f1 = (t.e, true) := by
  rw [← version_same hT]
  have hs := at_split h
  have hp := hT.srt
  rw [hs] at hp ⊢
  exact find_split (fun x hx hk => ahe_seq ((List.pairwise_append.1 hp).2.2 x hx t (by simp)) hk) rfl (Int.le_refl _)
/-- .. up to the next one's. -/
theorem get_prev {T : List Tw} (hT : FitT T) {m : Nat} {t u : Tw} (hu : T[m]? = some u) (h : T[m + 1]? = some t) (hk : u.e.f0 = t.e.f0) : getN T t.e.f0 (u.e.f1 - 1) = (t.e, true) ∧ t.e.f1 < u.e.f1 := by
  have hs := at_split h
  have hp := hT.srt
  have hm := (List.getElem?_eq_some_iff.1 hu).1
  have hmem : u ∈ T.take (m + 1) := by
    rw [take_snoc' hu]
    simp
  have hlt : t.e.f1 < u.e.f1 := by
    rw [hs] at hp
    exact ahe_seq ((List.pairwise_append.1 hp).2.2 u hmem t (by simp)) hk
  refine ⟨?_, hlt⟩
  rw [← version_same hT]
  have hp2 : (T.take (m + 1)).Pairwise (fun a b => ahe a.e b.e = true) := hT.srt.sublist (List.take_sublist _ _)
  rw [take_snoc' hu] at hp2
  rw [hs]
  refine find_split (fun x hx hxk => ?_) rfl (by omega)
  rw [take_snoc' hu] at hx
  rcases List.mem_append.1 hx with hx | hx
  · have := ahe_seq ((List.pairwise_append.1 hp2).2.2 x hx u (by simp)) (hxk.trans hk.symm)
    omega
  · rw [List.mem_singleton.1 hx]
    omega
theorem next_less {T : List Tw} (hT : FitT T) {m : Nat} {t u : Tw} (hu : T[m]? = some u) (h : T[m + 1]? = some t) (hk : u.e.f0 ≠ t.e.f0) : less u.e.f0 t.e.f0 = true := by
  have hs := at_split h
  have hp := hT.srt
  rw [hs] at hp
  have h1 := (List.pairwise_append.1 hp).2.2 u (by rw [take_snoc' hu]; simp) t (by simp)
  unfold ahe at h1
  simpa [hk] using h1
/-- What is found is of the key, and not above what was asked. -/
theorem get_is {T : List Tw} (hT : FitT T) (k : List Int) (s : Int) (h : (getN T k s).2 = true) : (getN T k s).1.f0 = k ∧ (getN T k s).1.f1 ≤ s := by
  rw [← version_same hT] at h ⊢
  unfold version at h ⊢
  split at h
  · rename_i e he
    have h1 := List.find?_some he
    simp only [Bool.and_eq_true, decide_eq_true_eq] at h1
    exact h1
  · cases h
theorem rlessC {w : World} {A0 A1 : Option Addr} {c0 c1 : Nat} {l0 l1 : List Int} (hr0 : Kd.C (Kd.int .u8) w A0 l0.length l0) (hc0 : l0.length ≤ c0) (hr1 : Kd.C (Kd.int .u8) w A1 l1.length l1) (hc1 : l1.length ≤ c1) (hl : l0.length ≤ 140737488355328) :
    Calls Try.prog 25 #[.slice A0 l0.length c0, .slice A1 l1.length c1] w fun ex w' => ex = .returned (.bool (less l0 l1)) ∧ Below w.heap.size w w' := by
  obtain ⟨K, hf⟩ := refLess_f l0 l1 hl
  exact (sawyerref03_Less.calls K A0 c0 l0 A1 c1 l1 _ w hr0 hc0 hr1 hc1 (hf K (Nat.le_refl _))).mono (fun ex w' h => ⟨h.1, h.2.below⟩)
theorem alloc_step {P : Program} {ops : Array Oper} {o : Oper} {a : Act} {Q : Exit → Act → World → Prop} {Kc : Act → World → Prop} {W : World} (hw : Region.wanted o (yielded ops a.tmps) = true) {N : Tmp} (_hd : o.dst = some N) {cs : Array Value} {t : TypeId}
    (hrun : (execOp a.eval o).run P W = .ok (.value (.pointer (some ⟨W.heap.size, 0, none⟩))) (W.alloc (.cells cs t (0, 0))))
    (h : ∀ g, g = W.heap.size → ∀ w1, w1.heap[g]? = some (.cells cs t (0, 0)) → Below W.heap.size W w1 → Kc (a.put o.dst (.pointer (some ⟨g, 0, none⟩))) w1) : if Region.wanted o (yielded ops a.tmps) = true then Oper.wp P o a W Kc Q else Kc (a.put o.dst undef) W := by
  rw [if_pos hw]
  unfold Oper.wp
  rw [hrun]
  exact h _ rfl _ (blk_new W _) (below_alloc (Below.refl _ _) _)
set_option maxHeartbeats 4000000 in
set_option maxRecDepth 100000 in
theorem versions_calls {w : World} (A : Option Addr) (c : Nat) (l : List SOp) (hr : Kd.C kOp w A l.length l) (hc : l.length ≤ c) (hg : ∀ o, o ∈ l → GoodO o) (Ak : Option Addr) (ck : Nat) (key : List Int) (hrk : Kd.C (Kd.int .u8) w Ak key.length key) (hck : key.length ≤ ck) (hwk : ∀ n ∈ key, (Lit.int .u8 n).wf = true) (sq : Int) (hwq : (Lit.int .i64 sq).wf = true) :
    Calls Try.prog 5 #[.slice A l.length c, .slice Ak key.length ck, .int .i64 sq] w fun ex w' => ex = .returned (.bool true) ∧ Below w.heap.size w w' := by
  have hu34 := Try.underlying34
  have hu36 := Try.underlying36
  have hu30 := Try.underlying30
  have HR := Aside0.mk hr
  have HG := Aside0.mk hg
  have HMAX := Aside0.mk (Kd.C_max hr)
  clear hr hg
  have HC := Aside0.mk hc
  have HRK := Aside0.mk hrk
  have HCK := Aside0.mk hck
  have HKB := Aside0.mk (byts_of_wf hwk)
  clear hc hrk hck hwk hwq
  go_enter Try.func5, Try.ntmps5
  go_wp2_with (first
    | ((with_reducible refine gate_callee (f := 10) rfl ?_); (try (refine gate_guard (by rfl) ?_; dsimp only)); refine goesL_ (some 19) rfl rfl Try.func10 (by kernel_rfl) rfl #[] rfl (by (try simp only [List.map_toArray, List.map_cons, List.map_nil]); first | done | rfl) ?_; refine (awake_calls w).mono ?_; rintro ex w1 ⟨rfl, hb1⟩; refine ⟨_, rfl, ?_⟩; have n_ := Aside0.mk hb1; clear hb1; have hb1 := n_; clear n_)
    | ((with_reducible refine gate_callee (f := 11) rfl ?_); (try (refine gate_guard (by rfl) ?_; dsimp only)); refine goesL_ (some 20) rfl rfl Try.func11 (by kernel_rfl) rfl #[] rfl (by (try simp only [List.map_toArray, List.map_cons, List.map_nil]); first | done | rfl) ?_; refine (s1_new w1).mono ?_; rintro ex w2 ⟨g, rfl, hs1, hb2⟩; refine ⟨_, rfl, ?_⟩; have n_ := Aside0.mk hs1; clear hs1; have hs1 := n_; clear n_; have n_ := Aside0.mk hb2; clear hb2; have hb2 := n_; clear n_)
    | ((with_reducible refine gate_dst (N := 22) rfl ?_); (try (refine gate_guard (by rfl) ?_; dsimp only)); refine box_event ?hg (N := 22) ?hd (cs := #[.slice none 0 0, .slice none 0 0]) (t := 30) ?hr ?_; (case hd => rfl); (case hg => rfl); (case hr => first | (go_simp; done) | (go_simp; rfl)); intro gr hqgr w3 hxgr hbgr; have n_ := Aside0.mk hqgr; clear hqgr; have hqgr := n_; clear n_; have n_ := Aside0.mk hxgr; clear hxgr; have hxgr := n_; clear n_; have n_ := Aside0.mk hbgr; clear hbgr; have hbgr := n_; clear n_; have ST3 := Aside0.mk (St.fresh hs1.out hb2.out hqgr.out hxgr.out hbgr.out); have B3 := Aside0.mk (below_step hb2.out hbgr.out)))
  go_loopg [10] (min l.length 60) (fun kq v10 w' => ∃ n : Nat, v10 = .int .i64 (n : Int) ∧ Aside0 (kq + n = min l.length 60) ∧ Aside0 (St w' w1.heap.size g gr (runT n l) (runT n l)) ∧ Aside0 (Below w1.heap.size w1 w'))
  case atStart => exact ⟨0, rfl, ⟨rfl⟩, ⟨by rw [runT_zero]; exact ST3.out⟩, B3⟩
  case round =>
    obtain ⟨n, rfl, HK, HST, HB⟩ := hrel
    cases gk with
    | zero =>
      have HE := Aside0.mk (show runT n l = runT 60 l by rw [← runT_min l 60]; congr 1; have h1 := HK.out; omega)
      rw [HE.out] at HST
      have HT := Aside0.mk (runT_fit HG.out 60)
      have HTL := Aside0.mk (runT_len HG.out 60)
      generalize runT 60 l = T at HST HT HTL
      have HS1 := Aside0.mk HST.out.one
      clear HE
      by_cases hnl : n < l.length
      · have hlt : (n < l.length) = True := eq_true hnl
        have h60 : decide ((n : Int) < 60) = false := decide_eq_false (by have h1 := HK.out; omega)
        clear hnl HK
        clear HST
        go_wp2_with ((with_reducible refine gate_callee (f := 19) rfl ?_); (try (refine gate_guard (by rfl) ?_; dsimp only)); refine goesL_ (some 47) rfl rfl Try.func19 (by kernel_rfl) rfl #[.pointer (some ⟨g, 0, none⟩)] rfl (by (try simp only [List.map_toArray, List.map_cons, List.map_nil]); first | done | rfl) ?_; refine (s1_all HS1.out HT.out (by have := HTL.out; omega)).mono ?_; rintro ex w4 ⟨v4, rfl, hn4, hb4⟩; refine ⟨_, rfl, ?_⟩; obtain ⟨A4, c4, rfl⟩ := Kd.N_slice hn4; rw [List.length_map]; have n_ := Aside0.mk hn4; clear hn4; have hn4 := n_; clear n_; have n_ := Aside0.mk hb4; clear hb4; have hb4 := n_; clear n_; have HS4 := Aside0.mk (HS1.out.below hb4.out); have BW := Aside0.mk ((hb1.out.trans (below_weakB hb1.out.size HB.out)).trans (below_weakB (Nat.le_trans hb1.out.size HB.out.size) hb4.out)))
        clear hlt
        go_loopg [12] T.length (fun kq v12 w' => ∃ n : Nat, v12 = .int .i64 (n : Int) ∧ Aside0 (kq + n = T.length) ∧ Aside0 (Below w4.heap.size w4 w'))
        case atStart => exact ⟨0, rfl, ⟨rfl⟩, ⟨Below.refl _ _⟩⟩
        case round =>
          obtain ⟨n, rfl, HK, HBr⟩ := hrel
          have HSr := Aside0.mk (HS4.out.below HBr.out)
          have HNr := Aside0.mk (Kd.N_below hn4.out HBr.out)
          cases gk with
          | zero =>
            have hlt : (n < T.length) = False := eq_false (by have := HK.out; omega)
            have BWr := Aside0.mk (BW.out.trans (below_weakB (Nat.le_trans hb1.out.size (Nat.le_trans HB.out.size hb4.out.size)) HBr.out))
            obtain ⟨e, ok, hge⟩ : ∃ e ok, getN T key sq = (e, ok) := ⟨_, _, rfl⟩
            have hcl := s1_get HSr.out HT.out Ak ck key sq (Kd.C_below HRK.out BWr.out) HCK.out HKB.out
            have hgi := get_is HT.out key sq
            rw [hge] at hcl hgi
            dsimp only at hcl hgi
            have HCL := Aside0.mk hcl
            have HGI := Aside0.mk hgi
            clear hcl hgi hge
            cases ok with
            | false =>
              go_wp2_with (first
                | ((with_reducible refine gate_callee (f := 20) rfl ?_); (try (refine gate_guard (by rfl) ?_; dsimp only)); refine goesL_ (some 161) rfl rfl Try.func20 (by kernel_rfl) rfl #[.pointer (some ⟨g, 0, none⟩), .slice Ak key.length ck, .int .i64 sq] rfl (by (try simp only [List.map_toArray, List.map_cons, List.map_nil]); first | done | rfl) ?_; refine (HCL.out).mono ?_; rintro ex y2 ⟨v0, v3, rfl, hv2, hy2⟩; refine ⟨_, rfl, ?_⟩; obtain ⟨⟨P0, p0, rfl, hl0, hF0⟩, ⟨P3, p3, rfl, hl3, hF3⟩⟩ := hv2; have n_ := Aside0.mk hl0; clear hl0; have hl0 := n_; clear n_; have n_ := Aside0.mk hF0; clear hF0; have hF0 := n_; clear n_; have n_ := Aside0.mk hl3; clear hl3; have hl3 := n_; clear n_; have n_ := Aside0.mk hF3; clear hF3; have hF3 := n_; clear n_; have n_ := Aside0.mk hy2; clear hy2; have hy2 := n_; clear n_)
                | ((with_reducible refine gate_dst (N := 17) rfl ?_); (try (refine gate_guard (by rfl) ?_; dsimp only)); refine box_event ?hg (N := 17) ?hd (cs := #[.slice none 0 0, .int .i64 0, .bool false, .slice none 0 0]) (t := 34) ?hr ?_; (case hd => rfl); (case hg => rfl); (case hr => first | (go_simp; done) | (go_simp; rfl)); intro ga hqga y3 hxga hbga; have n_ := Aside0.mk hqga; clear hqga; have hqga := n_; clear n_; have n_ := Aside0.mk hxga; clear hxga; have hxga := n_; clear n_; have n_ := Aside0.mk hbga; clear hbga; have hbga := n_; clear n_; have hcy0 : y3.cell? ⟨ga, 0, none⟩ = some (.slice none 0 0) := (blk_cell hxga.out 0).trans rfl; have hcy1 : y3.cell? ⟨ga, 1, none⟩ = some (.int .i64 0) := (blk_cell hxga.out 1).trans rfl; have hcy2 : y3.cell? ⟨ga, 2, none⟩ = some (.bool false) := (blk_cell hxga.out 2).trans rfl; have hcy3 : y3.cell? ⟨ga, 3, none⟩ = some (.slice none 0 0) := (blk_cell hxga.out 3).trans rfl; have hfy0 : y3.frozen? ⟨ga, 0, none⟩ = false := blk_frozen hxga.out 0; have hfy1 : y3.frozen? ⟨ga, 1, none⟩ = false := blk_frozen hxga.out 1; have hfy2 : y3.frozen? ⟨ga, 2, none⟩ = false := blk_frozen hxga.out 2; have hfy3 : y3.frozen? ⟨ga, 3, none⟩ = false := blk_frozen hxga.out 3; have Y34 := Aside0.mk (show Below y2.heap.size y2 ((((y3.setCell ⟨ga, 0, none⟩ (.slice P0 e.f0.length p0)).setCell ⟨ga, 1, none⟩ (.int .i64 e.f1)).setCell ⟨ga, 2, none⟩ (.bool e.f2)).setCell ⟨ga, 3, none⟩ (.slice P3 e.f3.length p3)) from below_set (below_set (below_set (below_set hbga.out (Nat.le_of_eq hqga.out.symm)) (Nat.le_of_eq hqga.out.symm)) (Nat.le_of_eq hqga.out.symm)) (Nat.le_of_eq hqga.out.symm))))
              go_ret
              exact ⟨rfl, below_step (below_step BWr.out hy2.out) Y34.out⟩
            | true =>
              have hek : e.f0 = key := (HGI.out rfl).1
              subst hek
              have hle : decide (e.f1 ≤ sq) = true := decide_eq_true (HGI.out rfl).2
              have hse := str_eq HKB.out HKB.out
              rw [decide_eq_true (rfl : e.f0 = e.f0)] at hse
              go_wp2_with (first
                | ((with_reducible refine gate_callee (f := 20) rfl ?_); (try (refine gate_guard (by rfl) ?_; dsimp only)); refine goesL_ (some 161) rfl rfl Try.func20 (by kernel_rfl) rfl #[.pointer (some ⟨g, 0, none⟩), .slice Ak e.f0.length ck, .int .i64 sq] rfl (by (try simp only [List.map_toArray, List.map_cons, List.map_nil]); first | done | rfl) ?_; refine (HCL.out).mono ?_; rintro ex y2 ⟨v0, v3, rfl, hv2, hy2⟩; refine ⟨_, rfl, ?_⟩; obtain ⟨⟨P0, p0, rfl, hl0, hF0⟩, ⟨P3, p3, rfl, hl3, hF3⟩⟩ := hv2; have n_ := Aside0.mk hl0; clear hl0; have hl0 := n_; clear n_; have n_ := Aside0.mk hF0; clear hF0; have hF0 := n_; clear n_; have n_ := Aside0.mk hl3; clear hl3; have hl3 := n_; clear n_; have n_ := Aside0.mk hF3; clear hF3; have hF3 := n_; clear n_; have n_ := Aside0.mk hy2; clear hy2; have hy2 := n_; clear n_)
                | ((with_reducible refine gate_dst (N := 17) rfl ?_); (try (refine gate_guard (by rfl) ?_; dsimp only)); refine box_event ?hg (N := 17) ?hd (cs := #[.slice none 0 0, .int .i64 0, .bool false, .slice none 0 0]) (t := 34) ?hr ?_; (case hd => rfl); (case hg => rfl); (case hr => first | (go_simp; done) | (go_simp; rfl)); intro ga hqga y3 hxga hbga; have n_ := Aside0.mk hqga; clear hqga; have hqga := n_; clear n_; have n_ := Aside0.mk hxga; clear hxga; have hxga := n_; clear n_; have n_ := Aside0.mk hbga; clear hbga; have hbga := n_; clear n_; have hcy0 : y3.cell? ⟨ga, 0, none⟩ = some (.slice none 0 0) := (blk_cell hxga.out 0).trans rfl; have hcy1 : y3.cell? ⟨ga, 1, none⟩ = some (.int .i64 0) := (blk_cell hxga.out 1).trans rfl; have hcy2 : y3.cell? ⟨ga, 2, none⟩ = some (.bool false) := (blk_cell hxga.out 2).trans rfl; have hcy3 : y3.cell? ⟨ga, 3, none⟩ = some (.slice none 0 0) := (blk_cell hxga.out 3).trans rfl; have hfy0 : y3.frozen? ⟨ga, 0, none⟩ = false := blk_frozen hxga.out 0; have hfy1 : y3.frozen? ⟨ga, 1, none⟩ = false := blk_frozen hxga.out 1; have hfy2 : y3.frozen? ⟨ga, 2, none⟩ = false := blk_frozen hxga.out 2; have hfy3 : y3.frozen? ⟨ga, 3, none⟩ = false := blk_frozen hxga.out 3; have Y34 := Aside0.mk (show Below y2.heap.size y2 ((((y3.setCell ⟨ga, 0, none⟩ (.slice P0 e.f0.length p0)).setCell ⟨ga, 1, none⟩ (.int .i64 e.f1)).setCell ⟨ga, 2, none⟩ (.bool e.f2)).setCell ⟨ga, 3, none⟩ (.slice P3 e.f3.length p3)) from below_set (below_set (below_set (below_set hbga.out (Nat.le_of_eq hqga.out.symm)) (Nat.le_of_eq hqga.out.symm)) (Nat.le_of_eq hqga.out.symm)) (Nat.le_of_eq hqga.out.symm)); have hcv0 := Kd.C_string (P := Try.prog) (A := P0) (c := p0) Try.underlying32 Try.underlying5 Try.underlying9 (show Kd.C (Kd.int .u8) ((((y3.setCell ⟨ga, 0, none⟩ (.slice P0 e.f0.length p0)).setCell ⟨ga, 1, none⟩ (.int .i64 e.f1)).setCell ⟨ga, 2, none⟩ (.bool e.f2)).setCell ⟨ga, 3, none⟩ (.slice P3 e.f3.length p3)) P0 e.f0.length e.f0 from Kd.C_below (Kd.F_now hF0.out) Y34.out); have hcv1 := Kd.C_string (P := Try.prog) (A := Ak) (c := ck) Try.underlying32 Try.underlying5 Try.underlying9 (show Kd.C (Kd.int .u8) ((((y3.setCell ⟨ga, 0, none⟩ (.slice P0 e.f0.length p0)).setCell ⟨ga, 1, none⟩ (.int .i64 e.f1)).setCell ⟨ga, 2, none⟩ (.bool e.f2)).setCell ⟨ga, 3, none⟩ (.slice P3 e.f3.length p3)) Ak e.f0.length e.f0 from Kd.C_below (Kd.C_below HRK.out (below_step BWr.out hy2.out)) (Y34.out))))
              go_ret
              exact ⟨rfl, below_step (below_step BWr.out hy2.out) Y34.out⟩
          | succ k1 =>
            have hnl : n < T.length := by have h1 := HK.out; omega
            have hlt : (n < T.length) = True := eq_true hnl
            have HW := Aside0.mk (show wrap64 ((n : Int) + 1) = ((n + 1 : Nat) : Int) by rw [wrap_in (by omega) (by have := HTL.out; omega)]; rfl)
            have HNL := Aside0.mk hnl
            obtain ⟨z, hz⟩ : ∃ z, T[n]? = some z := ⟨_, List.getElem?_eq_getElem hnl⟩
            have hze : (T.map (fun t => t.e))[n]? = some z.e := by rw [List.getElem?_map, hz]; rfl
            obtain ⟨ad, hA⟩ := N_addr HNr.out (by rw [List.length_map]; omega)
            subst hA
            obtain ⟨B0, b0, B3, b3, hd0, hd1, hd2, hd3, hFZ⟩ := at_N34 HNr.out n z.e hze
            have HD := Aside0.mk (And.intro hd0 (And.intro hd1 (And.intro hd2 hd3)))
            have HFZ := Aside0.mk hFZ
            have HZ := Aside0.mk hz
            have HZG := Aside0.mk (HT.out.ok z (List.mem_of_getElem? hz)).2.1
            clear hFZ hz hze
            clear hnl
            go_wp2
            refine s_ 18 [16] (fun w' => w'.cell? (ad.add (n * 4)) = some (.slice B0 z.e.f0.length b0) ∧ w'.cell? ⟨(ad.add (n * 4)).block, (ad.add (n * 4)).off + 1, none⟩ = some (.int .i64 z.e.f1)) (hS := ⟨(show wr.drew.cell? _ = _ from hd0), (show wr.drew.cell? _ = _ from hd1)⟩) (h := fun hHeld => ?_)
            refine p_ 0 55 (bb 18 1) (h := ?_)
            refine p_ 1 56 (bb 18 3) (h := ?_)
            refine p_ 2 57 (bb 18 7) (h := ?_)
            refine p_ 3 58 (bb 18 15) (h := ?_)
            refine p_ 4 59 (bb 18 31) (h := ?_)
            refine t_ 5 60 (bb 18 63) hHeld (h := ?_)
            refine p_ 6 61 (bb 18 127) (h := ?_)
            refine p_ 7 62 (bb 18 255) (h := ?_)
            refine p_ 8 63 (bb 18 511) (h := ?_)
            refine p_ 9 64 (bb 18 1023) (h := ?_)
            refine t_ 10 65 (bb 18 2047) hHeld (h := ?_)
            refine join_ (σ := Option Addr × Nat × Option Addr × Nat × Nat) 2 (bb 18 65535) (fun s => [(66, .tuple #[.agg #[.slice s.1 (getN T z.e.f0 z.e.f1).1.f0.length s.2.1, .int .i64 (getN T z.e.f0 z.e.f1).1.f1, .bool (getN T z.e.f0 z.e.f1).1.f2, .slice s.2.2.1 (getN T z.e.f0 z.e.f1).1.f3.length s.2.2.2.1], .bool (getN T z.e.f0 z.e.f1).2]), (54, .tuple #[.agg #[.slice s.1 (getN T z.e.f0 z.e.f1).1.f0.length s.2.1, .int .i64 (getN T z.e.f0 z.e.f1).1.f1, .bool (getN T z.e.f0 z.e.f1).1.f2, .slice s.2.2.1 (getN T z.e.f0 z.e.f1).1.f3.length s.2.2.2.1], .bool (getN T z.e.f0 z.e.f1).2]), (67, .agg #[.slice s.1 (getN T z.e.f0 z.e.f1).1.f0.length s.2.1, .int .i64 (getN T z.e.f0 z.e.f1).1.f1, .bool (getN T z.e.f0 z.e.f1).1.f2, .slice s.2.2.1 (getN T z.e.f0 z.e.f1).1.f3.length s.2.2.2.1]), (68, .bool (getN T z.e.f0 z.e.f1).2), (13, .pointer (some ⟨s.2.2.2.2, 0, none⟩))]) (fun (s : Option Addr × Nat × Option Addr × Nat × Nat) (w' : World) => ((getN T z.e.f0 z.e.f1).1.f0.length ≤ s.2.1 ∧ Kd.F (Kd.int .u8) w' (fun k => k ≠ s.2.2.2.2) s.1 (getN T z.e.f0 z.e.f1).1.f0.length (getN T z.e.f0 z.e.f1).1.f0 ∧ (getN T z.e.f0 z.e.f1).1.f3.length ≤ s.2.2.2.1 ∧ Kd.F (Kd.int .u8) w' (fun k => k ≠ s.2.2.2.2) s.2.2.1 (getN T z.e.f0 z.e.f1).1.f3.length (getN T z.e.f0 z.e.f1).1.f3) ∧ w'.heap[s.2.2.2.2]? = some (.cells #[.slice none 0 0, .int .i64 0, .bool false, .slice none 0 0] 34 (0, 0)) ∧ wr.drew.heap.size ≤ s.2.2.2.2 ∧ Below wr.drew.heap.size wr.drew w') ?_ (fun hcont => ?_)
            rotate_left
            · refine two_ (i := 11) (j := 15) (Ni := some 66) (Nj := some 13) (bb 18 4095) (bb 18 34815) rfl rfl rfl rfl (by kernel_rfl) (by decide) (by decide) (fun K hK => ?_) (fun K hK => ?_)
              · refine goes_ Try.func20 (by kernel_rfl) rfl #[.pointer (some ⟨g, 0, none⟩), .slice B0 z.e.f0.length b0, .int .i64 z.e.f1] (by rfl) rfl rfl (by (try simp only [List.map_toArray, List.map_cons, List.map_nil]); first | done | rfl) ?_
                refine (s1_get (HSr.out.below (below_step (below_drew (Below.refl _ _)) (Below.refl _ _))) HT.out B0 b0 z.e.f0 z.e.f1 (Kd.C_below (K34_C (Kd.FK_now HFZ.out)).2.1 (below_step (below_drew (Below.refl _ _)) (Below.refl _ _))) (K34_C (Kd.FK_now HFZ.out)).1 HZG.out.1).mono ?_
                rintro ex wc ⟨v0, v3, rfl, hvc, hbc⟩
                refine ⟨_, rfl, ?_⟩
                obtain ⟨⟨P0, p0, rfl, hl0, hF0⟩, ⟨P3, p3, rfl, hl3, hF3⟩⟩ := hvc
                have hl0 := Aside0.mk hl0
                have hF0 := Aside0.mk hF0
                have hl3 := Aside0.mk hl3
                have hF3 := Aside0.mk hF3
                have hbc := Aside0.mk hbc
                refine hK.out _ _ ⟨pw_cell_below (hbc.out) hHeld.1, pw_cell_below (hbc.out) hHeld.2⟩ (fun hHeld => ?_)
                clear hK K
                refine m_ 66 (h := ?_)
                refine p_ 12 54 (bb 18 8191) (h := ?_)
                refine p_ 13 67 (bb 18 16383) (h := ?_)
                refine p_ 14 68 (bb 18 32767) (h := ?_)
                refine n_ 15 13 (bb 18 65535) (h := fun K hK => ?_)
                refine alloc_step (N := 13) (cs := #[.slice none 0 0, .int .i64 0, .bool false, .slice none 0 0]) (t := 34) (by rfl) rfl ?hr ?_
                case hr => first | (go_simp; done) | (go_simp; rfl)
                intro ga hqa wa hxa hba
                have hqa := Aside0.mk hqa
                have hxa := Aside0.mk hxa
                have hba := Aside0.mk hba
                refine hK.out _ _ ⟨pw_cell_below (hba.out) hHeld.1, pw_cell_below (hba.out) hHeld.2⟩ (fun hHeld => ?_)
                clear hK K
                refine m_ 13 (h := ?_)
                refine norm_ ?_ (hcont (P0, p0, P3, p3, ga) _ ⟨⟨hl0.out, Kd.F_mono (Kd.F_below (Kd.F_bound hF0.out) hba.out) (fun k hk => by have := hqa.out; have := hk.2; show k ≠ ga; omega), hl3.out, Kd.F_mono (Kd.F_below (Kd.F_bound hF3.out) hba.out) (fun k hk => by have := hqa.out; have := hk.2; show k ≠ ga; omega)⟩, hxa.out, by have := hqa.out; have := hbc.out.size; show _ ≤ ga; omega, below_step hbc.out hba.out⟩)
                show _ = putAll _ [(66, .tuple #[.agg #[.slice P0 (getN T z.e.f0 z.e.f1).1.f0.length p0, .int .i64 (getN T z.e.f0 z.e.f1).1.f1, .bool (getN T z.e.f0 z.e.f1).1.f2, .slice P3 (getN T z.e.f0 z.e.f1).1.f3.length p3], .bool (getN T z.e.f0 z.e.f1).2]), (54, .tuple #[.agg #[.slice P0 (getN T z.e.f0 z.e.f1).1.f0.length p0, .int .i64 (getN T z.e.f0 z.e.f1).1.f1, .bool (getN T z.e.f0 z.e.f1).1.f2, .slice P3 (getN T z.e.f0 z.e.f1).1.f3.length p3], .bool (getN T z.e.f0 z.e.f1).2]), (67, .agg #[.slice P0 (getN T z.e.f0 z.e.f1).1.f0.length p0, .int .i64 (getN T z.e.f0 z.e.f1).1.f1, .bool (getN T z.e.f0 z.e.f1).1.f2, .slice P3 (getN T z.e.f0 z.e.f1).1.f3.length p3]), (68, .bool (getN T z.e.f0 z.e.f1).2), (13, .pointer (some ⟨ga, 0, none⟩))]
                simp only [putAll, Act.put, List.setIfInBounds_toArray, List.set_cons_zero, List.set_cons_succ]

              · refine alloc_step (N := 13) (cs := #[.slice none 0 0, .int .i64 0, .bool false, .slice none 0 0]) (t := 34) (by rfl) rfl ?hr ?_
                case hr => first | (go_simp; done) | (go_simp; rfl)
                intro ga hqa wa hxa hba
                have hqa := Aside0.mk hqa
                have hxa := Aside0.mk hxa
                have hba := Aside0.mk hba
                refine hK.out _ _ ⟨pw_cell_below (hba.out) hHeld.1, pw_cell_below (hba.out) hHeld.2⟩ (fun hHeld => ?_)
                clear hK K
                refine m_ 13 (h := ?_)
                refine n_ 11 66 (bb 18 36863) (h := fun K hK => ?_)
                refine goes_ Try.func20 (by kernel_rfl) rfl #[.pointer (some ⟨g, 0, none⟩), .slice B0 z.e.f0.length b0, .int .i64 z.e.f1] (by rfl) rfl rfl (by (try simp only [List.map_toArray, List.map_cons, List.map_nil]); first | done | rfl) ?_
                refine (s1_get (HSr.out.below (below_step (below_drew (Below.refl _ _)) hba.out)) HT.out B0 b0 z.e.f0 z.e.f1 (Kd.C_below (K34_C (Kd.FK_now HFZ.out)).2.1 (below_step (below_drew (Below.refl _ _)) hba.out)) (K34_C (Kd.FK_now HFZ.out)).1 HZG.out.1).mono ?_
                rintro ex wc ⟨v0, v3, rfl, hvc, hbc⟩
                refine ⟨_, rfl, ?_⟩
                obtain ⟨⟨P0, p0, rfl, hl0, hF0⟩, ⟨P3, p3, rfl, hl3, hF3⟩⟩ := hvc
                have hl0 := Aside0.mk hl0
                have hF0 := Aside0.mk hF0
                have hl3 := Aside0.mk hl3
                have hF3 := Aside0.mk hF3
                have hbc := Aside0.mk hbc
                refine hK.out _ _ ⟨pw_cell_below (hbc.out) hHeld.1, pw_cell_below (hbc.out) hHeld.2⟩ (fun hHeld => ?_)
                clear hK K
                refine m_ 66 (h := ?_)
                refine p_ 12 54 (bb 18 40959) (h := ?_)
                refine p_ 13 67 (bb 18 49151) (h := ?_)
                refine p_ 14 68 (bb 18 65535) (h := ?_)
                refine norm_ ?_ (hcont (P0, p0, P3, p3, ga) _ ⟨⟨hl0.out, Kd.F_mono hF0.out (fun k hk => by have := blk_lt hxa.out; have h2 : wa.heap.size ≤ k := hk; show k ≠ ga; omega), hl3.out, Kd.F_mono hF3.out (fun k hk => by have := blk_lt hxa.out; have h2 : wa.heap.size ≤ k := hk; show k ≠ ga; omega)⟩, blk_below hxa.out hbc.out, by have := hqa.out; show _ ≤ ga; omega, below_step hba.out hbc.out⟩)
                show _ = putAll _ [(66, .tuple #[.agg #[.slice P0 (getN T z.e.f0 z.e.f1).1.f0.length p0, .int .i64 (getN T z.e.f0 z.e.f1).1.f1, .bool (getN T z.e.f0 z.e.f1).1.f2, .slice P3 (getN T z.e.f0 z.e.f1).1.f3.length p3], .bool (getN T z.e.f0 z.e.f1).2]), (54, .tuple #[.agg #[.slice P0 (getN T z.e.f0 z.e.f1).1.f0.length p0, .int .i64 (getN T z.e.f0 z.e.f1).1.f1, .bool (getN T z.e.f0 z.e.f1).1.f2, .slice P3 (getN T z.e.f0 z.e.f1).1.f3.length p3], .bool (getN T z.e.f0 z.e.f1).2]), (67, .agg #[.slice P0 (getN T z.e.f0 z.e.f1).1.f0.length p0, .int .i64 (getN T z.e.f0 z.e.f1).1.f1, .bool (getN T z.e.f0 z.e.f1).1.f2, .slice P3 (getN T z.e.f0 z.e.f1).1.f3.length p3]), (68, .bool (getN T z.e.f0 z.e.f1).2), (13, .pointer (some ⟨ga, 0, none⟩))]
                simp only [putAll, Act.put, List.setIfInBounds_toArray, List.set_cons_zero, List.set_cons_succ]

            rintro ⟨P0, p0, P3, p3, ga⟩ wc ⟨⟨hl0, hF0, hl3, hF3⟩, hxa, hga, hbc⟩
            have HL0 := Aside0.mk (show (getN T z.e.f0 z.e.f1).1.f0.length ≤ p0 from hl0)
            have HF0 := Aside0.mk (show Kd.F (Kd.int .u8) wc (fun k => k ≠ ga) P0 (getN T z.e.f0 z.e.f1).1.f0.length (getN T z.e.f0 z.e.f1).1.f0 from hF0)
            have HL3 := Aside0.mk (show (getN T z.e.f0 z.e.f1).1.f3.length ≤ p3 from hl3)
            have HF3 := Aside0.mk (show Kd.F (Kd.int .u8) wc (fun k => k ≠ ga) P3 (getN T z.e.f0 z.e.f1).1.f3.length (getN T z.e.f0 z.e.f1).1.f3 from hF3)
            have HXA := Aside0.mk (show wc.heap[ga]? = _ from hxa)
            have HGA := Aside0.mk (show wr.drew.heap.size ≤ ga from hga)
            have HBC := Aside0.mk hbc
            clear hl0 hF0 hl3 hF3 hxa hga hbc
            have hHeld := Aside0.mk (show (wc.cell? (ad.add (n * 4)) = some (.slice B0 z.e.f0.length b0) ∧ wc.cell? ⟨(ad.add (n * 4)).block, (ad.add (n * 4)).off + 1, none⟩ = some (.int .i64 z.e.f1)) ∧ True from ⟨⟨pw_cell_below (HBC.out) hHeld.1, pw_cell_below (HBC.out) hHeld.2⟩, trivial⟩)
            replace hHeld := hHeld.out.1
            refine norm_ (a' := ?_) ?_ ?_
            rotate_left
            · show putAll _ [(66, .tuple #[.agg #[.slice P0 (getN T z.e.f0 z.e.f1).1.f0.length p0, .int .i64 (getN T z.e.f0 z.e.f1).1.f1, .bool (getN T z.e.f0 z.e.f1).1.f2, .slice P3 (getN T z.e.f0 z.e.f1).1.f3.length p3], .bool (getN T z.e.f0 z.e.f1).2]), (54, .tuple #[.agg #[.slice P0 (getN T z.e.f0 z.e.f1).1.f0.length p0, .int .i64 (getN T z.e.f0 z.e.f1).1.f1, .bool (getN T z.e.f0 z.e.f1).1.f2, .slice P3 (getN T z.e.f0 z.e.f1).1.f3.length p3], .bool (getN T z.e.f0 z.e.f1).2]), (67, .agg #[.slice P0 (getN T z.e.f0 z.e.f1).1.f0.length p0, .int .i64 (getN T z.e.f0 z.e.f1).1.f1, .bool (getN T z.e.f0 z.e.f1).1.f2, .slice P3 (getN T z.e.f0 z.e.f1).1.f3.length p3]), (68, .bool (getN T z.e.f0 z.e.f1).2), (13, .pointer (some ⟨ga, 0, none⟩))] = _
              simp only [putAll, Act.put, List.setIfInBounds_toArray, List.set_cons_zero, List.set_cons_succ]
              rfl
            have hcy0 : wc.cell? ⟨ga, 0, none⟩ = some (.slice none 0 0) := (blk_cell HXA.out 0).trans rfl
            have hcy1 : wc.cell? ⟨ga, 1, none⟩ = some (.int .i64 0) := (blk_cell HXA.out 1).trans rfl
            have hcy2 : wc.cell? ⟨ga, 2, none⟩ = some (.bool false) := (blk_cell HXA.out 2).trans rfl
            have hcy3 : wc.cell? ⟨ga, 3, none⟩ = some (.slice none 0 0) := (blk_cell HXA.out 3).trans rfl
            have hfy0 : wc.frozen? ⟨ga, 0, none⟩ = false := blk_frozen HXA.out 0
            have hfy1 : wc.frozen? ⟨ga, 1, none⟩ = false := blk_frozen HXA.out 1
            have hfy2 : wc.frozen? ⟨ga, 2, none⟩ = false := blk_frozen HXA.out 2
            have hfy3 : wc.frozen? ⟨ga, 3, none⟩ = false := blk_frozen HXA.out 3
            refine l_ 16 (bb 18 131071) (h := ?_)
            clear hcy0 hcy1 hcy2 hcy3 hfy0 hfy1 hfy2 hfy3 hHeld
            have X4 := Aside0.mk (sets4 (a := .slice P0 (getN T z.e.f0 z.e.f1).1.f0.length p0) (b := .int .i64 (getN T z.e.f0 z.e.f1).1.f1) (c := .bool (getN T z.e.f0 z.e.f1).1.f2) (d := .slice P3 (getN T z.e.f0 z.e.f1).1.f3.length p3) HXA.out)
            have B4 := Aside0.mk (show Below wr.drew.heap.size wr.drew ((((wc.setCell ⟨ga, 0, none⟩ (.slice P0 (getN T z.e.f0 z.e.f1).1.f0.length p0)).setCell ⟨ga, 1, none⟩ (.int .i64 (getN T z.e.f0 z.e.f1).1.f1)).setCell ⟨ga, 2, none⟩ (.bool (getN T z.e.f0 z.e.f1).1.f2)).setCell ⟨ga, 3, none⟩ (.slice P3 (getN T z.e.f0 z.e.f1).1.f3.length p3)) from below_set (below_set (below_set (below_set HBC.out HGA.out) HGA.out) HGA.out) HGA.out)
            have HG0 := Aside0.mk (f_far4 HF0.out (fun k hk => hk) (.slice P0 (getN T z.e.f0 z.e.f1).1.f0.length p0) (.int .i64 (getN T z.e.f0 z.e.f1).1.f1) (.bool (getN T z.e.f0 z.e.f1).1.f2) (.slice P3 (getN T z.e.f0 z.e.f1).1.f3.length p3))
            have HG3 := Aside0.mk (f_far4 HF3.out (fun k hk => hk) (.slice P0 (getN T z.e.f0 z.e.f1).1.f0.length p0) (.int .i64 (getN T z.e.f0 z.e.f1).1.f1) (.bool (getN T z.e.f0 z.e.f1).1.f2) (.slice P3 (getN T z.e.f0 z.e.f1).1.f3.length p3))
            generalize ((((wc.setCell ⟨ga, 0, none⟩ (.slice P0 (getN T z.e.f0 z.e.f1).1.f0.length p0)).setCell ⟨ga, 1, none⟩ (.int .i64 (getN T z.e.f0 z.e.f1).1.f1)).setCell ⟨ga, 2, none⟩ (.bool (getN T z.e.f0 z.e.f1).1.f2)).setCell ⟨ga, 3, none⟩ (.slice P3 (getN T z.e.f0 z.e.f1).1.f3.length p3)) = w4 at X4 B4 HG0 HG3 ⊢
            clear HF0 HF3 HXA HGA HBC
            refine p_ 17 14 (bb 18 262143) (h := ?_)
            refine d_ (h := ?_)

            have HGV := Aside0.mk (get_self HT.out HZ.out)
            rw [HGV.out] at X4 HL0 HG0 HL3 HG3 ⊢
            have X4 := Aside0.mk (show w4.heap[ga]? = some (.cells #[.slice P0 z.e.f0.length p0, .int .i64 z.e.f1, .bool z.e.f2, .slice P3 z.e.f3.length p3] 34 (0, 0)) from X4.out)
            have HL0 := Aside0.mk (show z.e.f0.length ≤ p0 from HL0.out)
            have HG0 := Aside0.mk (show Kd.F (Kd.int .u8) w4 (fun k => k ≠ ga) P0 z.e.f0.length z.e.f0 from HG0.out)
            have HL3 := Aside0.mk (show z.e.f3.length ≤ p3 from HL3.out)
            have HG3 := Aside0.mk (show Kd.F (Kd.int .u8) w4 (fun k => k ≠ ga) P3 z.e.f3.length z.e.f3 from HG3.out)
            have B5 := Aside0.mk (below_drew (below_step (below_drew (Below.refl _ wr)) B4.out))
            go_wp2
            refine s_ 11 [] (fun w' => w'.cell? ⟨ga, 0, none⟩ = some (.slice P0 z.e.f0.length p0) ∧ w'.cell? ⟨ga, 1, none⟩ = some (.int .i64 z.e.f1) ∧ w'.cell? ⟨ga, 2, none⟩ = some (.bool z.e.f2) ∧ w'.cell? ⟨ga, 3, none⟩ = some (.slice P3 z.e.f3.length p3) ∧ w'.cell? (ad.add (n * 4)) = some (.slice B0 z.e.f0.length b0) ∧ w'.cell? ⟨(ad.add (n * 4)).block, (ad.add (n * 4)).off + 1, none⟩ = some (.int .i64 z.e.f1) ∧ w'.cell? ⟨(ad.add (n * 4)).block, (ad.add (n * 4)).off + 2, none⟩ = some (.bool z.e.f2) ∧ w'.cell? ⟨(ad.add (n * 4)).block, (ad.add (n * 4)).off + 3, none⟩ = some (.slice B3 z.e.f3.length b3)) (hS := ⟨(blk_cell (blk_drew X4.out) 0).trans rfl, (blk_cell (blk_drew X4.out) 1).trans rfl, (blk_cell (blk_drew X4.out) 2).trans rfl, (blk_cell (blk_drew X4.out) 3).trans rfl, pw_cell_below B5.out HD.out.1, pw_cell_below B5.out HD.out.2.1, pw_cell_below B5.out HD.out.2.2.1, pw_cell_below B5.out HD.out.2.2.2⟩) (h := fun hHeld => ?_)
            refine p_ 0 69 (bb 11 1) (h := ?_)
            refine p_ 1 70 (bb 11 3) (h := ?_)
            refine p_ 2 71 (bb 11 7) (h := ?_)
            refine t_ 3 72 (bb 11 15) hHeld (h := ?_)
            refine p_ 4 73 (bb 11 31) (h := ?_)
            refine p_ 5 74 (bb 11 63) (h := ?_)
            refine p_ 6 75 (bb 11 127) (h := ?_)
            refine t_ 7 76 (bb 11 255) hHeld (h := ?_)
            refine n_ 8 77 (bb 11 511) (h := fun K hK => ?_)
            refine goes_ Try.func24 (by kernel_rfl) rfl #[.agg #[.slice P0 z.e.f0.length p0, .int .i64 z.e.f1, .bool z.e.f2, .slice P3 z.e.f3.length p3], .agg #[.slice B0 z.e.f0.length b0, .int .i64 z.e.f1, .bool z.e.f2, .slice B3 z.e.f3.length b3]] (by rfl) rfl rfl (by (try simp only [List.map_toArray, List.map_cons, List.map_nil]); first | done | rfl) ?_
            refine (sameOneC HZG.out HZG.out (Kd.C_drew (Kd.F_now HG0.out)) HL0.out (Kd.C_drew (Kd.F_now HG3.out)) HL3.out (Kd.C_below (K34_C (Kd.FK_now HFZ.out)).2.1 B5.out) (K34_C (Kd.FK_now HFZ.out)).1 (Kd.C_below (K34_C (Kd.FK_now HFZ.out)).2.2.2 B5.out) (K34_C (Kd.FK_now HFZ.out)).2.2.1).mono ?_
            rintro ex w6 ⟨rfl, hb6⟩
            refine ⟨_, rfl, ?_⟩
            rw [show decide (z.e.f0 = z.e.f0 ∧ z.e.f1 = z.e.f1 ∧ z.e.f2 = z.e.f2 ∧ z.e.f3 = z.e.f3) = true from decide_eq_true ⟨rfl, rfl, rfl, rfl⟩]
            have hb6 := Aside0.mk hb6
            refine hK.out _ _ ⟨pw_cell_below hb6.out hHeld.1, pw_cell_below hb6.out hHeld.2.1, pw_cell_below hb6.out hHeld.2.2.1, pw_cell_below hb6.out hHeld.2.2.2.1, pw_cell_below hb6.out hHeld.2.2.2.2.1, pw_cell_below hb6.out hHeld.2.2.2.2.2.1, pw_cell_below hb6.out hHeld.2.2.2.2.2.2.1, pw_cell_below hb6.out hHeld.2.2.2.2.2.2.2⟩ (fun hHeld => ?_)
            clear hK K
            refine m_ 77 (h := ?_)
            refine p_ 9 78 (bb 11 1023) (h := ?_)
            refine p_ 10 79 (bb 11 2047) (h := ?_)
            refine d_ (h := ?_)

            clear hHeld
            have B7 := Aside0.mk (below_drew (below_step B5.out hb6.out))
            go_wp2

            by_cases hn0 : n = 0
            · have hg1 : decide ((n : Int) > 0) = false := decide_eq_false (by omega)
              have hg2 : (0 < n) = False := eq_false (by omega)
              clear hn0
              refine s_ 18 [] (fun w' => w'.heap.size = w'.heap.size) (hS := (rfl)) (h := fun hHeld => ?_)
              refine p_ 0 80 (bb 18 1) (h := ?_)
              refine p_ 1 81 (bb 18 3) (h := ?_)
              refine p_ 2 82 (bb 18 7) (h := ?_)
              refine o_ 3 83 (bb 18 15) (h := ?_)
              refine o_ 4 84 (bb 18 31) (h := ?_)
              refine o_ 5 85 (bb 18 63) (h := ?_)
              refine o_ 6 86 (bb 18 127) (h := ?_)
              refine o_ 7 87 (bb 18 255) (h := ?_)
              refine o_ 8 88 (bb 18 511) (h := ?_)
              refine o_ 9 89 (bb 18 1023) (h := ?_)
              refine o_ 10 90 (bb 18 2047) (h := ?_)
              refine o_ 11 91 (bb 18 4095) (h := ?_)
              refine o_ 12 92 (bb 18 8191) (h := ?_)
              refine o_ 13 93 (bb 18 16383) (h := ?_)
              refine o_ 14 94 (bb 18 32767) (h := ?_)
              refine o_ 15 95 (bb 18 65535) (h := ?_)
              refine o_ 16 96 (bb 18 131071) (h := ?_)
              refine p_ 17 97 (bb 18 262143) (h := ?_)
              refine d_ (h := ?_)
              clear hHeld
              go_wp2
              refine s_ 17 [] (fun w' => w'.heap.size = w'.heap.size) (hS := (rfl)) (h := fun hHeld => ?_)
              refine p_ 0 140 (bb 17 1) (h := ?_)
              refine p_ 1 141 (bb 17 3) (h := ?_)
              refine p_ 2 142 (bb 17 7) (h := ?_)
              refine o_ 3 143 (bb 17 15) (h := ?_)
              refine o_ 4 144 (bb 17 31) (h := ?_)
              refine o_ 5 145 (bb 17 63) (h := ?_)
              refine o_ 6 146 (bb 17 127) (h := ?_)
              refine o_ 7 147 (bb 17 255) (h := ?_)
              refine o_ 8 148 (bb 17 511) (h := ?_)
              refine o_ 9 149 (bb 17 1023) (h := ?_)
              refine o_ 10 150 (bb 17 2047) (h := ?_)
              refine o_ 11 151 (bb 17 4095) (h := ?_)
              refine o_ 12 152 (bb 17 8191) (h := ?_)
              refine o_ 13 153 (bb 17 16383) (h := ?_)
              refine n_ 14 154 (bb 17 32767) (h := fun K hK => ?_)
              refine off_ (by rfl) ?_
              refine hK.out _ _ hHeld (fun hHeld => ?_)
              clear hK K
              refine m_ 154 (h := ?_)
              refine o_ 15 155 (bb 17 65535) (h := ?_)
              refine p_ 16 156 (bb 17 131071) (h := ?_)
              refine d_ (h := ?_)
              clear hHeld
              go_wp2
              go_roundg k1
              case measure => exact Nat.lt_succ_self _
              case rel => exact ⟨n + 1, by first | rfl | rw [HW.out], ⟨by have h1 := HK.out; omega⟩, ⟨below_step HBr.out (below_drew B7.out)⟩⟩

            · have hnl := HNL.out
              obtain ⟨m, hm⟩ : ∃ m, n = m + 1 := ⟨n - 1, by omega⟩
              have hml : m < T.length := by omega
              obtain ⟨u, hu⟩ : ∃ u, T[m]? = some u := ⟨_, List.getElem?_eq_getElem hml⟩
              have hue : (T.map (fun t => t.e))[m]? = some u.e := by rw [List.getElem?_map, hu]; rfl
              obtain ⟨C0, c0, C3, c3, hc0_, hc1_, hc2_, hc3_, hFU⟩ := at_N34 HNr.out m u.e hue
              have HU := Aside0.mk (And.intro hc0_ hc1_)
              have HFU := Aside0.mk hFU
              have HUA := Aside0.mk hu
              have HUG := Aside0.mk (HT.out.ok u (List.mem_of_getElem? hu)).2.1
              have HM := Aside0.mk hm
              have hmt : (m < T.length) = True := eq_true hml
              have hwm : wrap64 ((n : Int) - 1) = (m : Int) := by rw [wrap_in (by omega) (by have := HTL.out; omega)]; omega
              have hg1 : decide ((n : Int) > 0) = true := decide_eq_true (by omega)
              have hg2 : (0 < n) = True := eq_true (by omega)
              have hse := str_eq HUG.out.1 HZG.out.1
              clear hc0_ hc1_ hc2_ hc3_ hFU hu hue hm hml
              by_cases hke : u.e.f0 = z.e.f0
              · have HKE := Aside0.mk hke
                have hkd : decide (u.e.f0 = z.e.f0) = true := decide_eq_true hke
                rw [hkd] at hse
                clear hke hkd hn0 hnl
                refine s_ 18 [] (fun w' => w'.cell? (ad.add (m * 4)) = some (.slice C0 u.e.f0.length c0) ∧ w'.cell? (ad.add (n * 4)) = some (.slice B0 z.e.f0.length b0) ∧ Kd.C (Kd.int .u8) w' C0 u.e.f0.length u.e.f0 ∧ Kd.C (Kd.int .u8) w' B0 z.e.f0.length z.e.f0) (hS := ⟨pw_cell_below B7.out HU.out.1, pw_cell_below B7.out HD.out.1, Kd.C_below (K34_C (Kd.FK_now HFU.out)).2.1 B7.out, Kd.C_below (K34_C (Kd.FK_now HFZ.out)).2.1 B7.out⟩) (h := fun hHeld => ?_)
                refine p_ 0 80 (bb 18 1) (h := ?_)
                refine p_ 1 81 (bb 18 3) (h := ?_)
                refine p_ 2 82 (bb 18 7) (h := ?_)
                refine p_ 3 83 (bb 18 15) (h := ?_)
                refine p_ 4 84 (bb 18 31) (h := ?_)
                refine p_ 5 85 (bb 18 63) (h := ?_)
                refine p_ 6 86 (bb 18 127) (h := ?_)
                refine p_ 7 87 (bb 18 255) (h := ?_)
                refine t_ 8 88 (bb 18 511) hHeld (h := ?_)
                refine t_ 9 89 (bb 18 1023) hHeld (hy := by (rintro w' ⟨s0, s1, s2, s3⟩; have hcv := Kd.C_string (P := Try.prog) (A := C0) (c := c0) Try.underlying32 Try.underlying5 Try.underlying9 s2; go_simp; with_reducible rfl)) (h := ?_)
                refine p_ 10 90 (bb 18 2047) (h := ?_)
                refine p_ 11 91 (bb 18 4095) (h := ?_)
                refine p_ 12 92 (bb 18 8191) (h := ?_)
                refine p_ 13 93 (bb 18 16383) (h := ?_)
                refine t_ 14 94 (bb 18 32767) hHeld (h := ?_)
                refine t_ 15 95 (bb 18 65535) hHeld (hy := by (rintro w' ⟨s0, s1, s2, s3⟩; have hcv := Kd.C_string (P := Try.prog) (A := B0) (c := b0) Try.underlying32 Try.underlying5 Try.underlying9 s3; go_simp; with_reducible rfl)) (h := ?_)
                refine p_ 16 96 (bb 18 131071) (h := ?_)
                refine p_ 17 97 (bb 18 262143) (h := ?_)
                refine d_ (h := ?_)
                clear hHeld
                have B8 := Aside0.mk (below_drew B7.out)
                have HGP := Aside0.mk (get_prev HT.out HUA.out (by have h1 := HM.out; subst h1; exact HZ.out) HKE.out)
                have HUL := Aside0.mk (okE_iff.1 (HT.out.ok u (List.mem_of_getElem? HUA.out)).1)
                have HWS := Aside0.mk (show wrap64 (u.e.f1 - 1) = u.e.f1 - 1 from wrap_in (by have h1 := HUL.out.2.2.1; omega) (by have h1 := HUL.out.2.2.2.1; omega))
                go_wp2
                clear hse
                generalize hw7d : w6.drew = w7d at B7 B8 ⊢
                clear hw7d
                refine s_ 20 [18] (fun w' => w'.cell? (ad.add (n * 4)) = some (.slice B0 z.e.f0.length b0) ∧ w'.cell? ⟨(ad.add (m * 4)).block, (ad.add (m * 4)).off + 1, none⟩ = some (.int .i64 u.e.f1)) (hS := ⟨pw_cell_below B8.out HD.out.1, pw_cell_below B8.out HU.out.2⟩) (h := fun hHeld => ?_)
                generalize w7d.drew = w8 at B8 hHeld ⊢
                refine p_ 0 99 (bb 20 1) (h := ?_)
                refine p_ 1 100 (bb 20 3) (h := ?_)
                refine p_ 2 101 (bb 20 7) (h := ?_)
                refine p_ 3 102 (bb 20 15) (h := ?_)
                refine p_ 4 103 (bb 20 31) (h := ?_)
                refine t_ 5 104 (bb 20 63) hHeld (h := ?_)
                refine p_ 6 105 (bb 20 127) (h := ?_)
                refine p_ 7 106 (bb 20 255) (h := ?_)
                refine p_ 8 107 (bb 20 511) (h := ?_)
                refine p_ 9 108 (bb 20 1023) (h := ?_)
                refine p_ 10 109 (bb 20 2047) (h := ?_)
                refine t_ 11 110 (bb 20 4095) hHeld (h := ?_)
                refine p_ 12 111 (bb 20 8191) (h := ?_)
                refine join_ (σ := Option Addr × Nat × Option Addr × Nat × Nat) 2 (bb 20 262143) (fun s => [(112, .tuple #[.agg #[.slice s.1 (getN T z.e.f0 (wrap64 (u.e.f1 - 1))).1.f0.length s.2.1, .int .i64 (getN T z.e.f0 (wrap64 (u.e.f1 - 1))).1.f1, .bool (getN T z.e.f0 (wrap64 (u.e.f1 - 1))).1.f2, .slice s.2.2.1 (getN T z.e.f0 (wrap64 (u.e.f1 - 1))).1.f3.length s.2.2.2.1], .bool (getN T z.e.f0 (wrap64 (u.e.f1 - 1))).2]), (98, .tuple #[.agg #[.slice s.1 (getN T z.e.f0 (wrap64 (u.e.f1 - 1))).1.f0.length s.2.1, .int .i64 (getN T z.e.f0 (wrap64 (u.e.f1 - 1))).1.f1, .bool (getN T z.e.f0 (wrap64 (u.e.f1 - 1))).1.f2, .slice s.2.2.1 (getN T z.e.f0 (wrap64 (u.e.f1 - 1))).1.f3.length s.2.2.2.1], .bool (getN T z.e.f0 (wrap64 (u.e.f1 - 1))).2]), (113, .agg #[.slice s.1 (getN T z.e.f0 (wrap64 (u.e.f1 - 1))).1.f0.length s.2.1, .int .i64 (getN T z.e.f0 (wrap64 (u.e.f1 - 1))).1.f1, .bool (getN T z.e.f0 (wrap64 (u.e.f1 - 1))).1.f2, .slice s.2.2.1 (getN T z.e.f0 (wrap64 (u.e.f1 - 1))).1.f3.length s.2.2.2.1]), (114, .bool (getN T z.e.f0 (wrap64 (u.e.f1 - 1))).2), (15, .pointer (some ⟨s.2.2.2.2, 0, none⟩))]) (fun (s : Option Addr × Nat × Option Addr × Nat × Nat) (w' : World) => ((getN T z.e.f0 (wrap64 (u.e.f1 - 1))).1.f0.length ≤ s.2.1 ∧ Kd.F (Kd.int .u8) w' (fun k => k ≠ s.2.2.2.2) s.1 (getN T z.e.f0 (wrap64 (u.e.f1 - 1))).1.f0.length (getN T z.e.f0 (wrap64 (u.e.f1 - 1))).1.f0 ∧ (getN T z.e.f0 (wrap64 (u.e.f1 - 1))).1.f3.length ≤ s.2.2.2.1 ∧ Kd.F (Kd.int .u8) w' (fun k => k ≠ s.2.2.2.2) s.2.2.1 (getN T z.e.f0 (wrap64 (u.e.f1 - 1))).1.f3.length (getN T z.e.f0 (wrap64 (u.e.f1 - 1))).1.f3) ∧ w'.heap[s.2.2.2.2]? = some (.cells #[.slice none 0 0, .int .i64 0, .bool false, .slice none 0 0] 34 (0, 0)) ∧ w8.heap.size ≤ s.2.2.2.2 ∧ Below w8.heap.size w8 w') ?_ (fun hcont => ?_)
                rotate_left
                · refine two_ (i := 13) (j := 17) (Ni := some 112) (Nj := some 15) (bb 20 16383) (bb 20 139263) rfl rfl rfl rfl (by kernel_rfl) (by decide) (by decide) (fun K hK => ?_) (fun K hK => ?_)
                  · refine goes_ Try.func20 (by kernel_rfl) rfl #[.pointer (some ⟨g, 0, none⟩), .slice B0 z.e.f0.length b0, .int .i64 (wrap64 (u.e.f1 - 1))] (by rfl) rfl rfl (by (try simp only [List.map_toArray, List.map_cons, List.map_nil]); first | done | rfl) ?_
                    refine (s1_get (HSr.out.below (below_step B8.out (Below.refl _ _))) HT.out B0 b0 z.e.f0 (wrap64 (u.e.f1 - 1)) (Kd.C_below (K34_C (Kd.FK_now HFZ.out)).2.1 (below_step B8.out (Below.refl _ _))) (K34_C (Kd.FK_now HFZ.out)).1 HZG.out.1).mono ?_
                    rintro ex wc ⟨v0, v3, rfl, hvc, hbc⟩
                    refine ⟨_, rfl, ?_⟩
                    obtain ⟨⟨P0, p0, rfl, hl0, hF0⟩, ⟨P3, p3, rfl, hl3, hF3⟩⟩ := hvc
                    have hl0 := Aside0.mk hl0
                    have hF0 := Aside0.mk hF0
                    have hl3 := Aside0.mk hl3
                    have hF3 := Aside0.mk hF3
                    have hbc := Aside0.mk hbc
                    refine hK.out _ _ ⟨pw_cell_below (hbc.out) hHeld.1, pw_cell_below (hbc.out) hHeld.2⟩ (fun hHeld => ?_)
                    clear hK K
                    refine m_ 112 (h := ?_)
                    refine p_ 14 98 (bb 20 32767) (h := ?_)
                    refine p_ 15 113 (bb 20 65535) (h := ?_)
                    refine p_ 16 114 (bb 20 131071) (h := ?_)
                    refine n_ 17 15 (bb 20 262143) (h := fun K hK => ?_)
                    refine alloc_step (N := 15) (cs := #[.slice none 0 0, .int .i64 0, .bool false, .slice none 0 0]) (t := 34) (by rfl) rfl ?hr ?_
                    case hr => first | (go_simp; done) | (go_simp; rfl)
                    intro ga hqa wa hxa hba
                    have hqa := Aside0.mk hqa
                    have hxa := Aside0.mk hxa
                    have hba := Aside0.mk hba
                    refine hK.out _ _ ⟨pw_cell_below (hba.out) hHeld.1, pw_cell_below (hba.out) hHeld.2⟩ (fun hHeld => ?_)
                    clear hK K
                    refine m_ 15 (h := ?_)
                    refine norm_ ?_ (hcont (P0, p0, P3, p3, ga) _ ⟨⟨hl0.out, Kd.F_mono (Kd.F_below (Kd.F_bound hF0.out) hba.out) (fun k hk => by have := hqa.out; have := hk.2; show k ≠ ga; omega), hl3.out, Kd.F_mono (Kd.F_below (Kd.F_bound hF3.out) hba.out) (fun k hk => by have := hqa.out; have := hk.2; show k ≠ ga; omega)⟩, hxa.out, by have := hqa.out; have := hbc.out.size; show _ ≤ ga; omega, below_step hbc.out hba.out⟩)
                    show _ = putAll _ [(112, .tuple #[.agg #[.slice P0 (getN T z.e.f0 (wrap64 (u.e.f1 - 1))).1.f0.length p0, .int .i64 (getN T z.e.f0 (wrap64 (u.e.f1 - 1))).1.f1, .bool (getN T z.e.f0 (wrap64 (u.e.f1 - 1))).1.f2, .slice P3 (getN T z.e.f0 (wrap64 (u.e.f1 - 1))).1.f3.length p3], .bool (getN T z.e.f0 (wrap64 (u.e.f1 - 1))).2]), (98, .tuple #[.agg #[.slice P0 (getN T z.e.f0 (wrap64 (u.e.f1 - 1))).1.f0.length p0, .int .i64 (getN T z.e.f0 (wrap64 (u.e.f1 - 1))).1.f1, .bool (getN T z.e.f0 (wrap64 (u.e.f1 - 1))).1.f2, .slice P3 (getN T z.e.f0 (wrap64 (u.e.f1 - 1))).1.f3.length p3], .bool (getN T z.e.f0 (wrap64 (u.e.f1 - 1))).2]), (113, .agg #[.slice P0 (getN T z.e.f0 (wrap64 (u.e.f1 - 1))).1.f0.length p0, .int .i64 (getN T z.e.f0 (wrap64 (u.e.f1 - 1))).1.f1, .bool (getN T z.e.f0 (wrap64 (u.e.f1 - 1))).1.f2, .slice P3 (getN T z.e.f0 (wrap64 (u.e.f1 - 1))).1.f3.length p3]), (114, .bool (getN T z.e.f0 (wrap64 (u.e.f1 - 1))).2), (15, .pointer (some ⟨ga, 0, none⟩))]
                    simp only [putAll, Act.put, List.setIfInBounds_toArray, List.set_cons_zero, List.set_cons_succ]

                  · refine alloc_step (N := 15) (cs := #[.slice none 0 0, .int .i64 0, .bool false, .slice none 0 0]) (t := 34) (by rfl) rfl ?hr ?_
                    case hr => first | (go_simp; done) | (go_simp; rfl)
                    intro ga hqa wa hxa hba
                    have hqa := Aside0.mk hqa
                    have hxa := Aside0.mk hxa
                    have hba := Aside0.mk hba
                    refine hK.out _ _ ⟨pw_cell_below (hba.out) hHeld.1, pw_cell_below (hba.out) hHeld.2⟩ (fun hHeld => ?_)
                    clear hK K
                    refine m_ 15 (h := ?_)
                    refine n_ 13 112 (bb 20 147455) (h := fun K hK => ?_)
                    refine goes_ Try.func20 (by kernel_rfl) rfl #[.pointer (some ⟨g, 0, none⟩), .slice B0 z.e.f0.length b0, .int .i64 (wrap64 (u.e.f1 - 1))] (by rfl) rfl rfl (by (try simp only [List.map_toArray, List.map_cons, List.map_nil]); first | done | rfl) ?_
                    refine (s1_get (HSr.out.below (below_step B8.out hba.out)) HT.out B0 b0 z.e.f0 (wrap64 (u.e.f1 - 1)) (Kd.C_below (K34_C (Kd.FK_now HFZ.out)).2.1 (below_step B8.out hba.out)) (K34_C (Kd.FK_now HFZ.out)).1 HZG.out.1).mono ?_
                    rintro ex wc ⟨v0, v3, rfl, hvc, hbc⟩
                    refine ⟨_, rfl, ?_⟩
                    obtain ⟨⟨P0, p0, rfl, hl0, hF0⟩, ⟨P3, p3, rfl, hl3, hF3⟩⟩ := hvc
                    have hl0 := Aside0.mk hl0
                    have hF0 := Aside0.mk hF0
                    have hl3 := Aside0.mk hl3
                    have hF3 := Aside0.mk hF3
                    have hbc := Aside0.mk hbc
                    refine hK.out _ _ ⟨pw_cell_below (hbc.out) hHeld.1, pw_cell_below (hbc.out) hHeld.2⟩ (fun hHeld => ?_)
                    clear hK K
                    refine m_ 112 (h := ?_)
                    refine p_ 14 98 (bb 20 163839) (h := ?_)
                    refine p_ 15 113 (bb 20 196607) (h := ?_)
                    refine p_ 16 114 (bb 20 262143) (h := ?_)
                    refine norm_ ?_ (hcont (P0, p0, P3, p3, ga) _ ⟨⟨hl0.out, Kd.F_mono hF0.out (fun k hk => by have := blk_lt hxa.out; have h2 : wa.heap.size ≤ k := hk; show k ≠ ga; omega), hl3.out, Kd.F_mono hF3.out (fun k hk => by have := blk_lt hxa.out; have h2 : wa.heap.size ≤ k := hk; show k ≠ ga; omega)⟩, blk_below hxa.out hbc.out, by have := hqa.out; show _ ≤ ga; omega, below_step hba.out hbc.out⟩)
                    show _ = putAll _ [(112, .tuple #[.agg #[.slice P0 (getN T z.e.f0 (wrap64 (u.e.f1 - 1))).1.f0.length p0, .int .i64 (getN T z.e.f0 (wrap64 (u.e.f1 - 1))).1.f1, .bool (getN T z.e.f0 (wrap64 (u.e.f1 - 1))).1.f2, .slice P3 (getN T z.e.f0 (wrap64 (u.e.f1 - 1))).1.f3.length p3], .bool (getN T z.e.f0 (wrap64 (u.e.f1 - 1))).2]), (98, .tuple #[.agg #[.slice P0 (getN T z.e.f0 (wrap64 (u.e.f1 - 1))).1.f0.length p0, .int .i64 (getN T z.e.f0 (wrap64 (u.e.f1 - 1))).1.f1, .bool (getN T z.e.f0 (wrap64 (u.e.f1 - 1))).1.f2, .slice P3 (getN T z.e.f0 (wrap64 (u.e.f1 - 1))).1.f3.length p3], .bool (getN T z.e.f0 (wrap64 (u.e.f1 - 1))).2]), (113, .agg #[.slice P0 (getN T z.e.f0 (wrap64 (u.e.f1 - 1))).1.f0.length p0, .int .i64 (getN T z.e.f0 (wrap64 (u.e.f1 - 1))).1.f1, .bool (getN T z.e.f0 (wrap64 (u.e.f1 - 1))).1.f2, .slice P3 (getN T z.e.f0 (wrap64 (u.e.f1 - 1))).1.f3.length p3]), (114, .bool (getN T z.e.f0 (wrap64 (u.e.f1 - 1))).2), (15, .pointer (some ⟨ga, 0, none⟩))]
                    simp only [putAll, Act.put, List.setIfInBounds_toArray, List.set_cons_zero, List.set_cons_succ]

                rintro ⟨P0, p0, P3, p3, ga⟩ wc ⟨⟨hl0, hF0, hl3, hF3⟩, hxa, hga, hbc⟩
                have HL0 := Aside0.mk (show (getN T z.e.f0 (wrap64 (u.e.f1 - 1))).1.f0.length ≤ p0 from hl0)
                have HF0 := Aside0.mk (show Kd.F (Kd.int .u8) wc (fun k => k ≠ ga) P0 (getN T z.e.f0 (wrap64 (u.e.f1 - 1))).1.f0.length (getN T z.e.f0 (wrap64 (u.e.f1 - 1))).1.f0 from hF0)
                have HL3 := Aside0.mk (show (getN T z.e.f0 (wrap64 (u.e.f1 - 1))).1.f3.length ≤ p3 from hl3)
                have HF3 := Aside0.mk (show Kd.F (Kd.int .u8) wc (fun k => k ≠ ga) P3 (getN T z.e.f0 (wrap64 (u.e.f1 - 1))).1.f3.length (getN T z.e.f0 (wrap64 (u.e.f1 - 1))).1.f3 from hF3)
                have HXA := Aside0.mk (show wc.heap[ga]? = _ from hxa)
                have HGA := Aside0.mk (show w8.heap.size ≤ ga from hga)
                have HBC := Aside0.mk hbc
                clear hl0 hF0 hl3 hF3 hxa hga hbc
                have hHeld := Aside0.mk (show (wc.cell? (ad.add (n * 4)) = some (.slice B0 z.e.f0.length b0) ∧ wc.cell? ⟨(ad.add (m * 4)).block, (ad.add (m * 4)).off + 1, none⟩ = some (.int .i64 u.e.f1)) ∧ True from ⟨⟨pw_cell_below (HBC.out) hHeld.1, pw_cell_below (HBC.out) hHeld.2⟩, trivial⟩)
                replace hHeld := hHeld.out.1
                refine norm_ (a' := ?_) ?_ ?_
                rotate_left
                · show putAll _ [(112, .tuple #[.agg #[.slice P0 (getN T z.e.f0 (wrap64 (u.e.f1 - 1))).1.f0.length p0, .int .i64 (getN T z.e.f0 (wrap64 (u.e.f1 - 1))).1.f1, .bool (getN T z.e.f0 (wrap64 (u.e.f1 - 1))).1.f2, .slice P3 (getN T z.e.f0 (wrap64 (u.e.f1 - 1))).1.f3.length p3], .bool (getN T z.e.f0 (wrap64 (u.e.f1 - 1))).2]), (98, .tuple #[.agg #[.slice P0 (getN T z.e.f0 (wrap64 (u.e.f1 - 1))).1.f0.length p0, .int .i64 (getN T z.e.f0 (wrap64 (u.e.f1 - 1))).1.f1, .bool (getN T z.e.f0 (wrap64 (u.e.f1 - 1))).1.f2, .slice P3 (getN T z.e.f0 (wrap64 (u.e.f1 - 1))).1.f3.length p3], .bool (getN T z.e.f0 (wrap64 (u.e.f1 - 1))).2]), (113, .agg #[.slice P0 (getN T z.e.f0 (wrap64 (u.e.f1 - 1))).1.f0.length p0, .int .i64 (getN T z.e.f0 (wrap64 (u.e.f1 - 1))).1.f1, .bool (getN T z.e.f0 (wrap64 (u.e.f1 - 1))).1.f2, .slice P3 (getN T z.e.f0 (wrap64 (u.e.f1 - 1))).1.f3.length p3]), (114, .bool (getN T z.e.f0 (wrap64 (u.e.f1 - 1))).2), (15, .pointer (some ⟨ga, 0, none⟩))] = _
                  simp only [putAll, Act.put, List.setIfInBounds_toArray, List.set_cons_zero, List.set_cons_succ]
                  rfl
                have hcy0 : wc.cell? ⟨ga, 0, none⟩ = some (.slice none 0 0) := (blk_cell HXA.out 0).trans rfl
                have hcy1 : wc.cell? ⟨ga, 1, none⟩ = some (.int .i64 0) := (blk_cell HXA.out 1).trans rfl
                have hcy2 : wc.cell? ⟨ga, 2, none⟩ = some (.bool false) := (blk_cell HXA.out 2).trans rfl
                have hcy3 : wc.cell? ⟨ga, 3, none⟩ = some (.slice none 0 0) := (blk_cell HXA.out 3).trans rfl
                have hfy0 : wc.frozen? ⟨ga, 0, none⟩ = false := blk_frozen HXA.out 0
                have hfy1 : wc.frozen? ⟨ga, 1, none⟩ = false := blk_frozen HXA.out 1
                have hfy2 : wc.frozen? ⟨ga, 2, none⟩ = false := blk_frozen HXA.out 2
                have hfy3 : wc.frozen? ⟨ga, 3, none⟩ = false := blk_frozen HXA.out 3
                refine l_ 18 (bb 20 524287) (h := ?_)
                clear hcy0 hcy1 hcy2 hcy3 hfy0 hfy1 hfy2 hfy3 hHeld
                have X9 := Aside0.mk (sets4 (a := .slice P0 (getN T z.e.f0 (wrap64 (u.e.f1 - 1))).1.f0.length p0) (b := .int .i64 (getN T z.e.f0 (wrap64 (u.e.f1 - 1))).1.f1) (c := .bool (getN T z.e.f0 (wrap64 (u.e.f1 - 1))).1.f2) (d := .slice P3 (getN T z.e.f0 (wrap64 (u.e.f1 - 1))).1.f3.length p3) HXA.out)
                have B9 := Aside0.mk (show Below w8.heap.size w8 ((((wc.setCell ⟨ga, 0, none⟩ (.slice P0 (getN T z.e.f0 (wrap64 (u.e.f1 - 1))).1.f0.length p0)).setCell ⟨ga, 1, none⟩ (.int .i64 (getN T z.e.f0 (wrap64 (u.e.f1 - 1))).1.f1)).setCell ⟨ga, 2, none⟩ (.bool (getN T z.e.f0 (wrap64 (u.e.f1 - 1))).1.f2)).setCell ⟨ga, 3, none⟩ (.slice P3 (getN T z.e.f0 (wrap64 (u.e.f1 - 1))).1.f3.length p3)) from below_set (below_set (below_set (below_set HBC.out HGA.out) HGA.out) HGA.out) HGA.out)
                have HH0 := Aside0.mk (f_far4 HF0.out (fun k hk => hk) (.slice P0 (getN T z.e.f0 (wrap64 (u.e.f1 - 1))).1.f0.length p0) (.int .i64 (getN T z.e.f0 (wrap64 (u.e.f1 - 1))).1.f1) (.bool (getN T z.e.f0 (wrap64 (u.e.f1 - 1))).1.f2) (.slice P3 (getN T z.e.f0 (wrap64 (u.e.f1 - 1))).1.f3.length p3))
                have HH3 := Aside0.mk (f_far4 HF3.out (fun k hk => hk) (.slice P0 (getN T z.e.f0 (wrap64 (u.e.f1 - 1))).1.f0.length p0) (.int .i64 (getN T z.e.f0 (wrap64 (u.e.f1 - 1))).1.f1) (.bool (getN T z.e.f0 (wrap64 (u.e.f1 - 1))).1.f2) (.slice P3 (getN T z.e.f0 (wrap64 (u.e.f1 - 1))).1.f3.length p3))
                generalize ((((wc.setCell ⟨ga, 0, none⟩ (.slice P0 (getN T z.e.f0 (wrap64 (u.e.f1 - 1))).1.f0.length p0)).setCell ⟨ga, 1, none⟩ (.int .i64 (getN T z.e.f0 (wrap64 (u.e.f1 - 1))).1.f1)).setCell ⟨ga, 2, none⟩ (.bool (getN T z.e.f0 (wrap64 (u.e.f1 - 1))).1.f2)).setCell ⟨ga, 3, none⟩ (.slice P3 (getN T z.e.f0 (wrap64 (u.e.f1 - 1))).1.f3.length p3)) = w9 at X9 B9 HH0 HH3 ⊢
                clear HF0 HF3 HXA HGA HBC
                refine p_ 19 16 (bb 20 1048575) (h := ?_)
                refine d_ (h := ?_)
                rw [HWS.out, HGP.out.1] at X9 HL0 HH0 HL3 HH3 ⊢
                have X9 := Aside0.mk (show w9.heap[ga]? = some (.cells #[.slice P0 z.e.f0.length p0, .int .i64 z.e.f1, .bool z.e.f2, .slice P3 z.e.f3.length p3] 34 (0, 0)) from X9.out)
                have HL0 := Aside0.mk (show z.e.f0.length ≤ p0 from HL0.out)
                have HH0 := Aside0.mk (show Kd.F (Kd.int .u8) w9 (fun k => k ≠ ga) P0 z.e.f0.length z.e.f0 from HH0.out)
                have HL3 := Aside0.mk (show z.e.f3.length ≤ p3 from HL3.out)
                have HH3 := Aside0.mk (show Kd.F (Kd.int .u8) w9 (fun k => k ≠ ga) P3 z.e.f3.length z.e.f3 from HH3.out)
                have B10 := Aside0.mk (below_drew (below_step B8.out B9.out))
                have hle : decide (u.e.f1 ≤ z.e.f1) = false := decide_eq_false (by have h1 := HGP.out.2; omega)
                go_wp2
                refine s_ 25 [] (fun w' => w'.cell? ⟨ga, 0, none⟩ = some (.slice P0 z.e.f0.length p0) ∧ w'.cell? ⟨ga, 1, none⟩ = some (.int .i64 z.e.f1) ∧ w'.cell? ⟨ga, 2, none⟩ = some (.bool z.e.f2) ∧ w'.cell? ⟨ga, 3, none⟩ = some (.slice P3 z.e.f3.length p3) ∧ w'.cell? (ad.add (n * 4)) = some (.slice B0 z.e.f0.length b0) ∧ w'.cell? ⟨(ad.add (n * 4)).block, (ad.add (n * 4)).off + 1, none⟩ = some (.int .i64 z.e.f1) ∧ w'.cell? ⟨(ad.add (n * 4)).block, (ad.add (n * 4)).off + 2, none⟩ = some (.bool z.e.f2) ∧ w'.cell? ⟨(ad.add (n * 4)).block, (ad.add (n * 4)).off + 3, none⟩ = some (.slice B3 z.e.f3.length b3) ∧ w'.cell? ⟨(ad.add (m * 4)).block, (ad.add (m * 4)).off + 1, none⟩ = some (.int .i64 u.e.f1)) (hS := ⟨(blk_cell (blk_drew X9.out) 0).trans rfl, (blk_cell (blk_drew X9.out) 1).trans rfl, (blk_cell (blk_drew X9.out) 2).trans rfl, (blk_cell (blk_drew X9.out) 3).trans rfl, pw_cell_below B10.out HD.out.1, pw_cell_below B10.out HD.out.2.1, pw_cell_below B10.out HD.out.2.2.1, pw_cell_below B10.out HD.out.2.2.2, pw_cell_below B10.out HU.out.2⟩) (h := fun hHeld => ?_)
                refine p_ 0 115 (bb 25 1) (h := ?_)
                refine p_ 1 116 (bb 25 3) (h := ?_)
                refine p_ 2 117 (bb 25 7) (h := ?_)
                refine t_ 3 118 (bb 25 15) hHeld (h := ?_)
                refine p_ 4 119 (bb 25 31) (h := ?_)
                refine p_ 5 120 (bb 25 63) (h := ?_)
                refine p_ 6 121 (bb 25 127) (h := ?_)
                refine t_ 7 122 (bb 25 255) hHeld (h := ?_)
                refine n_ 8 123 (bb 25 511) (h := fun K hK => ?_)
                refine goes_ Try.func24 (by kernel_rfl) rfl #[.agg #[.slice P0 z.e.f0.length p0, .int .i64 z.e.f1, .bool z.e.f2, .slice P3 z.e.f3.length p3], .agg #[.slice B0 z.e.f0.length b0, .int .i64 z.e.f1, .bool z.e.f2, .slice B3 z.e.f3.length b3]] (by rfl) rfl rfl (by (try simp only [List.map_toArray, List.map_cons, List.map_nil]); first | done | rfl) ?_
                refine (sameOneC HZG.out HZG.out (Kd.C_drew (Kd.F_now HH0.out)) HL0.out (Kd.C_drew (Kd.F_now HH3.out)) HL3.out (Kd.C_below (K34_C (Kd.FK_now HFZ.out)).2.1 B10.out) (K34_C (Kd.FK_now HFZ.out)).1 (Kd.C_below (K34_C (Kd.FK_now HFZ.out)).2.2.2 B10.out) (K34_C (Kd.FK_now HFZ.out)).2.2.1).mono ?_
                rintro ex w11 ⟨rfl, hb11⟩
                refine ⟨_, rfl, ?_⟩
                rw [show decide (z.e.f0 = z.e.f0 ∧ z.e.f1 = z.e.f1 ∧ z.e.f2 = z.e.f2 ∧ z.e.f3 = z.e.f3) = true from decide_eq_true ⟨rfl, rfl, rfl, rfl⟩]
                have hb11 := Aside0.mk hb11
                refine hK.out _ _ ⟨pw_cell_below hb11.out hHeld.1, pw_cell_below hb11.out hHeld.2.1, pw_cell_below hb11.out hHeld.2.2.1, pw_cell_below hb11.out hHeld.2.2.2.1, pw_cell_below hb11.out hHeld.2.2.2.2.1, pw_cell_below hb11.out hHeld.2.2.2.2.2.1, pw_cell_below hb11.out hHeld.2.2.2.2.2.2.1, pw_cell_below hb11.out hHeld.2.2.2.2.2.2.2.1, pw_cell_below hb11.out hHeld.2.2.2.2.2.2.2.2⟩ (fun hHeld => ?_)
                clear hK K
                refine m_ 123 (h := ?_)
                refine p_ 9 124 (bb 25 1023) (h := ?_)
                refine p_ 10 125 (bb 25 2047) (h := ?_)
                refine p_ 11 126 (bb 25 4095) (h := ?_)
                refine p_ 12 127 (bb 25 8191) (h := ?_)
                refine p_ 13 128 (bb 25 16383) (h := ?_)
                refine p_ 14 129 (bb 25 32767) (h := ?_)
                refine p_ 15 130 (bb 25 65535) (h := ?_)
                refine p_ 16 131 (bb 25 131071) (h := ?_)
                refine t_ 17 132 (bb 25 262143) hHeld (h := ?_)
                refine p_ 18 133 (bb 25 524287) (h := ?_)
                refine p_ 19 134 (bb 25 1048575) (h := ?_)
                refine p_ 20 135 (bb 25 2097151) (h := ?_)
                refine p_ 21 136 (bb 25 4194303) (h := ?_)
                refine t_ 22 137 (bb 25 8388607) hHeld (h := ?_)
                refine p_ 23 138 (bb 25 16777215) (h := ?_)
                refine p_ 24 139 (bb 25 33554431) (h := ?_)
                refine d_ (h := ?_)
                clear hHeld hle
                go_wp2
                go_roundg k1
                case measure => exact Nat.lt_succ_self _
                case rel => exact ⟨n + 1, by first | rfl | rw [HW.out], ⟨by have h1 := HK.out; omega⟩, ⟨below_step HBr.out (below_step B10.out hb11.out)⟩⟩

              · have HKN := Aside0.mk hke
                have hkd : decide (u.e.f0 = z.e.f0) = false := decide_eq_false hke
                rw [hkd] at hse
                clear hke hkd hn0 hnl
                refine s_ 18 [] (fun w' => w'.cell? (ad.add (m * 4)) = some (.slice C0 u.e.f0.length c0) ∧ w'.cell? (ad.add (n * 4)) = some (.slice B0 z.e.f0.length b0) ∧ Kd.C (Kd.int .u8) w' C0 u.e.f0.length u.e.f0 ∧ Kd.C (Kd.int .u8) w' B0 z.e.f0.length z.e.f0) (hS := ⟨pw_cell_below B7.out HU.out.1, pw_cell_below B7.out HD.out.1, Kd.C_below (K34_C (Kd.FK_now HFU.out)).2.1 B7.out, Kd.C_below (K34_C (Kd.FK_now HFZ.out)).2.1 B7.out⟩) (h := fun hHeld => ?_)
                refine p_ 0 80 (bb 18 1) (h := ?_)
                refine p_ 1 81 (bb 18 3) (h := ?_)
                refine p_ 2 82 (bb 18 7) (h := ?_)
                refine p_ 3 83 (bb 18 15) (h := ?_)
                refine p_ 4 84 (bb 18 31) (h := ?_)
                refine p_ 5 85 (bb 18 63) (h := ?_)
                refine p_ 6 86 (bb 18 127) (h := ?_)
                refine p_ 7 87 (bb 18 255) (h := ?_)
                refine t_ 8 88 (bb 18 511) hHeld (h := ?_)
                refine t_ 9 89 (bb 18 1023) hHeld (hy := by (rintro w' ⟨s0, s1, s2, s3⟩; have hcv := Kd.C_string (P := Try.prog) (A := C0) (c := c0) Try.underlying32 Try.underlying5 Try.underlying9 s2; go_simp; with_reducible rfl)) (h := ?_)
                refine p_ 10 90 (bb 18 2047) (h := ?_)
                refine p_ 11 91 (bb 18 4095) (h := ?_)
                refine p_ 12 92 (bb 18 8191) (h := ?_)
                refine p_ 13 93 (bb 18 16383) (h := ?_)
                refine t_ 14 94 (bb 18 32767) hHeld (h := ?_)
                refine t_ 15 95 (bb 18 65535) hHeld (hy := by (rintro w' ⟨s0, s1, s2, s3⟩; have hcv := Kd.C_string (P := Try.prog) (A := B0) (c := b0) Try.underlying32 Try.underlying5 Try.underlying9 s3; go_simp; with_reducible rfl)) (h := ?_)
                refine p_ 16 96 (bb 18 131071) (h := ?_)
                refine p_ 17 97 (bb 18 262143) (h := ?_)
                refine d_ (h := ?_)
                clear hHeld hse
                have B8 := Aside0.mk (below_drew B7.out)
                have HLS := Aside0.mk (next_less HT.out HUA.out (by have h1 := HM.out; subst h1; exact HZ.out) HKN.out)
                have HUL := Aside0.mk (show u.e.f0.length ≤ 140737488355328 by have h1 := (okE_len (HT.out.ok u (List.mem_of_getElem? HUA.out)).1).1; omega)
                go_wp2
                generalize hw7d : w6.drew = w7d at B7 B8 ⊢
                clear hw7d
                refine s_ 17 [] (fun w' => w'.cell? (ad.add (m * 4)) = some (.slice C0 u.e.f0.length c0) ∧ w'.cell? (ad.add (n * 4)) = some (.slice B0 z.e.f0.length b0)) (hS := ⟨pw_cell_below B8.out HU.out.1, pw_cell_below B8.out HD.out.1⟩) (h := fun hHeld => ?_)
                generalize w7d.drew = w8 at B8 hHeld ⊢
                refine p_ 0 140 (bb 17 1) (h := ?_)
                refine p_ 1 141 (bb 17 3) (h := ?_)
                refine p_ 2 142 (bb 17 7) (h := ?_)
                refine p_ 3 143 (bb 17 15) (h := ?_)
                refine p_ 4 144 (bb 17 31) (h := ?_)
                refine p_ 5 145 (bb 17 63) (h := ?_)
                refine p_ 6 146 (bb 17 127) (h := ?_)
                refine p_ 7 147 (bb 17 255) (h := ?_)
                refine t_ 8 148 (bb 17 511) hHeld (h := ?_)
                refine p_ 9 149 (bb 17 1023) (h := ?_)
                refine p_ 10 150 (bb 17 2047) (h := ?_)
                refine p_ 11 151 (bb 17 4095) (h := ?_)
                refine p_ 12 152 (bb 17 8191) (h := ?_)
                refine t_ 13 153 (bb 17 16383) hHeld (h := ?_)
                refine n_ 14 154 (bb 17 32767) (h := fun K hK => ?_)
                refine goes_ Try.func25 (by kernel_rfl) rfl #[.slice C0 u.e.f0.length c0, .slice B0 z.e.f0.length b0] (by rfl) rfl rfl (by (try simp only [List.map_toArray, List.map_cons, List.map_nil]); first | done | rfl) ?_
                refine (rlessC (Kd.C_below (K34_C (Kd.FK_now HFU.out)).2.1 B8.out) (K34_C (Kd.FK_now HFU.out)).1 (Kd.C_below (K34_C (Kd.FK_now HFZ.out)).2.1 B8.out) (K34_C (Kd.FK_now HFZ.out)).1 HUL.out).mono ?_
                rintro ex w9 ⟨rfl, hb9⟩
                refine ⟨_, rfl, ?_⟩
                rw [HLS.out]
                have hb9 := Aside0.mk hb9
                refine hK.out _ _ ⟨pw_cell_below hb9.out hHeld.1, pw_cell_below hb9.out hHeld.2⟩ (fun hHeld => ?_)
                clear hK K
                refine m_ 154 (h := ?_)
                refine p_ 15 155 (bb 17 65535) (h := ?_)
                refine p_ 16 156 (bb 17 131071) (h := ?_)
                refine d_ (h := ?_)
                clear hHeld
                go_wp2
                go_roundg k1
                case measure => exact Nat.lt_succ_self _
                case rel => exact ⟨n + 1, by first | rfl | rw [HW.out], ⟨by have h1 := HK.out; omega⟩, ⟨below_step HBr.out (below_step B8.out hb9.out)⟩⟩

      · have hlt : (n < l.length) = False := eq_false hnl
        clear hnl HK
        clear HST
        go_wp2_with ((with_reducible refine gate_callee (f := 19) rfl ?_); (try (refine gate_guard (by rfl) ?_; dsimp only)); refine goesL_ (some 47) rfl rfl Try.func19 (by kernel_rfl) rfl #[.pointer (some ⟨g, 0, none⟩)] rfl (by (try simp only [List.map_toArray, List.map_cons, List.map_nil]); first | done | rfl) ?_; refine (s1_all HS1.out HT.out (by have := HTL.out; omega)).mono ?_; rintro ex w4 ⟨v4, rfl, hn4, hb4⟩; refine ⟨_, rfl, ?_⟩; obtain ⟨A4, c4, rfl⟩ := Kd.N_slice hn4; rw [List.length_map]; have n_ := Aside0.mk hn4; clear hn4; have hn4 := n_; clear n_; have n_ := Aside0.mk hb4; clear hb4; have hb4 := n_; clear n_; have HS4 := Aside0.mk (HS1.out.below hb4.out); have BW := Aside0.mk ((hb1.out.trans (below_weakB hb1.out.size HB.out)).trans (below_weakB (Nat.le_trans hb1.out.size HB.out.size) hb4.out)))
        clear hlt
        go_loopg [12] T.length (fun kq v12 w' => ∃ n : Nat, v12 = .int .i64 (n : Int) ∧ Aside0 (kq + n = T.length) ∧ Aside0 (Below w4.heap.size w4 w'))
        case atStart => exact ⟨0, rfl, ⟨rfl⟩, ⟨Below.refl _ _⟩⟩
        case round =>
          obtain ⟨n, rfl, HK, HBr⟩ := hrel
          have HSr := Aside0.mk (HS4.out.below HBr.out)
          have HNr := Aside0.mk (Kd.N_below hn4.out HBr.out)
          cases gk with
          | zero =>
            have hlt : (n < T.length) = False := eq_false (by have := HK.out; omega)
            have BWr := Aside0.mk (BW.out.trans (below_weakB (Nat.le_trans hb1.out.size (Nat.le_trans HB.out.size hb4.out.size)) HBr.out))
            obtain ⟨e, ok, hge⟩ : ∃ e ok, getN T key sq = (e, ok) := ⟨_, _, rfl⟩
            have hcl := s1_get HSr.out HT.out Ak ck key sq (Kd.C_below HRK.out BWr.out) HCK.out HKB.out
            have hgi := get_is HT.out key sq
            rw [hge] at hcl hgi
            dsimp only at hcl hgi
            have HCL := Aside0.mk hcl
            have HGI := Aside0.mk hgi
            clear hcl hgi hge
            cases ok with
            | false =>
              go_wp2_with (first
                | ((with_reducible refine gate_callee (f := 20) rfl ?_); (try (refine gate_guard (by rfl) ?_; dsimp only)); refine goesL_ (some 161) rfl rfl Try.func20 (by kernel_rfl) rfl #[.pointer (some ⟨g, 0, none⟩), .slice Ak key.length ck, .int .i64 sq] rfl (by (try simp only [List.map_toArray, List.map_cons, List.map_nil]); first | done | rfl) ?_; refine (HCL.out).mono ?_; rintro ex y2 ⟨v0, v3, rfl, hv2, hy2⟩; refine ⟨_, rfl, ?_⟩; obtain ⟨⟨P0, p0, rfl, hl0, hF0⟩, ⟨P3, p3, rfl, hl3, hF3⟩⟩ := hv2; have n_ := Aside0.mk hl0; clear hl0; have hl0 := n_; clear n_; have n_ := Aside0.mk hF0; clear hF0; have hF0 := n_; clear n_; have n_ := Aside0.mk hl3; clear hl3; have hl3 := n_; clear n_; have n_ := Aside0.mk hF3; clear hF3; have hF3 := n_; clear n_; have n_ := Aside0.mk hy2; clear hy2; have hy2 := n_; clear n_)
                | ((with_reducible refine gate_dst (N := 17) rfl ?_); (try (refine gate_guard (by rfl) ?_; dsimp only)); refine box_event ?hg (N := 17) ?hd (cs := #[.slice none 0 0, .int .i64 0, .bool false, .slice none 0 0]) (t := 34) ?hr ?_; (case hd => rfl); (case hg => rfl); (case hr => first | (go_simp; done) | (go_simp; rfl)); intro ga hqga y3 hxga hbga; have n_ := Aside0.mk hqga; clear hqga; have hqga := n_; clear n_; have n_ := Aside0.mk hxga; clear hxga; have hxga := n_; clear n_; have n_ := Aside0.mk hbga; clear hbga; have hbga := n_; clear n_; have hcy0 : y3.cell? ⟨ga, 0, none⟩ = some (.slice none 0 0) := (blk_cell hxga.out 0).trans rfl; have hcy1 : y3.cell? ⟨ga, 1, none⟩ = some (.int .i64 0) := (blk_cell hxga.out 1).trans rfl; have hcy2 : y3.cell? ⟨ga, 2, none⟩ = some (.bool false) := (blk_cell hxga.out 2).trans rfl; have hcy3 : y3.cell? ⟨ga, 3, none⟩ = some (.slice none 0 0) := (blk_cell hxga.out 3).trans rfl; have hfy0 : y3.frozen? ⟨ga, 0, none⟩ = false := blk_frozen hxga.out 0; have hfy1 : y3.frozen? ⟨ga, 1, none⟩ = false := blk_frozen hxga.out 1; have hfy2 : y3.frozen? ⟨ga, 2, none⟩ = false := blk_frozen hxga.out 2; have hfy3 : y3.frozen? ⟨ga, 3, none⟩ = false := blk_frozen hxga.out 3; have Y34 := Aside0.mk (show Below y2.heap.size y2 ((((y3.setCell ⟨ga, 0, none⟩ (.slice P0 e.f0.length p0)).setCell ⟨ga, 1, none⟩ (.int .i64 e.f1)).setCell ⟨ga, 2, none⟩ (.bool e.f2)).setCell ⟨ga, 3, none⟩ (.slice P3 e.f3.length p3)) from below_set (below_set (below_set (below_set hbga.out (Nat.le_of_eq hqga.out.symm)) (Nat.le_of_eq hqga.out.symm)) (Nat.le_of_eq hqga.out.symm)) (Nat.le_of_eq hqga.out.symm))))
              go_ret
              exact ⟨rfl, below_step (below_step BWr.out hy2.out) Y34.out⟩
            | true =>
              have hek : e.f0 = key := (HGI.out rfl).1
              subst hek
              have hle : decide (e.f1 ≤ sq) = true := decide_eq_true (HGI.out rfl).2
              have hse := str_eq HKB.out HKB.out
              rw [decide_eq_true (rfl : e.f0 = e.f0)] at hse
              go_wp2_with (first
                | ((with_reducible refine gate_callee (f := 20) rfl ?_); (try (refine gate_guard (by rfl) ?_; dsimp only)); refine goesL_ (some 161) rfl rfl Try.func20 (by kernel_rfl) rfl #[.pointer (some ⟨g, 0, none⟩), .slice Ak e.f0.length ck, .int .i64 sq] rfl (by (try simp only [List.map_toArray, List.map_cons, List.map_nil]); first | done | rfl) ?_; refine (HCL.out).mono ?_; rintro ex y2 ⟨v0, v3, rfl, hv2, hy2⟩; refine ⟨_, rfl, ?_⟩; obtain ⟨⟨P0, p0, rfl, hl0, hF0⟩, ⟨P3, p3, rfl, hl3, hF3⟩⟩ := hv2; have n_ := Aside0.mk hl0; clear hl0; have hl0 := n_; clear n_; have n_ := Aside0.mk hF0; clear hF0; have hF0 := n_; clear n_; have n_ := Aside0.mk hl3; clear hl3; have hl3 := n_; clear n_; have n_ := Aside0.mk hF3; clear hF3; have hF3 := n_; clear n_; have n_ := Aside0.mk hy2; clear hy2; have hy2 := n_; clear n_)
                | ((with_reducible refine gate_dst (N := 17) rfl ?_); (try (refine gate_guard (by rfl) ?_; dsimp only)); refine box_event ?hg (N := 17) ?hd (cs := #[.slice none 0 0, .int .i64 0, .bool false, .slice none 0 0]) (t := 34) ?hr ?_; (case hd => rfl); (case hg => rfl); (case hr => first | (go_simp; done) | (go_simp; rfl)); intro ga hqga y3 hxga hbga; have n_ := Aside0.mk hqga; clear hqga; have hqga := n_; clear n_; have n_ := Aside0.mk hxga; clear hxga; have hxga := n_; clear n_; have n_ := Aside0.mk hbga; clear hbga; have hbga := n_; clear n_; have hcy0 : y3.cell? ⟨ga, 0, none⟩ = some (.slice none 0 0) := (blk_cell hxga.out 0).trans rfl; have hcy1 : y3.cell? ⟨ga, 1, none⟩ = some (.int .i64 0) := (blk_cell hxga.out 1).trans rfl; have hcy2 : y3.cell? ⟨ga, 2, none⟩ = some (.bool false) := (blk_cell hxga.out 2).trans rfl; have hcy3 : y3.cell? ⟨ga, 3, none⟩ = some (.slice none 0 0) := (blk_cell hxga.out 3).trans rfl; have hfy0 : y3.frozen? ⟨ga, 0, none⟩ = false := blk_frozen hxga.out 0; have hfy1 : y3.frozen? ⟨ga, 1, none⟩ = false := blk_frozen hxga.out 1; have hfy2 : y3.frozen? ⟨ga, 2, none⟩ = false := blk_frozen hxga.out 2; have hfy3 : y3.frozen? ⟨ga, 3, none⟩ = false := blk_frozen hxga.out 3; have Y34 := Aside0.mk (show Below y2.heap.size y2 ((((y3.setCell ⟨ga, 0, none⟩ (.slice P0 e.f0.length p0)).setCell ⟨ga, 1, none⟩ (.int .i64 e.f1)).setCell ⟨ga, 2, none⟩ (.bool e.f2)).setCell ⟨ga, 3, none⟩ (.slice P3 e.f3.length p3)) from below_set (below_set (below_set (below_set hbga.out (Nat.le_of_eq hqga.out.symm)) (Nat.le_of_eq hqga.out.symm)) (Nat.le_of_eq hqga.out.symm)) (Nat.le_of_eq hqga.out.symm)); have hcv0 := Kd.C_string (P := Try.prog) (A := P0) (c := p0) Try.underlying32 Try.underlying5 Try.underlying9 (show Kd.C (Kd.int .u8) ((((y3.setCell ⟨ga, 0, none⟩ (.slice P0 e.f0.length p0)).setCell ⟨ga, 1, none⟩ (.int .i64 e.f1)).setCell ⟨ga, 2, none⟩ (.bool e.f2)).setCell ⟨ga, 3, none⟩ (.slice P3 e.f3.length p3)) P0 e.f0.length e.f0 from Kd.C_below (Kd.F_now hF0.out) Y34.out); have hcv1 := Kd.C_string (P := Try.prog) (A := Ak) (c := ck) Try.underlying32 Try.underlying5 Try.underlying9 (show Kd.C (Kd.int .u8) ((((y3.setCell ⟨ga, 0, none⟩ (.slice P0 e.f0.length p0)).setCell ⟨ga, 1, none⟩ (.int .i64 e.f1)).setCell ⟨ga, 2, none⟩ (.bool e.f2)).setCell ⟨ga, 3, none⟩ (.slice P3 e.f3.length p3)) Ak e.f0.length e.f0 from Kd.C_below (Kd.C_below HRK.out (below_step BWr.out hy2.out)) (Y34.out))))
              go_ret
              exact ⟨rfl, below_step (below_step BWr.out hy2.out) Y34.out⟩
          | succ k1 =>
            have hnl : n < T.length := by have h1 := HK.out; omega
            have hlt : (n < T.length) = True := eq_true hnl
            have HW := Aside0.mk (show wrap64 ((n : Int) + 1) = ((n + 1 : Nat) : Int) by rw [wrap_in (by omega) (by have := HTL.out; omega)]; rfl)
            have HNL := Aside0.mk hnl
            obtain ⟨z, hz⟩ : ∃ z, T[n]? = some z := ⟨_, List.getElem?_eq_getElem hnl⟩
            have hze : (T.map (fun t => t.e))[n]? = some z.e := by rw [List.getElem?_map, hz]; rfl
            obtain ⟨ad, hA⟩ := N_addr HNr.out (by rw [List.length_map]; omega)
            subst hA
            obtain ⟨B0, b0, B3, b3, hd0, hd1, hd2, hd3, hFZ⟩ := at_N34 HNr.out n z.e hze
            have HD := Aside0.mk (And.intro hd0 (And.intro hd1 (And.intro hd2 hd3)))
            have HFZ := Aside0.mk hFZ
            have HZ := Aside0.mk hz
            have HZG := Aside0.mk (HT.out.ok z (List.mem_of_getElem? hz)).2.1
            clear hFZ hz hze
            clear hnl
            go_wp2
            refine s_ 18 [16] (fun w' => w'.cell? (ad.add (n * 4)) = some (.slice B0 z.e.f0.length b0) ∧ w'.cell? ⟨(ad.add (n * 4)).block, (ad.add (n * 4)).off + 1, none⟩ = some (.int .i64 z.e.f1)) (hS := ⟨(show wr.drew.cell? _ = _ from hd0), (show wr.drew.cell? _ = _ from hd1)⟩) (h := fun hHeld => ?_)
            refine p_ 0 55 (bb 18 1) (h := ?_)
            refine p_ 1 56 (bb 18 3) (h := ?_)
            refine p_ 2 57 (bb 18 7) (h := ?_)
            refine p_ 3 58 (bb 18 15) (h := ?_)
            refine p_ 4 59 (bb 18 31) (h := ?_)
            refine t_ 5 60 (bb 18 63) hHeld (h := ?_)
            refine p_ 6 61 (bb 18 127) (h := ?_)
            refine p_ 7 62 (bb 18 255) (h := ?_)
            refine p_ 8 63 (bb 18 511) (h := ?_)
            refine p_ 9 64 (bb 18 1023) (h := ?_)
            refine t_ 10 65 (bb 18 2047) hHeld (h := ?_)
            refine join_ (σ := Option Addr × Nat × Option Addr × Nat × Nat) 2 (bb 18 65535) (fun s => [(66, .tuple #[.agg #[.slice s.1 (getN T z.e.f0 z.e.f1).1.f0.length s.2.1, .int .i64 (getN T z.e.f0 z.e.f1).1.f1, .bool (getN T z.e.f0 z.e.f1).1.f2, .slice s.2.2.1 (getN T z.e.f0 z.e.f1).1.f3.length s.2.2.2.1], .bool (getN T z.e.f0 z.e.f1).2]), (54, .tuple #[.agg #[.slice s.1 (getN T z.e.f0 z.e.f1).1.f0.length s.2.1, .int .i64 (getN T z.e.f0 z.e.f1).1.f1, .bool (getN T z.e.f0 z.e.f1).1.f2, .slice s.2.2.1 (getN T z.e.f0 z.e.f1).1.f3.length s.2.2.2.1], .bool (getN T z.e.f0 z.e.f1).2]), (67, .agg #[.slice s.1 (getN T z.e.f0 z.e.f1).1.f0.length s.2.1, .int .i64 (getN T z.e.f0 z.e.f1).1.f1, .bool (getN T z.e.f0 z.e.f1).1.f2, .slice s.2.2.1 (getN T z.e.f0 z.e.f1).1.f3.length s.2.2.2.1]), (68, .bool (getN T z.e.f0 z.e.f1).2), (13, .pointer (some ⟨s.2.2.2.2, 0, none⟩))]) (fun (s : Option Addr × Nat × Option Addr × Nat × Nat) (w' : World) => ((getN T z.e.f0 z.e.f1).1.f0.length ≤ s.2.1 ∧ Kd.F (Kd.int .u8) w' (fun k => k ≠ s.2.2.2.2) s.1 (getN T z.e.f0 z.e.f1).1.f0.length (getN T z.e.f0 z.e.f1).1.f0 ∧ (getN T z.e.f0 z.e.f1).1.f3.length ≤ s.2.2.2.1 ∧ Kd.F (Kd.int .u8) w' (fun k => k ≠ s.2.2.2.2) s.2.2.1 (getN T z.e.f0 z.e.f1).1.f3.length (getN T z.e.f0 z.e.f1).1.f3) ∧ w'.heap[s.2.2.2.2]? = some (.cells #[.slice none 0 0, .int .i64 0, .bool false, .slice none 0 0] 34 (0, 0)) ∧ wr.drew.heap.size ≤ s.2.2.2.2 ∧ Below wr.drew.heap.size wr.drew w') ?_ (fun hcont => ?_)
            rotate_left
            · refine two_ (i := 11) (j := 15) (Ni := some 66) (Nj := some 13) (bb 18 4095) (bb 18 34815) rfl rfl rfl rfl (by kernel_rfl) (by decide) (by decide) (fun K hK => ?_) (fun K hK => ?_)
              · refine goes_ Try.func20 (by kernel_rfl) rfl #[.pointer (some ⟨g, 0, none⟩), .slice B0 z.e.f0.length b0, .int .i64 z.e.f1] (by rfl) rfl rfl (by (try simp only [List.map_toArray, List.map_cons, List.map_nil]); first | done | rfl) ?_
                refine (s1_get (HSr.out.below (below_step (below_drew (Below.refl _ _)) (Below.refl _ _))) HT.out B0 b0 z.e.f0 z.e.f1 (Kd.C_below (K34_C (Kd.FK_now HFZ.out)).2.1 (below_step (below_drew (Below.refl _ _)) (Below.refl _ _))) (K34_C (Kd.FK_now HFZ.out)).1 HZG.out.1).mono ?_
                rintro ex wc ⟨v0, v3, rfl, hvc, hbc⟩
                refine ⟨_, rfl, ?_⟩
                obtain ⟨⟨P0, p0, rfl, hl0, hF0⟩, ⟨P3, p3, rfl, hl3, hF3⟩⟩ := hvc
                have hl0 := Aside0.mk hl0
                have hF0 := Aside0.mk hF0
                have hl3 := Aside0.mk hl3
                have hF3 := Aside0.mk hF3
                have hbc := Aside0.mk hbc
                refine hK.out _ _ ⟨pw_cell_below (hbc.out) hHeld.1, pw_cell_below (hbc.out) hHeld.2⟩ (fun hHeld => ?_)
                clear hK K
                refine m_ 66 (h := ?_)
                refine p_ 12 54 (bb 18 8191) (h := ?_)
                refine p_ 13 67 (bb 18 16383) (h := ?_)
                refine p_ 14 68 (bb 18 32767) (h := ?_)
                refine n_ 15 13 (bb 18 65535) (h := fun K hK => ?_)
                refine alloc_step (N := 13) (cs := #[.slice none 0 0, .int .i64 0, .bool false, .slice none 0 0]) (t := 34) (by rfl) rfl ?hr ?_
                case hr => first | (go_simp; done) | (go_simp; rfl)
                intro ga hqa wa hxa hba
                have hqa := Aside0.mk hqa
                have hxa := Aside0.mk hxa
                have hba := Aside0.mk hba
                refine hK.out _ _ ⟨pw_cell_below (hba.out) hHeld.1, pw_cell_below (hba.out) hHeld.2⟩ (fun hHeld => ?_)
                clear hK K
                refine m_ 13 (h := ?_)
                refine norm_ ?_ (hcont (P0, p0, P3, p3, ga) _ ⟨⟨hl0.out, Kd.F_mono (Kd.F_below (Kd.F_bound hF0.out) hba.out) (fun k hk => by have := hqa.out; have := hk.2; show k ≠ ga; omega), hl3.out, Kd.F_mono (Kd.F_below (Kd.F_bound hF3.out) hba.out) (fun k hk => by have := hqa.out; have := hk.2; show k ≠ ga; omega)⟩, hxa.out, by have := hqa.out; have := hbc.out.size; show _ ≤ ga; omega, below_step hbc.out hba.out⟩)
                show _ = putAll _ [(66, .tuple #[.agg #[.slice P0 (getN T z.e.f0 z.e.f1).1.f0.length p0, .int .i64 (getN T z.e.f0 z.e.f1).1.f1, .bool (getN T z.e.f0 z.e.f1).1.f2, .slice P3 (getN T z.e.f0 z.e.f1).1.f3.length p3], .bool (getN T z.e.f0 z.e.f1).2]), (54, .tuple #[.agg #[.slice P0 (getN T z.e.f0 z.e.f1).1.f0.length p0, .int .i64 (getN T z.e.f0 z.e.f1).1.f1, .bool (getN T z.e.f0 z.e.f1).1.f2, .slice P3 (getN T z.e.f0 z.e.f1).1.f3.length p3], .bool (getN T z.e.f0 z.e.f1).2]), (67, .agg #[.slice P0 (getN T z.e.f0 z.e.f1).1.f0.length p0, .int .i64 (getN T z.e.f0 z.e.f1).1.f1, .bool (getN T z.e.f0 z.e.f1).1.f2, .slice P3 (getN T z.e.f0 z.e.f1).1.f3.length p3]), (68, .bool (getN T z.e.f0 z.e.f1).2), (13, .pointer (some ⟨ga, 0, none⟩))]
                simp only [putAll, Act.put, List.setIfInBounds_toArray, List.set_cons_zero, List.set_cons_succ]

              · refine alloc_step (N := 13) (cs := #[.slice none 0 0, .int .i64 0, .bool false, .slice none 0 0]) (t := 34) (by rfl) rfl ?hr ?_
                case hr => first | (go_simp; done) | (go_simp; rfl)
                intro ga hqa wa hxa hba
                have hqa := Aside0.mk hqa
                have hxa := Aside0.mk hxa
                have hba := Aside0.mk hba
                refine hK.out _ _ ⟨pw_cell_below (hba.out) hHeld.1, pw_cell_below (hba.out) hHeld.2⟩ (fun hHeld => ?_)
                clear hK K
                refine m_ 13 (h := ?_)
                refine n_ 11 66 (bb 18 36863) (h := fun K hK => ?_)
                refine goes_ Try.func20 (by kernel_rfl) rfl #[.pointer (some ⟨g, 0, none⟩), .slice B0 z.e.f0.length b0, .int .i64 z.e.f1] (by rfl) rfl rfl (by (try simp only [List.map_toArray, List.map_cons, List.map_nil]); first | done | rfl) ?_
                refine (s1_get (HSr.out.below (below_step (below_drew (Below.refl _ _)) hba.out)) HT.out B0 b0 z.e.f0 z.e.f1 (Kd.C_below (K34_C (Kd.FK_now HFZ.out)).2.1 (below_step (below_drew (Below.refl _ _)) hba.out)) (K34_C (Kd.FK_now HFZ.out)).1 HZG.out.1).mono ?_
                rintro ex wc ⟨v0, v3, rfl, hvc, hbc⟩
                refine ⟨_, rfl, ?_⟩
                obtain ⟨⟨P0, p0, rfl, hl0, hF0⟩, ⟨P3, p3, rfl, hl3, hF3⟩⟩ := hvc
                have hl0 := Aside0.mk hl0
                have hF0 := Aside0.mk hF0
                have hl3 := Aside0.mk hl3
                have hF3 := Aside0.mk hF3
                have hbc := Aside0.mk hbc
                refine hK.out _ _ ⟨pw_cell_below (hbc.out) hHeld.1, pw_cell_below (hbc.out) hHeld.2⟩ (fun hHeld => ?_)
                clear hK K
                refine m_ 66 (h := ?_)
                refine p_ 12 54 (bb 18 40959) (h := ?_)
                refine p_ 13 67 (bb 18 49151) (h := ?_)
                refine p_ 14 68 (bb 18 65535) (h := ?_)
                refine norm_ ?_ (hcont (P0, p0, P3, p3, ga) _ ⟨⟨hl0.out, Kd.F_mono hF0.out (fun k hk => by have := blk_lt hxa.out; have h2 : wa.heap.size ≤ k := hk; show k ≠ ga; omega), hl3.out, Kd.F_mono hF3.out (fun k hk => by have := blk_lt hxa.out; have h2 : wa.heap.size ≤ k := hk; show k ≠ ga; omega)⟩, blk_below hxa.out hbc.out, by have := hqa.out; show _ ≤ ga; omega, below_step hba.out hbc.out⟩)
                show _ = putAll _ [(66, .tuple #[.agg #[.slice P0 (getN T z.e.f0 z.e.f1).1.f0.length p0, .int .i64 (getN T z.e.f0 z.e.f1).1.f1, .bool (getN T z.e.f0 z.e.f1).1.f2, .slice P3 (getN T z.e.f0 z.e.f1).1.f3.length p3], .bool (getN T z.e.f0 z.e.f1).2]), (54, .tuple #[.agg #[.slice P0 (getN T z.e.f0 z.e.f1).1.f0.length p0, .int .i64 (getN T z.e.f0 z.e.f1).1.f1, .bool (getN T z.e.f0 z.e.f1).1.f2, .slice P3 (getN T z.e.f0 z.e.f1).1.f3.length p3], .bool (getN T z.e.f0 z.e.f1).2]), (67, .agg #[.slice P0 (getN T z.e.f0 z.e.f1).1.f0.length p0, .int .i64 (getN T z.e.f0 z.e.f1).1.f1, .bool (getN T z.e.f0 z.e.f1).1.f2, .slice P3 (getN T z.e.f0 z.e.f1).1.f3.length p3]), (68, .bool (getN T z.e.f0 z.e.f1).2), (13, .pointer (some ⟨ga, 0, none⟩))]
                simp only [putAll, Act.put, List.setIfInBounds_toArray, List.set_cons_zero, List.set_cons_succ]

            rintro ⟨P0, p0, P3, p3, ga⟩ wc ⟨⟨hl0, hF0, hl3, hF3⟩, hxa, hga, hbc⟩
            have HL0 := Aside0.mk (show (getN T z.e.f0 z.e.f1).1.f0.length ≤ p0 from hl0)
            have HF0 := Aside0.mk (show Kd.F (Kd.int .u8) wc (fun k => k ≠ ga) P0 (getN T z.e.f0 z.e.f1).1.f0.length (getN T z.e.f0 z.e.f1).1.f0 from hF0)
            have HL3 := Aside0.mk (show (getN T z.e.f0 z.e.f1).1.f3.length ≤ p3 from hl3)
            have HF3 := Aside0.mk (show Kd.F (Kd.int .u8) wc (fun k => k ≠ ga) P3 (getN T z.e.f0 z.e.f1).1.f3.length (getN T z.e.f0 z.e.f1).1.f3 from hF3)
            have HXA := Aside0.mk (show wc.heap[ga]? = _ from hxa)
            have HGA := Aside0.mk (show wr.drew.heap.size ≤ ga from hga)
            have HBC := Aside0.mk hbc
            clear hl0 hF0 hl3 hF3 hxa hga hbc
            have hHeld := Aside0.mk (show (wc.cell? (ad.add (n * 4)) = some (.slice B0 z.e.f0.length b0) ∧ wc.cell? ⟨(ad.add (n * 4)).block, (ad.add (n * 4)).off + 1, none⟩ = some (.int .i64 z.e.f1)) ∧ True from ⟨⟨pw_cell_below (HBC.out) hHeld.1, pw_cell_below (HBC.out) hHeld.2⟩, trivial⟩)
            replace hHeld := hHeld.out.1
            refine norm_ (a' := ?_) ?_ ?_
            rotate_left
            · show putAll _ [(66, .tuple #[.agg #[.slice P0 (getN T z.e.f0 z.e.f1).1.f0.length p0, .int .i64 (getN T z.e.f0 z.e.f1).1.f1, .bool (getN T z.e.f0 z.e.f1).1.f2, .slice P3 (getN T z.e.f0 z.e.f1).1.f3.length p3], .bool (getN T z.e.f0 z.e.f1).2]), (54, .tuple #[.agg #[.slice P0 (getN T z.e.f0 z.e.f1).1.f0.length p0, .int .i64 (getN T z.e.f0 z.e.f1).1.f1, .bool (getN T z.e.f0 z.e.f1).1.f2, .slice P3 (getN T z.e.f0 z.e.f1).1.f3.length p3], .bool (getN T z.e.f0 z.e.f1).2]), (67, .agg #[.slice P0 (getN T z.e.f0 z.e.f1).1.f0.length p0, .int .i64 (getN T z.e.f0 z.e.f1).1.f1, .bool (getN T z.e.f0 z.e.f1).1.f2, .slice P3 (getN T z.e.f0 z.e.f1).1.f3.length p3]), (68, .bool (getN T z.e.f0 z.e.f1).2), (13, .pointer (some ⟨ga, 0, none⟩))] = _
              simp only [putAll, Act.put, List.setIfInBounds_toArray, List.set_cons_zero, List.set_cons_succ]
              rfl
            have hcy0 : wc.cell? ⟨ga, 0, none⟩ = some (.slice none 0 0) := (blk_cell HXA.out 0).trans rfl
            have hcy1 : wc.cell? ⟨ga, 1, none⟩ = some (.int .i64 0) := (blk_cell HXA.out 1).trans rfl
            have hcy2 : wc.cell? ⟨ga, 2, none⟩ = some (.bool false) := (blk_cell HXA.out 2).trans rfl
            have hcy3 : wc.cell? ⟨ga, 3, none⟩ = some (.slice none 0 0) := (blk_cell HXA.out 3).trans rfl
            have hfy0 : wc.frozen? ⟨ga, 0, none⟩ = false := blk_frozen HXA.out 0
            have hfy1 : wc.frozen? ⟨ga, 1, none⟩ = false := blk_frozen HXA.out 1
            have hfy2 : wc.frozen? ⟨ga, 2, none⟩ = false := blk_frozen HXA.out 2
            have hfy3 : wc.frozen? ⟨ga, 3, none⟩ = false := blk_frozen HXA.out 3
            refine l_ 16 (bb 18 131071) (h := ?_)
            clear hcy0 hcy1 hcy2 hcy3 hfy0 hfy1 hfy2 hfy3 hHeld
            have X4 := Aside0.mk (sets4 (a := .slice P0 (getN T z.e.f0 z.e.f1).1.f0.length p0) (b := .int .i64 (getN T z.e.f0 z.e.f1).1.f1) (c := .bool (getN T z.e.f0 z.e.f1).1.f2) (d := .slice P3 (getN T z.e.f0 z.e.f1).1.f3.length p3) HXA.out)
            have B4 := Aside0.mk (show Below wr.drew.heap.size wr.drew ((((wc.setCell ⟨ga, 0, none⟩ (.slice P0 (getN T z.e.f0 z.e.f1).1.f0.length p0)).setCell ⟨ga, 1, none⟩ (.int .i64 (getN T z.e.f0 z.e.f1).1.f1)).setCell ⟨ga, 2, none⟩ (.bool (getN T z.e.f0 z.e.f1).1.f2)).setCell ⟨ga, 3, none⟩ (.slice P3 (getN T z.e.f0 z.e.f1).1.f3.length p3)) from below_set (below_set (below_set (below_set HBC.out HGA.out) HGA.out) HGA.out) HGA.out)
            have HG0 := Aside0.mk (f_far4 HF0.out (fun k hk => hk) (.slice P0 (getN T z.e.f0 z.e.f1).1.f0.length p0) (.int .i64 (getN T z.e.f0 z.e.f1).1.f1) (.bool (getN T z.e.f0 z.e.f1).1.f2) (.slice P3 (getN T z.e.f0 z.e.f1).1.f3.length p3))
            have HG3 := Aside0.mk (f_far4 HF3.out (fun k hk => hk) (.slice P0 (getN T z.e.f0 z.e.f1).1.f0.length p0) (.int .i64 (getN T z.e.f0 z.e.f1).1.f1) (.bool (getN T z.e.f0 z.e.f1).1.f2) (.slice P3 (getN T z.e.f0 z.e.f1).1.f3.length p3))
            generalize ((((wc.setCell ⟨ga, 0, none⟩ (.slice P0 (getN T z.e.f0 z.e.f1).1.f0.length p0)).setCell ⟨ga, 1, none⟩ (.int .i64 (getN T z.e.f0 z.e.f1).1.f1)).setCell ⟨ga, 2, none⟩ (.bool (getN T z.e.f0 z.e.f1).1.f2)).setCell ⟨ga, 3, none⟩ (.slice P3 (getN T z.e.f0 z.e.f1).1.f3.length p3)) = w4 at X4 B4 HG0 HG3 ⊢
            clear HF0 HF3 HXA HGA HBC
            refine p_ 17 14 (bb 18 262143) (h := ?_)
            refine d_ (h := ?_)

            have HGV := Aside0.mk (get_self HT.out HZ.out)
            rw [HGV.out] at X4 HL0 HG0 HL3 HG3 ⊢
            have X4 := Aside0.mk (show w4.heap[ga]? = some (.cells #[.slice P0 z.e.f0.length p0, .int .i64 z.e.f1, .bool z.e.f2, .slice P3 z.e.f3.length p3] 34 (0, 0)) from X4.out)
            have HL0 := Aside0.mk (show z.e.f0.length ≤ p0 from HL0.out)
            have HG0 := Aside0.mk (show Kd.F (Kd.int .u8) w4 (fun k => k ≠ ga) P0 z.e.f0.length z.e.f0 from HG0.out)
            have HL3 := Aside0.mk (show z.e.f3.length ≤ p3 from HL3.out)
            have HG3 := Aside0.mk (show Kd.F (Kd.int .u8) w4 (fun k => k ≠ ga) P3 z.e.f3.length z.e.f3 from HG3.out)
            have B5 := Aside0.mk (below_drew (below_step (below_drew (Below.refl _ wr)) B4.out))
            go_wp2
            refine s_ 11 [] (fun w' => w'.cell? ⟨ga, 0, none⟩ = some (.slice P0 z.e.f0.length p0) ∧ w'.cell? ⟨ga, 1, none⟩ = some (.int .i64 z.e.f1) ∧ w'.cell? ⟨ga, 2, none⟩ = some (.bool z.e.f2) ∧ w'.cell? ⟨ga, 3, none⟩ = some (.slice P3 z.e.f3.length p3) ∧ w'.cell? (ad.add (n * 4)) = some (.slice B0 z.e.f0.length b0) ∧ w'.cell? ⟨(ad.add (n * 4)).block, (ad.add (n * 4)).off + 1, none⟩ = some (.int .i64 z.e.f1) ∧ w'.cell? ⟨(ad.add (n * 4)).block, (ad.add (n * 4)).off + 2, none⟩ = some (.bool z.e.f2) ∧ w'.cell? ⟨(ad.add (n * 4)).block, (ad.add (n * 4)).off + 3, none⟩ = some (.slice B3 z.e.f3.length b3)) (hS := ⟨(blk_cell (blk_drew X4.out) 0).trans rfl, (blk_cell (blk_drew X4.out) 1).trans rfl, (blk_cell (blk_drew X4.out) 2).trans rfl, (blk_cell (blk_drew X4.out) 3).trans rfl, pw_cell_below B5.out HD.out.1, pw_cell_below B5.out HD.out.2.1, pw_cell_below B5.out HD.out.2.2.1, pw_cell_below B5.out HD.out.2.2.2⟩) (h := fun hHeld => ?_)
            refine p_ 0 69 (bb 11 1) (h := ?_)
            refine p_ 1 70 (bb 11 3) (h := ?_)
            refine p_ 2 71 (bb 11 7) (h := ?_)
            refine t_ 3 72 (bb 11 15) hHeld (h := ?_)
            refine p_ 4 73 (bb 11 31) (h := ?_)
            refine p_ 5 74 (bb 11 63) (h := ?_)
            refine p_ 6 75 (bb 11 127) (h := ?_)
            refine t_ 7 76 (bb 11 255) hHeld (h := ?_)
            refine n_ 8 77 (bb 11 511) (h := fun K hK => ?_)
            refine goes_ Try.func24 (by kernel_rfl) rfl #[.agg #[.slice P0 z.e.f0.length p0, .int .i64 z.e.f1, .bool z.e.f2, .slice P3 z.e.f3.length p3], .agg #[.slice B0 z.e.f0.length b0, .int .i64 z.e.f1, .bool z.e.f2, .slice B3 z.e.f3.length b3]] (by rfl) rfl rfl (by (try simp only [List.map_toArray, List.map_cons, List.map_nil]); first | done | rfl) ?_
            refine (sameOneC HZG.out HZG.out (Kd.C_drew (Kd.F_now HG0.out)) HL0.out (Kd.C_drew (Kd.F_now HG3.out)) HL3.out (Kd.C_below (K34_C (Kd.FK_now HFZ.out)).2.1 B5.out) (K34_C (Kd.FK_now HFZ.out)).1 (Kd.C_below (K34_C (Kd.FK_now HFZ.out)).2.2.2 B5.out) (K34_C (Kd.FK_now HFZ.out)).2.2.1).mono ?_
            rintro ex w6 ⟨rfl, hb6⟩
            refine ⟨_, rfl, ?_⟩
            rw [show decide (z.e.f0 = z.e.f0 ∧ z.e.f1 = z.e.f1 ∧ z.e.f2 = z.e.f2 ∧ z.e.f3 = z.e.f3) = true from decide_eq_true ⟨rfl, rfl, rfl, rfl⟩]
            have hb6 := Aside0.mk hb6
            refine hK.out _ _ ⟨pw_cell_below hb6.out hHeld.1, pw_cell_below hb6.out hHeld.2.1, pw_cell_below hb6.out hHeld.2.2.1, pw_cell_below hb6.out hHeld.2.2.2.1, pw_cell_below hb6.out hHeld.2.2.2.2.1, pw_cell_below hb6.out hHeld.2.2.2.2.2.1, pw_cell_below hb6.out hHeld.2.2.2.2.2.2.1, pw_cell_below hb6.out hHeld.2.2.2.2.2.2.2⟩ (fun hHeld => ?_)
            clear hK K
            refine m_ 77 (h := ?_)
            refine p_ 9 78 (bb 11 1023) (h := ?_)
            refine p_ 10 79 (bb 11 2047) (h := ?_)
            refine d_ (h := ?_)

            clear hHeld
            have B7 := Aside0.mk (below_drew (below_step B5.out hb6.out))
            go_wp2

            by_cases hn0 : n = 0
            · have hg1 : decide ((n : Int) > 0) = false := decide_eq_false (by omega)
              have hg2 : (0 < n) = False := eq_false (by omega)
              clear hn0
              refine s_ 18 [] (fun w' => w'.heap.size = w'.heap.size) (hS := (rfl)) (h := fun hHeld => ?_)
              refine p_ 0 80 (bb 18 1) (h := ?_)
              refine p_ 1 81 (bb 18 3) (h := ?_)
              refine p_ 2 82 (bb 18 7) (h := ?_)
              refine o_ 3 83 (bb 18 15) (h := ?_)
              refine o_ 4 84 (bb 18 31) (h := ?_)
              refine o_ 5 85 (bb 18 63) (h := ?_)
              refine o_ 6 86 (bb 18 127) (h := ?_)
              refine o_ 7 87 (bb 18 255) (h := ?_)
              refine o_ 8 88 (bb 18 511) (h := ?_)
              refine o_ 9 89 (bb 18 1023) (h := ?_)
              refine o_ 10 90 (bb 18 2047) (h := ?_)
              refine o_ 11 91 (bb 18 4095) (h := ?_)
              refine o_ 12 92 (bb 18 8191) (h := ?_)
              refine o_ 13 93 (bb 18 16383) (h := ?_)
              refine o_ 14 94 (bb 18 32767) (h := ?_)
              refine o_ 15 95 (bb 18 65535) (h := ?_)
              refine o_ 16 96 (bb 18 131071) (h := ?_)
              refine p_ 17 97 (bb 18 262143) (h := ?_)
              refine d_ (h := ?_)
              clear hHeld
              go_wp2
              refine s_ 17 [] (fun w' => w'.heap.size = w'.heap.size) (hS := (rfl)) (h := fun hHeld => ?_)
              refine p_ 0 140 (bb 17 1) (h := ?_)
              refine p_ 1 141 (bb 17 3) (h := ?_)
              refine p_ 2 142 (bb 17 7) (h := ?_)
              refine o_ 3 143 (bb 17 15) (h := ?_)
              refine o_ 4 144 (bb 17 31) (h := ?_)
              refine o_ 5 145 (bb 17 63) (h := ?_)
              refine o_ 6 146 (bb 17 127) (h := ?_)
              refine o_ 7 147 (bb 17 255) (h := ?_)
              refine o_ 8 148 (bb 17 511) (h := ?_)
              refine o_ 9 149 (bb 17 1023) (h := ?_)
              refine o_ 10 150 (bb 17 2047) (h := ?_)
              refine o_ 11 151 (bb 17 4095) (h := ?_)
              refine o_ 12 152 (bb 17 8191) (h := ?_)
              refine o_ 13 153 (bb 17 16383) (h := ?_)
              refine n_ 14 154 (bb 17 32767) (h := fun K hK => ?_)
              refine off_ (by rfl) ?_
              refine hK.out _ _ hHeld (fun hHeld => ?_)
              clear hK K
              refine m_ 154 (h := ?_)
              refine o_ 15 155 (bb 17 65535) (h := ?_)
              refine p_ 16 156 (bb 17 131071) (h := ?_)
              refine d_ (h := ?_)
              clear hHeld
              go_wp2
              go_roundg k1
              case measure => exact Nat.lt_succ_self _
              case rel => exact ⟨n + 1, by first | rfl | rw [HW.out], ⟨by have h1 := HK.out; omega⟩, ⟨below_step HBr.out (below_drew B7.out)⟩⟩

            · have hnl := HNL.out
              obtain ⟨m, hm⟩ : ∃ m, n = m + 1 := ⟨n - 1, by omega⟩
              have hml : m < T.length := by omega
              obtain ⟨u, hu⟩ : ∃ u, T[m]? = some u := ⟨_, List.getElem?_eq_getElem hml⟩
              have hue : (T.map (fun t => t.e))[m]? = some u.e := by rw [List.getElem?_map, hu]; rfl
              obtain ⟨C0, c0, C3, c3, hc0_, hc1_, hc2_, hc3_, hFU⟩ := at_N34 HNr.out m u.e hue
              have HU := Aside0.mk (And.intro hc0_ hc1_)
              have HFU := Aside0.mk hFU
              have HUA := Aside0.mk hu
              have HUG := Aside0.mk (HT.out.ok u (List.mem_of_getElem? hu)).2.1
              have HM := Aside0.mk hm
              have hmt : (m < T.length) = True := eq_true hml
              have hwm : wrap64 ((n : Int) - 1) = (m : Int) := by rw [wrap_in (by omega) (by have := HTL.out; omega)]; omega
              have hg1 : decide ((n : Int) > 0) = true := decide_eq_true (by omega)
              have hg2 : (0 < n) = True := eq_true (by omega)
              have hse := str_eq HUG.out.1 HZG.out.1
              clear hc0_ hc1_ hc2_ hc3_ hFU hu hue hm hml
              by_cases hke : u.e.f0 = z.e.f0
              · have HKE := Aside0.mk hke
                have hkd : decide (u.e.f0 = z.e.f0) = true := decide_eq_true hke
                rw [hkd] at hse
                clear hke hkd hn0 hnl
                refine s_ 18 [] (fun w' => w'.cell? (ad.add (m * 4)) = some (.slice C0 u.e.f0.length c0) ∧ w'.cell? (ad.add (n * 4)) = some (.slice B0 z.e.f0.length b0) ∧ Kd.C (Kd.int .u8) w' C0 u.e.f0.length u.e.f0 ∧ Kd.C (Kd.int .u8) w' B0 z.e.f0.length z.e.f0) (hS := ⟨pw_cell_below B7.out HU.out.1, pw_cell_below B7.out HD.out.1, Kd.C_below (K34_C (Kd.FK_now HFU.out)).2.1 B7.out, Kd.C_below (K34_C (Kd.FK_now HFZ.out)).2.1 B7.out⟩) (h := fun hHeld => ?_)
                refine p_ 0 80 (bb 18 1) (h := ?_)
                refine p_ 1 81 (bb 18 3) (h := ?_)
                refine p_ 2 82 (bb 18 7) (h := ?_)
                refine p_ 3 83 (bb 18 15) (h := ?_)
                refine p_ 4 84 (bb 18 31) (h := ?_)
                refine p_ 5 85 (bb 18 63) (h := ?_)
                refine p_ 6 86 (bb 18 127) (h := ?_)
                refine p_ 7 87 (bb 18 255) (h := ?_)
                refine t_ 8 88 (bb 18 511) hHeld (h := ?_)
                refine t_ 9 89 (bb 18 1023) hHeld (hy := by (rintro w' ⟨s0, s1, s2, s3⟩; have hcv := Kd.C_string (P := Try.prog) (A := C0) (c := c0) Try.underlying32 Try.underlying5 Try.underlying9 s2; go_simp; with_reducible rfl)) (h := ?_)
                refine p_ 10 90 (bb 18 2047) (h := ?_)
                refine p_ 11 91 (bb 18 4095) (h := ?_)
                refine p_ 12 92 (bb 18 8191) (h := ?_)
                refine p_ 13 93 (bb 18 16383) (h := ?_)
                refine t_ 14 94 (bb 18 32767) hHeld (h := ?_)
                refine t_ 15 95 (bb 18 65535) hHeld (hy := by (rintro w' ⟨s0, s1, s2, s3⟩; have hcv := Kd.C_string (P := Try.prog) (A := B0) (c := b0) Try.underlying32 Try.underlying5 Try.underlying9 s3; go_simp; with_reducible rfl)) (h := ?_)
                refine p_ 16 96 (bb 18 131071) (h := ?_)
                refine p_ 17 97 (bb 18 262143) (h := ?_)
                refine d_ (h := ?_)
                clear hHeld
                have B8 := Aside0.mk (below_drew B7.out)
                have HGP := Aside0.mk (get_prev HT.out HUA.out (by have h1 := HM.out; subst h1; exact HZ.out) HKE.out)
                have HUL := Aside0.mk (okE_iff.1 (HT.out.ok u (List.mem_of_getElem? HUA.out)).1)
                have HWS := Aside0.mk (show wrap64 (u.e.f1 - 1) = u.e.f1 - 1 from wrap_in (by have h1 := HUL.out.2.2.1; omega) (by have h1 := HUL.out.2.2.2.1; omega))
                go_wp2
                clear hse
                generalize hw7d : w6.drew = w7d at B7 B8 ⊢
                clear hw7d
                refine s_ 20 [18] (fun w' => w'.cell? (ad.add (n * 4)) = some (.slice B0 z.e.f0.length b0) ∧ w'.cell? ⟨(ad.add (m * 4)).block, (ad.add (m * 4)).off + 1, none⟩ = some (.int .i64 u.e.f1)) (hS := ⟨pw_cell_below B8.out HD.out.1, pw_cell_below B8.out HU.out.2⟩) (h := fun hHeld => ?_)
                generalize w7d.drew = w8 at B8 hHeld ⊢
                refine p_ 0 99 (bb 20 1) (h := ?_)
                refine p_ 1 100 (bb 20 3) (h := ?_)
                refine p_ 2 101 (bb 20 7) (h := ?_)
                refine p_ 3 102 (bb 20 15) (h := ?_)
                refine p_ 4 103 (bb 20 31) (h := ?_)
                refine t_ 5 104 (bb 20 63) hHeld (h := ?_)
                refine p_ 6 105 (bb 20 127) (h := ?_)
                refine p_ 7 106 (bb 20 255) (h := ?_)
                refine p_ 8 107 (bb 20 511) (h := ?_)
                refine p_ 9 108 (bb 20 1023) (h := ?_)
                refine p_ 10 109 (bb 20 2047) (h := ?_)
                refine t_ 11 110 (bb 20 4095) hHeld (h := ?_)
                refine p_ 12 111 (bb 20 8191) (h := ?_)
                refine join_ (σ := Option Addr × Nat × Option Addr × Nat × Nat) 2 (bb 20 262143) (fun s => [(112, .tuple #[.agg #[.slice s.1 (getN T z.e.f0 (wrap64 (u.e.f1 - 1))).1.f0.length s.2.1, .int .i64 (getN T z.e.f0 (wrap64 (u.e.f1 - 1))).1.f1, .bool (getN T z.e.f0 (wrap64 (u.e.f1 - 1))).1.f2, .slice s.2.2.1 (getN T z.e.f0 (wrap64 (u.e.f1 - 1))).1.f3.length s.2.2.2.1], .bool (getN T z.e.f0 (wrap64 (u.e.f1 - 1))).2]), (98, .tuple #[.agg #[.slice s.1 (getN T z.e.f0 (wrap64 (u.e.f1 - 1))).1.f0.length s.2.1, .int .i64 (getN T z.e.f0 (wrap64 (u.e.f1 - 1))).1.f1, .bool (getN T z.e.f0 (wrap64 (u.e.f1 - 1))).1.f2, .slice s.2.2.1 (getN T z.e.f0 (wrap64 (u.e.f1 - 1))).1.f3.length s.2.2.2.1], .bool (getN T z.e.f0 (wrap64 (u.e.f1 - 1))).2]), (113, .agg #[.slice s.1 (getN T z.e.f0 (wrap64 (u.e.f1 - 1))).1.f0.length s.2.1, .int .i64 (getN T z.e.f0 (wrap64 (u.e.f1 - 1))).1.f1, .bool (getN T z.e.f0 (wrap64 (u.e.f1 - 1))).1.f2, .slice s.2.2.1 (getN T z.e.f0 (wrap64 (u.e.f1 - 1))).1.f3.length s.2.2.2.1]), (114, .bool (getN T z.e.f0 (wrap64 (u.e.f1 - 1))).2), (15, .pointer (some ⟨s.2.2.2.2, 0, none⟩))]) (fun (s : Option Addr × Nat × Option Addr × Nat × Nat) (w' : World) => ((getN T z.e.f0 (wrap64 (u.e.f1 - 1))).1.f0.length ≤ s.2.1 ∧ Kd.F (Kd.int .u8) w' (fun k => k ≠ s.2.2.2.2) s.1 (getN T z.e.f0 (wrap64 (u.e.f1 - 1))).1.f0.length (getN T z.e.f0 (wrap64 (u.e.f1 - 1))).1.f0 ∧ (getN T z.e.f0 (wrap64 (u.e.f1 - 1))).1.f3.length ≤ s.2.2.2.1 ∧ Kd.F (Kd.int .u8) w' (fun k => k ≠ s.2.2.2.2) s.2.2.1 (getN T z.e.f0 (wrap64 (u.e.f1 - 1))).1.f3.length (getN T z.e.f0 (wrap64 (u.e.f1 - 1))).1.f3) ∧ w'.heap[s.2.2.2.2]? = some (.cells #[.slice none 0 0, .int .i64 0, .bool false, .slice none 0 0] 34 (0, 0)) ∧ w8.heap.size ≤ s.2.2.2.2 ∧ Below w8.heap.size w8 w') ?_ (fun hcont => ?_)
                rotate_left
                · refine two_ (i := 13) (j := 17) (Ni := some 112) (Nj := some 15) (bb 20 16383) (bb 20 139263) rfl rfl rfl rfl (by kernel_rfl) (by decide) (by decide) (fun K hK => ?_) (fun K hK => ?_)
                  · refine goes_ Try.func20 (by kernel_rfl) rfl #[.pointer (some ⟨g, 0, none⟩), .slice B0 z.e.f0.length b0, .int .i64 (wrap64 (u.e.f1 - 1))] (by rfl) rfl rfl (by (try simp only [List.map_toArray, List.map_cons, List.map_nil]); first | done | rfl) ?_
                    refine (s1_get (HSr.out.below (below_step B8.out (Below.refl _ _))) HT.out B0 b0 z.e.f0 (wrap64 (u.e.f1 - 1)) (Kd.C_below (K34_C (Kd.FK_now HFZ.out)).2.1 (below_step B8.out (Below.refl _ _))) (K34_C (Kd.FK_now HFZ.out)).1 HZG.out.1).mono ?_
                    rintro ex wc ⟨v0, v3, rfl, hvc, hbc⟩
                    refine ⟨_, rfl, ?_⟩
                    obtain ⟨⟨P0, p0, rfl, hl0, hF0⟩, ⟨P3, p3, rfl, hl3, hF3⟩⟩ := hvc
                    have hl0 := Aside0.mk hl0
                    have hF0 := Aside0.mk hF0
                    have hl3 := Aside0.mk hl3
                    have hF3 := Aside0.mk hF3
                    have hbc := Aside0.mk hbc
                    refine hK.out _ _ ⟨pw_cell_below (hbc.out) hHeld.1, pw_cell_below (hbc.out) hHeld.2⟩ (fun hHeld => ?_)
                    clear hK K
                    refine m_ 112 (h := ?_)
                    refine p_ 14 98 (bb 20 32767) (h := ?_)
                    refine p_ 15 113 (bb 20 65535) (h := ?_)
                    refine p_ 16 114 (bb 20 131071) (h := ?_)
                    refine n_ 17 15 (bb 20 262143) (h := fun K hK => ?_)
                    refine alloc_step (N := 15) (cs := #[.slice none 0 0, .int .i64 0, .bool false, .slice none 0 0]) (t := 34) (by rfl) rfl ?hr ?_
                    case hr => first | (go_simp; done) | (go_simp; rfl)
                    intro ga hqa wa hxa hba
                    have hqa := Aside0.mk hqa
                    have hxa := Aside0.mk hxa
                    have hba := Aside0.mk hba
                    refine hK.out _ _ ⟨pw_cell_below (hba.out) hHeld.1, pw_cell_below (hba.out) hHeld.2⟩ (fun hHeld => ?_)
                    clear hK K
                    refine m_ 15 (h := ?_)
                    refine norm_ ?_ (hcont (P0, p0, P3, p3, ga) _ ⟨⟨hl0.out, Kd.F_mono (Kd.F_below (Kd.F_bound hF0.out) hba.out) (fun k hk => by have := hqa.out; have := hk.2; show k ≠ ga; omega), hl3.out, Kd.F_mono (Kd.F_below (Kd.F_bound hF3.out) hba.out) (fun k hk => by have := hqa.out; have := hk.2; show k ≠ ga; omega)⟩, hxa.out, by have := hqa.out; have := hbc.out.size; show _ ≤ ga; omega, below_step hbc.out hba.out⟩)
                    show _ = putAll _ [(112, .tuple #[.agg #[.slice P0 (getN T z.e.f0 (wrap64 (u.e.f1 - 1))).1.f0.length p0, .int .i64 (getN T z.e.f0 (wrap64 (u.e.f1 - 1))).1.f1, .bool (getN T z.e.f0 (wrap64 (u.e.f1 - 1))).1.f2, .slice P3 (getN T z.e.f0 (wrap64 (u.e.f1 - 1))).1.f3.length p3], .bool (getN T z.e.f0 (wrap64 (u.e.f1 - 1))).2]), (98, .tuple #[.agg #[.slice P0 (getN T z.e.f0 (wrap64 (u.e.f1 - 1))).1.f0.length p0, .int .i64 (getN T z.e.f0 (wrap64 (u.e.f1 - 1))).1.f1, .bool (getN T z.e.f0 (wrap64 (u.e.f1 - 1))).1.f2, .slice P3 (getN T z.e.f0 (wrap64 (u.e.f1 - 1))).1.f3.length p3], .bool (getN T z.e.f0 (wrap64 (u.e.f1 - 1))).2]), (113, .agg #[.slice P0 (getN T z.e.f0 (wrap64 (u.e.f1 - 1))).1.f0.length p0, .int .i64 (getN T z.e.f0 (wrap64 (u.e.f1 - 1))).1.f1, .bool (getN T z.e.f0 (wrap64 (u.e.f1 - 1))).1.f2, .slice P3 (getN T z.e.f0 (wrap64 (u.e.f1 - 1))).1.f3.length p3]), (114, .bool (getN T z.e.f0 (wrap64 (u.e.f1 - 1))).2), (15, .pointer (some ⟨ga, 0, none⟩))]
                    simp only [putAll, Act.put, List.setIfInBounds_toArray, List.set_cons_zero, List.set_cons_succ]

                  · refine alloc_step (N := 15) (cs := #[.slice none 0 0, .int .i64 0, .bool false, .slice none 0 0]) (t := 34) (by rfl) rfl ?hr ?_
                    case hr => first | (go_simp; done) | (go_simp; rfl)
                    intro ga hqa wa hxa hba
                    have hqa := Aside0.mk hqa
                    have hxa := Aside0.mk hxa
                    have hba := Aside0.mk hba
                    refine hK.out _ _ ⟨pw_cell_below (hba.out) hHeld.1, pw_cell_below (hba.out) hHeld.2⟩ (fun hHeld => ?_)
                    clear hK K
                    refine m_ 15 (h := ?_)
                    refine n_ 13 112 (bb 20 147455) (h := fun K hK => ?_)
                    refine goes_ Try.func20 (by kernel_rfl) rfl #[.pointer (some ⟨g, 0, none⟩), .slice B0 z.e.f0.length b0, .int .i64 (wrap64 (u.e.f1 - 1))] (by rfl) rfl rfl (by (try simp only [List.map_toArray, List.map_cons, List.map_nil]); first | done | rfl) ?_
                    refine (s1_get (HSr.out.below (below_step B8.out hba.out)) HT.out B0 b0 z.e.f0 (wrap64 (u.e.f1 - 1)) (Kd.C_below (K34_C (Kd.FK_now HFZ.out)).2.1 (below_step B8.out hba.out)) (K34_C (Kd.FK_now HFZ.out)).1 HZG.out.1).mono ?_
                    rintro ex wc ⟨v0, v3, rfl, hvc, hbc⟩
                    refine ⟨_, rfl, ?_⟩
                    obtain ⟨⟨P0, p0, rfl, hl0, hF0⟩, ⟨P3, p3, rfl, hl3, hF3⟩⟩ := hvc
                    have hl0 := Aside0.mk hl0
                    have hF0 := Aside0.mk hF0
                    have hl3 := Aside0.mk hl3
                    have hF3 := Aside0.mk hF3
                    have hbc := Aside0.mk hbc
                    refine hK.out _ _ ⟨pw_cell_below (hbc.out) hHeld.1, pw_cell_below (hbc.out) hHeld.2⟩ (fun hHeld => ?_)
                    clear hK K
                    refine m_ 112 (h := ?_)
                    refine p_ 14 98 (bb 20 163839) (h := ?_)
                    refine p_ 15 113 (bb 20 196607) (h := ?_)
                    refine p_ 16 114 (bb 20 262143) (h := ?_)
                    refine norm_ ?_ (hcont (P0, p0, P3, p3, ga) _ ⟨⟨hl0.out, Kd.F_mono hF0.out (fun k hk => by have := blk_lt hxa.out; have h2 : wa.heap.size ≤ k := hk; show k ≠ ga; omega), hl3.out, Kd.F_mono hF3.out (fun k hk => by have := blk_lt hxa.out; have h2 : wa.heap.size ≤ k := hk; show k ≠ ga; omega)⟩, blk_below hxa.out hbc.out, by have := hqa.out; show _ ≤ ga; omega, below_step hba.out hbc.out⟩)
                    show _ = putAll _ [(112, .tuple #[.agg #[.slice P0 (getN T z.e.f0 (wrap64 (u.e.f1 - 1))).1.f0.length p0, .int .i64 (getN T z.e.f0 (wrap64 (u.e.f1 - 1))).1.f1, .bool (getN T z.e.f0 (wrap64 (u.e.f1 - 1))).1.f2, .slice P3 (getN T z.e.f0 (wrap64 (u.e.f1 - 1))).1.f3.length p3], .bool (getN T z.e.f0 (wrap64 (u.e.f1 - 1))).2]), (98, .tuple #[.agg #[.slice P0 (getN T z.e.f0 (wrap64 (u.e.f1 - 1))).1.f0.length p0, .int .i64 (getN T z.e.f0 (wrap64 (u.e.f1 - 1))).1.f1, .bool (getN T z.e.f0 (wrap64 (u.e.f1 - 1))).1.f2, .slice P3 (getN T z.e.f0 (wrap64 (u.e.f1 - 1))).1.f3.length p3], .bool (getN T z.e.f0 (wrap64 (u.e.f1 - 1))).2]), (113, .agg #[.slice P0 (getN T z.e.f0 (wrap64 (u.e.f1 - 1))).1.f0.length p0, .int .i64 (getN T z.e.f0 (wrap64 (u.e.f1 - 1))).1.f1, .bool (getN T z.e.f0 (wrap64 (u.e.f1 - 1))).1.f2, .slice P3 (getN T z.e.f0 (wrap64 (u.e.f1 - 1))).1.f3.length p3]), (114, .bool (getN T z.e.f0 (wrap64 (u.e.f1 - 1))).2), (15, .pointer (some ⟨ga, 0, none⟩))]
                    simp only [putAll, Act.put, List.setIfInBounds_toArray, List.set_cons_zero, List.set_cons_succ]

                rintro ⟨P0, p0, P3, p3, ga⟩ wc ⟨⟨hl0, hF0, hl3, hF3⟩, hxa, hga, hbc⟩
                have HL0 := Aside0.mk (show (getN T z.e.f0 (wrap64 (u.e.f1 - 1))).1.f0.length ≤ p0 from hl0)
                have HF0 := Aside0.mk (show Kd.F (Kd.int .u8) wc (fun k => k ≠ ga) P0 (getN T z.e.f0 (wrap64 (u.e.f1 - 1))).1.f0.length (getN T z.e.f0 (wrap64 (u.e.f1 - 1))).1.f0 from hF0)
                have HL3 := Aside0.mk (show (getN T z.e.f0 (wrap64 (u.e.f1 - 1))).1.f3.length ≤ p3 from hl3)
                have HF3 := Aside0.mk (show Kd.F (Kd.int .u8) wc (fun k => k ≠ ga) P3 (getN T z.e.f0 (wrap64 (u.e.f1 - 1))).1.f3.length (getN T z.e.f0 (wrap64 (u.e.f1 - 1))).1.f3 from hF3)
                have HXA := Aside0.mk (show wc.heap[ga]? = _ from hxa)
                have HGA := Aside0.mk (show w8.heap.size ≤ ga from hga)
                have HBC := Aside0.mk hbc
                clear hl0 hF0 hl3 hF3 hxa hga hbc
                have hHeld := Aside0.mk (show (wc.cell? (ad.add (n * 4)) = some (.slice B0 z.e.f0.length b0) ∧ wc.cell? ⟨(ad.add (m * 4)).block, (ad.add (m * 4)).off + 1, none⟩ = some (.int .i64 u.e.f1)) ∧ True from ⟨⟨pw_cell_below (HBC.out) hHeld.1, pw_cell_below (HBC.out) hHeld.2⟩, trivial⟩)
                replace hHeld := hHeld.out.1
                refine norm_ (a' := ?_) ?_ ?_
                rotate_left
                · show putAll _ [(112, .tuple #[.agg #[.slice P0 (getN T z.e.f0 (wrap64 (u.e.f1 - 1))).1.f0.length p0, .int .i64 (getN T z.e.f0 (wrap64 (u.e.f1 - 1))).1.f1, .bool (getN T z.e.f0 (wrap64 (u.e.f1 - 1))).1.f2, .slice P3 (getN T z.e.f0 (wrap64 (u.e.f1 - 1))).1.f3.length p3], .bool (getN T z.e.f0 (wrap64 (u.e.f1 - 1))).2]), (98, .tuple #[.agg #[.slice P0 (getN T z.e.f0 (wrap64 (u.e.f1 - 1))).1.f0.length p0, .int .i64 (getN T z.e.f0 (wrap64 (u.e.f1 - 1))).1.f1, .bool (getN T z.e.f0 (wrap64 (u.e.f1 - 1))).1.f2, .slice P3 (getN T z.e.f0 (wrap64 (u.e.f1 - 1))).1.f3.length p3], .bool (getN T z.e.f0 (wrap64 (u.e.f1 - 1))).2]), (113, .agg #[.slice P0 (getN T z.e.f0 (wrap64 (u.e.f1 - 1))).1.f0.length p0, .int .i64 (getN T z.e.f0 (wrap64 (u.e.f1 - 1))).1.f1, .bool (getN T z.e.f0 (wrap64 (u.e.f1 - 1))).1.f2, .slice P3 (getN T z.e.f0 (wrap64 (u.e.f1 - 1))).1.f3.length p3]), (114, .bool (getN T z.e.f0 (wrap64 (u.e.f1 - 1))).2), (15, .pointer (some ⟨ga, 0, none⟩))] = _
                  simp only [putAll, Act.put, List.setIfInBounds_toArray, List.set_cons_zero, List.set_cons_succ]
                  rfl
                have hcy0 : wc.cell? ⟨ga, 0, none⟩ = some (.slice none 0 0) := (blk_cell HXA.out 0).trans rfl
                have hcy1 : wc.cell? ⟨ga, 1, none⟩ = some (.int .i64 0) := (blk_cell HXA.out 1).trans rfl
                have hcy2 : wc.cell? ⟨ga, 2, none⟩ = some (.bool false) := (blk_cell HXA.out 2).trans rfl
                have hcy3 : wc.cell? ⟨ga, 3, none⟩ = some (.slice none 0 0) := (blk_cell HXA.out 3).trans rfl
                have hfy0 : wc.frozen? ⟨ga, 0, none⟩ = false := blk_frozen HXA.out 0
                have hfy1 : wc.frozen? ⟨ga, 1, none⟩ = false := blk_frozen HXA.out 1
                have hfy2 : wc.frozen? ⟨ga, 2, none⟩ = false := blk_frozen HXA.out 2
                have hfy3 : wc.frozen? ⟨ga, 3, none⟩ = false := blk_frozen HXA.out 3
                refine l_ 18 (bb 20 524287) (h := ?_)
                clear hcy0 hcy1 hcy2 hcy3 hfy0 hfy1 hfy2 hfy3 hHeld
                have X9 := Aside0.mk (sets4 (a := .slice P0 (getN T z.e.f0 (wrap64 (u.e.f1 - 1))).1.f0.length p0) (b := .int .i64 (getN T z.e.f0 (wrap64 (u.e.f1 - 1))).1.f1) (c := .bool (getN T z.e.f0 (wrap64 (u.e.f1 - 1))).1.f2) (d := .slice P3 (getN T z.e.f0 (wrap64 (u.e.f1 - 1))).1.f3.length p3) HXA.out)
                have B9 := Aside0.mk (show Below w8.heap.size w8 ((((wc.setCell ⟨ga, 0, none⟩ (.slice P0 (getN T z.e.f0 (wrap64 (u.e.f1 - 1))).1.f0.length p0)).setCell ⟨ga, 1, none⟩ (.int .i64 (getN T z.e.f0 (wrap64 (u.e.f1 - 1))).1.f1)).setCell ⟨ga, 2, none⟩ (.bool (getN T z.e.f0 (wrap64 (u.e.f1 - 1))).1.f2)).setCell ⟨ga, 3, none⟩ (.slice P3 (getN T z.e.f0 (wrap64 (u.e.f1 - 1))).1.f3.length p3)) from below_set (below_set (below_set (below_set HBC.out HGA.out) HGA.out) HGA.out) HGA.out)
                have HH0 := Aside0.mk (f_far4 HF0.out (fun k hk => hk) (.slice P0 (getN T z.e.f0 (wrap64 (u.e.f1 - 1))).1.f0.length p0) (.int .i64 (getN T z.e.f0 (wrap64 (u.e.f1 - 1))).1.f1) (.bool (getN T z.e.f0 (wrap64 (u.e.f1 - 1))).1.f2) (.slice P3 (getN T z.e.f0 (wrap64 (u.e.f1 - 1))).1.f3.length p3))
                have HH3 := Aside0.mk (f_far4 HF3.out (fun k hk => hk) (.slice P0 (getN T z.e.f0 (wrap64 (u.e.f1 - 1))).1.f0.length p0) (.int .i64 (getN T z.e.f0 (wrap64 (u.e.f1 - 1))).1.f1) (.bool (getN T z.e.f0 (wrap64 (u.e.f1 - 1))).1.f2) (.slice P3 (getN T z.e.f0 (wrap64 (u.e.f1 - 1))).1.f3.length p3))
                generalize ((((wc.setCell ⟨ga, 0, none⟩ (.slice P0 (getN T z.e.f0 (wrap64 (u.e.f1 - 1))).1.f0.length p0)).setCell ⟨ga, 1, none⟩ (.int .i64 (getN T z.e.f0 (wrap64 (u.e.f1 - 1))).1.f1)).setCell ⟨ga, 2, none⟩ (.bool (getN T z.e.f0 (wrap64 (u.e.f1 - 1))).1.f2)).setCell ⟨ga, 3, none⟩ (.slice P3 (getN T z.e.f0 (wrap64 (u.e.f1 - 1))).1.f3.length p3)) = w9 at X9 B9 HH0 HH3 ⊢
                clear HF0 HF3 HXA HGA HBC
                refine p_ 19 16 (bb 20 1048575) (h := ?_)
                refine d_ (h := ?_)
                rw [HWS.out, HGP.out.1] at X9 HL0 HH0 HL3 HH3 ⊢
                have X9 := Aside0.mk (show w9.heap[ga]? = some (.cells #[.slice P0 z.e.f0.length p0, .int .i64 z.e.f1, .bool z.e.f2, .slice P3 z.e.f3.length p3] 34 (0, 0)) from X9.out)
                have HL0 := Aside0.mk (show z.e.f0.length ≤ p0 from HL0.out)
                have HH0 := Aside0.mk (show Kd.F (Kd.int .u8) w9 (fun k => k ≠ ga) P0 z.e.f0.length z.e.f0 from HH0.out)
                have HL3 := Aside0.mk (show z.e.f3.length ≤ p3 from HL3.out)
                have HH3 := Aside0.mk (show Kd.F (Kd.int .u8) w9 (fun k => k ≠ ga) P3 z.e.f3.length z.e.f3 from HH3.out)
                have B10 := Aside0.mk (below_drew (below_step B8.out B9.out))
                have hle : decide (u.e.f1 ≤ z.e.f1) = false := decide_eq_false (by have h1 := HGP.out.2; omega)
                go_wp2
                refine s_ 25 [] (fun w' => w'.cell? ⟨ga, 0, none⟩ = some (.slice P0 z.e.f0.length p0) ∧ w'.cell? ⟨ga, 1, none⟩ = some (.int .i64 z.e.f1) ∧ w'.cell? ⟨ga, 2, none⟩ = some (.bool z.e.f2) ∧ w'.cell? ⟨ga, 3, none⟩ = some (.slice P3 z.e.f3.length p3) ∧ w'.cell? (ad.add (n * 4)) = some (.slice B0 z.e.f0.length b0) ∧ w'.cell? ⟨(ad.add (n * 4)).block, (ad.add (n * 4)).off + 1, none⟩ = some (.int .i64 z.e.f1) ∧ w'.cell? ⟨(ad.add (n * 4)).block, (ad.add (n * 4)).off + 2, none⟩ = some (.bool z.e.f2) ∧ w'.cell? ⟨(ad.add (n * 4)).block, (ad.add (n * 4)).off + 3, none⟩ = some (.slice B3 z.e.f3.length b3) ∧ w'.cell? ⟨(ad.add (m * 4)).block, (ad.add (m * 4)).off + 1, none⟩ = some (.int .i64 u.e.f1)) (hS := ⟨(blk_cell (blk_drew X9.out) 0).trans rfl, (blk_cell (blk_drew X9.out) 1).trans rfl, (blk_cell (blk_drew X9.out) 2).trans rfl, (blk_cell (blk_drew X9.out) 3).trans rfl, pw_cell_below B10.out HD.out.1, pw_cell_below B10.out HD.out.2.1, pw_cell_below B10.out HD.out.2.2.1, pw_cell_below B10.out HD.out.2.2.2, pw_cell_below B10.out HU.out.2⟩) (h := fun hHeld => ?_)
                refine p_ 0 115 (bb 25 1) (h := ?_)
                refine p_ 1 116 (bb 25 3) (h := ?_)
                refine p_ 2 117 (bb 25 7) (h := ?_)
                refine t_ 3 118 (bb 25 15) hHeld (h := ?_)
                refine p_ 4 119 (bb 25 31) (h := ?_)
                refine p_ 5 120 (bb 25 63) (h := ?_)
                refine p_ 6 121 (bb 25 127) (h := ?_)
                refine t_ 7 122 (bb 25 255) hHeld (h := ?_)
                refine n_ 8 123 (bb 25 511) (h := fun K hK => ?_)
                refine goes_ Try.func24 (by kernel_rfl) rfl #[.agg #[.slice P0 z.e.f0.length p0, .int .i64 z.e.f1, .bool z.e.f2, .slice P3 z.e.f3.length p3], .agg #[.slice B0 z.e.f0.length b0, .int .i64 z.e.f1, .bool z.e.f2, .slice B3 z.e.f3.length b3]] (by rfl) rfl rfl (by (try simp only [List.map_toArray, List.map_cons, List.map_nil]); first | done | rfl) ?_
                refine (sameOneC HZG.out HZG.out (Kd.C_drew (Kd.F_now HH0.out)) HL0.out (Kd.C_drew (Kd.F_now HH3.out)) HL3.out (Kd.C_below (K34_C (Kd.FK_now HFZ.out)).2.1 B10.out) (K34_C (Kd.FK_now HFZ.out)).1 (Kd.C_below (K34_C (Kd.FK_now HFZ.out)).2.2.2 B10.out) (K34_C (Kd.FK_now HFZ.out)).2.2.1).mono ?_
                rintro ex w11 ⟨rfl, hb11⟩
                refine ⟨_, rfl, ?_⟩
                rw [show decide (z.e.f0 = z.e.f0 ∧ z.e.f1 = z.e.f1 ∧ z.e.f2 = z.e.f2 ∧ z.e.f3 = z.e.f3) = true from decide_eq_true ⟨rfl, rfl, rfl, rfl⟩]
                have hb11 := Aside0.mk hb11
                refine hK.out _ _ ⟨pw_cell_below hb11.out hHeld.1, pw_cell_below hb11.out hHeld.2.1, pw_cell_below hb11.out hHeld.2.2.1, pw_cell_below hb11.out hHeld.2.2.2.1, pw_cell_below hb11.out hHeld.2.2.2.2.1, pw_cell_below hb11.out hHeld.2.2.2.2.2.1, pw_cell_below hb11.out hHeld.2.2.2.2.2.2.1, pw_cell_below hb11.out hHeld.2.2.2.2.2.2.2.1, pw_cell_below hb11.out hHeld.2.2.2.2.2.2.2.2⟩ (fun hHeld => ?_)
                clear hK K
                refine m_ 123 (h := ?_)
                refine p_ 9 124 (bb 25 1023) (h := ?_)
                refine p_ 10 125 (bb 25 2047) (h := ?_)
                refine p_ 11 126 (bb 25 4095) (h := ?_)
                refine p_ 12 127 (bb 25 8191) (h := ?_)
                refine p_ 13 128 (bb 25 16383) (h := ?_)
                refine p_ 14 129 (bb 25 32767) (h := ?_)
                refine p_ 15 130 (bb 25 65535) (h := ?_)
                refine p_ 16 131 (bb 25 131071) (h := ?_)
                refine t_ 17 132 (bb 25 262143) hHeld (h := ?_)
                refine p_ 18 133 (bb 25 524287) (h := ?_)
                refine p_ 19 134 (bb 25 1048575) (h := ?_)
                refine p_ 20 135 (bb 25 2097151) (h := ?_)
                refine p_ 21 136 (bb 25 4194303) (h := ?_)
                refine t_ 22 137 (bb 25 8388607) hHeld (h := ?_)
                refine p_ 23 138 (bb 25 16777215) (h := ?_)
                refine p_ 24 139 (bb 25 33554431) (h := ?_)
                refine d_ (h := ?_)
                clear hHeld hle
                go_wp2
                go_roundg k1
                case measure => exact Nat.lt_succ_self _
                case rel => exact ⟨n + 1, by first | rfl | rw [HW.out], ⟨by have h1 := HK.out; omega⟩, ⟨below_step HBr.out (below_step B10.out hb11.out)⟩⟩

              · have HKN := Aside0.mk hke
                have hkd : decide (u.e.f0 = z.e.f0) = false := decide_eq_false hke
                rw [hkd] at hse
                clear hke hkd hn0 hnl
                refine s_ 18 [] (fun w' => w'.cell? (ad.add (m * 4)) = some (.slice C0 u.e.f0.length c0) ∧ w'.cell? (ad.add (n * 4)) = some (.slice B0 z.e.f0.length b0) ∧ Kd.C (Kd.int .u8) w' C0 u.e.f0.length u.e.f0 ∧ Kd.C (Kd.int .u8) w' B0 z.e.f0.length z.e.f0) (hS := ⟨pw_cell_below B7.out HU.out.1, pw_cell_below B7.out HD.out.1, Kd.C_below (K34_C (Kd.FK_now HFU.out)).2.1 B7.out, Kd.C_below (K34_C (Kd.FK_now HFZ.out)).2.1 B7.out⟩) (h := fun hHeld => ?_)
                refine p_ 0 80 (bb 18 1) (h := ?_)
                refine p_ 1 81 (bb 18 3) (h := ?_)
                refine p_ 2 82 (bb 18 7) (h := ?_)
                refine p_ 3 83 (bb 18 15) (h := ?_)
                refine p_ 4 84 (bb 18 31) (h := ?_)
                refine p_ 5 85 (bb 18 63) (h := ?_)
                refine p_ 6 86 (bb 18 127) (h := ?_)
                refine p_ 7 87 (bb 18 255) (h := ?_)
                refine t_ 8 88 (bb 18 511) hHeld (h := ?_)
                refine t_ 9 89 (bb 18 1023) hHeld (hy := by (rintro w' ⟨s0, s1, s2, s3⟩; have hcv := Kd.C_string (P := Try.prog) (A := C0) (c := c0) Try.underlying32 Try.underlying5 Try.underlying9 s2; go_simp; with_reducible rfl)) (h := ?_)
                refine p_ 10 90 (bb 18 2047) (h := ?_)
                refine p_ 11 91 (bb 18 4095) (h := ?_)
                refine p_ 12 92 (bb 18 8191) (h := ?_)
                refine p_ 13 93 (bb 18 16383) (h := ?_)
                refine t_ 14 94 (bb 18 32767) hHeld (h := ?_)
                refine t_ 15 95 (bb 18 65535) hHeld (hy := by (rintro w' ⟨s0, s1, s2, s3⟩; have hcv := Kd.C_string (P := Try.prog) (A := B0) (c := b0) Try.underlying32 Try.underlying5 Try.underlying9 s3; go_simp; with_reducible rfl)) (h := ?_)
                refine p_ 16 96 (bb 18 131071) (h := ?_)
                refine p_ 17 97 (bb 18 262143) (h := ?_)
                refine d_ (h := ?_)
                clear hHeld hse
                have B8 := Aside0.mk (below_drew B7.out)
                have HLS := Aside0.mk (next_less HT.out HUA.out (by have h1 := HM.out; subst h1; exact HZ.out) HKN.out)
                have HUL := Aside0.mk (show u.e.f0.length ≤ 140737488355328 by have h1 := (okE_len (HT.out.ok u (List.mem_of_getElem? HUA.out)).1).1; omega)
                go_wp2
                generalize hw7d : w6.drew = w7d at B7 B8 ⊢
                clear hw7d
                refine s_ 17 [] (fun w' => w'.cell? (ad.add (m * 4)) = some (.slice C0 u.e.f0.length c0) ∧ w'.cell? (ad.add (n * 4)) = some (.slice B0 z.e.f0.length b0)) (hS := ⟨pw_cell_below B8.out HU.out.1, pw_cell_below B8.out HD.out.1⟩) (h := fun hHeld => ?_)
                generalize w7d.drew = w8 at B8 hHeld ⊢
                refine p_ 0 140 (bb 17 1) (h := ?_)
                refine p_ 1 141 (bb 17 3) (h := ?_)
                refine p_ 2 142 (bb 17 7) (h := ?_)
                refine p_ 3 143 (bb 17 15) (h := ?_)
                refine p_ 4 144 (bb 17 31) (h := ?_)
                refine p_ 5 145 (bb 17 63) (h := ?_)
                refine p_ 6 146 (bb 17 127) (h := ?_)
                refine p_ 7 147 (bb 17 255) (h := ?_)
                refine t_ 8 148 (bb 17 511) hHeld (h := ?_)
                refine p_ 9 149 (bb 17 1023) (h := ?_)
                refine p_ 10 150 (bb 17 2047) (h := ?_)
                refine p_ 11 151 (bb 17 4095) (h := ?_)
                refine p_ 12 152 (bb 17 8191) (h := ?_)
                refine t_ 13 153 (bb 17 16383) hHeld (h := ?_)
                refine n_ 14 154 (bb 17 32767) (h := fun K hK => ?_)
                refine goes_ Try.func25 (by kernel_rfl) rfl #[.slice C0 u.e.f0.length c0, .slice B0 z.e.f0.length b0] (by rfl) rfl rfl (by (try simp only [List.map_toArray, List.map_cons, List.map_nil]); first | done | rfl) ?_
                refine (rlessC (Kd.C_below (K34_C (Kd.FK_now HFU.out)).2.1 B8.out) (K34_C (Kd.FK_now HFU.out)).1 (Kd.C_below (K34_C (Kd.FK_now HFZ.out)).2.1 B8.out) (K34_C (Kd.FK_now HFZ.out)).1 HUL.out).mono ?_
                rintro ex w9 ⟨rfl, hb9⟩
                refine ⟨_, rfl, ?_⟩
                rw [HLS.out]
                have hb9 := Aside0.mk hb9
                refine hK.out _ _ ⟨pw_cell_below hb9.out hHeld.1, pw_cell_below hb9.out hHeld.2⟩ (fun hHeld => ?_)
                clear hK K
                refine m_ 154 (h := ?_)
                refine p_ 15 155 (bb 17 65535) (h := ?_)
                refine p_ 16 156 (bb 17 131071) (h := ?_)
                refine d_ (h := ?_)
                clear hHeld
                go_wp2
                go_roundg k1
                case measure => exact Nat.lt_succ_self _
                case rel => exact ⟨n + 1, by first | rfl | rw [HW.out], ⟨by have h1 := HK.out; omega⟩, ⟨below_step HBr.out (below_step B8.out hb9.out)⟩⟩

    | succ k1 =>
      have hnl : n < l.length := by have h1 := HK.out; omega
      have HN := Aside0.mk (show n < 60 by have h1 := HK.out; omega)
      have hlt : (n < l.length) = True := eq_true hnl
      have h60 : (n : Int) < 60 := by have := HN.out; omega
      have HW := Aside0.mk (show wrap64 ((n : Int) + 1) = ((n + 1 : Nat) : Int) by rw [wrap_in (by omega) (by omega)]; rfl)
      obtain ⟨o, ho⟩ : ∃ o, l[n]? = some o := ⟨_, List.getElem?_eq_getElem hnl⟩
      obtain ⟨ad, A0, c0, A3, c3, A4, c4, hA, hd0, hd1, hd2, hd3, hd4, hd5, hd6, hd7, hl0, hF0, hl3, hF3, hl4, hF4⟩ := at_Op2 (Kd.C_below HR.out hb1.out) HB.out n o ho
      subst hA
      have HL0 := Aside0.mk hl0
      have HF0 := Aside0.mk hF0
      have HL3 := Aside0.mk hl3
      have HF3 := Aside0.mk hF3
      have HL4 := Aside0.mk hl4
      have HF4 := Aside0.mk hF4
      have HGO := Aside0.mk (HG.out o (List.mem_of_getElem? ho))
      have HO := Aside0.mk ho
      clear hl0 hF0 hl3 hF3 hl4 hF4 ho
      clear hnl
      go_wp2_with ((with_reducible refine gate_callee (f := 12) rfl ?_); (try (refine gate_guard (by rfl) ?_; dsimp only)); refine goesL_ (some 45) rfl rfl Try.func12 (by kernel_rfl) rfl #[.pointer (some ⟨g, 0, none⟩), .pointer (some ⟨gr, 0, none⟩), .agg #[.int .i64 o.what, .int .i64 o.h, .int .i64 o.n, .slice A0 o.e.f0.length c0, .int .i64 o.e.f1, .bool o.e.f2, .slice A3 o.e.f3.length c3, .slice A4 o.hi.length c4]] rfl (by (try simp only [List.map_toArray, List.map_cons, List.map_nil]); first | done | rfl) ?_; refine (step_calls HST.out (runT_fit HG.out n) (Nat.le_trans (runT_len HG.out n) (by have := HN.out; omega)) o A0 c0 A3 c3 A4 c4 HF0.out HL0.out HF3.out HL3.out HF4.out HL4.out HGO.out).mono ?_; rintro ex w5 ⟨rfl, hs5, hb5⟩; refine ⟨_, rfl, ?_⟩; have n_ := Aside0.mk hs5; clear hs5; have hs5 := n_; clear n_; have n_ := Aside0.mk hb5; clear hb5; have hb5 := n_; clear n_)
      go_roundg k1
      case measure => exact Nat.lt_succ_self _
      case rel => exact ⟨n + 1, by first | rfl | rw [HW.out], ⟨by have h1 := HK.out; omega⟩, ⟨by rw [runT_succ HO.out]; exact hs5.out⟩, ⟨HB.out.trans hb5.out⟩⟩
end Go.Proofs.Ytjlkcidohabcfaa.Sk
