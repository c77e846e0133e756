/- The law SkipKeeps as a contract of its function. Conditions: those of each theorem. -/
import Derived.Test.YtjlkcidohabcfaaPx4
import Derived.Test.YtjlkcidohabcfaaPx5
import Derived.Test.YtjlkcidohabcfaaPx13
import Derived.Test.YtjlkcidohabcfaaPx20
import Derived.Test.YtjlkcidohabcfaaPx21
import Derived.Test.YtjlkcidohabcfaaPx22
import Derived.Test.YtjlkcidohabcfaaPx23
import Derived.Test.YtjlkcidohabcfaaPx24
import Derived.Test.YtjlkcidohabcfaaPx25
import Derived.Test.YtjlkcidohabcfaaPx27
import Derived.Test.YtjlkcidohabcfaaPx29
import Derived.Test.YtjlkcidohabcfaaH0
import Derived.Test.YtjlkcidohabcfaaHp
import Derived.Test.YtjlkcidohabcfaaHq
import Derived.Test.YtjlkcidohabcfaaHr
import Derived.Test.YtjlkcidohabcfaaHu
import Derived.Test.YtjlkcidohabcfaaHv
import Derived.Test.YtjlkcidohabcfaaHw
import Derived.Test.YtjlkcidohabcfaaHg
import Derived.Test.YtjlkcidohabcfaaHh
import Derived.Test.YtjlkcidohabcfaaHi
import Derived.Test.YtjlkcidohabcfaaHk
import Derived.Test.YtjlkcidohabcfaaHy
import Derived.Test.YtjlkcidohabcfaaHj
import Derived.Test.YtjlkcidohabcfaaHl
import Derived.Test.YtjlkcidohabcfaaHn
import Derived.Test.YtjlkcidohabcfaaHaa
import Derived.Test.YtjlkcidohabcfaaHab
import Derived.Test.YtjlkcidohabcfaaHac
import Derived.Test.YtjlkcidohabcfaaHad
import Derived.Test.YtjlkcidohabcfaaHbk
namespace Go.Proofs.Ytjlkcidohabcfaa.Sk
open Go.RowKit Go.Proofs.YtjlkcidohabcfaaW.PrintWords Go.Proofs.YtjlkcidohabcfaaW.PrintLast Go.Proofs.YtjlkcidohabcfaaW.PrintMore Go.Proofs.Ytjlkcidohabcfaa.Px
set_option linter.unusedVariables false
set_option linter.unusedSimpArgs false

open Go.Proofs.Ytjlkcidohabcfaa.Sw
/-- What a script leaves if each operation puts its entry. -/
def keepT (n : Nat) (l : List SOp) : List Tw := (l.take n).foldl (fun T o => putT T o.e o.h) []
theorem keepT_zero (l : List SOp) : keepT 0 l = [] := by simp [keepT]
theorem keepT_succ {l : List SOp} {i : Nat} {o : SOp} (h : l[i]? = some o) : keepT (i + 1) l = putT (keepT i l) o.e o.h := by
  unfold keepT
  rw [take_snoc' h, List.foldl_append]
  rfl
theorem keepT_over {l : List SOp} {n : Nat} (h : ¬ n < l.length) : keepT (n + 1) l = keepT n l := by
  unfold keepT
  rw [List.take_of_length_le (by omega), List.take_of_length_le (by omega)]
theorem keepT_fit {l : List SOp} (hg : ∀ o, o ∈ l → GoodO o) : ∀ n, FitT (keepT n l) := by
  intro n
  induction n with
  | zero => rw [keepT_zero]; exact FitT.nil
  | succ n ih =>
    by_cases h : n < l.length
    · rw [keepT_succ (List.getElem?_eq_getElem h)]
      exact ih.put (hg _ (List.getElem_mem h)).1
    · rw [keepT_over h]
      exact ih
theorem keepT_len {l : List SOp} (hg : ∀ o, o ∈ l → GoodO o) : ∀ n, (keepT n l).length ≤ n := by
  intro n
  induction n with
  | zero => rw [keepT_zero]; exact Nat.le_refl _
  | succ n ih =>
    by_cases h : n < l.length
    · rw [keepT_succ (List.getElem?_eq_getElem h)]
      exact Nat.le_trans (len_put (keepT_fit hg n) _ _) (by omega)
    · rw [keepT_over h]
      omega
theorem keepT_min (l : List SOp) (n : Nat) : keepT (min l.length n) l = keepT n l := by
  unfold keepT
  congr 1
  by_cases h : l.length ≤ n
  · rw [Nat.min_eq_left h, List.take_of_length_le (Nat.le_refl _), List.take_of_length_le h]
  · rw [Nat.min_eq_right (by omega)]
theorem s1_all_own {w : World} {base g : Nat} {T : List Tw} (h : S1 w base g T) (hT : FitT T) (hlen : T.length ≤ 1000000) :
    Calls Try.prog 19 #[.pointer (some ⟨g, 0, none⟩)] w fun ex w' => ∃ v, ex = .returned v ∧ Kd.N (kw w.heap.size) 34 w' w.heap.size (fun k => w.heap.size ≤ k) v (T.map (fun t => t.e)) ∧ Below w.heap.size w w' := by
  obtain ⟨D, ⟨K, N, nx, hS, hN, _⟩, _⟩ := h
  subst hN
  exact all_own hS hT (by rw [List.length_map] at hlen; exact hlen)
theorem Mut.block {w w' : World} {S : Nat → Prop} (h : Mut w w' S) {g : Nat} {o : Obj} (hb : w.heap[g]? = some o) (hg : ¬ S g) : w'.heap[g]? = some o := (h.far g hg).trans hb
theorem op_h {w wr : World} {ad : Addr} {xs : List SOp} (h : Kd.C kOp w (some ad) xs.length xs) (hb : Below w.heap.size w wr) (i : Nat) (o : SOp) (ho : xs[i]? = some o) : wr.cell? ⟨(ad.add (i * 8)).block, (ad.add (i * 8)).off + 1, none⟩ = some (.int .i64 o.h) := by
  obtain ⟨ad2, _, _, _, _, _, _, hA, _, h1, _⟩ := at_Op2 h hb i o ho
  cases hA
  exact h1
theorem kw_th {lo : Nat} {w : World} {e : S34} {P0 P3 : Option Addr} {d0 d3 : Nat} (h : (kw lo).K w e [.slice P0 e.f0.length d0, .int .i64 e.f1, .bool e.f2, .slice P3 e.f3.length d3]) : Th lo w P0 e.f0.length ∧ Th lo w P3 e.f3.length := ⟨h.2 _ _ d0 (by simp), h.2 _ _ d3 (by simp)⟩
theorem add_block (ad : Addr) (j : Nat) : (ad.add j).block = ad.block := by
  unfold Addr.add
  split <;> rfl
theorem byte_at {lo : Nat} {w2 w5 w' : World} {S : Nat → Prop} {A : Option Addr} {xs : List Int} (h2 : Th lo w2 A xs.length) (hc : Kd.C (Kd.int .u8) w5 A xs.length xs) (h5 : Th lo w5 A xs.length) (hm : Mut w5 w' S) (j : Nat) (hj : j < xs.length) : ∃ ad b, A = some ad ∧ w'.cell? (ad.add j) = some (.int .u8 b) ∧ w'.frozen? (ad.add j) = false ∧ lo ≤ (ad.add j).block ∧ (ad.add j).block < w2.heap.size := by
  obtain ⟨ad, hA, hb, _⟩ := row_isB hc h5 j hj
  obtain ⟨h6, cells, h7⟩ := h2 ad hA (by omega)
  obtain ⟨⟨b, h8⟩, h9⟩ := hm.byte _ hb
  exact ⟨ad, b, hA, h8, h9, by rw [add_block]; exact h6, by rw [add_block]; exact blk_lt h7⟩
theorem put_below {w w1 w2 : World} {base : Nat} {D : Nat → Prop} {g : Nat} {T : List Tw} {w0 : World} (hb : Below base w0 w) (hbs : base ≤ w.heap.size) (hb1 : Below w.heap.size w w1) (hs : SL w base D g T) (hc : Chg w1 w2 D) : Below base w0 w2 := by
  obtain ⟨_, _, _, _, _, _, _, h4⟩ := hs
  exact hb.trans ((below_weakB hbs hb1).trans (hc.to_below h4 (Nat.le_trans hbs hb1.size)))
theorem at_Nw {lo : Nat} {W : World} {base n cap : Nat} {ok : Nat → Prop} {ad : Addr} {xs : List S34} (h : Kd.N (kw lo) 34 W base ok (.slice (some ad) n cap) xs) (i : Nat) (e : S34) (he : xs[i]? = some e) :
    ∃ A0 c0 A3 c3, W.cell? (ad.add (i * 4)) = some (.slice A0 e.f0.length c0) ∧ W.cell? ⟨(ad.add (i * 4)).block, (ad.add (i * 4)).off + 3, none⟩ = some (.slice A3 e.f3.length c3) ∧ (kw lo).K W e [.slice A0 e.f0.length c0, .int .i64 e.f1, .bool e.f2, .slice A3 e.f3.length c3] := by
  have hn := (Kd.N_reads' h).1
  have hi : i < xs.length := (List.getElem?_eq_some_iff.1 he).1
  obtain ⟨c, _, hFK, hcc⟩ := Kd.N_get h e (i : Int) (by omega) (by omega)
  rw [Int.toNat_natCast, List.getD_eq_getElem?_getD, he] at hFK
  replace hFK : (kw lo).K W e c := Kd.FK_now hFK
  obtain ⟨A0, c0, A3, c3, rfl, l0, g0, l3, g3⟩ := k34_open hFK.1
  have hc : ∀ j u, ([.slice A0 e.f0.length c0, .int .i64 e.f1, .bool e.f2, .slice A3 e.f3.length c3] : List Value)[j]? = some u → W.cell? (ad.add (i * 4 + j)) = some u := by
    intro j u hu
    have := hcc j u hu
    rwa [Int.toNat_natCast] at this
  exact ⟨A0, c0, A3, c3, hc 0 _ rfl, by rw [← add_field _ _ 3 (by omega)]; exact hc 3 _ rfl, hFK⟩
theorem N_own34 {lo : Nat} {W : World} {base n cap : Nat} {ok : Nat → Prop} {ad : Addr} {xs : List S34} (h : Kd.N (kw lo) 34 W base ok (.slice (some ad) n cap) xs) : ∃ cells, W.heap[ad.block]? = some (.cells cells 34 (0, 0)) := by
  obtain ⟨_, rows, _, hR, _⟩ := h
  obtain ⟨_, _, _, q, hq, cells, h6⟩ := (Kd.R_bound hR).1 ad.block (by simp [Value.ownBlock])
  rcases List.mem_cons.1 hq with hq | hq
  · exact ⟨cells, hq ▸ h6⟩
  · exact (List.not_mem_nil hq).elim
theorem mut_cell {w w' : World} {S : Nat → Prop} (h : Mut w w' S) {p : Addr} (hp : ¬ S p.block) {v : Value} (hv : w.cell? p = some v) : w'.cell? p = some v := by
  have := h.far p.block hp
  unfold World.cell? at hv ⊢
  rw [this]
  exact hv
theorem byte_at2 {lo : Nat} {w2 w5 w' : World} {S : Nat → Prop} {A : Option Addr} {xs : List Int} (h2 : Th lo w2 A xs.length) (hc : Kd.C (Kd.int .u8) w5 A xs.length xs) (h5 : Th lo w5 A xs.length) (hm : Mut w5 w' S) (j : Nat) (hj : j < xs.length) : ∃ ad b, A = some ad ∧ w'.cell? (ad.add j) = some (.int .u8 b) ∧ w'.frozen? (ad.add j) = false ∧ lo ≤ (ad.add j).block ∧ (ad.add j).block < w2.heap.size ∧ ∃ cells, w5.heap[(ad.add j).block]? = some (.cells cells 5 (0, 0)) := by
  obtain ⟨ad, hA, hb, _, _, hcs⟩ := row_isB hc h5 j hj
  obtain ⟨h6, cells, h7⟩ := h2 ad hA (by omega)
  obtain ⟨⟨b, h8⟩, h9⟩ := hm.byte _ hb
  exact ⟨ad, b, hA, h8, h9, by rw [add_block]; exact h6, by rw [add_block]; exact blk_lt h7, by rw [add_block]; exact hcs⟩
set_option maxHeartbeats 4000000 in
set_option maxRecDepth 100000 in
theorem keeps_calls {w : World} (A : Option Addr) (c : Nat) (l : List SOp) (hr : Kd.C kOp w A l.length l) (hc : l.length ≤ c) (hg : ∀ o, o ∈ l → GoodO o) (hz : ∀ o, o ∈ l → o.e.f0.length ≤ 140737488351232 ∧ o.e.f3.length ≤ 140737488351232) :
    Calls Try.prog 7 #[.slice A l.length c] w fun ex w' => ex = .returned (.bool true) ∧ Below w.heap.size w w' := by
  have hu34 := Try.underlying34
  have hu36 := Try.underlying36
  have hu30 := Try.underlying30
  have HR := Aside0.mk hr
  have HG := Aside0.mk hg
  have HMAX := Aside0.mk (Kd.C_max hr)
  clear hr hg
  have HC := Aside0.mk hc
  have HZS := Aside0.mk hz
  clear hc hz
  go_enter Try.func7, Try.ntmps7
  go_wp2_with (first
    | ((with_reducible refine gate_callee (f := 10) rfl ?_); (try (refine gate_guard (by rfl) ?_; dsimp only)); refine goesL_ (some 16) rfl rfl Try.func10 (by kernel_rfl) rfl #[] rfl (by (try simp only [List.map_toArray, List.map_cons, List.map_nil]); first | done | rfl) ?_; refine (awake_calls w).mono ?_; rintro ex w1 ⟨rfl, hb1⟩; refine ⟨_, rfl, ?_⟩; have n_ := Aside0.mk hb1; clear hb1; have hb1 := n_; clear n_)
    | ((with_reducible refine gate_callee (f := 11) rfl ?_); (try (refine gate_guard (by rfl) ?_; dsimp only)); refine goesL_ (some 17) rfl rfl Try.func11 (by kernel_rfl) rfl #[] rfl (by (try simp only [List.map_toArray, List.map_cons, List.map_nil]); first | done | rfl) ?_; refine (s1_new w1).mono ?_; rintro ex w2 ⟨g, rfl, hs1, hb2⟩; refine ⟨_, rfl, ?_⟩; have n_ := Aside0.mk hs1; clear hs1; have hs1 := n_; clear n_; have n_ := Aside0.mk hb2; clear hb2; have hb2 := n_; clear n_))
  go_loopg [5] (min l.length 60) (fun kq v5 w' => ∃ n : Nat, v5 = .int .i64 (n : Int) ∧ Aside0 (kq + n = min l.length 60) ∧ Aside0 (S1 w' w1.heap.size g (keepT n l)) ∧ Aside0 (Below w1.heap.size w1 w'))
  case atStart => exact ⟨0, rfl, ⟨rfl⟩, ⟨by rw [keepT_zero]; exact hs1.out⟩, hb2⟩
  case round =>
    obtain ⟨n, rfl, HK, HST, HB⟩ := hrel
    cases gk with
    | zero =>
      have HE := Aside0.mk (show keepT n l = keepT 60 l by rw [← keepT_min l 60]; congr 1; have h1 := HK.out; omega)
      rw [HE.out] at HST
      have HT := Aside0.mk (keepT_fit HG.out 60)
      have HTL := Aside0.mk (keepT_len HG.out 60)
      obtain ⟨T, hTT⟩ : ∃ T, T = keepT 60 l := ⟨_, rfl⟩
      rw [← hTT] at HST HT HTL
      have HTT := Aside0.mk hTT
      have HS1 := Aside0.mk HST.out
      clear HE hTT
      by_cases hnl : n < l.length
      · have hlt : (n < l.length) = True := eq_true hnl
        have h60 : decide ((n : Int) < 60) = false := decide_eq_false (by have h1 := HK.out; omega)
        clear hnl HK
        clear HST
        have HBW := Aside0.mk (hb1.out.trans (below_weakB hb1.out.size HB.out))
        go_wp2_with (first
          | ((with_reducible refine gate_callee (f := 19) rfl ?_); (try (refine gate_guard (by rfl) ?_; dsimp only)); refine goesL_ (some 77) rfl rfl Try.func19 (by kernel_rfl) rfl #[.pointer (some ⟨g, 0, none⟩)] rfl (by (try simp only [List.map_toArray, List.map_cons, List.map_nil]); first | done | rfl) ?_; refine (s1_all_own HS1.out HT.out (by have := HTL.out; omega)).mono ?_; rintro ex w6 ⟨v6, rfl, hn6, hb6⟩; refine ⟨_, rfl, ?_⟩; obtain ⟨A6, c6, rfl⟩ := Kd.N_slice hn6; rw [List.length_map]; have n_ := Aside0.mk hn6; clear hn6; have hn6 := n_; clear n_; have n_ := Aside0.mk hb6; clear hb6; have hb6 := n_; clear n_; have HS6 := Aside0.mk (HS1.out.below hb6.out))
          | ((with_reducible refine gate_callee (f := 19) rfl ?_); (try (refine gate_guard (by rfl) ?_; dsimp only)); refine goesL_ (some 79) rfl rfl Try.func19 (by kernel_rfl) rfl #[.pointer (some ⟨g, 0, none⟩)] rfl (by (try simp only [List.map_toArray, List.map_cons, List.map_nil]); first | done | rfl) ?_; refine (s1_all HS6.out HT.out (by have := HTL.out; omega)).mono ?_; rintro ex w7 ⟨v7, rfl, hn7, hb7⟩; refine ⟨_, rfl, ?_⟩; obtain ⟨A7, c7, rfl⟩ := Kd.N_slice hn7; rw [List.length_map]; have n_ := Aside0.mk hn7; clear hn7; have hn7 := n_; clear n_; have n_ := Aside0.mk hb7; clear hb7; have hb7 := n_; clear n_))
        clear hlt
        have HKEEP := Aside0.mk (show ∀ w' : World, Mut w7 w' (fun q => wr.heap.size ≤ q ∧ q < w6.heap.size ∧ ∃ cells, w7.heap[q]? = some (.cells cells 5 (0, 0))) → S1 w' w1.heap.size g T from fun w' hm => by
          obtain ⟨D, hSL, hD⟩ := HS1.out
          refine ⟨_, ((hSL.bound.below hb6.out).below hb7.out).step (by rw [hm.size]; exact Nat.le_refl _) (fun k hk _ => hm.far k (fun hs => ?_)), fun k hk => ?_⟩
          · have h1 := hk.2
            have h2 := hs.1
            omega
          · have h1 := hk.2
            have h2 := hb6.out.size
            have h3 := hb7.out.size
            rw [hm.size]
            omega)
        have hn7b := hn7.out
        rw [List.length_map] at hn7b
        have HKB := Aside0.mk (show ∀ w' : World, Mut w7 w' (fun q => wr.heap.size ≤ q ∧ q < w6.heap.size ∧ ∃ cells, w7.heap[q]? = some (.cells cells 5 (0, 0))) → Kd.N k34 34 w' w6.heap.size (fun k => w6.heap.size ≤ k) (.slice A7 T.length c7) (T.map (fun t => t.e)) from fun w' hm => Kd.N_step hn7b (fun k hk _ => hm.far k (fun hs => by have h1 := hs.2.1; omega)))
        have BW7 := Aside0.mk (below_step (below_step HBW.out hb6.out) hb7.out)
        have HLO := Aside0.mk (show w.heap.size ≤ wr.heap.size from HBW.out.size)
        have HL67 := Aside0.mk (show w6.heap.size ≤ w7.heap.size from hb7.out.size)
        obtain ⟨lo, hlo⟩ : ∃ lo, lo = wr.heap.size := ⟨_, rfl⟩
        rw [← hlo] at HKEEP HKB HLO hn6
        clear hlo HS1 HS6 hn7 hn7b hb6
        go_loopg [11] T.length (fun kq v11 w' => ∃ i : Nat, v11 = .int .i64 (i : Int) ∧ Aside0 (kq + i = T.length) ∧ Aside0 (Mut w7 w' (fun q => lo ≤ q ∧ q < w6.heap.size ∧ ∃ cells, w7.heap[q]? = some (.cells cells 5 (0, 0)))) ∧ Aside0 (Below w.heap.size w w'))
        case atStart => exact ⟨0, rfl, ⟨rfl⟩, ⟨Mut.refl _ _⟩, BW7⟩
        case round =>
          obtain ⟨i, rfl, HKa, HMa, HBa⟩ := hrel
          cases gk with
          | zero =>
            have hlt : (i < T.length) = False := eq_false (by have := HKa.out; omega)
            have HS8 := Aside0.mk (HKEEP.out _ HMa.out)
            have HN8 := Aside0.mk (HKB.out _ HMa.out)
            go_wp2_with ((with_reducible refine gate_dst (N := 127) rfl ?_); (try (refine gate_guard (by rfl) ?_; dsimp only)); refine box_event ?hg (N := 127) ?hd (cs := #[.slice none 0 0, .slice none 0 0]) (t := 30) ?hr ?_; (case hd => rfl); (case hg => rfl); (case hr => first | (go_simp; done) | (go_simp; rfl)); intro gr hqgr w8 hxgr hbgr; have n_ := Aside0.mk hqgr; clear hqgr; have hqgr := n_; clear n_; have n_ := Aside0.mk hxgr; clear hxgr; have hxgr := n_; clear n_; have n_ := Aside0.mk hbgr; clear hbgr; have hbgr := n_; clear n_)
            clear hlt
            have HK9 := Aside0.mk (show ∀ w' : World, Below wr.heap.size w8 w' → S1 w' w1.heap.size g T ∧ Kd.N k34 34 w' w6.heap.size (fun k => w6.heap.size ≤ k) (.slice A7 T.length c7) (T.map (fun t => t.e)) ∧ Below w.heap.size w w' from fun w' hb => ⟨HS8.out.below (hbgr.out.trans hb), Kd.N_below HN8.out (hbgr.out.trans hb), below_step HBa.out (hbgr.out.trans hb)⟩)
            have RL0 := Aside0.mk (show ∃ D, RL w8 wr.heap.size D gr (keepT 0 l) ∧ ∀ k, D k → k < w8.heap.size by
              rw [keepT_zero]
              exact ⟨fun k => k = gr, ⟨_, _, hxgr.out, Kd.N_nil _ _ _ _ _, Kd.N_nil _ _ _ _ _, rfl, fun k hk => by rw [hk, hqgr.out]; exact Nat.le_refl _⟩, fun k hk => by rw [hk]; exact blk_lt hxgr.out⟩)
            have HLE8 := Aside0.mk (show wr.heap.size ≤ w8.heap.size from hbgr.out.size)
            have HQ8 := hqgr
            obtain ⟨lo8, hlo8⟩ : ∃ lo8, lo8 = wr.heap.size := ⟨_, rfl⟩
            rw [← hlo8] at HK9 RL0 HLE8 HQ8
            clear hlo8 HS8 HN8 HKEEP HKB hqgr hxgr hbgr
            go_loopg [15] (min l.length 60) (fun kq v15 w' => ∃ n : Nat, v15 = .int .i64 (n : Int) ∧ Aside0 (kq + n = min l.length 60) ∧ Aside0 (∃ D, RL w' lo8 D gr (keepT n l) ∧ ∀ k, D k → k < w'.heap.size) ∧ Aside0 (Below lo8 w8 w'))
            case atStart => exact ⟨0, rfl, ⟨rfl⟩, RL0, ⟨Below.refl _ _⟩⟩
            case round =>
              obtain ⟨n, rfl, HK, HRx, HBq⟩ := hrel
              have HB := Aside0.mk (HK9.out _ HBq.out).2.2
              cases gk with
              | zero =>
                have HS9 := Aside0.mk (HK9.out _ HBq.out).1
                have HN9 := Aside0.mk (show Kd.N k34 34 wr w6.heap.size (fun k => w6.heap.size ≤ k) (.slice A7 (T.map (fun t => t.e)).length c7) (T.map (fun t => t.e)) by
                  have h := (HK9.out _ HBq.out).2.1
                  rw [show T.length = (T.map (fun t => t.e)).length from (List.length_map _).symm] at h
                  exact h)
                obtain ⟨D, ⟨vL, vH, hgr, hnL, _⟩, _⟩ := HRx.out
                rw [show keepT n l = T by rw [HTT.out, ← keepT_min l 60]; congr 1; have h1 := HK.out; omega] at hnL
                have hgc : wr.cell? ⟨gr, 0, none⟩ = some vL := (blk_cell hgr 0).trans rfl
                obtain ⟨AL, cL, rfl⟩ := Kd.N_slice hnL
                have hnL := Aside0.mk hnL
                rw [List.length_map] at hgc
                clear hgr
                by_cases hnl : n < l.length
                · have hlt : (n < l.length) = True := eq_true hnl
                  have h60 : decide ((n : Int) < 60) = false := decide_eq_false (by have h1 := HK.out; omega)
                  clear hnl
                  go_wp2_with (first
                    | ((with_reducible refine gate_callee (f := 19) rfl ?_); (try (refine gate_guard (by rfl) ?_; dsimp only)); refine goesL_ (some 151) rfl rfl Try.func19 (by kernel_rfl) rfl #[.pointer (some ⟨g, 0, none⟩)] rfl (by (try simp only [List.map_toArray, List.map_cons, List.map_nil]); first | done | rfl) ?_; refine (s1_all HS9.out HT.out (by have := HTL.out; omega)).mono ?_; rintro ex wa ⟨va, rfl, hna, hba⟩; refine ⟨_, rfl, ?_⟩; obtain ⟨Aa, ca, rfl⟩ := Kd.N_slice hna; rw [List.length_map]; have n_ := Aside0.mk hna; clear hna; have hna := n_; clear n_; have n_ := Aside0.mk hba; clear hba; have hba := n_; clear n_)
                    | ((with_reducible refine gate_callee (f := 18) rfl ?_); (try (refine gate_guard (by rfl) ?_; dsimp only)); refine goesL_ (some 153) rfl rfl Try.func18 (by kernel_rfl) rfl #[.slice Aa T.length ca, .slice A7 T.length c7] rfl (by (try simp only [List.map_toArray, List.map_cons, List.map_nil]); first | done | rfl) ?_; refine (calls_of_args (by rw [List.length_map]) (sameC HT.out.good (by rw [List.length_map]; have := HTL.out; omega) (Kd.N_reads' hna.out).2.2 (Kd.N_reads' hna.out).2.1 (Kd.N_reads' (Kd.N_below HN9.out hba.out)).2.2 (Kd.N_reads' HN9.out).2.1)).mono ?_; rintro ex wb ⟨rfl, hbb⟩; refine ⟨_, rfl, ?_⟩; have n_ := Aside0.mk hbb; clear hbb; have hbb := n_; clear n_; have HBB := Aside0.mk (below_step hba.out hbb.out); have hcl := pw_cell_below HBB.out hgc)
                    | ((with_reducible refine gate_callee (f := 18) rfl ?_); (try (refine gate_guard (by rfl) ?_; dsimp only)); refine goesL_ (some 160) rfl rfl Try.func18 (by kernel_rfl) rfl #[.slice A7 T.length c7, .slice AL T.length cL] rfl (by (try simp only [List.map_toArray, List.map_cons, List.map_nil]); first | done | rfl) ?_; refine (calls_of_args (by rw [List.length_map]) (sameC HT.out.good (by rw [List.length_map]; have := HTL.out; omega) (Kd.N_reads' (Kd.N_below HN9.out HBB.out)).2.2 (Kd.N_reads' HN9.out).2.1 (Kd.N_reads' (Kd.N_below hnL.out HBB.out)).2.2 (Kd.N_reads' hnL.out).2.1)).mono ?_; rintro ex wz ⟨rfl, hbz⟩; refine ⟨_, rfl, ?_⟩; have n_ := Aside0.mk hbz; clear hbz; have hbz := n_; clear n_))
                  go_ret
                  exact ⟨rfl, below_step HB.out (below_step HBB.out hbz.out)⟩

                · have hlt : (n < l.length) = False := eq_false hnl
                  clear hnl
                  go_wp2_with (first
                    | ((with_reducible refine gate_callee (f := 19) rfl ?_); (try (refine gate_guard (by rfl) ?_; dsimp only)); refine goesL_ (some 151) rfl rfl Try.func19 (by kernel_rfl) rfl #[.pointer (some ⟨g, 0, none⟩)] rfl (by (try simp only [List.map_toArray, List.map_cons, List.map_nil]); first | done | rfl) ?_; refine (s1_all HS9.out HT.out (by have := HTL.out; omega)).mono ?_; rintro ex wa ⟨va, rfl, hna, hba⟩; refine ⟨_, rfl, ?_⟩; obtain ⟨Aa, ca, rfl⟩ := Kd.N_slice hna; rw [List.length_map]; have n_ := Aside0.mk hna; clear hna; have hna := n_; clear n_; have n_ := Aside0.mk hba; clear hba; have hba := n_; clear n_)
                    | ((with_reducible refine gate_callee (f := 18) rfl ?_); (try (refine gate_guard (by rfl) ?_; dsimp only)); refine goesL_ (some 153) rfl rfl Try.func18 (by kernel_rfl) rfl #[.slice Aa T.length ca, .slice A7 T.length c7] rfl (by (try simp only [List.map_toArray, List.map_cons, List.map_nil]); first | done | rfl) ?_; refine (calls_of_args (by rw [List.length_map]) (sameC HT.out.good (by rw [List.length_map]; have := HTL.out; omega) (Kd.N_reads' hna.out).2.2 (Kd.N_reads' hna.out).2.1 (Kd.N_reads' (Kd.N_below HN9.out hba.out)).2.2 (Kd.N_reads' HN9.out).2.1)).mono ?_; rintro ex wb ⟨rfl, hbb⟩; refine ⟨_, rfl, ?_⟩; have n_ := Aside0.mk hbb; clear hbb; have hbb := n_; clear n_; have HBB := Aside0.mk (below_step hba.out hbb.out); have hcl := pw_cell_below HBB.out hgc)
                    | ((with_reducible refine gate_callee (f := 18) rfl ?_); (try (refine gate_guard (by rfl) ?_; dsimp only)); refine goesL_ (some 160) rfl rfl Try.func18 (by kernel_rfl) rfl #[.slice A7 T.length c7, .slice AL T.length cL] rfl (by (try simp only [List.map_toArray, List.map_cons, List.map_nil]); first | done | rfl) ?_; refine (calls_of_args (by rw [List.length_map]) (sameC HT.out.good (by rw [List.length_map]; have := HTL.out; omega) (Kd.N_reads' (Kd.N_below HN9.out HBB.out)).2.2 (Kd.N_reads' HN9.out).2.1 (Kd.N_reads' (Kd.N_below hnL.out HBB.out)).2.2 (Kd.N_reads' hnL.out).2.1)).mono ?_; rintro ex wz ⟨rfl, hbz⟩; refine ⟨_, rfl, ?_⟩; have n_ := Aside0.mk hbz; clear hbz; have hbz := n_; clear n_))
                  go_ret
                  exact ⟨rfl, below_step HB.out (below_step HBB.out hbz.out)⟩

              | succ k1 =>
                have hnl : n < l.length := by have h1 := HK.out; omega
                have HN := Aside0.mk (show n < 60 by have h1 := HK.out; omega)
                have hlt : (n < l.length) = True := eq_true hnl
                have h60 : decide ((n : Int) < 60) = true := decide_eq_true (by have := HN.out; omega)
                have h60b : (n : Int) < 60 := by have := HN.out; omega
                have HW := Aside0.mk (show wrap64 ((n : Int) + 1) = ((n + 1 : Nat) : Int) by rw [wrap_in (by omega) (by omega)]; rfl)
                obtain ⟨D, hRL, _⟩ := HRx.out
                have HRL := Aside0.mk hRL
                have HL8 := Aside0.mk (show lo8 ≤ wr.heap.size from Nat.le_trans HLE8.out HBq.out.size)
                obtain ⟨o, ho⟩ : ∃ o, l[n]? = some o := ⟨_, List.getElem?_eq_getElem hnl⟩
                obtain ⟨ad, A0, c0, A3, c3, A4, c4, hA, hw0, hw1, hw2, hw3, hw4, hw5, hw6, hw7, l0_, g0_, l3_, g3_, _, _⟩ := at_Op HR.out n o ho
                subst hA
                have HCO := Aside0.mk (And.intro hw1 (And.intro hw3 (And.intro hw4 (And.intro hw5 hw6))))
                have HL0 := Aside0.mk l0_
                have HF0 := Aside0.mk g0_
                have HL3 := Aside0.mk l3_
                have HF3 := Aside0.mk g3_
                have HGO := Aside0.mk (HG.out o (List.mem_of_getElem? ho))
                have HO := Aside0.mk ho
                clear hw0 hw1 hw2 hw3 hw4 hw5 hw6 hw7 l0_ g0_ l3_ g3_ ho hRL hnl
                go_wp2
                refine s_ 12 [] (fun w' => w'.cell? ⟨(ad.add (n * 8)).block, (ad.add (n * 8)).off + 1, none⟩ = some (.int .i64 o.h) ∧ w'.cell? ⟨(ad.add (n * 8)).block, (ad.add (n * 8)).off + 3, none⟩ = some (.slice A0 o.e.f0.length c0) ∧ w'.cell? ⟨(ad.add (n * 8)).block, (ad.add (n * 8)).off + 4, none⟩ = some (.int .i64 o.e.f1) ∧ w'.cell? ⟨(ad.add (n * 8)).block, (ad.add (n * 8)).off + 5, none⟩ = some (.bool o.e.f2) ∧ w'.cell? ⟨(ad.add (n * 8)).block, (ad.add (n * 8)).off + 6, none⟩ = some (.slice A3 o.e.f3.length c3)) (hS := ⟨(pw_cell_below (below_drew HB.out) HCO.out.1), (pw_cell_below (below_drew HB.out) HCO.out.2.1), (pw_cell_below (below_drew HB.out) HCO.out.2.2.1), (pw_cell_below (below_drew HB.out) HCO.out.2.2.2.1), (pw_cell_below (below_drew HB.out) HCO.out.2.2.2.2)⟩) (h := fun hHeld => ?_)
                refine p_ 0 138 (bb 12 1) (h := ?_)
                refine p_ 1 139 (bb 12 3) (h := ?_)
                refine p_ 2 140 (bb 12 7) (h := ?_)
                refine p_ 3 141 (bb 12 15) (h := ?_)
                refine p_ 4 142 (bb 12 31) (h := ?_)
                refine t_ 5 143 (bb 12 63) hHeld (h := ?_)
                refine p_ 6 144 (bb 12 127) (h := ?_)
                refine p_ 7 145 (bb 12 255) (h := ?_)
                refine p_ 8 146 (bb 12 511) (h := ?_)
                refine p_ 9 147 (bb 12 1023) (h := ?_)
                refine t_ 10 148 (bb 12 2047) hHeld (h := ?_)
                refine n_ 11 149 (bb 12 4095) (h := fun K hK => ?_)
                refine goes_ Try.func27 (by kernel_rfl) rfl #[.pointer (some ⟨gr, 0, none⟩), .agg #[.slice A0 o.e.f0.length c0, .int .i64 o.e.f1, .bool o.e.f2, .slice A3 o.e.f3.length c3], .int .i64 o.h] (by rfl) rfl rfl (by (try simp only [List.map_toArray, List.map_cons, List.map_nil]); first | done | rfl) ?_
                refine (rput_calls (HRL.out.below (below_drew (Below.refl _ _))) (keepT_fit HG.out n) (Nat.le_trans (keepT_len HG.out n) (by have := HN.out; omega)) A0 c0 o.e A3 c3 (Kd.C_drew (Kd.C_below HF0.out HB.out)) HL0.out (Kd.C_drew (Kd.C_below HF3.out HB.out)) HL3.out HGO.out.1 o.h).mono ?_
                rintro ex w9 ⟨rfl, hpe⟩
                refine ⟨_, rfl, ?_⟩
                generalize (if putOk (keepT n l) o.e o.h = true then (0 : Int) else 1) = pr
                obtain ⟨D1, hRL9, hD1, hD1s, hch⟩ := hpe
                have HRL9 := Aside0.mk hRL9
                have HD1s := Aside0.mk hD1s
                have HB9 := Aside0.mk (show Below lo8 w8 w9 from HBq.out.trans ((below_weakB HL8.out (below_drew (Below.refl _ _))).trans (hch.to_below (fun k hk => by rw [hk, HQ8.out]; exact Nat.le_refl _) HL8.out)))
                have HBW9 := Aside0.mk (HK9.out w9 HB9.out).2.2
                clear hRL9 hD1 hD1s hch
                refine hK.out _ _ ⟨pw_cell_below HBW9.out HCO.out.1, pw_cell_below HBW9.out HCO.out.2.1, pw_cell_below HBW9.out HCO.out.2.2.1, pw_cell_below HBW9.out HCO.out.2.2.2.1, pw_cell_below HBW9.out HCO.out.2.2.2.2⟩ (fun hHeld => ?_)
                clear hK K
                refine m_ 149 (h := ?_)
                refine d_ (h := ?_)

                clear hHeld
                go_wp2
                go_roundg k1
                case measure => exact Nat.lt_succ_self _
                case rel => exact ⟨n + 1, by first | rfl | rw [HW.out], ⟨by have h1 := HK.out; omega⟩, ⟨D1, by rw [keepT_succ HO.out]; exact HRL9.out, HD1s.out⟩, HB9⟩

          | succ k1 =>
            have hnl : i < T.length := by have h1 := HKa.out; omega
            have hlt : (i < T.length) = True := eq_true hnl
            have HW := Aside0.mk (show wrap64 ((i : Int) + 1) = ((i + 1 : Nat) : Int) by rw [wrap_in (by omega) (by have := HTL.out; omega)]; rfl)
            obtain ⟨z, hz⟩ : ∃ z, T[i]? = some z := ⟨_, List.getElem?_eq_getElem hnl⟩
            have hze : (T.map (fun t => t.e))[i]? = some z.e := by rw [List.getElem?_map, hz]; rfl
            obtain ⟨ad, hA⟩ := N_addr hn6.out (by rw [List.length_map]; omega)
            subst hA
            obtain ⟨B0, b0, B3, b3, he0, he3, hK6⟩ := at_Nw hn6.out i z.e hze
            have HE := Aside0.mk (And.intro (pw_cell_below hb7.out he0) (pw_cell_below hb7.out he3))
            have HT6 := Aside0.mk (kw_th hK6)
            have HK7 := Aside0.mk ((kw lo).K_below hb7.out hK6)
            have HT7 := Aside0.mk (kw_th HK7.out)
            have HC7 := Aside0.mk (K34_C HK7.out.1)
            have HZL := Aside0.mk (okE_len (HT.out.ok z (List.mem_of_getElem? hz)).1)
            obtain ⟨cells0, hcells0⟩ := N_own34 hn6.out
            have HNS := Aside0.mk (show ¬ (lo ≤ (ad.add (i * 4)).block ∧ (ad.add (i * 4)).block < w6.heap.size ∧ ∃ cells, w7.heap[(ad.add (i * 4)).block]? = some (.cells cells 5 (0, 0))) from fun hs => by
              obtain ⟨_, _, cells, hcl⟩ := hs
              rw [add_block, blk_below hcells0 hb7.out] at hcl
              simp at hcl)
            clear hnl hz hze he0 he3 hK6 HK7 hcells0 cells0
            go_wp2
            go_loopg [12] z.e.f0.length (fun kq v12 w' => ∃ k : Nat, v12 = .int .i64 (k : Int) ∧ Aside0 (kq + k = z.e.f0.length) ∧ Aside0 (Mut w7 w' (fun q => lo ≤ q ∧ q < w6.heap.size ∧ ∃ cells, w7.heap[q]? = some (.cells cells 5 (0, 0)))) ∧ Aside0 (Below w.heap.size w w'))
            case atStart => exact ⟨0, rfl, ⟨rfl⟩, HMa, HBa⟩
            case round =>
              obtain ⟨k, rfl, HKK, HM, HBm⟩ := hrel
              have hhd := mut_cell HM.out (by exact HNS.out) HE.out.1
              cases gk with
              | zero =>
                have hkl : (k < z.e.f0.length) = False := eq_false (by have := HKK.out; omega)
                go_wp2
                go_loopg [13] z.e.f3.length (fun kq v13 w' => ∃ k : Nat, v13 = .int .i64 (k : Int) ∧ Aside0 (kq + k = z.e.f3.length) ∧ Aside0 (Mut w7 w' (fun q => lo ≤ q ∧ q < w6.heap.size ∧ ∃ cells, w7.heap[q]? = some (.cells cells 5 (0, 0)))) ∧ Aside0 (Below w.heap.size w w'))
                case atStart => exact ⟨0, rfl, ⟨rfl⟩, HM, HBm⟩
                case round =>
                  obtain ⟨k, rfl, HKK, HM, HBm⟩ := hrel
                  have hhd := mut_cell HM.out (by exact HNS.out) HE.out.2
                  cases gk with
                  | zero =>
                    have hkl : (k < z.e.f3.length) = False := eq_false (by have := HKK.out; omega)
                    have hend0 := trivial
                    go_wp2
                    go_roundg k1
                    case measure => exact Nat.lt_succ_self _
                    case rel => exact ⟨i + 1, by first | rfl | rw [HW.out], ⟨by have h1 := HKa.out; omega⟩, HM, HBm⟩

                  | succ k3 =>
                    have hkl : (k < z.e.f3.length) = True := eq_true (by have := HKK.out; omega)
                    have HWk := Aside0.mk (show wrap64 ((k : Int) + 1) = ((k + 1 : Nat) : Int) by rw [wrap_in (by omega) (by have h1 := HZL.out; have := HKK.out; omega)]; rfl)
                    obtain ⟨pd, b, hP, hcb, hfb, hbb⟩ := byte_at2 HT6.out.2 HC7.out.2.2.2 HT7.out.2 HM.out k (by have := HKK.out; omega)
                    subst hP
                    have HBB := Aside0.mk hbb
                    clear hbb
                    go_wp2
                    go_roundg k3
                    case measure => exact Nat.lt_succ_self _
                    case rel => exact ⟨k + 1, by first | rfl | rw [HWk.out], ⟨by have h1 := HKK.out; omega⟩, ⟨HM.out.set HBB.out _⟩, ⟨HBm.out.setCell (Nat.le_trans HLO.out HBB.out.1) _⟩⟩

              | succ k2 =>
                have hkl : (k < z.e.f0.length) = True := eq_true (by have := HKK.out; omega)
                have HWk := Aside0.mk (show wrap64 ((k : Int) + 1) = ((k + 1 : Nat) : Int) by rw [wrap_in (by omega) (by have h1 := HZL.out; have := HKK.out; omega)]; rfl)
                obtain ⟨pd, b, hP, hcb, hfb, hbb⟩ := byte_at2 HT6.out.1 HC7.out.2.1 HT7.out.1 HM.out k (by have := HKK.out; omega)
                subst hP
                have HBB := Aside0.mk hbb
                clear hbb
                go_wp2
                go_roundg k2
                case measure => exact Nat.lt_succ_self _
                case rel => exact ⟨k + 1, by first | rfl | rw [HWk.out], ⟨by have h1 := HKK.out; omega⟩, ⟨HM.out.set HBB.out _⟩, ⟨HBm.out.setCell (Nat.le_trans HLO.out HBB.out.1) _⟩⟩


      · have hlt : (n < l.length) = False := eq_false hnl
        clear hnl HK
        clear HST
        have HBW := Aside0.mk (hb1.out.trans (below_weakB hb1.out.size HB.out))
        go_wp2_with (first
          | ((with_reducible refine gate_callee (f := 19) rfl ?_); (try (refine gate_guard (by rfl) ?_; dsimp only)); refine goesL_ (some 77) rfl rfl Try.func19 (by kernel_rfl) rfl #[.pointer (some ⟨g, 0, none⟩)] rfl (by (try simp only [List.map_toArray, List.map_cons, List.map_nil]); first | done | rfl) ?_; refine (s1_all_own HS1.out HT.out (by have := HTL.out; omega)).mono ?_; rintro ex w6 ⟨v6, rfl, hn6, hb6⟩; refine ⟨_, rfl, ?_⟩; obtain ⟨A6, c6, rfl⟩ := Kd.N_slice hn6; rw [List.length_map]; have n_ := Aside0.mk hn6; clear hn6; have hn6 := n_; clear n_; have n_ := Aside0.mk hb6; clear hb6; have hb6 := n_; clear n_; have HS6 := Aside0.mk (HS1.out.below hb6.out))
          | ((with_reducible refine gate_callee (f := 19) rfl ?_); (try (refine gate_guard (by rfl) ?_; dsimp only)); refine goesL_ (some 79) rfl rfl Try.func19 (by kernel_rfl) rfl #[.pointer (some ⟨g, 0, none⟩)] rfl (by (try simp only [List.map_toArray, List.map_cons, List.map_nil]); first | done | rfl) ?_; refine (s1_all HS6.out HT.out (by have := HTL.out; omega)).mono ?_; rintro ex w7 ⟨v7, rfl, hn7, hb7⟩; refine ⟨_, rfl, ?_⟩; obtain ⟨A7, c7, rfl⟩ := Kd.N_slice hn7; rw [List.length_map]; have n_ := Aside0.mk hn7; clear hn7; have hn7 := n_; clear n_; have n_ := Aside0.mk hb7; clear hb7; have hb7 := n_; clear n_))
        clear hlt
        have HKEEP := Aside0.mk (show ∀ w' : World, Mut w7 w' (fun q => wr.heap.size ≤ q ∧ q < w6.heap.size ∧ ∃ cells, w7.heap[q]? = some (.cells cells 5 (0, 0))) → S1 w' w1.heap.size g T from fun w' hm => by
          obtain ⟨D, hSL, hD⟩ := HS1.out
          refine ⟨_, ((hSL.bound.below hb6.out).below hb7.out).step (by rw [hm.size]; exact Nat.le_refl _) (fun k hk _ => hm.far k (fun hs => ?_)), fun k hk => ?_⟩
          · have h1 := hk.2
            have h2 := hs.1
            omega
          · have h1 := hk.2
            have h2 := hb6.out.size
            have h3 := hb7.out.size
            rw [hm.size]
            omega)
        have hn7b := hn7.out
        rw [List.length_map] at hn7b
        have HKB := Aside0.mk (show ∀ w' : World, Mut w7 w' (fun q => wr.heap.size ≤ q ∧ q < w6.heap.size ∧ ∃ cells, w7.heap[q]? = some (.cells cells 5 (0, 0))) → Kd.N k34 34 w' w6.heap.size (fun k => w6.heap.size ≤ k) (.slice A7 T.length c7) (T.map (fun t => t.e)) from fun w' hm => Kd.N_step hn7b (fun k hk _ => hm.far k (fun hs => by have h1 := hs.2.1; omega)))
        have BW7 := Aside0.mk (below_step (below_step HBW.out hb6.out) hb7.out)
        have HLO := Aside0.mk (show w.heap.size ≤ wr.heap.size from HBW.out.size)
        have HL67 := Aside0.mk (show w6.heap.size ≤ w7.heap.size from hb7.out.size)
        obtain ⟨lo, hlo⟩ : ∃ lo, lo = wr.heap.size := ⟨_, rfl⟩
        rw [← hlo] at HKEEP HKB HLO hn6
        clear hlo HS1 HS6 hn7 hn7b hb6
        go_loopg [11] T.length (fun kq v11 w' => ∃ i : Nat, v11 = .int .i64 (i : Int) ∧ Aside0 (kq + i = T.length) ∧ Aside0 (Mut w7 w' (fun q => lo ≤ q ∧ q < w6.heap.size ∧ ∃ cells, w7.heap[q]? = some (.cells cells 5 (0, 0)))) ∧ Aside0 (Below w.heap.size w w'))
        case atStart => exact ⟨0, rfl, ⟨rfl⟩, ⟨Mut.refl _ _⟩, BW7⟩
        case round =>
          obtain ⟨i, rfl, HKa, HMa, HBa⟩ := hrel
          cases gk with
          | zero =>
            have hlt : (i < T.length) = False := eq_false (by have := HKa.out; omega)
            have HS8 := Aside0.mk (HKEEP.out _ HMa.out)
            have HN8 := Aside0.mk (HKB.out _ HMa.out)
            go_wp2_with ((with_reducible refine gate_dst (N := 127) rfl ?_); (try (refine gate_guard (by rfl) ?_; dsimp only)); refine box_event ?hg (N := 127) ?hd (cs := #[.slice none 0 0, .slice none 0 0]) (t := 30) ?hr ?_; (case hd => rfl); (case hg => rfl); (case hr => first | (go_simp; done) | (go_simp; rfl)); intro gr hqgr w8 hxgr hbgr; have n_ := Aside0.mk hqgr; clear hqgr; have hqgr := n_; clear n_; have n_ := Aside0.mk hxgr; clear hxgr; have hxgr := n_; clear n_; have n_ := Aside0.mk hbgr; clear hbgr; have hbgr := n_; clear n_)
            clear hlt
            have HK9 := Aside0.mk (show ∀ w' : World, Below wr.heap.size w8 w' → S1 w' w1.heap.size g T ∧ Kd.N k34 34 w' w6.heap.size (fun k => w6.heap.size ≤ k) (.slice A7 T.length c7) (T.map (fun t => t.e)) ∧ Below w.heap.size w w' from fun w' hb => ⟨HS8.out.below (hbgr.out.trans hb), Kd.N_below HN8.out (hbgr.out.trans hb), below_step HBa.out (hbgr.out.trans hb)⟩)
            have RL0 := Aside0.mk (show ∃ D, RL w8 wr.heap.size D gr (keepT 0 l) ∧ ∀ k, D k → k < w8.heap.size by
              rw [keepT_zero]
              exact ⟨fun k => k = gr, ⟨_, _, hxgr.out, Kd.N_nil _ _ _ _ _, Kd.N_nil _ _ _ _ _, rfl, fun k hk => by rw [hk, hqgr.out]; exact Nat.le_refl _⟩, fun k hk => by rw [hk]; exact blk_lt hxgr.out⟩)
            have HLE8 := Aside0.mk (show wr.heap.size ≤ w8.heap.size from hbgr.out.size)
            have HQ8 := hqgr
            obtain ⟨lo8, hlo8⟩ : ∃ lo8, lo8 = wr.heap.size := ⟨_, rfl⟩
            rw [← hlo8] at HK9 RL0 HLE8 HQ8
            clear hlo8 HS8 HN8 HKEEP HKB hqgr hxgr hbgr
            go_loopg [15] (min l.length 60) (fun kq v15 w' => ∃ n : Nat, v15 = .int .i64 (n : Int) ∧ Aside0 (kq + n = min l.length 60) ∧ Aside0 (∃ D, RL w' lo8 D gr (keepT n l) ∧ ∀ k, D k → k < w'.heap.size) ∧ Aside0 (Below lo8 w8 w'))
            case atStart => exact ⟨0, rfl, ⟨rfl⟩, RL0, ⟨Below.refl _ _⟩⟩
            case round =>
              obtain ⟨n, rfl, HK, HRx, HBq⟩ := hrel
              have HB := Aside0.mk (HK9.out _ HBq.out).2.2
              cases gk with
              | zero =>
                have HS9 := Aside0.mk (HK9.out _ HBq.out).1
                have HN9 := Aside0.mk (show Kd.N k34 34 wr w6.heap.size (fun k => w6.heap.size ≤ k) (.slice A7 (T.map (fun t => t.e)).length c7) (T.map (fun t => t.e)) by
                  have h := (HK9.out _ HBq.out).2.1
                  rw [show T.length = (T.map (fun t => t.e)).length from (List.length_map _).symm] at h
                  exact h)
                obtain ⟨D, ⟨vL, vH, hgr, hnL, _⟩, _⟩ := HRx.out
                rw [show keepT n l = T by rw [HTT.out, ← keepT_min l 60]; congr 1; have h1 := HK.out; omega] at hnL
                have hgc : wr.cell? ⟨gr, 0, none⟩ = some vL := (blk_cell hgr 0).trans rfl
                obtain ⟨AL, cL, rfl⟩ := Kd.N_slice hnL
                have hnL := Aside0.mk hnL
                rw [List.length_map] at hgc
                clear hgr
                by_cases hnl : n < l.length
                · have hlt : (n < l.length) = True := eq_true hnl
                  have h60 : decide ((n : Int) < 60) = false := decide_eq_false (by have h1 := HK.out; omega)
                  clear hnl
                  go_wp2_with (first
                    | ((with_reducible refine gate_callee (f := 19) rfl ?_); (try (refine gate_guard (by rfl) ?_; dsimp only)); refine goesL_ (some 151) rfl rfl Try.func19 (by kernel_rfl) rfl #[.pointer (some ⟨g, 0, none⟩)] rfl (by (try simp only [List.map_toArray, List.map_cons, List.map_nil]); first | done | rfl) ?_; refine (s1_all HS9.out HT.out (by have := HTL.out; omega)).mono ?_; rintro ex wa ⟨va, rfl, hna, hba⟩; refine ⟨_, rfl, ?_⟩; obtain ⟨Aa, ca, rfl⟩ := Kd.N_slice hna; rw [List.length_map]; have n_ := Aside0.mk hna; clear hna; have hna := n_; clear n_; have n_ := Aside0.mk hba; clear hba; have hba := n_; clear n_)
                    | ((with_reducible refine gate_callee (f := 18) rfl ?_); (try (refine gate_guard (by rfl) ?_; dsimp only)); refine goesL_ (some 153) rfl rfl Try.func18 (by kernel_rfl) rfl #[.slice Aa T.length ca, .slice A7 T.length c7] rfl (by (try simp only [List.map_toArray, List.map_cons, List.map_nil]); first | done | rfl) ?_; refine (calls_of_args (by rw [List.length_map]) (sameC HT.out.good (by rw [List.length_map]; have := HTL.out; omega) (Kd.N_reads' hna.out).2.2 (Kd.N_reads' hna.out).2.1 (Kd.N_reads' (Kd.N_below HN9.out hba.out)).2.2 (Kd.N_reads' HN9.out).2.1)).mono ?_; rintro ex wb ⟨rfl, hbb⟩; refine ⟨_, rfl, ?_⟩; have n_ := Aside0.mk hbb; clear hbb; have hbb := n_; clear n_; have HBB := Aside0.mk (below_step hba.out hbb.out); have hcl := pw_cell_below HBB.out hgc)
                    | ((with_reducible refine gate_callee (f := 18) rfl ?_); (try (refine gate_guard (by rfl) ?_; dsimp only)); refine goesL_ (some 160) rfl rfl Try.func18 (by kernel_rfl) rfl #[.slice A7 T.length c7, .slice AL T.length cL] rfl (by (try simp only [List.map_toArray, List.map_cons, List.map_nil]); first | done | rfl) ?_; refine (calls_of_args (by rw [List.length_map]) (sameC HT.out.good (by rw [List.length_map]; have := HTL.out; omega) (Kd.N_reads' (Kd.N_below HN9.out HBB.out)).2.2 (Kd.N_reads' HN9.out).2.1 (Kd.N_reads' (Kd.N_below hnL.out HBB.out)).2.2 (Kd.N_reads' hnL.out).2.1)).mono ?_; rintro ex wz ⟨rfl, hbz⟩; refine ⟨_, rfl, ?_⟩; have n_ := Aside0.mk hbz; clear hbz; have hbz := n_; clear n_))
                  go_ret
                  exact ⟨rfl, below_step HB.out (below_step HBB.out hbz.out)⟩

                · have hlt : (n < l.length) = False := eq_false hnl
                  clear hnl
                  go_wp2_with (first
                    | ((with_reducible refine gate_callee (f := 19) rfl ?_); (try (refine gate_guard (by rfl) ?_; dsimp only)); refine goesL_ (some 151) rfl rfl Try.func19 (by kernel_rfl) rfl #[.pointer (some ⟨g, 0, none⟩)] rfl (by (try simp only [List.map_toArray, List.map_cons, List.map_nil]); first | done | rfl) ?_; refine (s1_all HS9.out HT.out (by have := HTL.out; omega)).mono ?_; rintro ex wa ⟨va, rfl, hna, hba⟩; refine ⟨_, rfl, ?_⟩; obtain ⟨Aa, ca, rfl⟩ := Kd.N_slice hna; rw [List.length_map]; have n_ := Aside0.mk hna; clear hna; have hna := n_; clear n_; have n_ := Aside0.mk hba; clear hba; have hba := n_; clear n_)
                    | ((with_reducible refine gate_callee (f := 18) rfl ?_); (try (refine gate_guard (by rfl) ?_; dsimp only)); refine goesL_ (some 153) rfl rfl Try.func18 (by kernel_rfl) rfl #[.slice Aa T.length ca, .slice A7 T.length c7] rfl (by (try simp only [List.map_toArray, List.map_cons, List.map_nil]); first | done | rfl) ?_; refine (calls_of_args (by rw [List.length_map]) (sameC HT.out.good (by rw [List.length_map]; have := HTL.out; omega) (Kd.N_reads' hna.out).2.2 (Kd.N_reads' hna.out).2.1 (Kd.N_reads' (Kd.N_below HN9.out hba.out)).2.2 (Kd.N_reads' HN9.out).2.1)).mono ?_; rintro ex wb ⟨rfl, hbb⟩; refine ⟨_, rfl, ?_⟩; have n_ := Aside0.mk hbb; clear hbb; have hbb := n_; clear n_; have HBB := Aside0.mk (below_step hba.out hbb.out); have hcl := pw_cell_below HBB.out hgc)
                    | ((with_reducible refine gate_callee (f := 18) rfl ?_); (try (refine gate_guard (by rfl) ?_; dsimp only)); refine goesL_ (some 160) rfl rfl Try.func18 (by kernel_rfl) rfl #[.slice A7 T.length c7, .slice AL T.length cL] rfl (by (try simp only [List.map_toArray, List.map_cons, List.map_nil]); first | done | rfl) ?_; refine (calls_of_args (by rw [List.length_map]) (sameC HT.out.good (by rw [List.length_map]; have := HTL.out; omega) (Kd.N_reads' (Kd.N_below HN9.out HBB.out)).2.2 (Kd.N_reads' HN9.out).2.1 (Kd.N_reads' (Kd.N_below hnL.out HBB.out)).2.2 (Kd.N_reads' hnL.out).2.1)).mono ?_; rintro ex wz ⟨rfl, hbz⟩; refine ⟨_, rfl, ?_⟩; have n_ := Aside0.mk hbz; clear hbz; have hbz := n_; clear n_))
                  go_ret
                  exact ⟨rfl, below_step HB.out (below_step HBB.out hbz.out)⟩

              | succ k1 =>
                have hnl : n < l.length := by have h1 := HK.out; omega
                have HN := Aside0.mk (show n < 60 by have h1 := HK.out; omega)
                have hlt : (n < l.length) = True := eq_true hnl
                have h60 : decide ((n : Int) < 60) = true := decide_eq_true (by have := HN.out; omega)
                have h60b : (n : Int) < 60 := by have := HN.out; omega
                have HW := Aside0.mk (show wrap64 ((n : Int) + 1) = ((n + 1 : Nat) : Int) by rw [wrap_in (by omega) (by omega)]; rfl)
                obtain ⟨D, hRL, _⟩ := HRx.out
                have HRL := Aside0.mk hRL
                have HL8 := Aside0.mk (show lo8 ≤ wr.heap.size from Nat.le_trans HLE8.out HBq.out.size)
                obtain ⟨o, ho⟩ : ∃ o, l[n]? = some o := ⟨_, List.getElem?_eq_getElem hnl⟩
                obtain ⟨ad, A0, c0, A3, c3, A4, c4, hA, hw0, hw1, hw2, hw3, hw4, hw5, hw6, hw7, l0_, g0_, l3_, g3_, _, _⟩ := at_Op HR.out n o ho
                subst hA
                have HCO := Aside0.mk (And.intro hw1 (And.intro hw3 (And.intro hw4 (And.intro hw5 hw6))))
                have HL0 := Aside0.mk l0_
                have HF0 := Aside0.mk g0_
                have HL3 := Aside0.mk l3_
                have HF3 := Aside0.mk g3_
                have HGO := Aside0.mk (HG.out o (List.mem_of_getElem? ho))
                have HO := Aside0.mk ho
                clear hw0 hw1 hw2 hw3 hw4 hw5 hw6 hw7 l0_ g0_ l3_ g3_ ho hRL hnl
                go_wp2
                refine s_ 12 [] (fun w' => w'.cell? ⟨(ad.add (n * 8)).block, (ad.add (n * 8)).off + 1, none⟩ = some (.int .i64 o.h) ∧ w'.cell? ⟨(ad.add (n * 8)).block, (ad.add (n * 8)).off + 3, none⟩ = some (.slice A0 o.e.f0.length c0) ∧ w'.cell? ⟨(ad.add (n * 8)).block, (ad.add (n * 8)).off + 4, none⟩ = some (.int .i64 o.e.f1) ∧ w'.cell? ⟨(ad.add (n * 8)).block, (ad.add (n * 8)).off + 5, none⟩ = some (.bool o.e.f2) ∧ w'.cell? ⟨(ad.add (n * 8)).block, (ad.add (n * 8)).off + 6, none⟩ = some (.slice A3 o.e.f3.length c3)) (hS := ⟨(pw_cell_below (below_drew HB.out) HCO.out.1), (pw_cell_below (below_drew HB.out) HCO.out.2.1), (pw_cell_below (below_drew HB.out) HCO.out.2.2.1), (pw_cell_below (below_drew HB.out) HCO.out.2.2.2.1), (pw_cell_below (below_drew HB.out) HCO.out.2.2.2.2)⟩) (h := fun hHeld => ?_)
                refine p_ 0 138 (bb 12 1) (h := ?_)
                refine p_ 1 139 (bb 12 3) (h := ?_)
                refine p_ 2 140 (bb 12 7) (h := ?_)
                refine p_ 3 141 (bb 12 15) (h := ?_)
                refine p_ 4 142 (bb 12 31) (h := ?_)
                refine t_ 5 143 (bb 12 63) hHeld (h := ?_)
                refine p_ 6 144 (bb 12 127) (h := ?_)
                refine p_ 7 145 (bb 12 255) (h := ?_)
                refine p_ 8 146 (bb 12 511) (h := ?_)
                refine p_ 9 147 (bb 12 1023) (h := ?_)
                refine t_ 10 148 (bb 12 2047) hHeld (h := ?_)
                refine n_ 11 149 (bb 12 4095) (h := fun K hK => ?_)
                refine goes_ Try.func27 (by kernel_rfl) rfl #[.pointer (some ⟨gr, 0, none⟩), .agg #[.slice A0 o.e.f0.length c0, .int .i64 o.e.f1, .bool o.e.f2, .slice A3 o.e.f3.length c3], .int .i64 o.h] (by rfl) rfl rfl (by (try simp only [List.map_toArray, List.map_cons, List.map_nil]); first | done | rfl) ?_
                refine (rput_calls (HRL.out.below (below_drew (Below.refl _ _))) (keepT_fit HG.out n) (Nat.le_trans (keepT_len HG.out n) (by have := HN.out; omega)) A0 c0 o.e A3 c3 (Kd.C_drew (Kd.C_below HF0.out HB.out)) HL0.out (Kd.C_drew (Kd.C_below HF3.out HB.out)) HL3.out HGO.out.1 o.h).mono ?_
                rintro ex w9 ⟨rfl, hpe⟩
                refine ⟨_, rfl, ?_⟩
                generalize (if putOk (keepT n l) o.e o.h = true then (0 : Int) else 1) = pr
                obtain ⟨D1, hRL9, hD1, hD1s, hch⟩ := hpe
                have HRL9 := Aside0.mk hRL9
                have HD1s := Aside0.mk hD1s
                have HB9 := Aside0.mk (show Below lo8 w8 w9 from HBq.out.trans ((below_weakB HL8.out (below_drew (Below.refl _ _))).trans (hch.to_below (fun k hk => by rw [hk, HQ8.out]; exact Nat.le_refl _) HL8.out)))
                have HBW9 := Aside0.mk (HK9.out w9 HB9.out).2.2
                clear hRL9 hD1 hD1s hch
                refine hK.out _ _ ⟨pw_cell_below HBW9.out HCO.out.1, pw_cell_below HBW9.out HCO.out.2.1, pw_cell_below HBW9.out HCO.out.2.2.1, pw_cell_below HBW9.out HCO.out.2.2.2.1, pw_cell_below HBW9.out HCO.out.2.2.2.2⟩ (fun hHeld => ?_)
                clear hK K
                refine m_ 149 (h := ?_)
                refine d_ (h := ?_)

                clear hHeld
                go_wp2
                go_roundg k1
                case measure => exact Nat.lt_succ_self _
                case rel => exact ⟨n + 1, by first | rfl | rw [HW.out], ⟨by have h1 := HK.out; omega⟩, ⟨D1, by rw [keepT_succ HO.out]; exact HRL9.out, HD1s.out⟩, HB9⟩

          | succ k1 =>
            have hnl : i < T.length := by have h1 := HKa.out; omega
            have hlt : (i < T.length) = True := eq_true hnl
            have HW := Aside0.mk (show wrap64 ((i : Int) + 1) = ((i + 1 : Nat) : Int) by rw [wrap_in (by omega) (by have := HTL.out; omega)]; rfl)
            obtain ⟨z, hz⟩ : ∃ z, T[i]? = some z := ⟨_, List.getElem?_eq_getElem hnl⟩
            have hze : (T.map (fun t => t.e))[i]? = some z.e := by rw [List.getElem?_map, hz]; rfl
            obtain ⟨ad, hA⟩ := N_addr hn6.out (by rw [List.length_map]; omega)
            subst hA
            obtain ⟨B0, b0, B3, b3, he0, he3, hK6⟩ := at_Nw hn6.out i z.e hze
            have HE := Aside0.mk (And.intro (pw_cell_below hb7.out he0) (pw_cell_below hb7.out he3))
            have HT6 := Aside0.mk (kw_th hK6)
            have HK7 := Aside0.mk ((kw lo).K_below hb7.out hK6)
            have HT7 := Aside0.mk (kw_th HK7.out)
            have HC7 := Aside0.mk (K34_C HK7.out.1)
            have HZL := Aside0.mk (okE_len (HT.out.ok z (List.mem_of_getElem? hz)).1)
            obtain ⟨cells0, hcells0⟩ := N_own34 hn6.out
            have HNS := Aside0.mk (show ¬ (lo ≤ (ad.add (i * 4)).block ∧ (ad.add (i * 4)).block < w6.heap.size ∧ ∃ cells, w7.heap[(ad.add (i * 4)).block]? = some (.cells cells 5 (0, 0))) from fun hs => by
              obtain ⟨_, _, cells, hcl⟩ := hs
              rw [add_block, blk_below hcells0 hb7.out] at hcl
              simp at hcl)
            clear hnl hz hze he0 he3 hK6 HK7 hcells0 cells0
            go_wp2
            go_loopg [12] z.e.f0.length (fun kq v12 w' => ∃ k : Nat, v12 = .int .i64 (k : Int) ∧ Aside0 (kq + k = z.e.f0.length) ∧ Aside0 (Mut w7 w' (fun q => lo ≤ q ∧ q < w6.heap.size ∧ ∃ cells, w7.heap[q]? = some (.cells cells 5 (0, 0)))) ∧ Aside0 (Below w.heap.size w w'))
            case atStart => exact ⟨0, rfl, ⟨rfl⟩, HMa, HBa⟩
            case round =>
              obtain ⟨k, rfl, HKK, HM, HBm⟩ := hrel
              have hhd := mut_cell HM.out (by exact HNS.out) HE.out.1
              cases gk with
              | zero =>
                have hkl : (k < z.e.f0.length) = False := eq_false (by have := HKK.out; omega)
                go_wp2
                go_loopg [13] z.e.f3.length (fun kq v13 w' => ∃ k : Nat, v13 = .int .i64 (k : Int) ∧ Aside0 (kq + k = z.e.f3.length) ∧ Aside0 (Mut w7 w' (fun q => lo ≤ q ∧ q < w6.heap.size ∧ ∃ cells, w7.heap[q]? = some (.cells cells 5 (0, 0)))) ∧ Aside0 (Below w.heap.size w w'))
                case atStart => exact ⟨0, rfl, ⟨rfl⟩, HM, HBm⟩
                case round =>
                  obtain ⟨k, rfl, HKK, HM, HBm⟩ := hrel
                  have hhd := mut_cell HM.out (by exact HNS.out) HE.out.2
                  cases gk with
                  | zero =>
                    have hkl : (k < z.e.f3.length) = False := eq_false (by have := HKK.out; omega)
                    have hend0 := trivial
                    go_wp2
                    go_roundg k1
                    case measure => exact Nat.lt_succ_self _
                    case rel => exact ⟨i + 1, by first | rfl | rw [HW.out], ⟨by have h1 := HKa.out; omega⟩, HM, HBm⟩

                  | succ k3 =>
                    have hkl : (k < z.e.f3.length) = True := eq_true (by have := HKK.out; omega)
                    have HWk := Aside0.mk (show wrap64 ((k : Int) + 1) = ((k + 1 : Nat) : Int) by rw [wrap_in (by omega) (by have h1 := HZL.out; have := HKK.out; omega)]; rfl)
                    obtain ⟨pd, b, hP, hcb, hfb, hbb⟩ := byte_at2 HT6.out.2 HC7.out.2.2.2 HT7.out.2 HM.out k (by have := HKK.out; omega)
                    subst hP
                    have HBB := Aside0.mk hbb
                    clear hbb
                    go_wp2
                    go_roundg k3
                    case measure => exact Nat.lt_succ_self _
                    case rel => exact ⟨k + 1, by first | rfl | rw [HWk.out], ⟨by have h1 := HKK.out; omega⟩, ⟨HM.out.set HBB.out _⟩, ⟨HBm.out.setCell (Nat.le_trans HLO.out HBB.out.1) _⟩⟩

              | succ k2 =>
                have hkl : (k < z.e.f0.length) = True := eq_true (by have := HKK.out; omega)
                have HWk := Aside0.mk (show wrap64 ((k : Int) + 1) = ((k + 1 : Nat) : Int) by rw [wrap_in (by omega) (by have h1 := HZL.out; have := HKK.out; omega)]; rfl)
                obtain ⟨pd, b, hP, hcb, hfb, hbb⟩ := byte_at2 HT6.out.1 HC7.out.2.1 HT7.out.1 HM.out k (by have := HKK.out; omega)
                subst hP
                have HBB := Aside0.mk hbb
                clear hbb
                go_wp2
                go_roundg k2
                case measure => exact Nat.lt_succ_self _
                case rel => exact ⟨k + 1, by first | rfl | rw [HWk.out], ⟨by have h1 := HKK.out; omega⟩, ⟨HM.out.set HBB.out _⟩, ⟨HBm.out.setCell (Nat.le_trans HLO.out HBB.out.1) _⟩⟩


    | succ k1 =>
      have hnl : n < l.length := by have h1 := HK.out; omega
      have HN := Aside0.mk (show n < 60 by have h1 := HK.out; omega)
      have hlt : (n < l.length) = True := eq_true hnl
      have h60 : (n : Int) < 60 := by have := HN.out; omega
      have HW := Aside0.mk (show wrap64 ((n : Int) + 1) = ((n + 1 : Nat) : Int) by rw [wrap_in (by omega) (by omega)]; rfl)
      obtain ⟨o, ho⟩ : ∃ o, l[n]? = some o := ⟨_, List.getElem?_eq_getElem hnl⟩
      obtain ⟨ad, A0, c0, A3, c3, A4, c4, hA, hd0, hd1, hd2, hd3, hd4, hd5, hd6, hd7, hl0, hF0, hl3, hF3, hl4, hF4⟩ := at_Op2 (Kd.C_below HR.out hb1.out) HB.out n o ho
      subst hA
      have HL0 := Aside0.mk hl0
      have HF0 := Aside0.mk hF0
      have HL3 := Aside0.mk hl3
      have HF3 := Aside0.mk hF3
      have HL4 := Aside0.mk hl4
      have HF4 := Aside0.mk hF4
      have HGO := Aside0.mk (HG.out o (List.mem_of_getElem? ho))
      have HO := Aside0.mk ho
      clear hl0 hF0 hl3 hF3 hl4 hF4 ho
      have HOZ := Aside0.mk (HZS.out o (List.mem_of_getElem? HO.out))
      clear hnl
      go_wp2_with (first
        | ((with_reducible refine gate_callee (f := 26) rfl ?_); (try (refine gate_guard (by rfl) ?_; dsimp only)); refine goesL_ (some 39) rfl rfl Try.func26 (by kernel_rfl) rfl #[.agg #[.slice A0 o.e.f0.length c0, .int .i64 o.e.f1, .bool o.e.f2, .slice A3 o.e.f3.length c3]] rfl (by (try simp only [List.map_toArray, List.map_cons, List.map_nil]); first | done | rfl) ?_; refine (copyR wr.heap.size (Nat.le_refl _) (Kd.F_now HF0.out) HL0.out (Kd.F_now HF3.out) HL3.out HOZ.out.1 HOZ.out.2).mono ?_; rintro ex w2 ⟨P0, d0, P3, d3, rfl, hkf, hb2⟩; refine ⟨_, rfl, ?_⟩; have n_ := Aside0.mk hkf; clear hkf; have hkf := n_; clear n_; have n_ := Aside0.mk hb2; clear hb2; have hb2 := n_; clear n_)
        | ((with_reducible refine gate_dst (N := 6) rfl ?_); (try (refine gate_guard (by rfl) ?_; dsimp only)); refine box_event ?hg (N := 6) ?hd (cs := #[.slice none 0 0, .int .i64 0, .bool false, .slice none 0 0]) (t := 34) ?hr ?_; (case hd => rfl); (case hg => rfl); (case hr => first | (go_simp; done) | (go_simp; rfl)); intro ge hqge w3 hxge hbge; have n_ := Aside0.mk hqge; clear hqge; have hqge := n_; clear n_; have n_ := Aside0.mk hxge; clear hxge; have hxge := n_; clear n_; have n_ := Aside0.mk hbge; clear hbge; have hbge := n_; clear n_; have hcy0 : w3.cell? ⟨ge, 0, none⟩ = some (.slice none 0 0) := (blk_cell hxge.out 0).trans rfl; have hcy1 : w3.cell? ⟨ge, 1, none⟩ = some (.int .i64 0) := (blk_cell hxge.out 1).trans rfl; have hcy2 : w3.cell? ⟨ge, 2, none⟩ = some (.bool false) := (blk_cell hxge.out 2).trans rfl; have hcy3 : w3.cell? ⟨ge, 3, none⟩ = some (.slice none 0 0) := (blk_cell hxge.out 3).trans rfl; have hfy0 : w3.frozen? ⟨ge, 0, none⟩ = false := blk_frozen hxge.out 0; have hfy1 : w3.frozen? ⟨ge, 1, none⟩ = false := blk_frozen hxge.out 1; have hfy2 : w3.frozen? ⟨ge, 2, none⟩ = false := blk_frozen hxge.out 2; have hfy3 : w3.frozen? ⟨ge, 3, none⟩ = false := blk_frozen hxge.out 3))
      have X4 := Aside0.mk (sets4 (a := .slice P0 o.e.f0.length d0) (b := .int .i64 o.e.f1) (c := .bool o.e.f2) (d := .slice P3 o.e.f3.length d3) hxge.out)
      have Y34 := Aside0.mk (show Below w2.heap.size w2 ((((w3.setCell ⟨ge, 0, none⟩ (.slice P0 o.e.f0.length d0)).setCell ⟨ge, 1, none⟩ (.int .i64 o.e.f1)).setCell ⟨ge, 2, none⟩ (.bool o.e.f2)).setCell ⟨ge, 3, none⟩ (.slice P3 o.e.f3.length d3)) from below_set (below_set (below_set (below_set hbge.out (Nat.le_of_eq hqge.out.symm)) (Nat.le_of_eq hqge.out.symm)) (Nat.le_of_eq hqge.out.symm)) (Nat.le_of_eq hqge.out.symm))
      clear hcy0 hcy1 hcy2 hcy3 hfy0 hfy1 hfy2 hfy3
      generalize ((((w3.setCell ⟨ge, 0, none⟩ (.slice P0 o.e.f0.length d0)).setCell ⟨ge, 1, none⟩ (.int .i64 o.e.f1)).setCell ⟨ge, 2, none⟩ (.bool o.e.f2)).setCell ⟨ge, 3, none⟩ (.slice P3 o.e.f3.length d3)) = y4 at X4 Y34 ⊢
      clear hxge hbge
      have B5 := Aside0.mk (below_drew (below_step hb2.out Y34.out))
      have HKW := Aside0.mk ((kw wr.heap.size).K_below (below_drew Y34.out) (Kd.FK_now hkf.out))
      obtain ⟨D, hSL, hDs⟩ := HST.out
      have HSL := Aside0.mk hSL
      have HDS := Aside0.mk hDs
      clear hSL hDs

      go_wp2
      refine s_ 8 [] (fun w' => w'.cell? ⟨ge, 0, none⟩ = some (.slice P0 o.e.f0.length d0) ∧ w'.cell? ⟨ge, 1, none⟩ = some (.int .i64 o.e.f1) ∧ w'.cell? ⟨ge, 2, none⟩ = some (.bool o.e.f2) ∧ w'.cell? ⟨ge, 3, none⟩ = some (.slice P3 o.e.f3.length d3) ∧ w'.cell? ⟨(ad.add (n * 8)).block, (ad.add (n * 8)).off + 1, none⟩ = some (.int .i64 o.h)) (hS := ⟨(blk_cell (blk_drew X4.out) 0).trans rfl, (blk_cell (blk_drew X4.out) 1).trans rfl, (blk_cell (blk_drew X4.out) 2).trans rfl, (blk_cell (blk_drew X4.out) 3).trans rfl, pw_cell_below B5.out hd1⟩) (h := fun hHeld => ?_)
      refine p_ 0 40 (bb 8 1) (h := ?_)
      refine t_ 1 41 (bb 8 3) hHeld (h := ?_)
      refine p_ 2 42 (bb 8 7) (h := ?_)
      refine p_ 3 43 (bb 8 15) (h := ?_)
      refine p_ 4 44 (bb 8 31) (h := ?_)
      refine p_ 5 45 (bb 8 63) (h := ?_)
      refine t_ 6 46 (bb 8 127) hHeld (h := ?_)
      refine n_ 7 47 (bb 8 255) (h := fun K hK => ?_)
      refine goes_ Try.func21 (by kernel_rfl) rfl #[.pointer (some ⟨g, 0, none⟩), .agg #[.slice P0 o.e.f0.length d0, .int .i64 o.e.f1, .bool o.e.f2, .slice P3 o.e.f3.length d3], .int .i64 o.h] (by rfl) rfl rfl (by (try simp only [List.map_toArray, List.map_cons, List.map_nil]); first | done | rfl) ?_
      refine (put_calls (HSL.out.below B5.out) (keepT_fit HG.out n) (Nat.le_trans (keepT_len HG.out n) (by have := HN.out; omega)) P0 d0 o.e P3 d3 (K34_C HKW.out.1).2.1 (K34_C HKW.out.1).1 (K34_C HKW.out.1).2.2.2 (K34_C HKW.out.1).2.2.1 HGO.out.1 o.h).mono ?_
      rintro ex w5 ⟨rfl, hpe⟩
      refine ⟨_, rfl, ?_⟩
      generalize (if putOk (keepT n l) o.e o.h = true then (0 : Int) else 1) = pr
      obtain ⟨D1, hSL5, hD1, hD1s, hch⟩ := hpe
      have HSL5 := Aside0.mk hSL5
      have HD1 := Aside0.mk hD1
      have HCH := Aside0.mk hch
      clear hSL5 hD1 hD1s hch
      have X5 := Aside0.mk (show w5.heap[ge]? = some (.cells #[.slice P0 o.e.f0.length d0, .int .i64 o.e.f1, .bool o.e.f2, .slice P3 o.e.f3.length d3] 34 (0, 0)) from (HCH.out.kept.2 ge (blk_lt (blk_drew X4.out)) (fun hk => by have h1 := HDS.out ge hk; have h2 := hqge.out; have h3 := hb2.out.size; omega)).trans (blk_drew X4.out))
      have B6 := Aside0.mk (show Below w1.heap.size w1 w5 from put_below HB.out HST.out.base_le B5.out HSL.out HCH.out)
      refine hK.out _ _ ⟨(blk_cell X5.out 0).trans rfl, (blk_cell X5.out 1).trans rfl, (blk_cell X5.out 2).trans rfl, (blk_cell X5.out 3).trans rfl, op_h (Kd.C_below HR.out hb1.out) B6.out n o HO.out⟩ (fun hHeld => ?_)
      clear hK K
      refine m_ 47 (h := ?_)
      refine d_ (h := ?_)

      clear hHeld
      have HTW := Aside0.mk (kw_th (Kd.FK_now hkf.out))
      have HK5 := Aside0.mk (show (kw wr.heap.size).K w5 o.e [.slice P0 o.e.f0.length d0, .int .i64 o.e.f1, .bool o.e.f2, .slice P3 o.e.f3.length d3] from hkf.out w5 (fun k hk hlt => (HCH.out.kept.2 k (by have h1 := Y34.out.size; show k < y4.heap.size; omega) (fun hd => by have h1 := HDS.out k hd; omega)).trans ((below_drew Y34.out).block k hlt)))
      have HT5 := Aside0.mk (kw_th HK5.out)
      have HC5 := Aside0.mk (K34_C HK5.out.1)
      have HEND := Aside0.mk (show ∀ w' : World, Mut w5 w' (fun q => wr.heap.size ≤ q ∧ q < w2.heap.size) → S1 w' w1.heap.size g (keepT (n + 1) l) from fun w' hm => by
        rw [keepT_succ HO.out]
        refine ⟨fun k => D1 k ∧ k < w5.heap.size, (HSL5.out.bound).step (by rw [hm.size]; exact Nat.le_refl _) (fun k hk _ => hm.far k (fun hs => ?_)), fun k hk => by rw [hm.size]; exact hk.2⟩
        rcases HD1.out k hk.1 with h1 | h1
        · have h2 := HDS.out k h1
          omega
        · have h2 := Y34.out.size
          have h3 : y4.heap.size ≤ k := h1
          omega)
      have HLO := Aside0.mk (show w1.heap.size ≤ wr.heap.size from HB.out.size)
      obtain ⟨lo, hlo⟩ : ∃ lo, lo = wr.heap.size := ⟨_, rfl⟩
      rw [← hlo] at HTW HT5 HEND HLO
      clear HK5 hkf HKW HSL5 HD1 HCH hlo HSL HDS Y34 X4 B5

      go_wp2
      go_loopg [7] o.e.f0.length (fun kq v7 w' => ∃ k : Nat, v7 = .int .i64 (k : Int) ∧ Aside0 (kq + k = o.e.f0.length) ∧ Aside0 (Mut w5 w' (fun q => lo ≤ q ∧ q < w2.heap.size)) ∧ Aside0 (Below w1.heap.size w1 w'))
      case atStart => exact ⟨0, rfl, ⟨rfl⟩, ⟨Mut.refl _ _⟩, B6⟩
      case round =>
        obtain ⟨k, rfl, HKK, HM, HBm⟩ := hrel
        have XX := Aside0.mk (HM.out.block X5.out (fun h => by have h1 := hqge.out; have h2 := h.2; omega))
        have hcz0 : wr.cell? ⟨ge, 0, none⟩ = some (.slice P0 o.e.f0.length d0) := (blk_cell XX.out 0).trans rfl
        have hcz1 : wr.cell? ⟨ge, 1, none⟩ = some (.int .i64 o.e.f1) := (blk_cell XX.out 1).trans rfl
        have hcz2 : wr.cell? ⟨ge, 2, none⟩ = some (.bool o.e.f2) := (blk_cell XX.out 2).trans rfl
        have hcz3 : wr.cell? ⟨ge, 3, none⟩ = some (.slice P3 o.e.f3.length d3) := (blk_cell XX.out 3).trans rfl
        cases gk with
        | zero =>
          have hkl : (k < o.e.f0.length) = False := eq_false (by have := HKK.out; omega)
          clear XX
          go_wp2
          go_loopg [8] o.e.f3.length (fun kq v8 w' => ∃ k : Nat, v8 = .int .i64 (k : Int) ∧ Aside0 (kq + k = o.e.f3.length) ∧ Aside0 (Mut w5 w' (fun q => lo ≤ q ∧ q < w2.heap.size)) ∧ Aside0 (Below w1.heap.size w1 w'))
          case atStart => exact ⟨0, rfl, ⟨rfl⟩, HM, HBm⟩
          case round =>
            obtain ⟨k, rfl, HKK, HM, HBm⟩ := hrel
            have XX := Aside0.mk (HM.out.block X5.out (fun h => by have h1 := hqge.out; have h2 := h.2; omega))
            have hcz0 : wr.cell? ⟨ge, 0, none⟩ = some (.slice P0 o.e.f0.length d0) := (blk_cell XX.out 0).trans rfl
            have hcz1 : wr.cell? ⟨ge, 1, none⟩ = some (.int .i64 o.e.f1) := (blk_cell XX.out 1).trans rfl
            have hcz2 : wr.cell? ⟨ge, 2, none⟩ = some (.bool o.e.f2) := (blk_cell XX.out 2).trans rfl
            have hcz3 : wr.cell? ⟨ge, 3, none⟩ = some (.slice P3 o.e.f3.length d3) := (blk_cell XX.out 3).trans rfl
            cases gk with
            | zero =>
              have hkl : (k < o.e.f3.length) = False := eq_false (by have := HKK.out; omega)
              clear XX
              go_wp2
              go_roundg k1
              case measure => exact Nat.lt_succ_self _
              case rel => exact ⟨n + 1, by first | rfl | rw [HW.out], ⟨by have h1 := HK.out; omega⟩, ⟨HEND.out _ HM.out⟩, HBm⟩

            | succ k3 =>
              have hkl : (k < o.e.f3.length) = True := eq_true (by have := HKK.out; omega)
              have HWk := Aside0.mk (show wrap64 ((k : Int) + 1) = ((k + 1 : Nat) : Int) by rw [wrap_in (by omega) (by have h1 := HOZ.out; have := HKK.out; omega)]; rfl)
              obtain ⟨pd, b, hP, hcb, hfb, hb1_, hb2_⟩ := byte_at HTW.out.2 HC5.out.2.2.2 HT5.out.2 HM.out k (by have := HKK.out; omega)
              subst hP
              have HB1 := Aside0.mk hb1_
              have HB2 := Aside0.mk hb2_
              clear hb1_ hb2_
              go_wp2
              go_roundg k3
              case measure => exact Nat.lt_succ_self _
              case rel => exact ⟨k + 1, by first | rfl | rw [HWk.out], ⟨by have h1 := HKK.out; omega⟩, ⟨HM.out.set ⟨HB1.out, HB2.out⟩ _⟩, ⟨HBm.out.setCell (Nat.le_trans HLO.out HB1.out) _⟩⟩

        | succ k2 =>
          have hkl : (k < o.e.f0.length) = True := eq_true (by have := HKK.out; omega)
          have HWk := Aside0.mk (show wrap64 ((k : Int) + 1) = ((k + 1 : Nat) : Int) by rw [wrap_in (by omega) (by have h1 := HOZ.out; have := HKK.out; omega)]; rfl)
          obtain ⟨pd, b, hP, hcb, hfb, hb1_, hb2_⟩ := byte_at HTW.out.1 HC5.out.2.1 HT5.out.1 HM.out k (by have := HKK.out; omega)
          subst hP
          have HB1 := Aside0.mk hb1_
          have HB2 := Aside0.mk hb2_
          clear hb1_ hb2_
          go_wp2
          go_roundg k2
          case measure => exact Nat.lt_succ_self _
          case rel => exact ⟨k + 1, by first | rfl | rw [HWk.out], ⟨by have h1 := HKK.out; omega⟩, ⟨HM.out.set ⟨HB1.out, HB2.out⟩ _⟩, ⟨HBm.out.setCell (Nat.le_trans HLO.out HB1.out) _⟩⟩

end Go.Proofs.Ytjlkcidohabcfaa.Sk
