/- groups, walked. Conditions: those of each theorem. -/
import Derived.Test.YtobjkjmmkbhecaaCore
import Derived.Test.YtobjkjmmkbhecaaHcu
import Derived.Test.YtobjkjmmkbhecaaME
import Derived.Test.YtobjkjmmkbhecaaHgp
import Derived.Test.YtobjkjmmkbhecaaHgq
import Derived.Test.YtobjkjmmkbhecaaHpl
import Derived.Test.YtobjkjmmkbhecaaHtk
import Derived.Test.YtobjkjmmkbhecaaPx0
namespace Go.Proofs.Ytobjkjmmkbhecaa.Sk
open Go.RowKit Go.Proofs.YtobjkjmmkbhecaaW.PrintWords Go.Proofs.YtobjkjmmkbhecaaW.PrintLast Go.Proofs.YtobjkjmmkbhecaaW.PrintMore Go.Proofs.Ytobjkjmmkbhecaa.Px Go.Proofs.Ytobjkjmmkbhecaa.Sw
set_option linter.unusedVariables false
set_option linter.unusedSimpArgs false

theorem next_any {w0 w : World} {gc : Nat} {A : Option Addr} {c : Nat} {xs : List S36} {okF : Nat → Prop} (n : Nat) (hn : n ≤ xs.length) (hF : Kd.F k36 w0 okF A xs.length xs ∧ xs.length ≤ c ∧ Below w0.heap.size w0 w) (hcur : w.heap[gc]? = some (.cells #[.slice A xs.length c, .int .i64 (n : Int)] 64 (0, 0))) :
  Calls Try.prog 47 #[.pointer (some ⟨gc, 0, none⟩)] w fun ex w' => ∃ M0 l0 m0 sq go M3 l3 m3, ex = .returned (.tuple #[.agg #[.slice M0 l0 m0, .int .i64 sq, .bool go, .slice M3 l3 m3], .bool (decide (n < xs.length))]) ∧ (n < xs.length → ∃ z, xs[n]? = some z ∧ l0 = z.f0.length ∧ sq = z.f1 ∧ go = z.f2 ∧ l3 = z.f3.length ∧ Kd.FK k36 w0 okF z [.slice M0 z.f0.length m0, .int .i64 z.f1, .bool z.f2, .slice M3 z.f3.length m3]) ∧ Below w.heap.size w w' := by
 by_cases h : n < xs.length
 ·
  obtain ⟨z, hz⟩ : ∃ z, xs[n]? = some z := ⟨_, List.getElem?_eq_getElem h⟩
  obtain ⟨ad, rfl, _⟩ := (Kd.F_now hF.1).2.2 (by omega)
  obtain ⟨M0, m0, M3, m3, hd0, hd1, hd2, hd3, hoA, hK⟩ := at_FE hF.1 n z hz
  refine (next_more hF.2.1 h (cell_below_ hd0 hF.2.2) (cell_below_ hd1 hF.2.2) (cell_below_ hd2 hF.2.2) (cell_below_ hd3 hF.2.2) hcur).mono ?_
  rintro ex w' ⟨rfl, hb⟩
  exact ⟨M0, _, m0, _, _, M3, _, m3, by rw [decide_eq_true h], fun _ => ⟨z, hz, rfl, rfl, rfl, rfl, hK⟩, hb⟩
 ·
  have e : n = xs.length := by omega
  subst e
  refine (next_end hcur).mono ?_
  rintro ex w' ⟨rfl, hb⟩
  exact ⟨none, 0, 0, 0, false, none, 0, 0, by rw [decide_eq_false h], fun h2 => absurd h2 h, hb⟩
theorem k36_F0 {W : World} {ok : Nat → Prop} {z : S36} {M0 : Option Addr} {m0 : Nat} {M3 : Option Addr} {m3 : Nat} (h : Kd.FK k36 W ok z [.slice M0 z.f0.length m0, .int .i64 z.f1, .bool z.f2, .slice M3 z.f3.length m3]) : Kd.F (Kd.int .u8) W ok M0 z.f0.length z.f0 := fun W' hW => (k36_C (h W' hW)).2.1
theorem FK_mid {W : World} {ok : Nat → Prop} {ad : Addr} {xs : List S36} {c : Nat} (hF : Kd.F k36 W ok (some ad) xs.length xs) (hc : xs.length ≤ c) {i j : Nat} (h1 : i < j) (h2 : j ≤ xs.length) :
  Kd.FK (Kd.slice 36 k36) W ok ((xs.take j).drop i) [.slice (some (ad.add (i * 4))) (j - i) (c - i)] := by
 have h := Kd.F_mid hF (Nat.le_of_lt h1) h2 hc
 rw [if_neg (by omega)] at h
 have hl : ((xs.take j).drop i).length = j - i := by rw [List.length_drop, List.length_take]; omega
 have := Kd.FK_slice_mk (e := 36) (c := c - i) (by rw [hl]; omega) h
 rw [hl] at this
 exact this
theorem setsX {W : World} {g : Nat} {a b d e : Value} (X : W.heap[g]? = some (.cells #[.slice none 0 0, .int .i64 0, .bool false, .slice none 0 0] 36 (0, 0))) : ((((W.setCell ⟨g, 0, none⟩ a).setCell ⟨g, 1, none⟩ b).setCell ⟨g, 2, none⟩ d).setCell ⟨g, 3, none⟩ e).heap[g]? = some (.cells #[a, b, d, e] 36 (0, 0)) := blk_put (blk_put (blk_put (blk_put X 0 _ rfl) 1 _ rfl) 2 _ rfl) 3 _ rfl
theorem setsY {W : World} {g : Nat} {a b d e a' b' d' e' : Value} (X : W.heap[g]? = some (.cells #[a, b, d, e] 36 (0, 0))) : ((((W.setCell ⟨g, 0, none⟩ a').setCell ⟨g, 1, none⟩ b').setCell ⟨g, 2, none⟩ d').setCell ⟨g, 3, none⟩ e').heap[g]? = some (.cells #[a', b', d', e'] 36 (0, 0)) := blk_put (blk_put (blk_put (blk_put X 0 _ rfl) 1 _ rfl) 2 _ rfl) 3 _ rfl
theorem below4x {w W : World} {B g : Nat} {a b d e : Value} (h : Below B w W) (hg : B ≤ g) : Below B w ((((W.setCell ⟨g, 0, none⟩ a).setCell ⟨g, 1, none⟩ b).setCell ⟨g, 2, none⟩ d).setCell ⟨g, 3, none⟩ e) := (((h.setCell (p := ⟨g, 0, none⟩) hg a).setCell (p := ⟨g, 1, none⟩) hg b).setCell (p := ⟨g, 2, none⟩) hg d).setCell (p := ⟨g, 3, none⟩) hg e
theorem far4 {W : World} {g g' : Nat} {o : Obj} {a b d e : Value} (h : W.heap[g']? = some o) (hne : g' ≠ g) : ((((W.setCell ⟨g, 0, none⟩ a).setCell ⟨g, 1, none⟩ b).setCell ⟨g, 2, none⟩ d).setCell ⟨g, 3, none⟩ e).heap[g']? = some o :=
 (Below.heap_setCell _ _ _ _ hne).trans ((Below.heap_setCell _ _ _ _ hne).trans ((Below.heap_setCell _ _ _ _ hne).trans ((Below.heap_setCell _ _ _ _ hne).trans h)))
set_option maxHeartbeats 4000000 in
set_option maxRecDepth 100000 in
theorem groups_calls {w : World} {A : Option Addr} {c : Nat} {xs : List S36} {okF : Nat → Prop} (hF0 : Kd.F k36 w okF A xs.length xs) (hlc : xs.length ≤ c) (hln : xs.length ≤ 1000000000) (hG : ∀ e ∈ xs, EB e) :
  Calls Try.prog 32 #[.slice A xs.length c] w fun ex w' => ∃ v, ex = .returned v ∧ Kd.N (Kd.slice 36 k36) 24 w' w.heap.size (fun k => (okF k ∧ k < w.heap.size) ∨ w.heap.size ≤ k) v (groupsK (fun e : S36 => e.f0) xs) ∧ Below w.heap.size w w' := by
 have hu64 := Try.underlying64
 have hu36 := Try.underlying36
 have HF := Aside0.mk hF0
 have HLC := Aside0.mk hlc
 have HLN := Aside0.mk hln
 have HG := Aside0.mk hG
 clear hF0 hlc hln hG
 go_enter Try.func32, Try.ntmps32
 go_wp2_with (first
  | ((with_reducible refine gate_dst (N := 9) rfl ?_); (try (refine gate_guard (by rfl) ?_; dsimp only)); refine box_event ?hg (N := 9) ?hd (cs := #[.slice A xs.length c, .int .i64 0]) (t := 64) ?hr ?_; (case hd => rfl); (case hg => rfl); (case hr => first | (go_simp; done) | (go_simp; rfl)); intro gc hqgc w1 hxgc hbgc; have n_ := Aside0.mk hqgc; clear hqgc; have hqgc := n_; clear n_; have n_ := Aside0.mk hxgc; clear hxgc; have hxgc := n_; clear n_; have n_ := Aside0.mk hbgc; clear hbgc; have hbgc := n_; clear n_)
  | ((with_reducible refine gate_dst (N := 12) rfl ?_); (try (refine gate_guard (by rfl) ?_; dsimp only)); refine goesL_ (some 12) rfl rfl Try.func47 (by kernel_rfl) rfl #[.pointer (some ⟨gc, 0, none⟩)] rfl (by (try simp only [List.map_toArray, List.map_cons, List.map_nil]); first | done | rfl) ?_; refine (next_any (okF := okF) (0) (Nat.zero_le _) (⟨HF.out, HLC.out, hbgc.out⟩) (hxgc.out)).mono ?_; rintro ex w2 ⟨M0w2, l0w2, m0w2, sqw2, gow2, M3w2, l3w2, m3w2, rfl, hzw2, hbw2⟩; refine ⟨_, rfl, ?_⟩; have n_ := Aside0.mk hzw2; clear hzw2; have hzw2 := n_; clear n_; have n_ := Aside0.mk hbw2; clear hbw2; have hbw2 := n_; clear n_)
  | ((with_reducible refine gate_dst (N := 5) rfl ?_); (try (refine gate_guard (by rfl) ?_; dsimp only)); refine box_event ?hg (N := 5) ?hd (cs := #[.slice none 0 0, .int .i64 0, .bool false, .slice none 0 0]) (t := 36) ?hr ?_; (case hd => rfl); (case hg => rfl); (case hr => first | (go_simp; done) | (go_simp; rfl)); intro g5 hqg5 w3 hxg5 hbg5; have n_ := Aside0.mk hqg5; clear hqg5; have hqg5 := n_; clear n_; have n_ := Aside0.mk hxg5; clear hxg5; have hxg5 := n_; clear n_; have n_ := Aside0.mk hbg5; clear hbg5; have hbg5 := n_; clear n_; have hcsg50 : w3.cell? ⟨g5, 0, none⟩ = some (.slice none 0 0) := (blk_cell hxg5.out 0).trans rfl; have hcsg51 : w3.cell? ⟨g5, 1, none⟩ = some (.int .i64 0) := (blk_cell hxg5.out 1).trans rfl; have hcsg52 : w3.cell? ⟨g5, 2, none⟩ = some (.bool false) := (blk_cell hxg5.out 2).trans rfl; have hcsg53 : w3.cell? ⟨g5, 3, none⟩ = some (.slice none 0 0) := (blk_cell hxg5.out 3).trans rfl; have hfsg50 : w3.frozen? ⟨g5, 0, none⟩ = false := blk_frozen hxg5.out 0; have hfsg51 : w3.frozen? ⟨g5, 1, none⟩ = false := blk_frozen hxg5.out 1; have hfsg52 : w3.frozen? ⟨g5, 2, none⟩ = false := blk_frozen hxg5.out 2; have hfsg53 : w3.frozen? ⟨g5, 3, none⟩ = false := blk_frozen hxg5.out 3))
 have HGC := Aside0.mk (show w.heap.size ≤ gc from Nat.le_of_eq hqgc.out.symm)
 have CU2 := Aside0.mk (blk_below hxgc.out hbw2.out)
 have CU3 := Aside0.mk (blk_below CU2.out hbg5.out)
 have Q5 := Aside0.mk (show g5 ≠ gc from fun he => by have h1 := blk_lt CU2.out; have h2 := hqg5.out; omega)
 have Q5b := Aside0.mk (show w.heap.size ≤ g5 by have h1 := hbgc.out.size; have h2 := hbw2.out.size; have h3 := hqg5.out; omega)
 have B3 := Aside0.mk (below_step (below_step hbgc.out hbw2.out) hbg5.out)
 go_loopg [4, 5, 6] xs.length (fun kq v4 v5 v6 w' => ∃ (i gx : Nat) (X : List (List S36)) (Av : Option Addr) (cv : Nat), v4 = .slice Av X.length cv ∧ v5 = .pointer (some ⟨gx, 0, none⟩) ∧ v6 = .bool (decide (i < xs.length)) ∧ Aside0 (kq + i = xs.length) ∧ Aside0 (groupsK (fun e : S36 => e.f0) xs = X ++ groupsK (fun e : S36 => e.f0) (xs.drop i)) ∧ Aside0 (Kd.N (Kd.slice 36 k36) 24 w' w.heap.size (fun k => ((okF k ∧ k < w.heap.size) ∨ w.heap.size ≤ k) ∧ k ≠ gc) (.slice Av X.length cv) X) ∧ Aside0 (X.length ≤ i) ∧ Aside0 (w'.heap[gc]? = some (.cells #[.slice A xs.length c, .int .i64 ((i : Int))] 64 (0, 0))) ∧ Aside0 (w.heap.size ≤ gx ∧ gx ≠ gc) ∧ Aside0 (i < xs.length → ∃ z M0 m0 M3 m3, xs[i]? = some z ∧ w'.heap[gx]? = some (.cells #[.slice M0 z.f0.length m0, .int .i64 z.f1, .bool z.f2, .slice M3 z.f3.length m3] 36 (0, 0)) ∧ Kd.FK k36 w okF z [.slice M0 z.f0.length m0, .int .i64 z.f1, .bool z.f2, .slice M3 z.f3.length m3]) ∧ Aside0 (Below w.heap.size w w'))
 case atStart =>
  refine ⟨0, g5, [], none, 0, rfl, rfl, rfl, ⟨rfl⟩, ⟨rfl⟩, ⟨Kd.N_nil _ _ _ _ _⟩, ⟨Nat.le_refl _⟩, ⟨far4 CU3.out (fun he => Q5.out he.symm)⟩, ⟨Q5b.out, Q5.out⟩, ⟨fun h => ?_⟩, ⟨below4x B3.out Q5b.out⟩⟩
  obtain ⟨z, hz, rfl, rfl, rfl, rfl, hK⟩ := hzw2.out h
  exact ⟨z, _, _, _, _, hz, setsX hxg5.out, hK⟩
 case round =>
  obtain ⟨i, gx, X, Av, cv, rfl, rfl, rfl, HKI, HGR, HN, HXI, HCU, HGX, HE, HB⟩ := hrel
  clear CU2 CU3 Q5 Q5b B3 hzw2 hbw2 hqg5 hxg5 hbg5 hxgc hqgc hbgc
  cases gk with
  | zero =>
   as_aux_lemma =>
   have hei : i = xs.length := by have h := HKI.out; omega
   have HEI := Aside0.mk hei
   have hdec : decide (i < xs.length) = false := decide_eq_false (by omega)
   rw [hdec]
   clear hdec hei
   go_wp2
   go_ret
   refine ⟨_, rfl, ?_, HB.out⟩
   have e := HGR.out
   rw [HEI.out, List.drop_length, groupsK, List.append_nil] at e
   rw [e]
   exact Kd.N_mono HN.out (fun k hk => hk.1)
  | succ k1 =>
   as_aux_lemma =>
   have hil : i < xs.length := by have h := HKI.out; omega
   have HIL := Aside0.mk hil
   have hdec : decide (i < xs.length) = true := decide_eq_true hil
   rw [hdec]
   obtain ⟨z, M0, m0, M3, m3, hz, hx, hK⟩ := HE.out hil
   have HX := Aside0.mk hx
   have HZ := Aside0.mk hz
   have HEZ := Aside0.mk (HG.out z (List.mem_of_getElem? hz))
   obtain ⟨ad, rfl, _⟩ := (Kd.F_now HF.out).2.2 (by omega)
   have HFR := Aside0.mk (Kd.F_below (Kd.F_bound HF.out) HB.out)
   have HKF := Aside0.mk (k36_F0 (Kd.FK_below (Kd.FK_bound hK) HB.out))
   have HGF := Aside0.mk (show ∀ j : Nat, i < j → j ≤ xs.length → ∀ W : World, Below w.heap.size w W → Kd.FK (Kd.slice 36 k36) W (fun k => okF k ∧ k < w.heap.size) ((xs.take j).drop i) [.slice (some (ad.add (i * 4))) (j - i) (c - i)] from fun j h1 h2 W hB => FK_mid (Kd.F_below (Kd.F_bound HF.out) hB) HLC.out h1 h2)
   clear hil hdec hx hz hK HE
   go_upto_region 7 with (first
    | ((with_reducible refine gate_dst (N := 24) rfl ?_); (try (refine gate_guard (by rfl) ?_; dsimp only)); refine goesL_ (some 24) rfl rfl Try.func48 (by kernel_rfl) rfl #[.pointer (some ⟨gc, 0, none⟩), .func (.func 49) #[] #[.pointer (some ⟨gx, 0, none⟩)]] rfl (by (try simp only [List.map_toArray, List.map_cons, List.map_nil]); first | done | rfl) ?_; refine (take_calls (okF := fun k => okF k ∧ k < w.heap.size) HFR.out (fun k hk he => by have h1 := hk.2; have h2 := HGC.out; omega) HLC.out HLN.out HG.out HCU.out HIL.out 49 Try.f49 #[.pointer (some ⟨gx, 0, none⟩)] Try.func49 (by kernel_rfl) rfl (key_says (okF := fun k => okF k ∧ k < w.heap.size) HEZ.out HX.out HGX.out.2 HKF.out (fun k hk he => by have h1 := hk.2; have h2 := HGC.out; omega))).mono ?_; rintro ex w2 ⟨j, hj1, hj2, hj3, hj4, rfl, hj6, hj7⟩; refine ⟨_, rfl, ?_⟩; have ST_ := groupsK_step (key := fun e : S36 => e.f0) HZ.out hj1 hj2 (fun q y h1 h2 h3 => of_decide_eq_true (hj3 q y h1 h2 h3)) (fun y h => of_decide_eq_false (hj4 y h)); have HIJ := Aside0.mk ST_.1; have HGS := Aside0.mk ST_.2; clear ST_ hj1 hj3 hj4; have n_ := Aside0.mk hj2; clear hj2; have hj2 := n_; clear n_; have n_ := Aside0.mk hj6; clear hj6; have hj6 := n_; clear n_; have n_ := Aside0.mk hj7; clear hj7; have hj7 := n_; clear n_; have HN2 := Aside0.mk (Kd.N_kept HN.out hj7.out.kept (fun k hk he => hk.2 he)); have HB2 := Aside0.mk (show Below w.heap.size w w2 from below_weaken HB.out (Nat.le_refl _) (Chg.below hj7.out (base := w.heap.size) (fun k hk => by rw [hk]; exact HGC.out) HB.out.size)))
    | ((with_reducible refine gate_builtin (b := .append) (xs := #[.tmp 21, .tmp 25]) rfl ?_); at_builtin; refine Kd.N_append (Kd.slice 36 k36) (w0 := w) w.heap.size rfl (.tmp 21) (.tmp 25) 22 24 (.slice none 0 0) 24 rfl Try.underlying22 (show (Try.prog.info? 24).map (fun i => (i.zero, i.size, i.bytes)) = some (some (.slice none 0 0), 1, 24) by kernel_rfl) rfl (by decide) (by omega) (.slice Av X.length cv) X ((xs.take j).drop i) [.slice (some (ad.add (i * 4))) (j - i) (c - i)] (fun k => ((okF k ∧ k < w.heap.size) ∨ w.heap.size ≤ k) ∧ k ≠ gc) (fun k => okF k ∧ k < w.heap.size) rfl rfl ?aP ?aH ?aF ?aO ?aB ?aS ?aL ?_; (case aP => exact HGF.out j HIJ.out hj2.out w2 HB2.out); (case aH => exact fun k hk => ⟨⟨.inl hk, fun he => by have h1 := hk.2; have h2 := HGC.out; omega⟩, fun he => by have h1 := Kd.N_base HN2.out k he.symm; have h2 := hk.2; omega⟩); (case aF => exact fun k hk => ⟨.inr (Nat.le_trans HB2.out.size hk), fun he => by have h1 := blk_lt hj6.out; omega⟩); (case aO => exact HN2.out); (case aB => exact HB2.out); (case aS => exact HB2.out.size); (case aL => have h1 := HXI.out; have h2 := HLN.out; have h3 := HIL.out; omega); intro v3 w3 hn3 hb3 hgr3 hat3; have CU3 := Aside0.mk (blk_grown hj6.out hgr3 (Kd.N_away HN2.out (fun k hk => hk.2))); have XG3 := Aside0.mk (blk_grown ((hj7.out.kept.2 gx (blk_lt HX.out) HGX.out.2).trans HX.out) hgr3 (Kd.N_ne HN2.out ((hj7.out.kept.2 gx (blk_lt HX.out) HGX.out.2).trans HX.out) (by decide))); clear hgr3 hat3; obtain ⟨A3v, c3v, rfl⟩ := Kd.N_slice hn3; have n_ := Aside0.mk hn3; clear hn3; have hn3 := n_; clear n_; have n_ := Aside0.mk hb3; clear hb3; have hb3 := n_; clear n_))
   have hcx0 : w3.cell? ⟨gx, 0, none⟩ = some (.slice M0 z.f0.length m0) := (blk_cell XG3.out 0).trans rfl; have hcx1 : w3.cell? ⟨gx, 1, none⟩ = some (.int .i64 z.f1) := (blk_cell XG3.out 1).trans rfl; have hcx2 : w3.cell? ⟨gx, 2, none⟩ = some (.bool z.f2) := (blk_cell XG3.out 2).trans rfl; have hcx3 : w3.cell? ⟨gx, 3, none⟩ = some (.slice M3 z.f3.length m3) := (blk_cell XG3.out 3).trans rfl
   go_upto_region 5 with ((with_reducible refine gate_dst (N := 5) rfl ?_); (try (refine gate_guard (by rfl) ?_; dsimp only)); refine box_event ?hg (N := 5) ?hd (cs := #[.slice none 0 0, .int .i64 0, .bool false, .slice none 0 0]) (t := 36) ?hr ?_; (case hd => rfl); (case hg => rfl); (case hr => first | (go_simp; done) | (go_simp; rfl)); intro g8 hqg8 w4 hxg8 hbg8; have n_ := Aside0.mk hqg8; clear hqg8; have hqg8 := n_; clear n_; have n_ := Aside0.mk hxg8; clear hxg8; have hxg8 := n_; clear n_; have n_ := Aside0.mk hbg8; clear hbg8; have hbg8 := n_; clear n_; have hcsg80 : w4.cell? ⟨g8, 0, none⟩ = some (.slice none 0 0) := (blk_cell hxg8.out 0).trans rfl; have hcsg81 : w4.cell? ⟨g8, 1, none⟩ = some (.int .i64 0) := (blk_cell hxg8.out 1).trans rfl; have hcsg82 : w4.cell? ⟨g8, 2, none⟩ = some (.bool false) := (blk_cell hxg8.out 2).trans rfl; have hcsg83 : w4.cell? ⟨g8, 3, none⟩ = some (.slice none 0 0) := (blk_cell hxg8.out 3).trans rfl; have hfsg80 : w4.frozen? ⟨g8, 0, none⟩ = false := blk_frozen hxg8.out 0; have hfsg81 : w4.frozen? ⟨g8, 1, none⟩ = false := blk_frozen hxg8.out 1; have hfsg82 : w4.frozen? ⟨g8, 2, none⟩ = false := blk_frozen hxg8.out 2; have hfsg83 : w4.frozen? ⟨g8, 3, none⟩ = false := blk_frozen hxg8.out 3)
   have Q8 := Aside0.mk (show w3.heap.size ≤ g8 from Nat.le_of_eq hqg8.out.symm)
   have X4 := Aside0.mk (setsX hxg8.out (a := .slice M0 z.f0.length m0) (b := .int .i64 z.f1) (d := .bool z.f2) (e := .slice M3 z.f3.length m3))
   have CU4 := Aside0.mk (far4 (g := g8) (a := .slice M0 z.f0.length m0) (b := .int .i64 z.f1) (d := .bool z.f2) (e := .slice M3 z.f3.length m3) (blk_below CU3.out hbg8.out) (fun he => by have h1 := blk_lt CU3.out; have h2 := Q8.out; omega))
   have B4 := Aside0.mk (below4x (g := g8) (a := .slice M0 z.f0.length m0) (b := .int .i64 z.f1) (d := .bool z.f2) (e := .slice M3 z.f3.length m3) hbg8.out Q8.out)
   generalize ((((w4.setCell ⟨g8, 0, none⟩ (.slice M0 z.f0.length m0)).setCell ⟨g8, 1, none⟩ (.int .i64 z.f1)).setCell ⟨g8, 2, none⟩ (.bool z.f2)).setCell ⟨g8, 3, none⟩ (.slice M3 z.f3.length m3)) = w5 at X4 CU4 B4 ⊢
   clear hcx0 hcx1 hcx2 hcx3 hcsg80 hfsg80 hcsg81 hfsg81 hcsg82 hfsg82 hcsg83 hfsg83
   have HF5 := Aside0.mk (show Below w.heap.size w w5 from below_step hb3.out B4.out)
   have hcy0 : w5.cell? ⟨g8, 0, none⟩ = some (.slice M0 z.f0.length m0) := (blk_cell X4.out 0).trans rfl; have hcy1 : w5.cell? ⟨g8, 1, none⟩ = some (.int .i64 z.f1) := (blk_cell X4.out 1).trans rfl; have hcy2 : w5.cell? ⟨g8, 2, none⟩ = some (.bool z.f2) := (blk_cell X4.out 2).trans rfl; have hcy3 : w5.cell? ⟨g8, 3, none⟩ = some (.slice M3 z.f3.length m3) := (blk_cell X4.out 3).trans rfl; have hfy0 : w5.frozen? ⟨g8, 0, none⟩ = false := blk_frozen X4.out 0; have hfy1 : w5.frozen? ⟨g8, 1, none⟩ = false := blk_frozen X4.out 1; have hfy2 : w5.frozen? ⟨g8, 2, none⟩ = false := blk_frozen X4.out 2; have hfy3 : w5.frozen? ⟨g8, 3, none⟩ = false := blk_frozen X4.out 3
   go_wp2_with ((with_reducible refine gate_dst (N := 18) rfl ?_); (try (refine gate_guard (by rfl) ?_; dsimp only)); refine goesL_ (some 18) rfl rfl Try.func47 (by kernel_rfl) rfl #[.pointer (some ⟨gc, 0, none⟩)] rfl (by (try simp only [List.map_toArray, List.map_cons, List.map_nil]); first | done | rfl) ?_; refine (next_any (okF := okF) (j) (hj2.out) (⟨HF.out, HLC.out, HF5.out⟩) (CU4.out)).mono ?_; rintro ex w6 ⟨M0w6, l0w6, m0w6, sqw6, gow6, M3w6, l3w6, m3w6, rfl, hzw6, hbw6⟩; refine ⟨_, rfl, ?_⟩; have n_ := Aside0.mk hzw6; clear hzw6; have hzw6 := n_; clear n_; have n_ := Aside0.mk hbw6; clear hbw6; have hbw6 := n_; clear n_; have X6 := Aside0.mk (blk_below X4.out hbw6.out); have hcv0 : w6.cell? ⟨g8, 0, none⟩ = some (.slice M0 z.f0.length m0) := (blk_cell X6.out 0).trans rfl; have hcv1 : w6.cell? ⟨g8, 1, none⟩ = some (.int .i64 z.f1) := (blk_cell X6.out 1).trans rfl; have hcv2 : w6.cell? ⟨g8, 2, none⟩ = some (.bool z.f2) := (blk_cell X6.out 2).trans rfl; have hcv3 : w6.cell? ⟨g8, 3, none⟩ = some (.slice M3 z.f3.length m3) := (blk_cell X6.out 3).trans rfl; have hfv0 : w6.frozen? ⟨g8, 0, none⟩ = false := blk_frozen X6.out 0; have hfv1 : w6.frozen? ⟨g8, 1, none⟩ = false := blk_frozen X6.out 1; have hfv2 : w6.frozen? ⟨g8, 2, none⟩ = false := blk_frozen X6.out 2; have hfv3 : w6.frozen? ⟨g8, 3, none⟩ = false := blk_frozen X6.out 3)
   have B6 := Aside0.mk (below_step B4.out hbw6.out)
   have CU6 := Aside0.mk (blk_below CU4.out hbw6.out)
   go_roundg (xs.length - j)
   case measure => have h1 := HKI.out; have h2 := HIJ.out; have h3 := hj2.out; omega
   case rel =>
    refine ⟨j, g8, X ++ [(xs.take j).drop i], A3v, c3v, by rw [List.length_append]; rfl, rfl, rfl, ⟨by have h3 := hj2.out; omega⟩, ⟨?_⟩, ⟨Kd.N_below hn3.out (below4x B6.out Q8.out)⟩, ⟨by have h1 := HXI.out; have h2 := HIJ.out; rw [List.length_append]; show X.length + 1 ≤ j; omega⟩, ⟨far4 CU6.out (fun he => by have h1 := blk_lt CU3.out; have h2 := Q8.out; omega)⟩, ⟨by have h1 := hb3.out.size; have h2 := Q8.out; omega, fun he => by have h1 := blk_lt CU3.out; have h2 := Q8.out; omega⟩, ⟨fun h => ?_⟩, ⟨below4x (below_step hb3.out B6.out) (by have h1 := hb3.out.size; have h2 := Q8.out; omega)⟩⟩
    ·
     rw [HGR.out, HGS.out, List.append_assoc]
     rfl
    ·
     obtain ⟨y, hy, rfl, rfl, rfl, rfl, hK⟩ := hzw6.out h
     exact ⟨y, _, _, _, _, hy, setsY X6.out, hK⟩
end Go.Proofs.Ytobjkjmmkbhecaa.Sk
