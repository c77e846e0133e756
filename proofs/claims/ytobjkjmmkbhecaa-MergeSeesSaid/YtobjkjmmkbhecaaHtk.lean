/- The cursor's take. Conditions: those of each theorem. -/
import Derived.Test.YtobjkjmmkbhecaaCore
import Derived.Test.YtobjkjmmkbhecaaHcp
import Derived.Test.YtobjkjmmkbhecaaHcu
import Derived.Test.YtobjkjmmkbhecaaME
import Derived.Test.YtobjkjmmkbhecaaHpl
import Derived.Test.YtobjkjmmkbhecaaPx0
namespace Go.Proofs.Ytobjkjmmkbhecaa.Sk
open Go.RowKit Go.Proofs.YtobjkjmmkbhecaaW.PrintWords Go.Proofs.YtobjkjmmkbhecaaW.PrintLast Go.Proofs.YtobjkjmmkbhecaaW.PrintMore Go.Proofs.Ytobjkjmmkbhecaa.Px Go.Proofs.Ytobjkjmmkbhecaa.Sw
set_option linter.unusedVariables false
set_option linter.unusedSimpArgs false

theorem blk_keep {w w1 : World} {g g' : Nat} {o : Obj} (h : w.heap[g]? = some o) (hk : KeepBut w w1 g' none) (hne : g ≠ g') : w1.heap[g]? = some o := (hk.2 g (blk_lt h) hne (by simp)).trans h

theorem cell_lt {w : World} {p : Addr} {v : Value} (h : w.cell? p = some v) : p.block < w.heap.size := by
 by_cases hh : p.block < w.heap.size
 ·
  exact hh
 ·
  unfold World.cell? at h
  rw [Array.getElem?_eq_none (by omega)] at h
  cases h
theorem cell_same {w w1 : World} {p : Addr} {v : Value} (h : w.cell? p = some v) (hb : w1.heap[p.block]? = w.heap[p.block]?) : w1.cell? p = some v := by
 unfold World.cell? at h ⊢
 rw [hb]
 exact h
/-- Element i of a row that is only read, and what it leads to. -/
theorem at_FE {w : World} {okF : Nat → Prop} {ad : Addr} {xs : List S36} (h : Kd.F k36 w okF (some ad) xs.length xs) (i : Nat) (e : S36) (he : xs[i]? = some e) :
  ∃ A0 c0 A3 c3, w.cell? (ad.add (i * 4)) = some (.slice A0 e.f0.length c0) ∧ w.cell? ⟨(ad.add (i * 4)).block, (ad.add (i * 4)).off + 1, none⟩ = some (.int .i64 e.f1) ∧ w.cell? ⟨(ad.add (i * 4)).block, (ad.add (i * 4)).off + 2, none⟩ = some (.bool e.f2) ∧ w.cell? ⟨(ad.add (i * 4)).block, (ad.add (i * 4)).off + 3, none⟩ = some (.slice A3 e.f3.length c3) ∧ okF ad.block ∧
   Kd.FK k36 w okF e [.slice A0 e.f0.length c0, .int .i64 e.f1, .bool e.f2, .slice A3 e.f3.length c3] := by
 have hi : i < xs.length := (List.getElem?_eq_some_iff.1 he).1
 obtain ⟨ad', c, e1, hcl, hFK, hcc, hok⟩ := Kd.F_get h e (i : Int) (by omega) (by omega)
 injection e1 with e1
 subst e1
 rw [Int.toNat_natCast, List.getD_eq_getElem?_getD, he] at hFK
 replace hFK : Kd.FK k36 w _ e c := hFK
 obtain ⟨A0, c0, A3, c3, rfl, l0, g0, l3, g3⟩ := k36_open (Kd.FK_now hFK)
 have hc : ∀ j u, ([.slice A0 e.f0.length c0, .int .i64 e.f1, .bool e.f2, .slice A3 e.f3.length c3] : List Value)[j]? = some u → w.cell? (ad.add (i * 4 + j)) = some u := by
  intro j u hu
  have := hcc j u hu
  rwa [Int.toNat_natCast] at this
 exact ⟨A0, c0, A3, c3, hc 0 _ rfl, by rw [← add_field _ _ 1 (by omega)]; exact hc 1 _ rfl, by rw [← add_field _ _ 2 (by omega)]; exact hc 2 _ rfl, by rw [← add_field _ _ 3 (by omega)]; exact hc 3 _ rfl, hok (by show 0 < 4; omega), hFK⟩
set_option maxHeartbeats 4000000 in
set_option maxRecDepth 100000 in
theorem take_calls {w : World} {gc : Nat} {ad : Addr} {c n : Nat} {xs : List S36} {okF : Nat → Prop} (hF : Kd.F k36 w okF (some ad) xs.length xs) (hgo : ∀ k, okF k → k ≠ gc) (hlc : xs.length ≤ c) (hln : xs.length ≤ 1000000000) (hG : ∀ e ∈ xs, EB e) (hcur : w.heap[gc]? = some (.cells #[.slice (some ad) xs.length c, .int .i64 (n : Int)] 64 (0, 0))) (hn : n < xs.length) {q : S36 → Bool} (fid : Nat) (fn : Func) (caps : Array Value) (hf : Try.prog.funcs[fid]? = some fn) (hfn : (fn.name == "runtime.NumGoroutine") = false) (hfb : fn.body.isSome = true) (hsay : Says1 w (fun k => k = gc) EB fid caps q) :
  Calls Try.prog 48 #[.pointer (some ⟨gc, 0, none⟩), .func (.func fid) #[] caps] w fun ex w' => ∃ i, n ≤ i ∧ i ≤ xs.length ∧ (∀ j z, n ≤ j → j < i → xs[j]? = some z → q z = true) ∧ (∀ z, xs[i]? = some z → q z = false) ∧ ex = .returned (.slice (some (ad.add (n * 4))) (i - n) (c - n)) ∧ w'.heap[gc]? = some (.cells #[.slice (some ad) xs.length c, .int .i64 (i : Int)] 64 (0, 0)) ∧ Chg w w' (fun k => k = gc) := by
 have hu64 := Try.underlying64
 have hu36 := Try.underlying36
 have HF := Aside0.mk hF
 have HGO := Aside0.mk hgo
 have HLC := Aside0.mk hlc
 have HLN := Aside0.mk hln
 have HG := Aside0.mk hG
 have CUR := Aside0.mk hcur
 have HN := Aside0.mk hn
 have HLTC := Aside0.mk (blk_lt hcur)
 have HFN := Aside0.mk hf
 have HSAY := Aside0.mk hsay
 have HDN := Aside0.mk (show (true : Bool) = decide (n < xs.length) from (decide_eq_true hn).symm)
 have HCUT := Aside0.mk (show ∀ i : Nat, n ≤ i → i ≤ xs.length → ∀ W : World, (Instr.slice 24 (.slice (some ad) xs.length c) (some (.int .i64 (n : Int))) (some (.int .i64 (i : Int))) none).run Try.prog W = .ok (.slice (some (ad.add (n * 4))) (i - n) (c - n)) W from by
  obtain ⟨i0, hi0, _, hsz0, _⟩ := info_parts info36
  intro i h1 h2 W
  have := cut_mid (P := Try.prog) 24 36 .i64 .i64 Try.underlying24 hi0 4 hsz0 (some ad) xs.length c (n : Int) (i : Int) (by omega) (by omega) (by omega) hlc W
  rw [Int.toNat_natCast, Int.toNat_natCast, if_neg (by omega)] at this
  exact this)
 have hcu0 : w.cell? ⟨gc, 0, none⟩ = some (.slice (some ad) xs.length c) := (blk_cell hcur 0).trans rfl
 have hcu1 : w.cell? ⟨gc, 1, none⟩ = some (.int .i64 (n : Int)) := (blk_cell hcur 1).trans rfl
 obtain ⟨z, hz⟩ : ∃ z, xs[n]? = some z := ⟨_, List.getElem?_eq_getElem hn⟩
 obtain ⟨M0, m0, M3, m3, hd0, hd1, hd2, hd3, hoA, hK⟩ := at_FE hF n z hz
 have D0 := Aside0.mk hd0
 have D1 := Aside0.mk hd1
 have D2 := Aside0.mk hd2
 have D3 := Aside0.mk hd3
 have HZ := Aside0.mk hz
 have HK := Aside0.mk hK
 have HOA := Aside0.mk hoA
 clear hF hgo hlc hln hG hcur hn hf hsay hz hd0 hd1 hd2 hd3 hK hoA
 go_enter Try.func48, Try.ntmps48
 go_wp2_with (first
  | ((with_reducible refine gate_dst (N := 14) rfl ?_); (try (refine gate_guard (by rfl) ?_; dsimp only)); refine goesL_ (some 14) rfl rfl Try.func47 (by kernel_rfl) rfl #[.pointer (some ⟨gc, 0, none⟩)] rfl (by (try simp only [List.map_toArray, List.map_cons, List.map_nil]); first | done | rfl) ?_; refine (next_more HLC.out HN.out D0.out D1.out D2.out D3.out CUR.out).mono ?_; rintro ex w1 ⟨rfl, hb1⟩; refine ⟨_, rfl, ?_⟩; have n_ := Aside0.mk hb1; clear hb1; have hb1 := n_; clear n_; have CUR1 := Aside0.mk (blk_below CUR.out hb1.out))
  | ((with_reducible refine gate_dst (N := 6) rfl ?_); (try (refine gate_guard (by rfl) ?_; dsimp only)); refine box_event ?hg (N := 6) ?hd (cs := #[.slice none 0 0, .int .i64 0, .bool false, .slice none 0 0]) (t := 36) ?hr ?_; (case hd => rfl); (case hg => rfl); (case hr => first | (go_simp; done) | (go_simp; rfl)); intro g6 hqg6 w2 hxg6 hbg6; have n_ := Aside0.mk hqg6; clear hqg6; have hqg6 := n_; clear n_; have n_ := Aside0.mk hxg6; clear hxg6; have hxg6 := n_; clear n_; have n_ := Aside0.mk hbg6; clear hbg6; have hbg6 := n_; clear n_; have hcsg60 : w2.cell? ⟨g6, 0, none⟩ = some (.slice none 0 0) := (blk_cell hxg6.out 0).trans rfl; have hcsg61 : w2.cell? ⟨g6, 1, none⟩ = some (.int .i64 0) := (blk_cell hxg6.out 1).trans rfl; have hcsg62 : w2.cell? ⟨g6, 2, none⟩ = some (.bool false) := (blk_cell hxg6.out 2).trans rfl; have hcsg63 : w2.cell? ⟨g6, 3, none⟩ = some (.slice none 0 0) := (blk_cell hxg6.out 3).trans rfl; have hfsg60 : w2.frozen? ⟨g6, 0, none⟩ = false := blk_frozen hxg6.out 0; have hfsg61 : w2.frozen? ⟨g6, 1, none⟩ = false := blk_frozen hxg6.out 1; have hfsg62 : w2.frozen? ⟨g6, 2, none⟩ = false := blk_frozen hxg6.out 2; have hfsg63 : w2.frozen? ⟨g6, 3, none⟩ = false := blk_frozen hxg6.out 3))
 go_loopg [6, 7] (xs.length - n) (fun kq v6 v7 w' => ∃ (i gx : Nat), v6 = .pointer (some ⟨gx, 0, none⟩) ∧ v7 = .bool (decide (i < xs.length)) ∧ Aside0 (kq + i = xs.length) ∧ Aside0 (n ≤ i) ∧ Aside0 (∀ j z, n ≤ j → j < i → xs[j]? = some z → q z = true) ∧ Aside0 (w'.heap[gc]? = some (.cells #[.slice (some ad) xs.length c, .int .i64 (i : Int)] 64 (0, 0))) ∧ Aside0 (w.heap.size ≤ gx) ∧ Aside0 (i < xs.length → ∃ z M0 m0 M3 m3, xs[i]? = some z ∧ w'.heap[gx]? = some (.cells #[.slice M0 z.f0.length m0, .int .i64 z.f1, .bool z.f2, .slice M3 z.f3.length m3] 36 (0, 0)) ∧ Kd.FK k36 w okF z [.slice M0 z.f0.length m0, .int .i64 z.f1, .bool z.f2, .slice M3 z.f3.length m3]) ∧ Aside0 (Chg w w' (fun k => k = gc)))
 case atStart => exact ⟨n, g6, rfl, by first | exact congrArg Value.bool HDN.out | (rw [← HDN.out]), ⟨by have h := HN.out; omega⟩, ⟨Nat.le_refl _⟩, ⟨fun j z h1 h2 => by omega⟩, ⟨blk_keep (blk_below CUR1.out hbg6.out) (keep4 w2 g6 (.slice M0 z.f0.length m0) (.int .i64 z.f1) (.bool z.f2) (.slice M3 z.f3.length m3)) (fun he => by have h1 := blk_lt CUR1.out; have h2 := hqg6.out; omega)⟩, ⟨by have h1 := hb1.out.size; have h2 := hqg6.out; omega⟩, ⟨fun _ => ⟨z, M0, m0, M3, m3, HZ.out, blk_put (blk_put (blk_put (blk_put hxg6.out 0 _ rfl) 1 _ rfl) 2 _ rfl) 3 _ rfl, HK.out⟩⟩, ⟨Chg.set (Chg.set (Chg.set (Chg.set (Chg.of_below (below_step hb1.out hbg6.out) _) (.inr (by have h1 := hb1.out.size; have h2 := hqg6.out; show _ ≤ g6; omega)) _) (.inr (by have h1 := hb1.out.size; have h2 := hqg6.out; show _ ≤ g6; omega)) _) (.inr (by have h1 := hb1.out.size; have h2 := hqg6.out; show _ ≤ g6; omega)) _) (.inr (by have h1 := hb1.out.size; have h2 := hqg6.out; show _ ≤ g6; omega)) _⟩⟩
 case round =>
  obtain ⟨i, gx, rfl, rfl, HKI, HNI, HQ, HCU, HGX, HE, CH⟩ := hrel
  clear CUR CUR1 hb1 D0 D1 D2 D3 HZ HK hcu0 hcu1 hqg6 hxg6 hbg6
  cases gk with
  | zero =>
   as_aux_lemma =>
   have hei : i = xs.length := by have h := HKI.out; omega
   have HIL := Aside0.mk (show i ≤ xs.length by omega)
   have HEI := Aside0.mk hei
   have hdec : decide (i < xs.length) = false := decide_eq_false (by omega)
   rw [hdec]
   clear hdec hei
   go_upto_region 8 with (fail)
   have XEND := Aside0.mk (blk_drew HCU.out)
   have CEND := Aside0.mk (Chg.drew CH.out)
   have hcut := HCUT.out i HNI.out HIL.out
   refine s_ 11 [] (fun w' => w'.cell? ⟨gc, 0, none⟩ = some (.slice (some ad) xs.length c) ∧ w'.cell? ⟨gc, 1, none⟩ = some (.int .i64 (i : Int))) (hS := ⟨(blk_cell XEND.out 0).trans rfl, (blk_cell XEND.out 1).trans rfl⟩) (h := fun hHeld => ?_)
   refine p_ 0 36 (bb 11 1) (h := ?_)
   refine p_ 1 37 (bb 11 3) (h := ?_)
   refine p_ 2 38 (bb 11 7) (h := ?_)
   refine t_ 3 39 (bb 11 15) hHeld (h := ?_)
   refine p_ 4 40 (bb 11 31) (h := ?_)
   refine p_ 5 41 (bb 11 63) (h := ?_)
   refine p_ 6 42 (bb 11 127) (h := ?_)
   refine p_ 7 43 (bb 11 255) (h := ?_)
   refine t_ 8 44 (bb 11 511) hHeld (h := ?_)
   refine p_ 9 45 (bb 11 1023) (h := ?_)
   refine p_ 10 4 (bb 11 2047) (h := ?_)
   refine d_ (h := ?_)
   go_wp2
   go_ret
   exact ⟨i, HNI.out, HIL.out, HQ.out, fun z hz => absurd (List.getElem?_eq_some_iff.1 hz).1 (by have h := HEI.out; omega), rfl, XEND.out, CEND.out⟩
  | succ k1 =>
   as_aux_lemma =>
   have hil : i < xs.length := by have h := HKI.out; omega
   have HIL := Aside0.mk (show i ≤ xs.length by omega)
   have hdec : decide (i < xs.length) = true := decide_eq_true hil
   rw [hdec]
   obtain ⟨z, M0, m0, M3, m3, hz, hx, hK⟩ := HE.out hil
   have XG := Aside0.mk hx
   have HZ := Aside0.mk hz
   have HEZ := Aside0.mk (HG.out z (List.mem_of_getElem? hz))
   have HK2 := Aside0.mk (k36_C (Kd.FK_now (Kd.FK_step hK (fun k hk hlt => CH.out.kept.2 k hlt (HGO.out k hk)))))
   have hne : gx ≠ gc := fun he => by have h1 := HGX.out; have h2 := HLTC.out; omega
   have hcx0 : wr.cell? ⟨gx, 0, none⟩ = some (.slice M0 z.f0.length m0) := (blk_cell XG.out 0).trans rfl; have hcx1 : wr.cell? ⟨gx, 1, none⟩ = some (.int .i64 z.f1) := (blk_cell XG.out 1).trans rfl; have hcx2 : wr.cell? ⟨gx, 2, none⟩ = some (.bool z.f2) := (blk_cell XG.out 2).trans rfl; have hcx3 : wr.cell? ⟨gx, 3, none⟩ = some (.slice M3 z.f3.length m3) := (blk_cell XG.out 3).trans rfl
   have HWK := Aside0.mk (wadd1 (x := i) (z := i + 1) rfl (by have h := HLN.out; omega))
   clear hdec hx hK hz
   cases hqz : q z with
   | false =>
    go_upto_region 8 with ((with_reducible refine gate_dst (N := 21) rfl ?_); (try (refine gate_guard (by rfl) ?_; dsimp only)); refine goesF_ (some 21) rfl rfl HFN.out hfn hfb #[] caps (#[.agg #[.slice M0 z.f0.length m0, .int .i64 z.f1, .bool z.f2, .slice M3 z.f3.length m3]] ++ caps) rfl rfl (by (try simp only [List.map_toArray, List.map_cons, List.map_nil]); first | done | rfl) ?_; refine (HSAY.out z M0 m0 M3 m3 wr HEZ.out CH.out.kept HK2.out.1 HK2.out.2.1 HK2.out.2.2.1 HK2.out.2.2.2).mono ?_; rintro ex w1 ⟨rfl, hb1⟩; rw [hqz]; refine ⟨_, rfl, ?_⟩; have n_ := Aside0.mk hb1; clear hb1; have hb1 := n_; clear n_)
    have XEND := Aside0.mk (blk_drew (blk_below HCU.out hb1.out))
    have CEND := Aside0.mk (Chg.drew (CH.out.below_step hb1.out))
    have hcut := HCUT.out i HNI.out HIL.out
    refine s_ 11 [] (fun w' => w'.cell? ⟨gc, 0, none⟩ = some (.slice (some ad) xs.length c) ∧ w'.cell? ⟨gc, 1, none⟩ = some (.int .i64 (i : Int))) (hS := ⟨(blk_cell XEND.out 0).trans rfl, (blk_cell XEND.out 1).trans rfl⟩) (h := fun hHeld => ?_)
    refine p_ 0 36 (bb 11 1) (h := ?_)
    refine p_ 1 37 (bb 11 3) (h := ?_)
    refine p_ 2 38 (bb 11 7) (h := ?_)
    refine t_ 3 39 (bb 11 15) hHeld (h := ?_)
    refine p_ 4 40 (bb 11 31) (h := ?_)
    refine p_ 5 41 (bb 11 63) (h := ?_)
    refine p_ 6 42 (bb 11 127) (h := ?_)
    refine p_ 7 43 (bb 11 255) (h := ?_)
    refine t_ 8 44 (bb 11 511) hHeld (h := ?_)
    refine p_ 9 45 (bb 11 1023) (h := ?_)
    refine p_ 10 4 (bb 11 2047) (h := ?_)
    refine d_ (h := ?_)
    go_wp2
    go_ret
    exact ⟨i, HNI.out, HIL.out, HQ.out, fun y hy => by rw [HZ.out] at hy; injection hy with e; rw [← e]; exact hqz, rfl, XEND.out, CEND.out⟩
   | true =>
    go_upto_region 5 with ((with_reducible refine gate_dst (N := 21) rfl ?_); (try (refine gate_guard (by rfl) ?_; dsimp only)); refine goesF_ (some 21) rfl rfl HFN.out hfn hfb #[] caps (#[.agg #[.slice M0 z.f0.length m0, .int .i64 z.f1, .bool z.f2, .slice M3 z.f3.length m3]] ++ caps) rfl rfl (by (try simp only [List.map_toArray, List.map_cons, List.map_nil]); first | done | rfl) ?_; refine (HSAY.out z M0 m0 M3 m3 wr HEZ.out CH.out.kept HK2.out.1 HK2.out.2.1 HK2.out.2.2.1 HK2.out.2.2.2).mono ?_; rintro ex w1 ⟨rfl, hb1⟩; rw [hqz]; refine ⟨_, rfl, ?_⟩; have n_ := Aside0.mk hb1; clear hb1; have hb1 := n_; clear n_)
    have CU1 := Aside0.mk (blk_below HCU.out hb1.out)
    have XG1 := Aside0.mk (blk_below XG.out hb1.out)
    have hcc0 : w1.cell? ⟨gc, 0, none⟩ = some (.slice (some ad) xs.length c) := (blk_cell CU1.out 0).trans rfl; have hcc1 : w1.cell? ⟨gc, 1, none⟩ = some (.int .i64 (i : Int)) := (blk_cell CU1.out 1).trans rfl; have hfc0 : w1.frozen? ⟨gc, 0, none⟩ = false := blk_frozen CU1.out 0; have hfc1 : w1.frozen? ⟨gc, 1, none⟩ = false := blk_frozen CU1.out 1
    have hwk : wrap64 ((i : Int) + 1) = (i : Int) + 1 := HWK.out
    go_upto_region 6 with (fail)
    have CU2 := Aside0.mk (show (w1.setCell ⟨gc, 1, none⟩ (.int .i64 ((i : Int) + 1))).heap[gc]? = some (.cells #[.slice (some ad) xs.length c, .int .i64 ((i : Int) + 1)] 64 (0, 0)) from blk_put CU1.out 1 _ rfl)
    have XG2 := Aside0.mk (show (w1.setCell ⟨gc, 1, none⟩ (.int .i64 ((i : Int) + 1))).heap[gx]? = _ from blk_far XG1.out (p := ⟨gc, 1, none⟩) hne (.int .i64 ((i : Int) + 1)))
    have CH2 := Aside0.mk (show Chg w (w1.setCell ⟨gc, 1, none⟩ (.int .i64 ((i : Int) + 1))) (fun k => k = gc) from Chg.set (CH.out.below_step hb1.out) (.inl rfl) _)
    generalize w1.setCell ⟨gc, 1, none⟩ (.int .i64 ((i : Int) + 1)) = w2 at CU2 XG2 CH2 ⊢
    clear CU1 XG1 hb1 hwk hcc0 hcc1 hfc0 hfc1 hcx0 hcx1 hcx2 hcx3
    have hcv0 : w2.cell? ⟨gx, 0, none⟩ = some (.slice M0 z.f0.length m0) := (blk_cell XG2.out 0).trans rfl; have hcv1 : w2.cell? ⟨gx, 1, none⟩ = some (.int .i64 z.f1) := (blk_cell XG2.out 1).trans rfl; have hcv2 : w2.cell? ⟨gx, 2, none⟩ = some (.bool z.f2) := (blk_cell XG2.out 2).trans rfl; have hcv3 : w2.cell? ⟨gx, 3, none⟩ = some (.slice M3 z.f3.length m3) := (blk_cell XG2.out 3).trans rfl
    go_upto_region 4 with (first | ((with_reducible refine gate_dst (N := 6) rfl ?_); (try (refine gate_guard (by rfl) ?_; dsimp only)); refine box_event ?hg (N := 6) ?hd (cs := #[.slice none 0 0, .int .i64 0, .bool false, .slice none 0 0]) (t := 36) ?hr ?_; (case hd => rfl); (case hg => rfl); (case hr => first | (go_simp; done) | (go_simp; rfl)); intro g7 hqg7 w3 hxg7 hbg7; have n_ := Aside0.mk hqg7; clear hqg7; have hqg7 := n_; clear n_; have n_ := Aside0.mk hxg7; clear hxg7; have hxg7 := n_; clear n_; have n_ := Aside0.mk hbg7; clear hbg7; have hbg7 := n_; clear n_; have hcsg70 : w3.cell? ⟨g7, 0, none⟩ = some (.slice none 0 0) := (blk_cell hxg7.out 0).trans rfl; have hcsg71 : w3.cell? ⟨g7, 1, none⟩ = some (.int .i64 0) := (blk_cell hxg7.out 1).trans rfl; have hcsg72 : w3.cell? ⟨g7, 2, none⟩ = some (.bool false) := (blk_cell hxg7.out 2).trans rfl; have hcsg73 : w3.cell? ⟨g7, 3, none⟩ = some (.slice none 0 0) := (blk_cell hxg7.out 3).trans rfl; have hfsg70 : w3.frozen? ⟨g7, 0, none⟩ = false := blk_frozen hxg7.out 0; have hfsg71 : w3.frozen? ⟨g7, 1, none⟩ = false := blk_frozen hxg7.out 1; have hfsg72 : w3.frozen? ⟨g7, 2, none⟩ = false := blk_frozen hxg7.out 2; have hfsg73 : w3.frozen? ⟨g7, 3, none⟩ = false := blk_frozen hxg7.out 3) | fail)
    have HG7 := Aside0.mk (show w.heap.size ≤ g7 by have h1 := CH2.out.kept.1; have h2 := hqg7.out; omega)
    have hne7 := Aside0.mk (show ¬ gc = g7 from fun he => by have h1 := HLTC.out; have h2 := HG7.out; omega)
    have X4 := Aside0.mk (show ((((w3.setCell ⟨g7, 0, none⟩ (.slice M0 z.f0.length m0)).setCell ⟨g7, 1, none⟩ (.int .i64 z.f1)).setCell ⟨g7, 2, none⟩ (.bool z.f2)).setCell ⟨g7, 3, none⟩ (.slice M3 z.f3.length m3)).heap[g7]? = some (.cells #[.slice M0 z.f0.length m0, .int .i64 z.f1, .bool z.f2, .slice M3 z.f3.length m3] 36 (0, 0)) from blk_put (blk_put (blk_put (blk_put hxg7.out 0 _ rfl) 1 _ rfl) 2 _ rfl) 3 _ rfl)
    have CU4 := Aside0.mk (show ((((w3.setCell ⟨g7, 0, none⟩ (.slice M0 z.f0.length m0)).setCell ⟨g7, 1, none⟩ (.int .i64 z.f1)).setCell ⟨g7, 2, none⟩ (.bool z.f2)).setCell ⟨g7, 3, none⟩ (.slice M3 z.f3.length m3)).heap[gc]? = some (.cells #[.slice (some ad) xs.length c, .int .i64 ((i : Int) + 1)] 64 (0, 0)) from blk_keep (blk_below CU2.out hbg7.out) (keep4 w3 g7 (.slice M0 z.f0.length m0) (.int .i64 z.f1) (.bool z.f2) (.slice M3 z.f3.length m3)) hne7.out)
    have CH4 := Aside0.mk (show Chg w ((((w3.setCell ⟨g7, 0, none⟩ (.slice M0 z.f0.length m0)).setCell ⟨g7, 1, none⟩ (.int .i64 z.f1)).setCell ⟨g7, 2, none⟩ (.bool z.f2)).setCell ⟨g7, 3, none⟩ (.slice M3 z.f3.length m3)) (fun k => k = gc) from Chg.set (Chg.set (Chg.set (Chg.set (CH2.out.below_step hbg7.out) (.inr HG7.out) _) (.inr HG7.out) _) (.inr HG7.out) _) (.inr HG7.out) _)
    generalize ((((w3.setCell ⟨g7, 0, none⟩ (.slice M0 z.f0.length m0)).setCell ⟨g7, 1, none⟩ (.int .i64 z.f1)).setCell ⟨g7, 2, none⟩ (.bool z.f2)).setCell ⟨g7, 3, none⟩ (.slice M3 z.f3.length m3)) = w4 at X4 CU4 CH4 ⊢
    clear CU2 XG2 CH2 hcv0 hcv1 hcv2 hcv3 hcsg70 hcsg71 hcsg72 hcsg73 hfsg70 hfsg71 hfsg72 hfsg73
    by_cases hl2 : i + 1 < xs.length
    ·
     have HL2 := Aside0.mk hl2
     have HDC := Aside0.mk (show (true : Bool) = decide (i + 1 < xs.length) from (decide_eq_true hl2).symm)
     obtain ⟨y, hy⟩ : ∃ y, xs[i + 1]? = some y := ⟨_, List.getElem?_eq_getElem hl2⟩
     obtain ⟨N0, n0, N3, n3, hd0, hd1, hd2, hd3, hoA, hKY⟩ := at_FE HF.out (i + 1) y hy
     have hbl : w4.heap[ad.block]? = w.heap[ad.block]? := CH4.out.kept.2 ad.block (show (ad.add ((i + 1) * 4)).block < w.heap.size from cell_lt hd0) (HGO.out _ hoA)
     have G0 := Aside0.mk (cell_same hd0 hbl)
     have G1 := Aside0.mk (cell_same hd1 hbl)
     have G2 := Aside0.mk (cell_same hd2 hbl)
     have G3 := Aside0.mk (cell_same hd3 hbl)
     have HY := Aside0.mk hy
     have HKY := Aside0.mk hKY
     clear hd0 hd1 hd2 hd3 hbl hy hKY hoA hl2
     go_wp2_with ((with_reducible refine gate_dst (N := 25) rfl ?_); (try (refine gate_guard (by rfl) ?_; dsimp only)); refine goesL_ (some 25) rfl rfl Try.func47 (by kernel_rfl) rfl #[.pointer (some ⟨gc, 0, none⟩)] rfl (by (try simp only [List.map_toArray, List.map_cons, List.map_nil]); first | done | rfl) ?_; refine (next_more (z := y) HLC.out HL2.out G0.out G1.out G2.out G3.out CU4.out).mono ?_; rintro ex w5 ⟨rfl, hb5⟩; refine ⟨_, rfl, ?_⟩; have n_ := Aside0.mk hb5; clear hb5; have hb5 := n_; clear n_; have X5 := Aside0.mk (blk_below X4.out hb5.out); have hcy0 : w5.cell? ⟨g7, 0, none⟩ = some (.slice M0 z.f0.length m0) := (blk_cell X5.out 0).trans rfl; have hcy1 : w5.cell? ⟨g7, 1, none⟩ = some (.int .i64 z.f1) := (blk_cell X5.out 1).trans rfl; have hcy2 : w5.cell? ⟨g7, 2, none⟩ = some (.bool z.f2) := (blk_cell X5.out 2).trans rfl; have hcy3 : w5.cell? ⟨g7, 3, none⟩ = some (.slice M3 z.f3.length m3) := (blk_cell X5.out 3).trans rfl; have hfy0 : w5.frozen? ⟨g7, 0, none⟩ = false := blk_frozen X5.out 0; have hfy1 : w5.frozen? ⟨g7, 1, none⟩ = false := blk_frozen X5.out 1; have hfy2 : w5.frozen? ⟨g7, 2, none⟩ = false := blk_frozen X5.out 2; have hfy3 : w5.frozen? ⟨g7, 3, none⟩ = false := blk_frozen X5.out 3)
     go_roundg k1
     case measure => exact Nat.lt_succ_self _
     case rel => exact ⟨i + 1, g7, rfl, by first | exact congrArg Value.bool HDC.out | (rw [← HDC.out]), ⟨by have h := HKI.out; omega⟩, ⟨by have h := HNI.out; omega⟩, ⟨fun j y h1 h2 h3 => by
       by_cases hj : j = i
       ·
        subst hj; rw [HZ.out] at h3; injection h3 with e; rw [← e]; exact hqz
       ·
        exact HQ.out j y h1 (by omega) h3⟩, ⟨blk_keep (blk_below CU4.out hb5.out) (keep4 w5 g7 (.slice N0 y.f0.length n0) (.int .i64 y.f1) (.bool y.f2) (.slice N3 y.f3.length n3)) (fun he => hne7.out he)⟩, ⟨HG7.out⟩, ⟨fun _ => ⟨y, N0, n0, N3, n3, HY.out, blk_put (blk_put (blk_put (blk_put X5.out 0 _ rfl) 1 _ rfl) 2 _ rfl) 3 _ rfl, HKY.out⟩⟩, ⟨Chg.set (Chg.set (Chg.set (Chg.set (CH4.out.below_step hb5.out) (.inr HG7.out) _) (.inr HG7.out) _) (.inr HG7.out) _) (.inr HG7.out) _⟩⟩
    ·
     have e : i + 1 = xs.length := by omega
     have HL2 := Aside0.mk hl2
     have HDC := Aside0.mk (show (false : Bool) = decide (i + 1 < xs.length) from (decide_eq_false hl2).symm)
     rw [show (i : Int) + 1 = (xs.length : Int) by omega] at CU4
     go_wp2_with ((with_reducible refine gate_dst (N := 25) rfl ?_); (try (refine gate_guard (by rfl) ?_; dsimp only)); refine goesL_ (some 25) rfl rfl Try.func47 (by kernel_rfl) rfl #[.pointer (some ⟨gc, 0, none⟩)] rfl (by (try simp only [List.map_toArray, List.map_cons, List.map_nil]); first | done | rfl) ?_; refine (next_end CU4.out).mono ?_; rintro ex w5 ⟨rfl, hb5⟩; refine ⟨_, rfl, ?_⟩; have n_ := Aside0.mk hb5; clear hb5; have hb5 := n_; clear n_; have X5 := Aside0.mk (blk_below X4.out hb5.out); have hcy0 : w5.cell? ⟨g7, 0, none⟩ = some (.slice M0 z.f0.length m0) := (blk_cell X5.out 0).trans rfl; have hcy1 : w5.cell? ⟨g7, 1, none⟩ = some (.int .i64 z.f1) := (blk_cell X5.out 1).trans rfl; have hcy2 : w5.cell? ⟨g7, 2, none⟩ = some (.bool z.f2) := (blk_cell X5.out 2).trans rfl; have hcy3 : w5.cell? ⟨g7, 3, none⟩ = some (.slice M3 z.f3.length m3) := (blk_cell X5.out 3).trans rfl; have hfy0 : w5.frozen? ⟨g7, 0, none⟩ = false := blk_frozen X5.out 0; have hfy1 : w5.frozen? ⟨g7, 1, none⟩ = false := blk_frozen X5.out 1; have hfy2 : w5.frozen? ⟨g7, 2, none⟩ = false := blk_frozen X5.out 2; have hfy3 : w5.frozen? ⟨g7, 3, none⟩ = false := blk_frozen X5.out 3)
     go_roundg k1
     case measure => exact Nat.lt_succ_self _
     case rel => exact ⟨i + 1, g7, rfl, by first | exact congrArg Value.bool HDC.out | (rw [← HDC.out]), ⟨by have h := HKI.out; omega⟩, ⟨by have h := HNI.out; omega⟩, ⟨fun j y h1 h2 h3 => by
       by_cases hj : j = i
       ·
        subst hj; rw [HZ.out] at h3; injection h3 with e; rw [← e]; exact hqz
       ·
        exact HQ.out j y h1 (by omega) h3⟩, ⟨by rw [show i + 1 = xs.length from by have h := HL2.out; have h2 := HIL.out; have h3 := HKI.out; omega]; exact blk_keep (blk_below CU4.out hb5.out) (keep4 w5 g7 (.slice none 0 0) (.int .i64 0) (.bool false) (.slice none 0 0)) (fun he => hne7.out he)⟩, ⟨HG7.out⟩, ⟨fun h => absurd h HL2.out⟩, ⟨Chg.set (Chg.set (Chg.set (Chg.set (CH4.out.below_step hb5.out) (.inr HG7.out) _) (.inr HG7.out) _) (.inr HG7.out) _) (.inr HG7.out) _⟩⟩
end Go.Proofs.Ytobjkjmmkbhecaa.Sk
