/- The document's Put, walked. Conditions: those of each theorem. -/
import Derived.Test.YtjlkcidohabcfaaPx4
import Derived.Test.YtjlkcidohabcfaaPx5
import Derived.Test.YtjlkcidohabcfaaPx13
import Derived.Test.YtjlkcidohabcfaaPx20
import Derived.Test.YtjlkcidohabcfaaPx21
import Derived.Test.YtjlkcidohabcfaaPx22
import Derived.Test.YtjlkcidohabcfaaPx23
import Derived.Test.YtjlkcidohabcfaaPx24
import Derived.Test.YtjlkcidohabcfaaPx25
import Derived.Test.YtjlkcidohabcfaaPx27
import Derived.Test.YtjlkcidohabcfaaPx29
import Derived.Test.YtjlkcidohabcfaaH0
import Derived.Test.YtjlkcidohabcfaaHp
import Derived.Test.YtjlkcidohabcfaaHq
import Derived.Test.YtjlkcidohabcfaaHr
import Derived.Test.YtjlkcidohabcfaaHu
import Derived.Test.YtjlkcidohabcfaaHv
import Derived.Test.YtjlkcidohabcfaaHg
import Derived.Test.YtjlkcidohabcfaaHh
import Derived.Test.YtjlkcidohabcfaaHi
import Derived.Test.YtjlkcidohabcfaaHk
import Derived.Test.YtjlkcidohabcfaaHy
import Derived.Test.YtjlkcidohabcfaaHj
import Derived.Test.YtjlkcidohabcfaaHl
import Derived.Test.YtjlkcidohabcfaaHn
namespace Go.Proofs.Ytjlkcidohabcfaa.Sk
open Go.RowKit Go.Proofs.YtjlkcidohabcfaaW.PrintWords Go.Proofs.YtjlkcidohabcfaaW.PrintLast Go.Proofs.YtjlkcidohabcfaaW.PrintMore Go.Proofs.Ytjlkcidohabcfaa.Px
set_option linter.unusedVariables false
set_option linter.unusedSimpArgs false
open Go.Proofs.Ytjlkcidohabcfaa.Sw
set_option maxHeartbeats 4000000 in
set_option maxRecDepth 100000 in
theorem rput_key {w : World} {base : Nat} {D : Nat → Prop} {gr : Nat} {T : List Tw} (h : RL w base D gr T) (hT : FitT T) (hlen : T.length ≤ 1000000) (A0 : Option Addr) (c0 : Nat) (e : S34) (A3 : Option Addr) (c3 : Nat) (hr0 : Kd.C (Kd.int .u8) w A0 e.f0.length e.f0) (hc0 : e.f0.length ≤ c0) (hr3 : Kd.C (Kd.int .u8) w A3 e.f3.length e.f3) (hc3 : e.f3.length ≤ c3) (hok : okE e = true) (hgd : Sw.Good e) (height : Int) (hh1 : ¬ height < 1) (hh2 : ¬ 12 < height) (y : Tw) (Y1 : List Tw) (hYn : T.filter (fun x => !qB e.f0 e.f1 x.e) = y :: Y1) (hkd : decide (y.e.f0 = e.f0) = false) :
    Calls Try.prog 27 #[.pointer (some ⟨gr, 0, none⟩), .agg #[.slice A0 e.f0.length c0, .int .i64 e.f1, .bool e.f2, .slice A3 e.f3.length c3], .int .i64 height] w fun ex w' => ex = .returned (.int .i64 0) ∧ RPutEnd w w' base gr D (insT T ⟨e, height⟩) := by
  have hu34 := Try.underlying34
  have hu30 := Try.underlying30
  have hu32 := Try.underlying32
  obtain ⟨vL, vH, hgr, hnL, hnH, hDg, hDb⟩ := h
  obtain ⟨AL, cL, rfl⟩ := Kd.N_slice hnL
  obtain ⟨AH, cH, rfl⟩ := Kd.N_slice hnH
  rw [List.length_map, List.length_map] at hgr
  have HGR := Aside0.mk hgr
  have HNL := Aside0.mk hnL
  have HNH := Aside0.mk hnH
  have HT := Aside0.mk hT
  have HLEN := Aside0.mk hlen
  have HDG := Aside0.mk hDg
  have HDB := Aside0.mk hDb
  have HGE := Aside0.mk hgd
  have HOE := Aside0.mk (okE_len hok)
  have HOK := Aside0.mk (show (if okE e = true then (0 : Int) else 1) = 0 from if_pos hok)
  have hd1 : decide (height < 1) = false := decide_eq_false hh1
  have hd2 : decide (12 < height) = false := decide_eq_false hh2
  have HH := Aside0.mk (show 1 ≤ height ∧ height ≤ 12 by omega)
  have HR0 := Aside0.mk hr0
  clear hr0
  have HC0 := Aside0.mk hc0
  clear hc0
  have HR3 := Aside0.mk hr3
  clear hr3
  have HC3 := Aside0.mk hc3
  clear hc3
  clear hgr hnL hnH hDb hDg hT hlen hgd hok hh1 hh2
  have HSP := Aside0.mk (spl HT.out.srt e)
  obtain ⟨X, hX⟩ : ∃ X, X = T.filter (fun x => qB e.f0 e.f1 x.e) := ⟨_, rfl⟩
  obtain ⟨Y, hY⟩ : ∃ Y, Y = T.filter (fun x => !qB e.f0 e.f1 x.e) := ⟨_, rfl⟩
  have HXY := Aside0.mk (show X ++ Y = T by rw [hX, hY]; exact HSP.out)
  have HXA := Aside0.mk (show ∀ x, x ∈ X → ahe x.e e = true by rw [hX]; exact fun x hx => (List.mem_filter.1 hx).2)
  have HYA := Aside0.mk (show ∀ y, y ∈ Y → ahe y.e e = false by rw [hY]; exact fun y hy => by have h1 := (List.mem_filter.1 hy).2; rw [qB_ahe] at h1; simpa using h1)
  have HINS := Aside0.mk (show X ++ (⟨e, height⟩ : Tw) :: Y = insT T ⟨e, height⟩ by rw [hX, hY]; rfl)
  clear HSP
  have HYN := Aside0.mk (hY.trans hYn)
  have HKD := Aside0.mk hkd
  clear hYn hX hY hkd
  go_enter Try.func27, Try.ntmps27
  go_wp2_with (first
    | ((with_reducible refine gate_dst (N := 4) rfl ?_); (try (refine gate_guard (by rfl) ?_; dsimp only)); refine box_event ?hg (N := 4) ?hd (cs := #[.slice A0 e.f0.length c0, .int .i64 e.f1, .bool e.f2, .slice A3 e.f3.length c3]) (t := 34) ?hr ?_; (case hd => rfl); (case hg => rfl); (case hr => first | (go_simp; done) | (go_simp; rfl)); intro g4 hqg4 w1 hxg4 hbg4; have n_ := Aside0.mk hqg4; clear hqg4; have hqg4 := n_; clear n_; have n_ := Aside0.mk hxg4; clear hxg4; have hxg4 := n_; clear n_; have n_ := Aside0.mk hbg4; clear hbg4; have hbg4 := n_; clear n_; have hca0 : w1.cell? ⟨g4, 0, none⟩ = some (.slice A0 e.f0.length c0) := (blk_cell hxg4.out 0).trans rfl; have hca1 : w1.cell? ⟨g4, 1, none⟩ = some (.int .i64 e.f1) := (blk_cell hxg4.out 1).trans rfl; have hca2 : w1.cell? ⟨g4, 2, none⟩ = some (.bool e.f2) := (blk_cell hxg4.out 2).trans rfl; have hca3 : w1.cell? ⟨g4, 3, none⟩ = some (.slice A3 e.f3.length c3) := (blk_cell hxg4.out 3).trans rfl)
    | ((with_reducible refine gate_callee (f := 14) rfl ?_); (try (refine gate_guard (by rfl) ?_; dsimp only)); refine goesL_ (some 9) rfl rfl Try.func14 (by kernel_rfl) rfl #[.agg #[.slice A0 e.f0.length c0, .int .i64 e.f1, .bool e.f2, .slice A3 e.f3.length c3]] rfl (by (try simp only [List.map_toArray, List.map_cons, List.map_nil]); first | done | rfl) ?_; refine (rcheckC (Kd.C_below HR0.out hbg4.out) HC0.out (Kd.C_below HR3.out hbg4.out) HC3.out).mono ?_; rintro ex w2 ⟨rfl, hb2⟩; refine ⟨_, rfl, ?_⟩; rw [HOK.out]; have n_ := Aside0.mk hb2; clear hb2; have hb2 := n_; clear n_; have B2 := Aside0.mk (below_step hbg4.out hb2.out); have X2 := Aside0.mk (blk_below hxg4.out hb2.out)))
  go_loopg [7] X.length (fun kq v7 w' => ∃ n : Nat, v7 = .int .i64 (n : Int) ∧ Aside0 (kq + n = X.length) ∧ Aside0 (w'.heap[g4]? = some (.cells #[.slice A0 e.f0.length c0, .int .i64 e.f1, .bool e.f2, .slice A3 e.f3.length c3] 34 (0, 0))) ∧ Aside0 (Below w.heap.size w w'))
  case atStart => exact ⟨0, rfl, ⟨rfl⟩, X2, B2⟩
  case round =>
    obtain ⟨n, rfl, HK, H4, HB⟩ := hrel
    have HGRr := Aside0.mk (blk_below HGR.out HB.out)
    have hcr : wr.cell? ⟨gr, 0, none⟩ = some (.slice AL T.length cL) := (blk_cell HGRr.out 0).trans rfl
    have HNLr := Aside0.mk (Kd.N_below HNL.out HB.out)
    have HTL := Aside0.mk (show T.length = X.length + Y.length by rw [← HXY.out, List.length_append])
    cases gk with
    | zero =>
      have hn : n = X.length := by have h1 := HK.out; omega
      have HNX := Aside0.mk hn
      clear hn
      obtain ⟨z, hz⟩ : ∃ z, z = y := ⟨_, rfl⟩
      subst hz
      have hnl : n < T.length := by have h1 := HTL.out; have h2 := HNX.out; rw [HYN.out, List.length_cons] at h1; omega
      have hlt : (n < T.length) = True := eq_true hnl
      have hzT : T[n]? = some z := by rw [← HXY.out, HYN.out, HNX.out, List.getElem?_append_right (Nat.le_refl _)]; simp
      have HAH := Aside0.mk (HYA.out z (by rw [HYN.out]; simp))
      have hze : (T.map (fun t => t.e))[n]? = some z.e := by rw [List.getElem?_map, hzT]; rfl
      obtain ⟨ad, hA⟩ := N_addr HNLr.out (by rw [List.length_map]; omega)
      subst hA
      obtain ⟨B0, b0, B3, b3, hd0, hd1', hd2', hd3, hFZ⟩ := at_N34 HNLr.out n z.e hze
      have HFZ := Aside0.mk (Kd.FK_below hFZ (below_drew (Below.refl _ _)))
      have HZO := Aside0.mk (show Byts z.e.f0 ∧ z.e.f0.length ≤ 140737488351232 from ⟨(HT.out.ok z (List.mem_of_getElem? hzT)).2.1.1, (okE_len (HT.out.ok z (List.mem_of_getElem? hzT)).1).1⟩)
      clear hFZ hze
      clear hzT hnl
      go_wp2
      refine s_ 18 [] (fun w' => w'.cell? ⟨gr, 0, none⟩ = some (.slice (some ad) T.length cL) ∧ w'.cell? (ad.add (n * 4)) = some (.slice B0 z.e.f0.length b0) ∧ w'.cell? ⟨(ad.add (n * 4)).block, (ad.add (n * 4)).off + 1, none⟩ = some (.int .i64 z.e.f1) ∧ w'.cell? ⟨(ad.add (n * 4)).block, (ad.add (n * 4)).off + 2, none⟩ = some (.bool z.e.f2) ∧ w'.cell? ⟨(ad.add (n * 4)).block, (ad.add (n * 4)).off + 3, none⟩ = some (.slice B3 z.e.f3.length b3) ∧ w'.cell? ⟨g4, 0, none⟩ = some (.slice A0 e.f0.length c0) ∧ w'.cell? ⟨g4, 1, none⟩ = some (.int .i64 e.f1) ∧ w'.cell? ⟨g4, 2, none⟩ = some (.bool e.f2) ∧ w'.cell? ⟨g4, 3, none⟩ = some (.slice A3 e.f3.length c3)) (hS := ⟨(show wr.drew.cell? _ = _ from hcr), (show wr.drew.cell? _ = _ from hd0), (show wr.drew.cell? _ = _ from hd1'), (show wr.drew.cell? _ = _ from hd2'), (show wr.drew.cell? _ = _ from hd3), (blk_cell (blk_drew H4.out) 0).trans rfl, (blk_cell (blk_drew H4.out) 1).trans rfl, (blk_cell (blk_drew H4.out) 2).trans rfl, (blk_cell (blk_drew H4.out) 3).trans rfl⟩) (h := fun hHeld => ?_)
      refine p_ 0 19 (bb 18 1) (h := ?_)
      refine p_ 1 20 (bb 18 3) (h := ?_)
      refine p_ 2 21 (bb 18 7) (h := ?_)
      refine p_ 3 22 (bb 18 15) (h := ?_)
      refine t_ 4 23 (bb 18 31) hHeld (h := ?_)
      refine p_ 5 24 (bb 18 63) (h := ?_)
      refine p_ 6 25 (bb 18 127) (h := ?_)
      refine p_ 7 26 (bb 18 255) (h := ?_)
      refine p_ 8 27 (bb 18 511) (h := ?_)
      refine p_ 9 28 (bb 18 1023) (h := ?_)
      refine p_ 10 29 (bb 18 2047) (h := ?_)
      refine t_ 11 30 (bb 18 4095) hHeld (h := ?_)
      refine p_ 12 31 (bb 18 8191) (h := ?_)
      refine p_ 13 32 (bb 18 16383) (h := ?_)
      refine t_ 14 33 (bb 18 32767) hHeld (h := ?_)
      refine t_ 15 34 (bb 18 65535) hHeld (h := ?_)
      refine n_ 16 35 (bb 18 131071) (h := fun K hK => ?_)
      refine goes_ Try.func45 (by kernel_rfl) rfl #[.agg #[.slice B0 z.e.f0.length b0, .int .i64 z.e.f1, .bool z.e.f2, .slice B3 z.e.f3.length b3], .agg #[.slice A0 e.f0.length c0, .int .i64 e.f1, .bool e.f2, .slice A3 e.f3.length c3]] (by rfl) rfl rfl (by (try simp only [List.map_toArray, List.map_cons, List.map_nil]); first | done | rfl) ?_
      refine (aheadC (K34_C (Kd.FK_now HFZ.out)).2.1 (K34_C (Kd.FK_now HFZ.out)).1 (K34_C (Kd.FK_now HFZ.out)).2.2.2 (K34_C (Kd.FK_now HFZ.out)).2.2.1 (Kd.C_below HR0.out (below_drew HB.out)) HC0.out (Kd.C_below HR3.out (below_drew HB.out)) HC3.out HZO.out.1 HGE.out.1 HZO.out.2).mono ?_
      rintro ex w5 ⟨rfl, hb5⟩
      refine ⟨_, rfl, ?_⟩
      rw [HAH.out]
      have hb5 := Aside0.mk hb5
      refine hK.out _ _ ⟨pw_cell_below hb5.out hHeld.1, pw_cell_below hb5.out hHeld.2.1, pw_cell_below hb5.out hHeld.2.2.1, pw_cell_below hb5.out hHeld.2.2.2.1, pw_cell_below hb5.out hHeld.2.2.2.2.1, pw_cell_below hb5.out hHeld.2.2.2.2.2.1, pw_cell_below hb5.out hHeld.2.2.2.2.2.2.1, pw_cell_below hb5.out hHeld.2.2.2.2.2.2.2.1, pw_cell_below hb5.out hHeld.2.2.2.2.2.2.2.2⟩ (fun hHeld => ?_)
      clear hK K
      refine m_ 35 (h := ?_)
      refine p_ 17 36 (bb 18 262143) (h := ?_)
      refine d_ (h := ?_)

      obtain ⟨hc6r, hc60, hc61, _, _, _, _, _, _⟩ := hHeld
      have HB6 := Aside0.mk (below_step (below_drew HB.out) hb5.out)
      have H6 := Aside0.mk (blk_below (blk_drew H4.out) hb5.out)
      have HF6 := Aside0.mk (Kd.FK_below (Kd.FK_below HFZ.out hb5.out) (below_drew (Below.refl _ _)))
      have hse := str_eq HZO.out.1 HGE.out.1
      rw [HKD.out] at hse

      go_wp2
      refine s_ 35 [] (fun w' => w'.cell? ⟨gr, 0, none⟩ = some (.slice (some ad) T.length cL) ∧ w'.cell? (ad.add (n * 4)) = some (.slice B0 z.e.f0.length b0) ∧ w'.cell? ⟨(ad.add (n * 4)).block, (ad.add (n * 4)).off + 1, none⟩ = some (.int .i64 z.e.f1) ∧ w'.cell? ⟨g4, 0, none⟩ = some (.slice A0 e.f0.length c0) ∧ w'.cell? ⟨g4, 1, none⟩ = some (.int .i64 e.f1) ∧ Kd.C (Kd.int .u8) w' B0 z.e.f0.length z.e.f0 ∧ Kd.C (Kd.int .u8) w' A0 e.f0.length e.f0) (hS := ⟨(pw_cell_below (below_drew (Below.refl _ _)) hc6r), (pw_cell_below (below_drew (Below.refl _ _)) hc60), (pw_cell_below (below_drew (Below.refl _ _)) hc61), (blk_cell (blk_drew H6.out) 0).trans rfl, (blk_cell (blk_drew H6.out) 1).trans rfl, Kd.C_drew (K34_C (Kd.FK_now HF6.out)).2.1, Kd.C_below HR0.out (below_drew HB6.out)⟩) (h := fun hHeld => ?_)
      refine p_ 0 39 (bb 35 1) (h := ?_)
      refine p_ 1 40 (bb 35 3) (h := ?_)
      refine p_ 2 41 (bb 35 7) (h := ?_)
      refine p_ 3 42 (bb 35 15) (h := ?_)
      refine t_ 4 43 (bb 35 31) hHeld (h := ?_)
      refine p_ 5 44 (bb 35 63) (h := ?_)
      refine p_ 6 45 (bb 35 127) (h := ?_)
      refine p_ 7 46 (bb 35 255) (h := ?_)
      refine p_ 8 47 (bb 35 511) (h := ?_)
      refine p_ 9 48 (bb 35 1023) (h := ?_)
      refine p_ 10 49 (bb 35 2047) (h := ?_)
      refine t_ 11 50 (bb 35 4095) hHeld (h := ?_)
      refine p_ 12 51 (bb 35 8191) (h := ?_)
      refine p_ 13 52 (bb 35 16383) (h := ?_)
      refine p_ 14 53 (bb 35 32767) (h := ?_)
      refine t_ 15 54 (bb 35 65535) hHeld (h := ?_)
      refine t_ 16 55 (bb 35 131071) hHeld (hy := by (rintro w' ⟨s0, s1, s2, s3, s4, s5, s6⟩; have hcv := Kd.C_string (P := Try.prog) (A := B0) (c := b0) Try.underlying32 Try.underlying5 Try.underlying9 s5; go_simp; with_reducible rfl)) (h := ?_)
      refine p_ 17 56 (bb 35 262143) (h := ?_)
      refine t_ 18 57 (bb 35 524287) hHeld (h := ?_)
      refine t_ 19 58 (bb 35 1048575) hHeld (hy := by (rintro w' ⟨s0, s1, s2, s3, s4, s5, s6⟩; have hcv := Kd.C_string (P := Try.prog) (A := A0) (c := c0) Try.underlying32 Try.underlying5 Try.underlying9 s6; go_simp; with_reducible rfl)) (h := ?_)
      refine p_ 20 59 (bb 35 2097151) (h := ?_)
      refine p_ 21 60 (bb 35 4194303) (h := ?_)
      refine p_ 22 61 (bb 35 8388607) (h := ?_)
      refine o_ 23 62 (bb 35 16777215) (h := ?_)
      refine o_ 24 63 (bb 35 33554431) (h := ?_)
      refine o_ 25 64 (bb 35 67108863) (h := ?_)
      refine o_ 26 65 (bb 35 134217727) (h := ?_)
      refine o_ 27 66 (bb 35 268435455) (h := ?_)
      refine o_ 28 67 (bb 35 536870911) (h := ?_)
      refine o_ 29 68 (bb 35 1073741823) (h := ?_)
      refine o_ 30 69 (bb 35 2147483647) (h := ?_)
      refine o_ 31 70 (bb 35 4294967295) (h := ?_)
      refine o_ 32 71 (bb 35 8589934591) (h := ?_)
      refine o_ 33 72 (bb 35 17179869183) (h := ?_)
      refine p_ 34 73 (bb 35 34359738367) (h := ?_)
      refine d_ (h := ?_)

      clear hHeld hc6r hc60 hc61 hse
      have HB7 := Aside0.mk (below_drew HB6.out)
      have H7 := Aside0.mk (blk_drew H6.out)
      generalize w5.drew = w7 at HB7 H7 ⊢
      go_wp2
      have HNT := Aside0.mk (show n ≤ T.length by have h1 := HTL.out; have h2 := HNX.out; omega)
      have HTKE := Aside0.mk (show (T.map (fun t => t.e)).take n = X.map (fun t => t.e) ∧ (T.map (fun t => t.e)).drop n = Y.map (fun t => t.e) by
        rw [← HXY.out, List.map_append, HNX.out]
        exact ⟨List.take_left' (by simp), List.drop_left' (by simp)⟩)
      have HTKH := Aside0.mk (show (T.map (fun t => t.h)).take n = X.map (fun t => t.h) ∧ (T.map (fun t => t.h)).drop n = Y.map (fun t => t.h) by
        rw [← HXY.out, List.map_append, HNX.out]
        exact ⟨List.take_left' (by simp), List.drop_left' (by simp)⟩)
      have HCL := Aside0.mk (show T.length ≤ cL by have h1 := (Kd.N_reads' HNL.out).2.1; rwa [List.length_map] at h1)
      have HCH := Aside0.mk (show T.length ≤ cH by have h1 := (Kd.N_reads' HNH.out).2.1; rwa [List.length_map] at h1)
      have HGR8 := Aside0.mk (blk_drew (blk_below HGR.out HB7.out))
      have HB8 := Aside0.mk (below_drew HB7.out)
      have HC8 := Aside0.mk (show w7.drew.cell? ⟨gr, 0, none⟩ = some (.slice (some ad) T.length cL) ∧ w7.drew.cell? ⟨g4, 0, none⟩ = some (.slice A0 e.f0.length c0) ∧ w7.drew.cell? ⟨g4, 1, none⟩ = some (.int .i64 e.f1) ∧ w7.drew.cell? ⟨g4, 2, none⟩ = some (.bool e.f2) ∧ w7.drew.cell? ⟨g4, 3, none⟩ = some (.slice A3 e.f3.length c3) from ⟨(blk_cell HGR8.out 0).trans rfl, (blk_cell (blk_drew H7.out) 0).trans rfl, (blk_cell (blk_drew H7.out) 1).trans rfl, (blk_cell (blk_drew H7.out) 2).trans rfl, (blk_cell (blk_drew H7.out) 3).trans rfl⟩)
      have HFL := Aside0.mk (Kd.F_bound (Kd.F_below (Kd.N_F HNL.out) HB8.out))
      have HFX := Aside0.mk (show Kd.F k34 w7.drew (fun k => (D k ∧ k ≠ gr) ∧ k < w7.drew.heap.size) (some ad) n (X.map (fun t => t.e)) by
        rw [← HTKE.out.1]
        exact F_take HFL.out (by rw [List.length_map]; exact HNT.out))
      obtain ⟨Ac, hAc⟩ : ∃ A_, A_ = (if cL = n then (some ad) else (some ad).map (·.add (n * 4))) := ⟨_, rfl⟩
      obtain ⟨cc, hcc⟩ : ∃ c_, c_ = cL - n := ⟨_, rfl⟩
      have HFY := Aside0.mk (show Kd.F k34 w7.drew (fun k => (D k ∧ k ≠ gr) ∧ k < w7.drew.heap.size) Ac (T.length - n) (Y.map (fun t => t.e)) by
        have h1 := F_drop (m := n) (c := cL) HFL.out (by rw [List.length_map]; exact HNT.out) (by rw [List.length_map]; exact HCL.out)
        rw [HTKE.out.2, List.length_map] at h1
        rw [hAc]
        exact h1)
      obtain ⟨hct, hcf⟩ := cutT (some ad) 27 34 4 64 _ Try.underlying27 info34 T.length cL n HNT.out HCL.out
      rw [← hAc, ← hcc] at hcf
      clear hAc hcc HFL
      refine s_ 23 [22] (fun w' => w'.cell? ⟨gr, 0, none⟩ = some (.slice (some ad) T.length cL) ∧ w'.cell? ⟨g4, 0, none⟩ = some (.slice A0 e.f0.length c0) ∧ w'.cell? ⟨g4, 1, none⟩ = some (.int .i64 e.f1) ∧ w'.cell? ⟨g4, 2, none⟩ = some (.bool e.f2) ∧ w'.cell? ⟨g4, 3, none⟩ = some (.slice A3 e.f3.length c3)) (hS := ⟨HC8.out.1, HC8.out.2.1, HC8.out.2.2.1, HC8.out.2.2.2.1, HC8.out.2.2.2.2⟩) (h := fun hHeld => ?_)
      generalize hW8 : w7.drew = w8 at HC8 HGR8 HB8 HFX HFY hHeld ⊢
      refine p_ 0 74 (bb 23 1) (h := ?_)
      refine p_ 2 76 (bb 23 5) (h := ?_)
      refine p_ 3 77 (bb 23 13) (h := ?_)
      refine p_ 4 78 (bb 23 29) (h := ?_)
      refine t_ 5 79 (bb 23 61) hHeld (h := ?_)
      refine p_ 6 80 (bb 23 125) (h := ?_)
      refine p_ 7 81 (bb 23 253) (h := ?_)
      refine t_ 9 83 (bb 23 765) hHeld (h := ?_)
      refine p_ 13 87 (bb 23 8957) (h := ?_)
      refine p_ 14 88 (bb 23 25341) (h := ?_)
      refine p_ 15 89 (bb 23 58109) (h := ?_)
      refine t_ 16 90 (bb 23 123645) hHeld (h := ?_)
      refine p_ 17 91 (bb 23 254717) (h := ?_)
      refine p_ 18 92 (bb 23 516861) (h := ?_)
      refine n_ 1 75 (bb 23 516863) (h := fun K hK => ?_)
      refine Kd.N_lit_step k34 w8.heap.size 34 (by rfl) rfl (xs := ([] : List S34)) (inner := []) (ok := (fun k => (D k ∧ k ≠ gr ∧ k < w8.heap.size) ∨ w8.heap.size ≤ k)) (okp := (fun _ => False)) ?hrun ?hrep (fun _ hk => hk.elim) (.inr (Nat.le_refl _)) (Below.refl _ _) (Nat.le_refl _) (by simp) ?_
      case hrun => first | (go_simp; done) | (go_simp; rfl)
      case hrep => exact Reps.none _ _
      intro v75 w75 hn75 hb75 hg75 hat75
      have HN75 := Aside0.mk hn75
      have HB75 := Aside0.mk hb75
      have HG75 := Aside0.mk hg75
      have HAT75 := Aside0.mk hat75
      clear hn75 hb75 hg75 hat75
      refine hK.out _ _ ⟨pw_cell_below HB75.out HC8.out.1, pw_cell_below HB75.out HC8.out.2.1, pw_cell_below HB75.out HC8.out.2.2.1, pw_cell_below HB75.out HC8.out.2.2.2.1, pw_cell_below HB75.out HC8.out.2.2.2.2⟩ (fun hHeld => ?_)
      clear hK K
      refine m_ 75 (h := ?_)
      refine n_ 8 82 (bb 23 517119) (h := fun K hK => ?_)
      refine Kd.N_append_rows_step k34 (w0 := w8) w8.heap.size (by rfl) (.tmp 75) (.tmp 81) 27 34 (.agg #[(.slice none 0 0), (.int .i64 0), (.bool false), (.slice none 0 0)]) 64 rfl Try.underlying27 info34 rfl (by decide) (by omega) v75 ([]) (X.map (fun t => t.e)) ((some ad)) (n) (cL) ((fun k => (D k ∧ k ≠ gr ∧ k < w8.heap.size) ∨ w8.heap.size ≤ k)) ((fun k => (D k ∧ k ≠ gr) ∧ k < w8.heap.size)) rfl rfl (HN75.out) (Kd.F_below HFX.out HB75.out) (fun k hk => ⟨.inl ⟨hk.1.1, hk.1.2, hk.2⟩, fun he => by have h1 := Kd.N_base HN75.out k he.symm; have h2 := hk.2; omega⟩) (fun k hk => .inr (Nat.le_trans HB75.out.size hk)) (HB75.out) (HB75.out.size) (by have h1 := HLEN.out; have h2 := HNT.out; have h4 := HNX.out; simp; omega) ?_
      intro v82 w82 hn82 hb82 hg82 hat82
      have HN82 := Aside0.mk hn82
      have HB82 := Aside0.mk hb82
      have HG82 := Aside0.mk hg82
      have HAT82 := Aside0.mk hat82
      clear hn82 hb82 hg82 hat82
      refine hK.out _ _ ⟨pw_cell_below HB82.out HC8.out.1, pw_cell_below HB82.out HC8.out.2.1, pw_cell_below HB82.out HC8.out.2.2.1, pw_cell_below HB82.out HC8.out.2.2.2.1, pw_cell_below HB82.out HC8.out.2.2.2.2⟩ (fun hHeld => ?_)
      clear hK K
      refine m_ 82 (h := ?_)
      refine n_ 10 84 (bb 23 518143) (h := fun K hK => ?_)
      refine goes_ Try.func26 (by kernel_rfl) rfl #[.agg #[.slice A0 e.f0.length c0, .int .i64 e.f1, .bool e.f2, .slice A3 e.f3.length c3]] (by rfl) rfl rfl (by (try simp only [List.map_toArray, List.map_cons, List.map_nil]); first | done | rfl) ?_
      refine (copyC (Kd.C_below HR0.out (below_weaken HB8.out HB8.out.size HB82.out)) HC0.out (Kd.C_below HR3.out (below_weaken HB8.out HB8.out.size HB82.out)) HC3.out HOE.out.1 HOE.out.2).mono ?_
      rintro ex w84 ⟨v0, v3, rfl, hv84, hb84⟩
      refine ⟨_, rfl, ?_⟩
      obtain ⟨⟨P0, d0, rfl, hl0, hF0⟩, ⟨P3, d3, rfl, hl3, hF3⟩⟩ := hv84
      have hl0 := Aside0.mk hl0
      have hF0 := Aside0.mk hF0
      have hl3 := Aside0.mk hl3
      have hF3 := Aside0.mk hF3
      have HB84 := Aside0.mk (below_weaken2 HB82.out hb84)
      have hb84 := Aside0.mk hb84
      refine hK.out _ _ ⟨pw_cell_below HB84.out HC8.out.1, pw_cell_below HB84.out HC8.out.2.1, pw_cell_below HB84.out HC8.out.2.2.1, pw_cell_below HB84.out HC8.out.2.2.2.1, pw_cell_below HB84.out HC8.out.2.2.2.2⟩ (fun hHeld => ?_)
      clear hK K
      refine m_ 84 (h := ?_)
      refine n_ 11 85 (bb 23 520191) (h := fun K hK => ?_)
      refine Kd.N_lit_step k34 w8.heap.size 34 (by rfl) rfl (xs := [e]) (inner := [.slice P0 e.f0.length d0, .int .i64 e.f1, .bool e.f2, .slice P3 e.f3.length d3]) (ok := (fun k => w82.heap.size ≤ k)) (okp := (fun k => w82.heap.size ≤ k)) ?hrun ?hrep (fun _ hk => hk) hb84.out.size HB84.out HB84.out.size (by simp) ?_
      case hrun => first | (go_simp; done) | (go_simp; rfl)
      case hrep => exact Reps.c4 (k34_mkF _ _ e hl0.out hF0.out hl3.out hF3.out) (Reps.none _ _)
      intro v85 w85 hn85 hb85 hg85 hat85
      have HN85 := Aside0.mk hn85
      have HB85 := Aside0.mk hb85
      have HG85 := Aside0.mk hg85
      have HAT85 := Aside0.mk hat85
      clear hn85 hb85 hg85 hat85
      obtain ⟨A85, c85, rfl⟩ := Kd.N_slice HN85.out
      refine hK.out _ _ ⟨pw_cell_below HB85.out HC8.out.1, pw_cell_below HB85.out HC8.out.2.1, pw_cell_below HB85.out HC8.out.2.2.1, pw_cell_below HB85.out HC8.out.2.2.2.1, pw_cell_below HB85.out HC8.out.2.2.2.2⟩ (fun hHeld => ?_)
      clear hK K
      refine m_ 85 (h := ?_)
      refine n_ 12 86 (bb 23 524287) (h := fun K hK => ?_)
      have HB285 := Aside0.mk (show Below w82.heap.size w82 w85 from below_step hb84.out ⟨HG85.out.os, HG85.out.tape, HG85.out.output, HG85.out.size, fun i hi => HG85.out.block i hi (by simp)⟩)
      refine Kd.N_append_rows_step k34 (w0 := w8) w8.heap.size (by rfl) (.tmp 82) (.tmp 85) 27 34 (.agg #[(.slice none 0 0), (.int .i64 0), (.bool false), (.slice none 0 0)]) 64 rfl Try.underlying27 info34 rfl (by decide) (by omega) v82 ([] ++ X.map (fun t => t.e)) ([e]) (A85) (1) (c85) ((fun k => (D k ∧ k ≠ gr ∧ k < w8.heap.size) ∨ w8.heap.size ≤ k)) ((fun k => w82.heap.size ≤ k)) rfl rfl (Kd.N_below HN82.out HB285.out) (Kd.N_F HN85.out) (fun k hk => ⟨.inr (Nat.le_trans HB82.out.size hk), fun he => by have h1 := Kd.N_lt HN82.out k he.symm; omega⟩) (fun k hk => .inr (Nat.le_trans HB85.out.size hk)) (HB85.out) (HB85.out.size) (by have h1 := HLEN.out; have h2 := HNT.out; have h4 := HNX.out; simp; omega) ?_
      intro v86 w86 hn86 hb86 hg86 hat86
      have HN86 := Aside0.mk hn86
      have HB86 := Aside0.mk hb86
      have HG86 := Aside0.mk hg86
      have HAT86 := Aside0.mk hat86
      clear hn86 hb86 hg86 hat86
      refine hK.out _ _ ⟨pw_cell_below HB86.out HC8.out.1, pw_cell_below HB86.out HC8.out.2.1, pw_cell_below HB86.out HC8.out.2.2.1, pw_cell_below HB86.out HC8.out.2.2.2.1, pw_cell_below HB86.out HC8.out.2.2.2.2⟩ (fun hHeld => ?_)
      clear hK K
      refine m_ 86 (h := ?_)
      refine n_ 19 93 (bb 23 1048575) (h := fun K hK => ?_)
      refine Kd.N_append_rows_step k34 (w0 := w8) w8.heap.size (by rfl) (.tmp 86) (.tmp 92) 27 34 (.agg #[(.slice none 0 0), (.int .i64 0), (.bool false), (.slice none 0 0)]) 64 rfl Try.underlying27 info34 rfl (by decide) (by omega) v86 (([] ++ X.map (fun t => t.e)) ++ [e]) (Y.map (fun t => t.e)) (Ac) (T.length - n) (cc) ((fun k => (D k ∧ k ≠ gr ∧ k < w8.heap.size) ∨ w8.heap.size ≤ k)) ((fun k => (D k ∧ k ≠ gr) ∧ k < w8.heap.size)) rfl rfl (HN86.out) (Kd.F_below HFY.out HB86.out) (fun k hk => ⟨.inl ⟨hk.1.1, hk.1.2, hk.2⟩, fun he => by have h1 := Kd.N_base HN86.out k he.symm; have h2 := hk.2; omega⟩) (fun k hk => .inr (Nat.le_trans HB86.out.size hk)) (HB86.out) (HB86.out.size) (by have h1 := HLEN.out; have h2 := HNT.out; have h4 := HNX.out; have h3 := HTL.out; simp; omega) ?_
      intro v93 w93 hn93 hb93 hg93 hat93
      have HN93 := Aside0.mk hn93
      have HB93 := Aside0.mk hb93
      have HG93 := Aside0.mk hg93
      have HAT93 := Aside0.mk hat93
      clear hn93 hb93 hg93 hat93
      obtain ⟨A93, c93, rfl⟩ := Kd.N_slice HN93.out
      obtain ⟨n93, hn93⟩ : ∃ m, m = (([] ++ X.map (fun t : Tw => t.e) ++ [e]) ++ Y.map (fun t : Tw => t.e)).length := ⟨_, rfl⟩
      rw [← hn93] at HN93 ⊢
      clear hn93
      refine hK.out _ _ ⟨pw_cell_below HB93.out HC8.out.1, pw_cell_below HB93.out HC8.out.2.1, pw_cell_below HB93.out HC8.out.2.2.1, pw_cell_below HB93.out HC8.out.2.2.2.1, pw_cell_below HB93.out HC8.out.2.2.2.2⟩ (fun hHeld => ?_)
      clear hK K
      refine m_ 93 (h := ?_)
      refine p_ 20 94 (bb 23 2097151) (h := ?_)
      refine p_ 21 95 (bb 23 4194303) (h := ?_)
      have hsg : w93.cell? ⟨gr, 0, none⟩ = some (.slice (some ad) T.length cL) := hHeld.1
      have hsf : w93.frozen? ⟨gr, 0, none⟩ = false := blk_frozen (blk_below HGR8.out HB93.out) 0
      refine l_ 22 (bb 23 8388607) (h := ?_)
      refine d_ (h := ?_)

      clear hct hcf hsg hsf hHeld
      have HNL9 := Aside0.mk (show Kd.N k34 34 (w93.setCell ⟨gr, 0, none⟩ (.slice A93 n93 c93)) base (fun k => (D k ∨ w.heap.size ≤ k) ∧ k ≠ gr) (.slice A93 n93 c93) ((insT T ⟨e, height⟩).map (fun t => t.e)) by
        have h1 := Kd.N_lower HN93.out (show base ≤ w8.heap.size by have h1 := HDB.out gr HDG.out; have h2 := blk_lt HGR8.out; omega)
        have h2 := Kd.N_far (p := ⟨gr, 0, none⟩) h1 (fun k hk => by
          rcases hk with hk1 | hk1
          · exact hk1.2.1
          · have h2 := blk_lt HGR8.out; show k ≠ gr; omega) (.slice A93 n93 c93)
        have h3 := Kd.N_mono h2 (fun k hk => show (D k ∨ w.heap.size ≤ k) ∧ k ≠ gr from ⟨hk.elim (fun h => .inl h.1) (fun h => .inr (Nat.le_trans HB8.out.size h)), by
          rcases hk with hk1 | hk1
          · exact hk1.2.1
          · have h2 := blk_lt HGR8.out; omega⟩)
        rw [← HINS.out, List.map_append, List.map_cons]
        simpa using h3)
      have HGR9 := Aside0.mk (show (w93.setCell ⟨gr, 0, none⟩ (.slice A93 n93 c93)).heap[gr]? = some (.cells #[.slice A93 n93 c93, .slice AH T.length cH] 30 (0, 0)) from blk_put (blk_below HGR8.out HB93.out) 0 _ rfl)
      have CH9 := Aside0.mk (((Chg.of_below HB8.out (fun k => k = gr)).below_step HB93.out).set (p := ⟨gr, 0, none⟩) (.inl rfl) (.slice A93 n93 c93))
      generalize w93.setCell ⟨gr, 0, none⟩ (.slice A93 n93 c93) = w9 at HNL9 HGR9 CH9 ⊢
      clear HC8 HGR8 HB8 HFX HFY HN75 HB75 HG75 HAT75 HN82 HB82 HG82 HAT82 HB84 HN85 HB85 HG85 HAT85 HB285 HN86 HB86 HG86 HAT86 HN93 HB93 HG93 HAT93 hl0 hl3 hF0 hF3 hb84
      have HGR8 := Aside0.mk (blk_drew HGR9.out)
      have HC8 := Aside0.mk (show w9.drew.cell? ⟨gr, 1, none⟩ = some (.slice AH T.length cH) from (blk_cell HGR8.out 1).trans rfl)
      have CH8 := Aside0.mk CH9.out.drew
      have HNL8 := Aside0.mk (Kd.N_drew HNL9.out)
      have HNH8 := Aside0.mk (Kd.N_step HNH.out (fun k hk hlt => CH8.out.kept.2 k hlt hk.2))
      have HFL := Aside0.mk (Kd.F_bound (Kd.N_F HNH8.out))
      have HFX := Aside0.mk (show Kd.F kI w9.drew (fun k => (D k ∧ k ≠ gr) ∧ k < w9.drew.heap.size) AH n (X.map (fun t => t.h)) by
        rw [← HTKH.out.1]
        exact F_take HFL.out (by rw [List.length_map]; exact HNT.out))
      obtain ⟨Ah, hAh⟩ : ∃ A_, A_ = (if cH = n then AH else AH.map (·.add (n * 1))) := ⟨_, rfl⟩
      obtain ⟨ch, hch⟩ : ∃ c_, c_ = cH - n := ⟨_, rfl⟩
      have HFY := Aside0.mk (show Kd.F kI w9.drew (fun k => (D k ∧ k ≠ gr) ∧ k < w9.drew.heap.size) Ah (T.length - n) (Y.map (fun t => t.h)) by
        have h1 := F_drop (m := n) (c := cH) HFL.out (by rw [List.length_map]; exact HNT.out) (by rw [List.length_map]; exact HCH.out)
        rw [HTKH.out.2, List.length_map] at h1
        rw [hAh]
        exact h1)
      obtain ⟨hct, hcf⟩ := cutT AH 28 3 1 8 _ Try.underlying28 info3 T.length cH n HNT.out HCH.out
      rw [← hAh, ← hch] at hcf
      clear hAh hch HFL HNH8
      go_wp2
      refine s_ 22 [21] (fun w' => w'.cell? ⟨gr, 1, none⟩ = some (.slice AH T.length cH)) (hS := (HC8.out)) (h := fun hHeld => ?_)
      generalize hW8 : w9.drew = w8 at HC8 HGR8 CH8 HFX HFY HNL8 hHeld ⊢
      refine p_ 0 96 (bb 22 1) (h := ?_)
      refine p_ 2 98 (bb 22 5) (h := ?_)
      refine p_ 3 99 (bb 22 13) (h := ?_)
      refine p_ 4 100 (bb 22 29) (h := ?_)
      refine t_ 5 101 (bb 22 61) hHeld (h := ?_)
      refine p_ 6 102 (bb 22 125) (h := ?_)
      refine p_ 7 103 (bb 22 253) (h := ?_)
      refine p_ 9 105 (bb 22 765) (h := ?_)
      refine p_ 12 108 (bb 22 4861) (h := ?_)
      refine p_ 13 109 (bb 22 13053) (h := ?_)
      refine p_ 14 110 (bb 22 29437) (h := ?_)
      refine t_ 15 111 (bb 22 62205) hHeld (h := ?_)
      refine p_ 16 112 (bb 22 127741) (h := ?_)
      refine p_ 17 113 (bb 22 258813) (h := ?_)
      refine join_ (σ := Value × Value × Value) 5 (bb 22 260095) (fun s => [(97, s.1), (104, s.2.1), (106, s.2.2)]) (fun (s : Value × Value × Value) (w' : World) => ∃ (A106 : Option Addr) (c106 : Nat) (ok1 : Nat → Prop), s.2.2 = .slice A106 1 c106 ∧ Kd.F kI w' ok1 A106 1 [height] ∧ (∀ k, ok1 k → w8.heap.size ≤ k ∧ some k ≠ s.2.1.ownBlock) ∧ Kd.N kI 3 w' w8.heap.size (fun k => (D k ∧ k ≠ gr ∧ k < w8.heap.size) ∨ w8.heap.size ≤ k) s.2.1 ([] ++ X.map (fun t => t.h)) ∧ Below w8.heap.size w8 w') ?cont (fun hcont => ?orders)
      case orders =>
        refine two_ (i := 1) (j := 10) (Ni := some 97) (Nj := some 106) (bb 22 258815) (bb 22 259837) rfl rfl rfl rfl (by kernel_rfl) (by decide) (by decide) (fun K hK => ?_) (fun K hK => ?_)
        · refine Kd.N_lit_step kI w8.heap.size 3 (by rfl) rfl (xs := ([] : List Int)) (inner := []) (ok := (fun k => (D k ∧ k ≠ gr ∧ k < w8.heap.size) ∨ w8.heap.size ≤ k)) (okp := (fun _ => False)) ?hrun ?hrep (fun _ hk => hk.elim) (.inr (Nat.le_refl _)) (Below.refl _ _) (Nat.le_refl _) (by simp) ?_
          case hrun => first | (go_simp; done) | (go_simp; rfl)
          case hrep => exact Reps.none _ _
          intro v97 w97 hn97 hb97 hg97 hat97
          have HN97 := Aside0.mk hn97
          have HB97 := Aside0.mk hb97
          have HG97 := Aside0.mk hg97
          have HAT97 := Aside0.mk hat97
          clear hn97 hb97 hg97 hat97
          refine hK.out _ _ (pw_cell_below HB97.out HC8.out) (fun hHeld => ?_)
          clear hK K
          refine m_ 97 (h := ?_)
          refine two_ (i := 8) (j := 10) (Ni := some 104) (Nj := some 106) (bb 22 259071) (bb 22 259839) rfl rfl rfl rfl (by kernel_rfl) (by decide) (by decide) (fun K hK => ?_) (fun K hK => ?_)
          · refine Kd.N_append_rows_step kI (w0 := w8) w8.heap.size (by rfl) (.tmp 97) (.tmp 103) 28 3 (.int .i64 0) 8 rfl Try.underlying28 info3 rfl (by decide) (by omega) v97 ([]) (X.map (fun t => t.h)) (AH) (n) (cH) ((fun k => (D k ∧ k ≠ gr ∧ k < w8.heap.size) ∨ w8.heap.size ≤ k)) ((fun k => (D k ∧ k ≠ gr) ∧ k < w8.heap.size)) rfl rfl (HN97.out) (Kd.F_below HFX.out HB97.out) (fun k hk => ⟨.inl ⟨hk.1.1, hk.1.2, hk.2⟩, fun he => by have h1 := Kd.N_base (HN97.out) k he.symm; have h2 := hk.2; omega⟩) (fun k hk => .inr (Nat.le_trans HB97.out.size hk)) (HB97.out) (HB97.out.size) (by have h1 := HLEN.out; have h2 := HNT.out; have h4 := HNX.out; simp; omega) ?_
            intro v104 w104 hn104 hb104 hg104 hat104
            have HN104 := Aside0.mk hn104
            have HB104 := Aside0.mk hb104
            have HG104 := Aside0.mk hg104
            have HAT104 := Aside0.mk hat104
            clear hn104 hb104 hg104 hat104
            refine hK.out _ _ (pw_cell_below HB104.out HC8.out) (fun hHeld => ?_)
            clear hK K
            refine m_ 104 (h := ?_)
            refine one_ (i := 10) (N := some 106) (bb 22 260095) rfl rfl (by kernel_rfl) (by decide) (fun K hK => ?_)
            refine Kd.N_lit_step kI w104.heap.size 3 (by rfl) rfl (xs := [height]) (inner := [.int .i64 height]) (ok := (fun k => w104.heap.size ≤ k)) (okp := (fun _ => False)) ?hrun ?hrep (fun _ hk => hk.elim) (Nat.le_refl _) (Below.refl _ _) (Nat.le_refl _) (by simp) ?_
            case hrun => first | (go_simp; done) | (go_simp; rfl)
            case hrep => exact Reps.one (fun _ _ => rfl) (Reps.none _ _)
            intro v106 w106 hn106 hb106 hg106 hat106
            have HN106 := Aside0.mk hn106
            have HB106 := Aside0.mk hb106
            have HG106 := Aside0.mk hg106
            have HAT106 := Aside0.mk hat106
            clear hn106 hb106 hg106 hat106
            obtain ⟨A106, c106, rfl⟩ := Kd.N_slice HN106.out
            have HB106 := Aside0.mk (below_step HB104.out (show Below w104.heap.size w104 w106 from ⟨HG106.out.os, HG106.out.tape, HG106.out.output, HG106.out.size, fun i hi => HG106.out.block i hi (by simp)⟩))
            refine hK.out _ _ (pw_cell_below HB106.out HC8.out) (fun hHeld => ?_)
            clear hK K
            refine m_ 106 (h := ?_)
            refine norm_ ?_ (hcont (v97, v104, .slice A106 1 c106) _ ⟨A106, c106, _, rfl, Kd.N_F (Kd.N_bound HN106.out), fun k hk => ⟨Nat.le_trans HB104.out.size hk.1, fun he => by have h1 := Kd.N_lt HN104.out k he.symm; have h2 := hk.1; omega⟩, Kd.N_below HN104.out (show Below w104.heap.size w104 w106 from ⟨HG106.out.os, HG106.out.tape, HG106.out.output, HG106.out.size, fun i hi => HG106.out.block i hi (by simp)⟩), HB106.out⟩)
            show _ = putAll _ [(97, v97), (104, v104), (106, .slice A106 1 c106)]
            simp only [putAll, Act.put, List.setIfInBounds_toArray, List.set_cons_zero, List.set_cons_succ]
            rfl

          · refine Kd.N_lit_step kI w97.heap.size 3 (by rfl) rfl (xs := [height]) (inner := [.int .i64 height]) (ok := (fun k => w97.heap.size ≤ k)) (okp := (fun _ => False)) ?hrun ?hrep (fun _ hk => hk.elim) (Nat.le_refl _) (Below.refl _ _) (Nat.le_refl _) (by simp) ?_
            case hrun => first | (go_simp; done) | (go_simp; rfl)
            case hrep => exact Reps.one (fun _ _ => rfl) (Reps.none _ _)
            intro v106 w106 hn106 hb106 hg106 hat106
            have HN106 := Aside0.mk hn106
            have HB106 := Aside0.mk hb106
            have HG106 := Aside0.mk hg106
            have HAT106 := Aside0.mk hat106
            clear hn106 hb106 hg106 hat106
            obtain ⟨A106, c106, rfl⟩ := Kd.N_slice HN106.out
            have HB106 := Aside0.mk (below_step HB97.out (show Below w97.heap.size w97 w106 from ⟨HG106.out.os, HG106.out.tape, HG106.out.output, HG106.out.size, fun i hi => HG106.out.block i hi (by simp)⟩))
            have HN297 := Aside0.mk (Kd.N_below HN97.out (show Below w97.heap.size w97 w106 from ⟨HG106.out.os, HG106.out.tape, HG106.out.output, HG106.out.size, fun i hi => HG106.out.block i hi (by simp)⟩))
            refine hK.out _ _ (pw_cell_below HB106.out HC8.out) (fun hHeld => ?_)
            clear hK K
            refine m_ 106 (h := ?_)
            refine one_ (i := 8) (N := some 104) (bb 22 260095) rfl rfl (by kernel_rfl) (by decide) (fun K hK => ?_)
            refine Kd.N_append_rows_step kI (w0 := w8) w8.heap.size (by rfl) (.tmp 97) (.tmp 103) 28 3 (.int .i64 0) 8 rfl Try.underlying28 info3 rfl (by decide) (by omega) v97 ([]) (X.map (fun t => t.h)) (AH) (n) (cH) ((fun k => (D k ∧ k ≠ gr ∧ k < w8.heap.size) ∨ w8.heap.size ≤ k)) ((fun k => (D k ∧ k ≠ gr) ∧ k < w8.heap.size)) rfl rfl (HN297.out) (Kd.F_below HFX.out HB106.out) (fun k hk => ⟨.inl ⟨hk.1.1, hk.1.2, hk.2⟩, fun he => by have h1 := Kd.N_base (HN297.out) k he.symm; have h2 := hk.2; omega⟩) (fun k hk => .inr (Nat.le_trans HB106.out.size hk)) (HB106.out) (HB106.out.size) (by have h1 := HLEN.out; have h2 := HNT.out; have h4 := HNX.out; simp; omega) ?_
            intro v104 w104 hn104 hb104 hg104 hat104
            have HN104 := Aside0.mk hn104
            have HB104 := Aside0.mk hb104
            have HG104 := Aside0.mk hg104
            have HAT104 := Aside0.mk hat104
            clear hn104 hb104 hg104 hat104
            refine hK.out _ _ (pw_cell_below HB104.out HC8.out) (fun hHeld => ?_)
            clear hK K
            refine m_ 104 (h := ?_)
            refine norm_ ?_ (hcont (v97, v104, .slice A106 1 c106) _ ⟨A106, c106, _, rfl, Kd.F_grown (Kd.N_F (Kd.N_bound HN106.out)) HG104.out (fun k hk he => by have h1 := Kd.N_lt HN97.out k he.symm; have h2 := hk.1; omega), fun k hk => ⟨Nat.le_trans HB97.out.size hk.1, fun he => by
              have h2 := hk.1
              have h3 := hk.2
              rcases HAT104.out with h4 | ⟨b, h4, h5⟩
              · rw [h4] at he; have h1 := Kd.N_lt HN97.out k he.symm; omega
              · rw [h4] at he; injection he with he; omega⟩, HN104.out, HB104.out⟩)
            show _ = putAll _ [(97, v97), (104, v104), (106, .slice A106 1 c106)]
            simp only [putAll, Act.put, List.setIfInBounds_toArray, List.set_cons_zero, List.set_cons_succ]
            rfl


        · refine Kd.N_lit_step kI w8.heap.size 3 (by rfl) rfl (xs := [height]) (inner := [.int .i64 height]) (ok := (fun k => w8.heap.size ≤ k)) (okp := (fun _ => False)) ?hrun ?hrep (fun _ hk => hk.elim) (Nat.le_refl _) (Below.refl _ _) (Nat.le_refl _) (by simp) ?_
          case hrun => first | (go_simp; done) | (go_simp; rfl)
          case hrep => exact Reps.one (fun _ _ => rfl) (Reps.none _ _)
          intro v106 w106 hn106 hb106 hg106 hat106
          have HN106 := Aside0.mk hn106
          have HB106 := Aside0.mk hb106
          have HG106 := Aside0.mk hg106
          have HAT106 := Aside0.mk hat106
          clear hn106 hb106 hg106 hat106
          obtain ⟨A106, c106, rfl⟩ := Kd.N_slice HN106.out
          refine hK.out _ _ (pw_cell_below HB106.out HC8.out) (fun hHeld => ?_)
          clear hK K
          refine m_ 106 (h := ?_)
          refine one_ (i := 1) (N := some 97) (bb 22 259839) rfl rfl (by kernel_rfl) (by decide) (fun K hK => ?_)
          refine Kd.N_lit_step kI w106.heap.size 3 (by rfl) rfl (xs := ([] : List Int)) (inner := []) (ok := (fun k => (D k ∧ k ≠ gr ∧ k < w8.heap.size) ∨ w8.heap.size ≤ k)) (okp := (fun _ => False)) ?hrun ?hrep (fun _ hk => hk.elim) (.inr (HB106.out.size)) (Below.refl _ _) (Nat.le_refl _) (by simp) ?_
          case hrun => first | (go_simp; done) | (go_simp; rfl)
          case hrep => exact Reps.none _ _
          intro v97 w97 hn97 hb97 hg97 hat97
          have HN97 := Aside0.mk hn97
          have HB97 := Aside0.mk hb97
          have HG97 := Aside0.mk hg97
          have HAT97 := Aside0.mk hat97
          clear hn97 hb97 hg97 hat97
          have HB97 := Aside0.mk (below_step HB106.out (show Below w106.heap.size w106 w97 from ⟨HG97.out.os, HG97.out.tape, HG97.out.output, HG97.out.size, fun i hi => HG97.out.block i hi (by simp)⟩))
          have HN297 := Aside0.mk (Kd.N_lower HN97.out HB106.out.size)
          refine hK.out _ _ (pw_cell_below HB97.out HC8.out) (fun hHeld => ?_)
          clear hK K
          refine m_ 97 (h := ?_)
          refine one_ (i := 8) (N := some 104) (bb 22 260095) rfl rfl (by kernel_rfl) (by decide) (fun K hK => ?_)
          refine Kd.N_append_rows_step kI (w0 := w8) w8.heap.size (by rfl) (.tmp 97) (.tmp 103) 28 3 (.int .i64 0) 8 rfl Try.underlying28 info3 rfl (by decide) (by omega) v97 ([]) (X.map (fun t => t.h)) (AH) (n) (cH) ((fun k => (D k ∧ k ≠ gr ∧ k < w8.heap.size) ∨ w8.heap.size ≤ k)) ((fun k => (D k ∧ k ≠ gr) ∧ k < w8.heap.size)) rfl rfl (HN297.out) (Kd.F_below HFX.out HB97.out) (fun k hk => ⟨.inl ⟨hk.1.1, hk.1.2, hk.2⟩, fun he => by have h1 := Kd.N_base (HN297.out) k he.symm; have h2 := hk.2; omega⟩) (fun k hk => .inr (Nat.le_trans HB97.out.size hk)) (HB97.out) (HB97.out.size) (by have h1 := HLEN.out; have h2 := HNT.out; have h4 := HNX.out; simp; omega) ?_
          intro v104 w104 hn104 hb104 hg104 hat104
          have HN104 := Aside0.mk hn104
          have HB104 := Aside0.mk hb104
          have HG104 := Aside0.mk hg104
          have HAT104 := Aside0.mk hat104
          clear hn104 hb104 hg104 hat104
          refine hK.out _ _ (pw_cell_below HB104.out HC8.out) (fun hHeld => ?_)
          clear hK K
          refine m_ 104 (h := ?_)
          refine norm_ ?_ (hcont (v97, v104, .slice A106 1 c106) _ ⟨A106, c106, _, rfl, Kd.F_grown (Kd.F_below (Kd.N_F (Kd.N_bound HN106.out)) (show Below w106.heap.size w106 w97 from ⟨HG97.out.os, HG97.out.tape, HG97.out.output, HG97.out.size, fun i hi => HG97.out.block i hi (by simp)⟩)) HG104.out (fun k hk he => by have h1 := Kd.N_base HN97.out k he.symm; have h2 := hk.2; omega), fun k hk => ⟨hk.1, fun he => by
            have h2 := hk.2
            have h6 := HG97.out.size
            rcases HAT104.out with h4 | ⟨b, h4, h5⟩
            · rw [h4] at he; have h1 := Kd.N_base HN97.out k he.symm; omega
            · rw [h4] at he; injection he with he; omega⟩, HN104.out, HB104.out⟩)
          show _ = putAll _ [(97, v97), (104, v104), (106, .slice A106 1 c106)]
          simp only [putAll, Act.put, List.setIfInBounds_toArray, List.set_cons_zero, List.set_cons_succ]
          rfl

      rintro ⟨v97, v104, v106⟩ w104 ⟨A106, c106, ok1, hv106, hF106, hk1, hn104, hb104⟩
      replace hv106 : v106 = _ := hv106
      subst hv106
      have HF106 := Aside0.mk hF106
      have HK1 := Aside0.mk hk1
      have HN104 := Aside0.mk (show Kd.N kI 3 w104 w8.heap.size _ v104 _ from hn104)
      have HB104 := Aside0.mk hb104
      clear hF106 hk1 hn104 hb104
      have hHeld := (pw_cell_below HB104.out HC8.out)
      refine norm_ (a' := ?_) ?_ ?_
      rotate_left
      · show putAll _ [(97, v97), (104, v104), (106, _)] = _
        simp only [putAll, Act.put, List.setIfInBounds_toArray, List.set_cons_zero, List.set_cons_succ]
        rfl
      refine n_ 11 107 (bb 22 262143) (h := fun K hK => ?_)
      refine Kd.N_append_rows_step kI (w0 := w8) w8.heap.size (by rfl) (.tmp 104) (.tmp 106) 28 3 (.int .i64 0) 8 rfl Try.underlying28 info3 rfl (by decide) (by omega) v104 ([] ++ X.map (fun t => t.h)) ([height]) (A106) (1) (c106) ((fun k => (D k ∧ k ≠ gr ∧ k < w8.heap.size) ∨ w8.heap.size ≤ k)) (ok1) rfl rfl (HN104.out) (HF106.out) (fun k hk => ⟨.inr (HK1.out k hk).1, (HK1.out k hk).2⟩) (fun k hk => .inr (Nat.le_trans HB104.out.size hk)) (HB104.out) (HB104.out.size) (by have h1 := HLEN.out; have h2 := HNT.out; have h4 := HNX.out; simp; omega) ?_
      intro v107 w107 hn107 hb107 hg107 hat107
      have HN107 := Aside0.mk hn107
      have HB107 := Aside0.mk hb107
      have HG107 := Aside0.mk hg107
      have HAT107 := Aside0.mk hat107
      clear hn107 hb107 hg107 hat107
      refine hK.out _ _ (pw_cell_below HB107.out HC8.out) (fun hHeld => ?_)
      clear hK K
      refine m_ 107 (h := ?_)
      refine n_ 18 114 (bb 22 524287) (h := fun K hK => ?_)
      refine Kd.N_append_rows_step kI (w0 := w8) w8.heap.size (by rfl) (.tmp 107) (.tmp 113) 28 3 (.int .i64 0) 8 rfl Try.underlying28 info3 rfl (by decide) (by omega) v107 (([] ++ X.map (fun t => t.h)) ++ [height]) (Y.map (fun t => t.h)) (Ah) (T.length - n) (ch) ((fun k => (D k ∧ k ≠ gr ∧ k < w8.heap.size) ∨ w8.heap.size ≤ k)) ((fun k => (D k ∧ k ≠ gr) ∧ k < w8.heap.size)) rfl rfl (HN107.out) (Kd.F_below HFY.out HB107.out) (fun k hk => ⟨.inl ⟨hk.1.1, hk.1.2, hk.2⟩, fun he => by have h1 := Kd.N_base HN107.out k he.symm; have h2 := hk.2; omega⟩) (fun k hk => .inr (Nat.le_trans HB107.out.size hk)) (HB107.out) (HB107.out.size) (by have h1 := HLEN.out; have h2 := HNT.out; have h4 := HNX.out; have h3 := HTL.out; simp; omega) ?_
      intro v114 w114 hn114 hb114 hg114 hat114
      have HN114 := Aside0.mk hn114
      have HB114 := Aside0.mk hb114
      have HG114 := Aside0.mk hg114
      have HAT114 := Aside0.mk hat114
      clear hn114 hb114 hg114 hat114
      obtain ⟨A114, c114, rfl⟩ := Kd.N_slice HN114.out
      obtain ⟨n114, hn114⟩ : ∃ m, m = (([] ++ X.map (fun t : Tw => t.h) ++ [height]) ++ Y.map (fun t : Tw => t.h)).length := ⟨_, rfl⟩
      rw [← hn114] at HN114 ⊢
      clear hn114
      refine hK.out _ _ (pw_cell_below HB114.out HC8.out) (fun hHeld => ?_)
      clear hK K
      refine m_ 114 (h := ?_)
      refine p_ 19 115 (bb 22 1048575) (h := ?_)
      refine p_ 20 116 (bb 22 2097151) (h := ?_)
      have hsg : w114.cell? ⟨gr, 1, none⟩ = some (.slice AH T.length cH) := hHeld
      have hsf : w114.frozen? ⟨gr, 1, none⟩ = false := blk_frozen (blk_below HGR8.out HB114.out) 1
      refine l_ 21 (bb 22 4194303) (h := ?_)
      refine d_ (h := ?_)

      clear hct hcf hsg hsf hHeld
      go_wp2
      go_ret
      have HBG := Aside0.mk (show base ≤ w8.heap.size by have h1 := HDB.out gr HDG.out; have h2 := blk_lt HGR8.out; omega)
      have HGRL := Aside0.mk (blk_lt HGR.out)
      refine ⟨rfl, RPutEnd.build HDB.out HDG.out HGRL.out ((CH8.out.below_step HB114.out).set (p := ⟨gr, 1, none⟩) (.inl rfl) _) (blk_put (blk_below HGR8.out HB114.out) 1 _ rfl) (Kd.N_far (p := ⟨gr, 1, none⟩) (Kd.N_below HNL8.out HB114.out) (fun k hk => hk.2) _) ?_⟩
      have h1 := Kd.N_far (p := ⟨gr, 1, none⟩) (Kd.N_lower HN114.out HBG.out) (fun k hk => by
        rcases hk with hk1 | hk1
        · exact hk1.2.1
        · have h2 := blk_lt HGR8.out; show k ≠ gr; omega) (.slice A114 n114 c114)
      have h3 := Kd.N_mono h1 (fun k hk => show (D k ∨ w.heap.size ≤ k) ∧ k ≠ gr from ⟨hk.elim (fun h => .inl h.1) (fun h => .inr (Nat.le_trans CH8.out.kept.1 h)), by
        rcases hk with hk1 | hk1
        · exact hk1.2.1
        · have h2 := blk_lt HGR8.out; omega⟩)
      rw [← HINS.out, List.map_append, List.map_cons]
      simpa using h3

    | succ k1 =>
      have hnx : n < X.length := by have h1 := HK.out; omega
      have hnl : n < T.length := by have h1 := HTL.out; omega
      have hlt : (n < T.length) = True := eq_true hnl
      obtain ⟨z, hz⟩ : ∃ z, X[n]? = some z := ⟨_, List.getElem?_eq_getElem hnx⟩
      have hzT : T[n]? = some z := by rw [← HXY.out, List.getElem?_append_left hnx]; exact hz
      have HAH := Aside0.mk (HXA.out z (List.mem_of_getElem? hz))
      have hze : (T.map (fun t => t.e))[n]? = some z.e := by rw [List.getElem?_map, hzT]; rfl
      obtain ⟨ad, hA⟩ := N_addr HNLr.out (by rw [List.length_map]; omega)
      subst hA
      obtain ⟨B0, b0, B3, b3, hd0, hd1', hd2', hd3, hFZ⟩ := at_N34 HNLr.out n z.e hze
      have HFZ := Aside0.mk (Kd.FK_below hFZ (below_drew (Below.refl _ _)))
      have HZO := Aside0.mk (show Byts z.e.f0 ∧ z.e.f0.length ≤ 140737488351232 from ⟨(HT.out.ok z (List.mem_of_getElem? hzT)).2.1.1, (okE_len (HT.out.ok z (List.mem_of_getElem? hzT)).1).1⟩)
      clear hFZ hze
      have HW := Aside0.mk (show wrap64 ((n : Int) + 1) = ((n + 1 : Nat) : Int) by rw [wrap_in (by omega) (by have := HLEN.out; omega)]; rfl)
      clear hz hzT hnl hnx
      go_wp2
      refine s_ 18 [] (fun w' => w'.cell? ⟨gr, 0, none⟩ = some (.slice (some ad) T.length cL) ∧ w'.cell? (ad.add (n * 4)) = some (.slice B0 z.e.f0.length b0) ∧ w'.cell? ⟨(ad.add (n * 4)).block, (ad.add (n * 4)).off + 1, none⟩ = some (.int .i64 z.e.f1) ∧ w'.cell? ⟨(ad.add (n * 4)).block, (ad.add (n * 4)).off + 2, none⟩ = some (.bool z.e.f2) ∧ w'.cell? ⟨(ad.add (n * 4)).block, (ad.add (n * 4)).off + 3, none⟩ = some (.slice B3 z.e.f3.length b3) ∧ w'.cell? ⟨g4, 0, none⟩ = some (.slice A0 e.f0.length c0) ∧ w'.cell? ⟨g4, 1, none⟩ = some (.int .i64 e.f1) ∧ w'.cell? ⟨g4, 2, none⟩ = some (.bool e.f2) ∧ w'.cell? ⟨g4, 3, none⟩ = some (.slice A3 e.f3.length c3)) (hS := ⟨(show wr.drew.cell? _ = _ from hcr), (show wr.drew.cell? _ = _ from hd0), (show wr.drew.cell? _ = _ from hd1'), (show wr.drew.cell? _ = _ from hd2'), (show wr.drew.cell? _ = _ from hd3), (blk_cell (blk_drew H4.out) 0).trans rfl, (blk_cell (blk_drew H4.out) 1).trans rfl, (blk_cell (blk_drew H4.out) 2).trans rfl, (blk_cell (blk_drew H4.out) 3).trans rfl⟩) (h := fun hHeld => ?_)
      refine p_ 0 19 (bb 18 1) (h := ?_)
      refine p_ 1 20 (bb 18 3) (h := ?_)
      refine p_ 2 21 (bb 18 7) (h := ?_)
      refine p_ 3 22 (bb 18 15) (h := ?_)
      refine t_ 4 23 (bb 18 31) hHeld (h := ?_)
      refine p_ 5 24 (bb 18 63) (h := ?_)
      refine p_ 6 25 (bb 18 127) (h := ?_)
      refine p_ 7 26 (bb 18 255) (h := ?_)
      refine p_ 8 27 (bb 18 511) (h := ?_)
      refine p_ 9 28 (bb 18 1023) (h := ?_)
      refine p_ 10 29 (bb 18 2047) (h := ?_)
      refine t_ 11 30 (bb 18 4095) hHeld (h := ?_)
      refine p_ 12 31 (bb 18 8191) (h := ?_)
      refine p_ 13 32 (bb 18 16383) (h := ?_)
      refine t_ 14 33 (bb 18 32767) hHeld (h := ?_)
      refine t_ 15 34 (bb 18 65535) hHeld (h := ?_)
      refine n_ 16 35 (bb 18 131071) (h := fun K hK => ?_)
      refine goes_ Try.func45 (by kernel_rfl) rfl #[.agg #[.slice B0 z.e.f0.length b0, .int .i64 z.e.f1, .bool z.e.f2, .slice B3 z.e.f3.length b3], .agg #[.slice A0 e.f0.length c0, .int .i64 e.f1, .bool e.f2, .slice A3 e.f3.length c3]] (by rfl) rfl rfl (by (try simp only [List.map_toArray, List.map_cons, List.map_nil]); first | done | rfl) ?_
      refine (aheadC (K34_C (Kd.FK_now HFZ.out)).2.1 (K34_C (Kd.FK_now HFZ.out)).1 (K34_C (Kd.FK_now HFZ.out)).2.2.2 (K34_C (Kd.FK_now HFZ.out)).2.2.1 (Kd.C_below HR0.out (below_drew HB.out)) HC0.out (Kd.C_below HR3.out (below_drew HB.out)) HC3.out HZO.out.1 HGE.out.1 HZO.out.2).mono ?_
      rintro ex w5 ⟨rfl, hb5⟩
      refine ⟨_, rfl, ?_⟩
      rw [HAH.out]
      have hb5 := Aside0.mk hb5
      refine hK.out _ _ ⟨pw_cell_below hb5.out hHeld.1, pw_cell_below hb5.out hHeld.2.1, pw_cell_below hb5.out hHeld.2.2.1, pw_cell_below hb5.out hHeld.2.2.2.1, pw_cell_below hb5.out hHeld.2.2.2.2.1, pw_cell_below hb5.out hHeld.2.2.2.2.2.1, pw_cell_below hb5.out hHeld.2.2.2.2.2.2.1, pw_cell_below hb5.out hHeld.2.2.2.2.2.2.2.1, pw_cell_below hb5.out hHeld.2.2.2.2.2.2.2.2⟩ (fun hHeld => ?_)
      clear hK K
      refine m_ 35 (h := ?_)
      refine p_ 17 36 (bb 18 262143) (h := ?_)
      refine d_ (h := ?_)

      go_wp2
      go_roundg k1
      case measure => exact Nat.lt_succ_self _
      case rel => exact ⟨n + 1, by first | rfl | rw [HW.out], ⟨by have h1 := HK.out; omega⟩, ⟨blk_below (blk_drew H4.out) hb5.out⟩, ⟨below_step (below_drew HB.out) hb5.out⟩⟩

set_option maxHeartbeats 4000000 in
set_option maxRecDepth 100000 in
theorem rput_seq {w : World} {base : Nat} {D : Nat → Prop} {gr : Nat} {T : List Tw} (h : RL w base D gr T) (hT : FitT T) (hlen : T.length ≤ 1000000) (A0 : Option Addr) (c0 : Nat) (e : S34) (A3 : Option Addr) (c3 : Nat) (hr0 : Kd.C (Kd.int .u8) w A0 e.f0.length e.f0) (hc0 : e.f0.length ≤ c0) (hr3 : Kd.C (Kd.int .u8) w A3 e.f3.length e.f3) (hc3 : e.f3.length ≤ c3) (hok : okE e = true) (hgd : Sw.Good e) (height : Int) (hh1 : ¬ height < 1) (hh2 : ¬ 12 < height) (y : Tw) (Y1 : List Tw) (hYn : T.filter (fun x => !qB e.f0 e.f1 x.e) = y :: Y1) (hkd : decide (y.e.f0 = e.f0) = true) (hsq : y.e.f1 ≠ e.f1) :
    Calls Try.prog 27 #[.pointer (some ⟨gr, 0, none⟩), .agg #[.slice A0 e.f0.length c0, .int .i64 e.f1, .bool e.f2, .slice A3 e.f3.length c3], .int .i64 height] w fun ex w' => ex = .returned (.int .i64 0) ∧ RPutEnd w w' base gr D (insT T ⟨e, height⟩) := by
  have hu34 := Try.underlying34
  have hu30 := Try.underlying30
  have hu32 := Try.underlying32
  obtain ⟨vL, vH, hgr, hnL, hnH, hDg, hDb⟩ := h
  obtain ⟨AL, cL, rfl⟩ := Kd.N_slice hnL
  obtain ⟨AH, cH, rfl⟩ := Kd.N_slice hnH
  rw [List.length_map, List.length_map] at hgr
  have HGR := Aside0.mk hgr
  have HNL := Aside0.mk hnL
  have HNH := Aside0.mk hnH
  have HT := Aside0.mk hT
  have HLEN := Aside0.mk hlen
  have HDG := Aside0.mk hDg
  have HDB := Aside0.mk hDb
  have HGE := Aside0.mk hgd
  have HOE := Aside0.mk (okE_len hok)
  have HOK := Aside0.mk (show (if okE e = true then (0 : Int) else 1) = 0 from if_pos hok)
  have hd1 : decide (height < 1) = false := decide_eq_false hh1
  have hd2 : decide (12 < height) = false := decide_eq_false hh2
  have HH := Aside0.mk (show 1 ≤ height ∧ height ≤ 12 by omega)
  have HR0 := Aside0.mk hr0
  clear hr0
  have HC0 := Aside0.mk hc0
  clear hc0
  have HR3 := Aside0.mk hr3
  clear hr3
  have HC3 := Aside0.mk hc3
  clear hc3
  clear hgr hnL hnH hDb hDg hT hlen hgd hok hh1 hh2
  have HSP := Aside0.mk (spl HT.out.srt e)
  obtain ⟨X, hX⟩ : ∃ X, X = T.filter (fun x => qB e.f0 e.f1 x.e) := ⟨_, rfl⟩
  obtain ⟨Y, hY⟩ : ∃ Y, Y = T.filter (fun x => !qB e.f0 e.f1 x.e) := ⟨_, rfl⟩
  have HXY := Aside0.mk (show X ++ Y = T by rw [hX, hY]; exact HSP.out)
  have HXA := Aside0.mk (show ∀ x, x ∈ X → ahe x.e e = true by rw [hX]; exact fun x hx => (List.mem_filter.1 hx).2)
  have HYA := Aside0.mk (show ∀ y, y ∈ Y → ahe y.e e = false by rw [hY]; exact fun y hy => by have h1 := (List.mem_filter.1 hy).2; rw [qB_ahe] at h1; simpa using h1)
  have HINS := Aside0.mk (show X ++ (⟨e, height⟩ : Tw) :: Y = insT T ⟨e, height⟩ by rw [hX, hY]; rfl)
  clear HSP
  have HYN := Aside0.mk (hY.trans hYn)
  have HKD := Aside0.mk hkd
  have HSQ := Aside0.mk (show decide (y.e.f1 = e.f1) = false ∧ (y.e.f1 == e.f1) = false from ⟨decide_eq_false hsq, beq_eq_false_iff_ne.2 hsq⟩)
  clear hsq
  clear hYn hX hY hkd
  go_enter Try.func27, Try.ntmps27
  go_wp2_with (first
    | ((with_reducible refine gate_dst (N := 4) rfl ?_); (try (refine gate_guard (by rfl) ?_; dsimp only)); refine box_event ?hg (N := 4) ?hd (cs := #[.slice A0 e.f0.length c0, .int .i64 e.f1, .bool e.f2, .slice A3 e.f3.length c3]) (t := 34) ?hr ?_; (case hd => rfl); (case hg => rfl); (case hr => first | (go_simp; done) | (go_simp; rfl)); intro g4 hqg4 w1 hxg4 hbg4; have n_ := Aside0.mk hqg4; clear hqg4; have hqg4 := n_; clear n_; have n_ := Aside0.mk hxg4; clear hxg4; have hxg4 := n_; clear n_; have n_ := Aside0.mk hbg4; clear hbg4; have hbg4 := n_; clear n_; have hca0 : w1.cell? ⟨g4, 0, none⟩ = some (.slice A0 e.f0.length c0) := (blk_cell hxg4.out 0).trans rfl; have hca1 : w1.cell? ⟨g4, 1, none⟩ = some (.int .i64 e.f1) := (blk_cell hxg4.out 1).trans rfl; have hca2 : w1.cell? ⟨g4, 2, none⟩ = some (.bool e.f2) := (blk_cell hxg4.out 2).trans rfl; have hca3 : w1.cell? ⟨g4, 3, none⟩ = some (.slice A3 e.f3.length c3) := (blk_cell hxg4.out 3).trans rfl)
    | ((with_reducible refine gate_callee (f := 14) rfl ?_); (try (refine gate_guard (by rfl) ?_; dsimp only)); refine goesL_ (some 9) rfl rfl Try.func14 (by kernel_rfl) rfl #[.agg #[.slice A0 e.f0.length c0, .int .i64 e.f1, .bool e.f2, .slice A3 e.f3.length c3]] rfl (by (try simp only [List.map_toArray, List.map_cons, List.map_nil]); first | done | rfl) ?_; refine (rcheckC (Kd.C_below HR0.out hbg4.out) HC0.out (Kd.C_below HR3.out hbg4.out) HC3.out).mono ?_; rintro ex w2 ⟨rfl, hb2⟩; refine ⟨_, rfl, ?_⟩; rw [HOK.out]; have n_ := Aside0.mk hb2; clear hb2; have hb2 := n_; clear n_; have B2 := Aside0.mk (below_step hbg4.out hb2.out); have X2 := Aside0.mk (blk_below hxg4.out hb2.out)))
  go_loopg [7] X.length (fun kq v7 w' => ∃ n : Nat, v7 = .int .i64 (n : Int) ∧ Aside0 (kq + n = X.length) ∧ Aside0 (w'.heap[g4]? = some (.cells #[.slice A0 e.f0.length c0, .int .i64 e.f1, .bool e.f2, .slice A3 e.f3.length c3] 34 (0, 0))) ∧ Aside0 (Below w.heap.size w w'))
  case atStart => exact ⟨0, rfl, ⟨rfl⟩, X2, B2⟩
  case round =>
    obtain ⟨n, rfl, HK, H4, HB⟩ := hrel
    have HGRr := Aside0.mk (blk_below HGR.out HB.out)
    have hcr : wr.cell? ⟨gr, 0, none⟩ = some (.slice AL T.length cL) := (blk_cell HGRr.out 0).trans rfl
    have HNLr := Aside0.mk (Kd.N_below HNL.out HB.out)
    have HTL := Aside0.mk (show T.length = X.length + Y.length by rw [← HXY.out, List.length_append])
    cases gk with
    | zero =>
      have hn : n = X.length := by have h1 := HK.out; omega
      have HNX := Aside0.mk hn
      clear hn
      obtain ⟨z, hz⟩ : ∃ z, z = y := ⟨_, rfl⟩
      subst hz
      have hnl : n < T.length := by have h1 := HTL.out; have h2 := HNX.out; rw [HYN.out, List.length_cons] at h1; omega
      have hlt : (n < T.length) = True := eq_true hnl
      have hzT : T[n]? = some z := by rw [← HXY.out, HYN.out, HNX.out, List.getElem?_append_right (Nat.le_refl _)]; simp
      have HAH := Aside0.mk (HYA.out z (by rw [HYN.out]; simp))
      have hze : (T.map (fun t => t.e))[n]? = some z.e := by rw [List.getElem?_map, hzT]; rfl
      obtain ⟨ad, hA⟩ := N_addr HNLr.out (by rw [List.length_map]; omega)
      subst hA
      obtain ⟨B0, b0, B3, b3, hd0, hd1', hd2', hd3, hFZ⟩ := at_N34 HNLr.out n z.e hze
      have HFZ := Aside0.mk (Kd.FK_below hFZ (below_drew (Below.refl _ _)))
      have HZO := Aside0.mk (show Byts z.e.f0 ∧ z.e.f0.length ≤ 140737488351232 from ⟨(HT.out.ok z (List.mem_of_getElem? hzT)).2.1.1, (okE_len (HT.out.ok z (List.mem_of_getElem? hzT)).1).1⟩)
      clear hFZ hze
      clear hzT hnl
      go_wp2
      refine s_ 18 [] (fun w' => w'.cell? ⟨gr, 0, none⟩ = some (.slice (some ad) T.length cL) ∧ w'.cell? (ad.add (n * 4)) = some (.slice B0 z.e.f0.length b0) ∧ w'.cell? ⟨(ad.add (n * 4)).block, (ad.add (n * 4)).off + 1, none⟩ = some (.int .i64 z.e.f1) ∧ w'.cell? ⟨(ad.add (n * 4)).block, (ad.add (n * 4)).off + 2, none⟩ = some (.bool z.e.f2) ∧ w'.cell? ⟨(ad.add (n * 4)).block, (ad.add (n * 4)).off + 3, none⟩ = some (.slice B3 z.e.f3.length b3) ∧ w'.cell? ⟨g4, 0, none⟩ = some (.slice A0 e.f0.length c0) ∧ w'.cell? ⟨g4, 1, none⟩ = some (.int .i64 e.f1) ∧ w'.cell? ⟨g4, 2, none⟩ = some (.bool e.f2) ∧ w'.cell? ⟨g4, 3, none⟩ = some (.slice A3 e.f3.length c3)) (hS := ⟨(show wr.drew.cell? _ = _ from hcr), (show wr.drew.cell? _ = _ from hd0), (show wr.drew.cell? _ = _ from hd1'), (show wr.drew.cell? _ = _ from hd2'), (show wr.drew.cell? _ = _ from hd3), (blk_cell (blk_drew H4.out) 0).trans rfl, (blk_cell (blk_drew H4.out) 1).trans rfl, (blk_cell (blk_drew H4.out) 2).trans rfl, (blk_cell (blk_drew H4.out) 3).trans rfl⟩) (h := fun hHeld => ?_)
      refine p_ 0 19 (bb 18 1) (h := ?_)
      refine p_ 1 20 (bb 18 3) (h := ?_)
      refine p_ 2 21 (bb 18 7) (h := ?_)
      refine p_ 3 22 (bb 18 15) (h := ?_)
      refine t_ 4 23 (bb 18 31) hHeld (h := ?_)
      refine p_ 5 24 (bb 18 63) (h := ?_)
      refine p_ 6 25 (bb 18 127) (h := ?_)
      refine p_ 7 26 (bb 18 255) (h := ?_)
      refine p_ 8 27 (bb 18 511) (h := ?_)
      refine p_ 9 28 (bb 18 1023) (h := ?_)
      refine p_ 10 29 (bb 18 2047) (h := ?_)
      refine t_ 11 30 (bb 18 4095) hHeld (h := ?_)
      refine p_ 12 31 (bb 18 8191) (h := ?_)
      refine p_ 13 32 (bb 18 16383) (h := ?_)
      refine t_ 14 33 (bb 18 32767) hHeld (h := ?_)
      refine t_ 15 34 (bb 18 65535) hHeld (h := ?_)
      refine n_ 16 35 (bb 18 131071) (h := fun K hK => ?_)
      refine goes_ Try.func45 (by kernel_rfl) rfl #[.agg #[.slice B0 z.e.f0.length b0, .int .i64 z.e.f1, .bool z.e.f2, .slice B3 z.e.f3.length b3], .agg #[.slice A0 e.f0.length c0, .int .i64 e.f1, .bool e.f2, .slice A3 e.f3.length c3]] (by rfl) rfl rfl (by (try simp only [List.map_toArray, List.map_cons, List.map_nil]); first | done | rfl) ?_
      refine (aheadC (K34_C (Kd.FK_now HFZ.out)).2.1 (K34_C (Kd.FK_now HFZ.out)).1 (K34_C (Kd.FK_now HFZ.out)).2.2.2 (K34_C (Kd.FK_now HFZ.out)).2.2.1 (Kd.C_below HR0.out (below_drew HB.out)) HC0.out (Kd.C_below HR3.out (below_drew HB.out)) HC3.out HZO.out.1 HGE.out.1 HZO.out.2).mono ?_
      rintro ex w5 ⟨rfl, hb5⟩
      refine ⟨_, rfl, ?_⟩
      rw [HAH.out]
      have hb5 := Aside0.mk hb5
      refine hK.out _ _ ⟨pw_cell_below hb5.out hHeld.1, pw_cell_below hb5.out hHeld.2.1, pw_cell_below hb5.out hHeld.2.2.1, pw_cell_below hb5.out hHeld.2.2.2.1, pw_cell_below hb5.out hHeld.2.2.2.2.1, pw_cell_below hb5.out hHeld.2.2.2.2.2.1, pw_cell_below hb5.out hHeld.2.2.2.2.2.2.1, pw_cell_below hb5.out hHeld.2.2.2.2.2.2.2.1, pw_cell_below hb5.out hHeld.2.2.2.2.2.2.2.2⟩ (fun hHeld => ?_)
      clear hK K
      refine m_ 35 (h := ?_)
      refine p_ 17 36 (bb 18 262143) (h := ?_)
      refine d_ (h := ?_)

      obtain ⟨hc6r, hc60, hc61, _, _, _, _, _, _⟩ := hHeld
      have HB6 := Aside0.mk (below_step (below_drew HB.out) hb5.out)
      have H6 := Aside0.mk (blk_below (blk_drew H4.out) hb5.out)
      have HF6 := Aside0.mk (Kd.FK_below (Kd.FK_below HFZ.out hb5.out) (below_drew (Below.refl _ _)))
      have hse := str_eq HZO.out.1 HGE.out.1
      rw [HKD.out] at hse
      have hsd := HSQ.out.1
      have hsb := HSQ.out.2
      go_wp2
      refine s_ 35 [] (fun w' => w'.cell? ⟨gr, 0, none⟩ = some (.slice (some ad) T.length cL) ∧ w'.cell? (ad.add (n * 4)) = some (.slice B0 z.e.f0.length b0) ∧ w'.cell? ⟨(ad.add (n * 4)).block, (ad.add (n * 4)).off + 1, none⟩ = some (.int .i64 z.e.f1) ∧ w'.cell? ⟨g4, 0, none⟩ = some (.slice A0 e.f0.length c0) ∧ w'.cell? ⟨g4, 1, none⟩ = some (.int .i64 e.f1) ∧ Kd.C (Kd.int .u8) w' B0 z.e.f0.length z.e.f0 ∧ Kd.C (Kd.int .u8) w' A0 e.f0.length e.f0) (hS := ⟨(pw_cell_below (below_drew (Below.refl _ _)) hc6r), (pw_cell_below (below_drew (Below.refl _ _)) hc60), (pw_cell_below (below_drew (Below.refl _ _)) hc61), (blk_cell (blk_drew H6.out) 0).trans rfl, (blk_cell (blk_drew H6.out) 1).trans rfl, Kd.C_drew (K34_C (Kd.FK_now HF6.out)).2.1, Kd.C_below HR0.out (below_drew HB6.out)⟩) (h := fun hHeld => ?_)
      refine p_ 0 39 (bb 35 1) (h := ?_)
      refine p_ 1 40 (bb 35 3) (h := ?_)
      refine p_ 2 41 (bb 35 7) (h := ?_)
      refine p_ 3 42 (bb 35 15) (h := ?_)
      refine t_ 4 43 (bb 35 31) hHeld (h := ?_)
      refine p_ 5 44 (bb 35 63) (h := ?_)
      refine p_ 6 45 (bb 35 127) (h := ?_)
      refine p_ 7 46 (bb 35 255) (h := ?_)
      refine p_ 8 47 (bb 35 511) (h := ?_)
      refine p_ 9 48 (bb 35 1023) (h := ?_)
      refine p_ 10 49 (bb 35 2047) (h := ?_)
      refine t_ 11 50 (bb 35 4095) hHeld (h := ?_)
      refine p_ 12 51 (bb 35 8191) (h := ?_)
      refine p_ 13 52 (bb 35 16383) (h := ?_)
      refine p_ 14 53 (bb 35 32767) (h := ?_)
      refine t_ 15 54 (bb 35 65535) hHeld (h := ?_)
      refine t_ 16 55 (bb 35 131071) hHeld (hy := by (rintro w' ⟨s0, s1, s2, s3, s4, s5, s6⟩; have hcv := Kd.C_string (P := Try.prog) (A := B0) (c := b0) Try.underlying32 Try.underlying5 Try.underlying9 s5; go_simp; with_reducible rfl)) (h := ?_)
      refine p_ 17 56 (bb 35 262143) (h := ?_)
      refine t_ 18 57 (bb 35 524287) hHeld (h := ?_)
      refine t_ 19 58 (bb 35 1048575) hHeld (hy := by (rintro w' ⟨s0, s1, s2, s3, s4, s5, s6⟩; have hcv := Kd.C_string (P := Try.prog) (A := A0) (c := c0) Try.underlying32 Try.underlying5 Try.underlying9 s6; go_simp; with_reducible rfl)) (h := ?_)
      refine p_ 20 59 (bb 35 2097151) (h := ?_)
      refine p_ 21 60 (bb 35 4194303) (h := ?_)
      refine p_ 22 61 (bb 35 8388607) (h := ?_)
      refine p_ 23 62 (bb 35 16777215) (h := ?_)
      refine p_ 24 63 (bb 35 33554431) (h := ?_)
      refine p_ 25 64 (bb 35 67108863) (h := ?_)
      refine t_ 26 65 (bb 35 134217727) hHeld (h := ?_)
      refine p_ 27 66 (bb 35 268435455) (h := ?_)
      refine p_ 28 67 (bb 35 536870911) (h := ?_)
      refine p_ 29 68 (bb 35 1073741823) (h := ?_)
      refine t_ 30 69 (bb 35 2147483647) hHeld (h := ?_)
      refine p_ 31 70 (bb 35 4294967295) (h := ?_)
      refine t_ 32 71 (bb 35 8589934591) hHeld (h := ?_)
      refine p_ 33 72 (bb 35 17179869183) (h := ?_)
      refine p_ 34 73 (bb 35 34359738367) (h := ?_)
      refine d_ (h := ?_)

      clear hHeld hc6r hc60 hc61 hse hsd hsb
      have HB7 := Aside0.mk (below_drew HB6.out)
      have H7 := Aside0.mk (blk_drew H6.out)
      generalize w5.drew = w7 at HB7 H7 ⊢
      go_wp2
      have HNT := Aside0.mk (show n ≤ T.length by have h1 := HTL.out; have h2 := HNX.out; omega)
      have HTKE := Aside0.mk (show (T.map (fun t => t.e)).take n = X.map (fun t => t.e) ∧ (T.map (fun t => t.e)).drop n = Y.map (fun t => t.e) by
        rw [← HXY.out, List.map_append, HNX.out]
        exact ⟨List.take_left' (by simp), List.drop_left' (by simp)⟩)
      have HTKH := Aside0.mk (show (T.map (fun t => t.h)).take n = X.map (fun t => t.h) ∧ (T.map (fun t => t.h)).drop n = Y.map (fun t => t.h) by
        rw [← HXY.out, List.map_append, HNX.out]
        exact ⟨List.take_left' (by simp), List.drop_left' (by simp)⟩)
      have HCL := Aside0.mk (show T.length ≤ cL by have h1 := (Kd.N_reads' HNL.out).2.1; rwa [List.length_map] at h1)
      have HCH := Aside0.mk (show T.length ≤ cH by have h1 := (Kd.N_reads' HNH.out).2.1; rwa [List.length_map] at h1)
      have HGR8 := Aside0.mk (blk_drew (blk_below HGR.out HB7.out))
      have HB8 := Aside0.mk (below_drew HB7.out)
      have HC8 := Aside0.mk (show w7.drew.cell? ⟨gr, 0, none⟩ = some (.slice (some ad) T.length cL) ∧ w7.drew.cell? ⟨g4, 0, none⟩ = some (.slice A0 e.f0.length c0) ∧ w7.drew.cell? ⟨g4, 1, none⟩ = some (.int .i64 e.f1) ∧ w7.drew.cell? ⟨g4, 2, none⟩ = some (.bool e.f2) ∧ w7.drew.cell? ⟨g4, 3, none⟩ = some (.slice A3 e.f3.length c3) from ⟨(blk_cell HGR8.out 0).trans rfl, (blk_cell (blk_drew H7.out) 0).trans rfl, (blk_cell (blk_drew H7.out) 1).trans rfl, (blk_cell (blk_drew H7.out) 2).trans rfl, (blk_cell (blk_drew H7.out) 3).trans rfl⟩)
      have HFL := Aside0.mk (Kd.F_bound (Kd.F_below (Kd.N_F HNL.out) HB8.out))
      have HFX := Aside0.mk (show Kd.F k34 w7.drew (fun k => (D k ∧ k ≠ gr) ∧ k < w7.drew.heap.size) (some ad) n (X.map (fun t => t.e)) by
        rw [← HTKE.out.1]
        exact F_take HFL.out (by rw [List.length_map]; exact HNT.out))
      obtain ⟨Ac, hAc⟩ : ∃ A_, A_ = (if cL = n then (some ad) else (some ad).map (·.add (n * 4))) := ⟨_, rfl⟩
      obtain ⟨cc, hcc⟩ : ∃ c_, c_ = cL - n := ⟨_, rfl⟩
      have HFY := Aside0.mk (show Kd.F k34 w7.drew (fun k => (D k ∧ k ≠ gr) ∧ k < w7.drew.heap.size) Ac (T.length - n) (Y.map (fun t => t.e)) by
        have h1 := F_drop (m := n) (c := cL) HFL.out (by rw [List.length_map]; exact HNT.out) (by rw [List.length_map]; exact HCL.out)
        rw [HTKE.out.2, List.length_map] at h1
        rw [hAc]
        exact h1)
      obtain ⟨hct, hcf⟩ := cutT (some ad) 27 34 4 64 _ Try.underlying27 info34 T.length cL n HNT.out HCL.out
      rw [← hAc, ← hcc] at hcf
      clear hAc hcc HFL
      refine s_ 23 [22] (fun w' => w'.cell? ⟨gr, 0, none⟩ = some (.slice (some ad) T.length cL) ∧ w'.cell? ⟨g4, 0, none⟩ = some (.slice A0 e.f0.length c0) ∧ w'.cell? ⟨g4, 1, none⟩ = some (.int .i64 e.f1) ∧ w'.cell? ⟨g4, 2, none⟩ = some (.bool e.f2) ∧ w'.cell? ⟨g4, 3, none⟩ = some (.slice A3 e.f3.length c3)) (hS := ⟨HC8.out.1, HC8.out.2.1, HC8.out.2.2.1, HC8.out.2.2.2.1, HC8.out.2.2.2.2⟩) (h := fun hHeld => ?_)
      generalize hW8 : w7.drew = w8 at HC8 HGR8 HB8 HFX HFY hHeld ⊢
      refine p_ 0 74 (bb 23 1) (h := ?_)
      refine p_ 2 76 (bb 23 5) (h := ?_)
      refine p_ 3 77 (bb 23 13) (h := ?_)
      refine p_ 4 78 (bb 23 29) (h := ?_)
      refine t_ 5 79 (bb 23 61) hHeld (h := ?_)
      refine p_ 6 80 (bb 23 125) (h := ?_)
      refine p_ 7 81 (bb 23 253) (h := ?_)
      refine t_ 9 83 (bb 23 765) hHeld (h := ?_)
      refine p_ 13 87 (bb 23 8957) (h := ?_)
      refine p_ 14 88 (bb 23 25341) (h := ?_)
      refine p_ 15 89 (bb 23 58109) (h := ?_)
      refine t_ 16 90 (bb 23 123645) hHeld (h := ?_)
      refine p_ 17 91 (bb 23 254717) (h := ?_)
      refine p_ 18 92 (bb 23 516861) (h := ?_)
      refine n_ 1 75 (bb 23 516863) (h := fun K hK => ?_)
      refine Kd.N_lit_step k34 w8.heap.size 34 (by rfl) rfl (xs := ([] : List S34)) (inner := []) (ok := (fun k => (D k ∧ k ≠ gr ∧ k < w8.heap.size) ∨ w8.heap.size ≤ k)) (okp := (fun _ => False)) ?hrun ?hrep (fun _ hk => hk.elim) (.inr (Nat.le_refl _)) (Below.refl _ _) (Nat.le_refl _) (by simp) ?_
      case hrun => first | (go_simp; done) | (go_simp; rfl)
      case hrep => exact Reps.none _ _
      intro v75 w75 hn75 hb75 hg75 hat75
      have HN75 := Aside0.mk hn75
      have HB75 := Aside0.mk hb75
      have HG75 := Aside0.mk hg75
      have HAT75 := Aside0.mk hat75
      clear hn75 hb75 hg75 hat75
      refine hK.out _ _ ⟨pw_cell_below HB75.out HC8.out.1, pw_cell_below HB75.out HC8.out.2.1, pw_cell_below HB75.out HC8.out.2.2.1, pw_cell_below HB75.out HC8.out.2.2.2.1, pw_cell_below HB75.out HC8.out.2.2.2.2⟩ (fun hHeld => ?_)
      clear hK K
      refine m_ 75 (h := ?_)
      refine n_ 8 82 (bb 23 517119) (h := fun K hK => ?_)
      refine Kd.N_append_rows_step k34 (w0 := w8) w8.heap.size (by rfl) (.tmp 75) (.tmp 81) 27 34 (.agg #[(.slice none 0 0), (.int .i64 0), (.bool false), (.slice none 0 0)]) 64 rfl Try.underlying27 info34 rfl (by decide) (by omega) v75 ([]) (X.map (fun t => t.e)) ((some ad)) (n) (cL) ((fun k => (D k ∧ k ≠ gr ∧ k < w8.heap.size) ∨ w8.heap.size ≤ k)) ((fun k => (D k ∧ k ≠ gr) ∧ k < w8.heap.size)) rfl rfl (HN75.out) (Kd.F_below HFX.out HB75.out) (fun k hk => ⟨.inl ⟨hk.1.1, hk.1.2, hk.2⟩, fun he => by have h1 := Kd.N_base HN75.out k he.symm; have h2 := hk.2; omega⟩) (fun k hk => .inr (Nat.le_trans HB75.out.size hk)) (HB75.out) (HB75.out.size) (by have h1 := HLEN.out; have h2 := HNT.out; have h4 := HNX.out; simp; omega) ?_
      intro v82 w82 hn82 hb82 hg82 hat82
      have HN82 := Aside0.mk hn82
      have HB82 := Aside0.mk hb82
      have HG82 := Aside0.mk hg82
      have HAT82 := Aside0.mk hat82
      clear hn82 hb82 hg82 hat82
      refine hK.out _ _ ⟨pw_cell_below HB82.out HC8.out.1, pw_cell_below HB82.out HC8.out.2.1, pw_cell_below HB82.out HC8.out.2.2.1, pw_cell_below HB82.out HC8.out.2.2.2.1, pw_cell_below HB82.out HC8.out.2.2.2.2⟩ (fun hHeld => ?_)
      clear hK K
      refine m_ 82 (h := ?_)
      refine n_ 10 84 (bb 23 518143) (h := fun K hK => ?_)
      refine goes_ Try.func26 (by kernel_rfl) rfl #[.agg #[.slice A0 e.f0.length c0, .int .i64 e.f1, .bool e.f2, .slice A3 e.f3.length c3]] (by rfl) rfl rfl (by (try simp only [List.map_toArray, List.map_cons, List.map_nil]); first | done | rfl) ?_
      refine (copyC (Kd.C_below HR0.out (below_weaken HB8.out HB8.out.size HB82.out)) HC0.out (Kd.C_below HR3.out (below_weaken HB8.out HB8.out.size HB82.out)) HC3.out HOE.out.1 HOE.out.2).mono ?_
      rintro ex w84 ⟨v0, v3, rfl, hv84, hb84⟩
      refine ⟨_, rfl, ?_⟩
      obtain ⟨⟨P0, d0, rfl, hl0, hF0⟩, ⟨P3, d3, rfl, hl3, hF3⟩⟩ := hv84
      have hl0 := Aside0.mk hl0
      have hF0 := Aside0.mk hF0
      have hl3 := Aside0.mk hl3
      have hF3 := Aside0.mk hF3
      have HB84 := Aside0.mk (below_weaken2 HB82.out hb84)
      have hb84 := Aside0.mk hb84
      refine hK.out _ _ ⟨pw_cell_below HB84.out HC8.out.1, pw_cell_below HB84.out HC8.out.2.1, pw_cell_below HB84.out HC8.out.2.2.1, pw_cell_below HB84.out HC8.out.2.2.2.1, pw_cell_below HB84.out HC8.out.2.2.2.2⟩ (fun hHeld => ?_)
      clear hK K
      refine m_ 84 (h := ?_)
      refine n_ 11 85 (bb 23 520191) (h := fun K hK => ?_)
      refine Kd.N_lit_step k34 w8.heap.size 34 (by rfl) rfl (xs := [e]) (inner := [.slice P0 e.f0.length d0, .int .i64 e.f1, .bool e.f2, .slice P3 e.f3.length d3]) (ok := (fun k => w82.heap.size ≤ k)) (okp := (fun k => w82.heap.size ≤ k)) ?hrun ?hrep (fun _ hk => hk) hb84.out.size HB84.out HB84.out.size (by simp) ?_
      case hrun => first | (go_simp; done) | (go_simp; rfl)
      case hrep => exact Reps.c4 (k34_mkF _ _ e hl0.out hF0.out hl3.out hF3.out) (Reps.none _ _)
      intro v85 w85 hn85 hb85 hg85 hat85
      have HN85 := Aside0.mk hn85
      have HB85 := Aside0.mk hb85
      have HG85 := Aside0.mk hg85
      have HAT85 := Aside0.mk hat85
      clear hn85 hb85 hg85 hat85
      obtain ⟨A85, c85, rfl⟩ := Kd.N_slice HN85.out
      refine hK.out _ _ ⟨pw_cell_below HB85.out HC8.out.1, pw_cell_below HB85.out HC8.out.2.1, pw_cell_below HB85.out HC8.out.2.2.1, pw_cell_below HB85.out HC8.out.2.2.2.1, pw_cell_below HB85.out HC8.out.2.2.2.2⟩ (fun hHeld => ?_)
      clear hK K
      refine m_ 85 (h := ?_)
      refine n_ 12 86 (bb 23 524287) (h := fun K hK => ?_)
      have HB285 := Aside0.mk (show Below w82.heap.size w82 w85 from below_step hb84.out ⟨HG85.out.os, HG85.out.tape, HG85.out.output, HG85.out.size, fun i hi => HG85.out.block i hi (by simp)⟩)
      refine Kd.N_append_rows_step k34 (w0 := w8) w8.heap.size (by rfl) (.tmp 82) (.tmp 85) 27 34 (.agg #[(.slice none 0 0), (.int .i64 0), (.bool false), (.slice none 0 0)]) 64 rfl Try.underlying27 info34 rfl (by decide) (by omega) v82 ([] ++ X.map (fun t => t.e)) ([e]) (A85) (1) (c85) ((fun k => (D k ∧ k ≠ gr ∧ k < w8.heap.size) ∨ w8.heap.size ≤ k)) ((fun k => w82.heap.size ≤ k)) rfl rfl (Kd.N_below HN82.out HB285.out) (Kd.N_F HN85.out) (fun k hk => ⟨.inr (Nat.le_trans HB82.out.size hk), fun he => by have h1 := Kd.N_lt HN82.out k he.symm; omega⟩) (fun k hk => .inr (Nat.le_trans HB85.out.size hk)) (HB85.out) (HB85.out.size) (by have h1 := HLEN.out; have h2 := HNT.out; have h4 := HNX.out; simp; omega) ?_
      intro v86 w86 hn86 hb86 hg86 hat86
      have HN86 := Aside0.mk hn86
      have HB86 := Aside0.mk hb86
      have HG86 := Aside0.mk hg86
      have HAT86 := Aside0.mk hat86
      clear hn86 hb86 hg86 hat86
      refine hK.out _ _ ⟨pw_cell_below HB86.out HC8.out.1, pw_cell_below HB86.out HC8.out.2.1, pw_cell_below HB86.out HC8.out.2.2.1, pw_cell_below HB86.out HC8.out.2.2.2.1, pw_cell_below HB86.out HC8.out.2.2.2.2⟩ (fun hHeld => ?_)
      clear hK K
      refine m_ 86 (h := ?_)
      refine n_ 19 93 (bb 23 1048575) (h := fun K hK => ?_)
      refine Kd.N_append_rows_step k34 (w0 := w8) w8.heap.size (by rfl) (.tmp 86) (.tmp 92) 27 34 (.agg #[(.slice none 0 0), (.int .i64 0), (.bool false), (.slice none 0 0)]) 64 rfl Try.underlying27 info34 rfl (by decide) (by omega) v86 (([] ++ X.map (fun t => t.e)) ++ [e]) (Y.map (fun t => t.e)) (Ac) (T.length - n) (cc) ((fun k => (D k ∧ k ≠ gr ∧ k < w8.heap.size) ∨ w8.heap.size ≤ k)) ((fun k => (D k ∧ k ≠ gr) ∧ k < w8.heap.size)) rfl rfl (HN86.out) (Kd.F_below HFY.out HB86.out) (fun k hk => ⟨.inl ⟨hk.1.1, hk.1.2, hk.2⟩, fun he => by have h1 := Kd.N_base HN86.out k he.symm; have h2 := hk.2; omega⟩) (fun k hk => .inr (Nat.le_trans HB86.out.size hk)) (HB86.out) (HB86.out.size) (by have h1 := HLEN.out; have h2 := HNT.out; have h4 := HNX.out; have h3 := HTL.out; simp; omega) ?_
      intro v93 w93 hn93 hb93 hg93 hat93
      have HN93 := Aside0.mk hn93
      have HB93 := Aside0.mk hb93
      have HG93 := Aside0.mk hg93
      have HAT93 := Aside0.mk hat93
      clear hn93 hb93 hg93 hat93
      obtain ⟨A93, c93, rfl⟩ := Kd.N_slice HN93.out
      obtain ⟨n93, hn93⟩ : ∃ m, m = (([] ++ X.map (fun t : Tw => t.e) ++ [e]) ++ Y.map (fun t : Tw => t.e)).length := ⟨_, rfl⟩
      rw [← hn93] at HN93 ⊢
      clear hn93
      refine hK.out _ _ ⟨pw_cell_below HB93.out HC8.out.1, pw_cell_below HB93.out HC8.out.2.1, pw_cell_below HB93.out HC8.out.2.2.1, pw_cell_below HB93.out HC8.out.2.2.2.1, pw_cell_below HB93.out HC8.out.2.2.2.2⟩ (fun hHeld => ?_)
      clear hK K
      refine m_ 93 (h := ?_)
      refine p_ 20 94 (bb 23 2097151) (h := ?_)
      refine p_ 21 95 (bb 23 4194303) (h := ?_)
      have hsg : w93.cell? ⟨gr, 0, none⟩ = some (.slice (some ad) T.length cL) := hHeld.1
      have hsf : w93.frozen? ⟨gr, 0, none⟩ = false := blk_frozen (blk_below HGR8.out HB93.out) 0
      refine l_ 22 (bb 23 8388607) (h := ?_)
      refine d_ (h := ?_)

      clear hct hcf hsg hsf hHeld
      have HNL9 := Aside0.mk (show Kd.N k34 34 (w93.setCell ⟨gr, 0, none⟩ (.slice A93 n93 c93)) base (fun k => (D k ∨ w.heap.size ≤ k) ∧ k ≠ gr) (.slice A93 n93 c93) ((insT T ⟨e, height⟩).map (fun t => t.e)) by
        have h1 := Kd.N_lower HN93.out (show base ≤ w8.heap.size by have h1 := HDB.out gr HDG.out; have h2 := blk_lt HGR8.out; omega)
        have h2 := Kd.N_far (p := ⟨gr, 0, none⟩) h1 (fun k hk => by
          rcases hk with hk1 | hk1
          · exact hk1.2.1
          · have h2 := blk_lt HGR8.out; show k ≠ gr; omega) (.slice A93 n93 c93)
        have h3 := Kd.N_mono h2 (fun k hk => show (D k ∨ w.heap.size ≤ k) ∧ k ≠ gr from ⟨hk.elim (fun h => .inl h.1) (fun h => .inr (Nat.le_trans HB8.out.size h)), by
          rcases hk with hk1 | hk1
          · exact hk1.2.1
          · have h2 := blk_lt HGR8.out; omega⟩)
        rw [← HINS.out, List.map_append, List.map_cons]
        simpa using h3)
      have HGR9 := Aside0.mk (show (w93.setCell ⟨gr, 0, none⟩ (.slice A93 n93 c93)).heap[gr]? = some (.cells #[.slice A93 n93 c93, .slice AH T.length cH] 30 (0, 0)) from blk_put (blk_below HGR8.out HB93.out) 0 _ rfl)
      have CH9 := Aside0.mk (((Chg.of_below HB8.out (fun k => k = gr)).below_step HB93.out).set (p := ⟨gr, 0, none⟩) (.inl rfl) (.slice A93 n93 c93))
      generalize w93.setCell ⟨gr, 0, none⟩ (.slice A93 n93 c93) = w9 at HNL9 HGR9 CH9 ⊢
      clear HC8 HGR8 HB8 HFX HFY HN75 HB75 HG75 HAT75 HN82 HB82 HG82 HAT82 HB84 HN85 HB85 HG85 HAT85 HB285 HN86 HB86 HG86 HAT86 HN93 HB93 HG93 HAT93 hl0 hl3 hF0 hF3 hb84
      have HGR8 := Aside0.mk (blk_drew HGR9.out)
      have HC8 := Aside0.mk (show w9.drew.cell? ⟨gr, 1, none⟩ = some (.slice AH T.length cH) from (blk_cell HGR8.out 1).trans rfl)
      have CH8 := Aside0.mk CH9.out.drew
      have HNL8 := Aside0.mk (Kd.N_drew HNL9.out)
      have HNH8 := Aside0.mk (Kd.N_step HNH.out (fun k hk hlt => CH8.out.kept.2 k hlt hk.2))
      have HFL := Aside0.mk (Kd.F_bound (Kd.N_F HNH8.out))
      have HFX := Aside0.mk (show Kd.F kI w9.drew (fun k => (D k ∧ k ≠ gr) ∧ k < w9.drew.heap.size) AH n (X.map (fun t => t.h)) by
        rw [← HTKH.out.1]
        exact F_take HFL.out (by rw [List.length_map]; exact HNT.out))
      obtain ⟨Ah, hAh⟩ : ∃ A_, A_ = (if cH = n then AH else AH.map (·.add (n * 1))) := ⟨_, rfl⟩
      obtain ⟨ch, hch⟩ : ∃ c_, c_ = cH - n := ⟨_, rfl⟩
      have HFY := Aside0.mk (show Kd.F kI w9.drew (fun k => (D k ∧ k ≠ gr) ∧ k < w9.drew.heap.size) Ah (T.length - n) (Y.map (fun t => t.h)) by
        have h1 := F_drop (m := n) (c := cH) HFL.out (by rw [List.length_map]; exact HNT.out) (by rw [List.length_map]; exact HCH.out)
        rw [HTKH.out.2, List.length_map] at h1
        rw [hAh]
        exact h1)
      obtain ⟨hct, hcf⟩ := cutT AH 28 3 1 8 _ Try.underlying28 info3 T.length cH n HNT.out HCH.out
      rw [← hAh, ← hch] at hcf
      clear hAh hch HFL HNH8
      go_wp2
      refine s_ 22 [21] (fun w' => w'.cell? ⟨gr, 1, none⟩ = some (.slice AH T.length cH)) (hS := (HC8.out)) (h := fun hHeld => ?_)
      generalize hW8 : w9.drew = w8 at HC8 HGR8 CH8 HFX HFY HNL8 hHeld ⊢
      refine p_ 0 96 (bb 22 1) (h := ?_)
      refine p_ 2 98 (bb 22 5) (h := ?_)
      refine p_ 3 99 (bb 22 13) (h := ?_)
      refine p_ 4 100 (bb 22 29) (h := ?_)
      refine t_ 5 101 (bb 22 61) hHeld (h := ?_)
      refine p_ 6 102 (bb 22 125) (h := ?_)
      refine p_ 7 103 (bb 22 253) (h := ?_)
      refine p_ 9 105 (bb 22 765) (h := ?_)
      refine p_ 12 108 (bb 22 4861) (h := ?_)
      refine p_ 13 109 (bb 22 13053) (h := ?_)
      refine p_ 14 110 (bb 22 29437) (h := ?_)
      refine t_ 15 111 (bb 22 62205) hHeld (h := ?_)
      refine p_ 16 112 (bb 22 127741) (h := ?_)
      refine p_ 17 113 (bb 22 258813) (h := ?_)
      refine join_ (σ := Value × Value × Value) 5 (bb 22 260095) (fun s => [(97, s.1), (104, s.2.1), (106, s.2.2)]) (fun (s : Value × Value × Value) (w' : World) => ∃ (A106 : Option Addr) (c106 : Nat) (ok1 : Nat → Prop), s.2.2 = .slice A106 1 c106 ∧ Kd.F kI w' ok1 A106 1 [height] ∧ (∀ k, ok1 k → w8.heap.size ≤ k ∧ some k ≠ s.2.1.ownBlock) ∧ Kd.N kI 3 w' w8.heap.size (fun k => (D k ∧ k ≠ gr ∧ k < w8.heap.size) ∨ w8.heap.size ≤ k) s.2.1 ([] ++ X.map (fun t => t.h)) ∧ Below w8.heap.size w8 w') ?cont (fun hcont => ?orders)
      case orders =>
        refine two_ (i := 1) (j := 10) (Ni := some 97) (Nj := some 106) (bb 22 258815) (bb 22 259837) rfl rfl rfl rfl (by kernel_rfl) (by decide) (by decide) (fun K hK => ?_) (fun K hK => ?_)
        · refine Kd.N_lit_step kI w8.heap.size 3 (by rfl) rfl (xs := ([] : List Int)) (inner := []) (ok := (fun k => (D k ∧ k ≠ gr ∧ k < w8.heap.size) ∨ w8.heap.size ≤ k)) (okp := (fun _ => False)) ?hrun ?hrep (fun _ hk => hk.elim) (.inr (Nat.le_refl _)) (Below.refl _ _) (Nat.le_refl _) (by simp) ?_
          case hrun => first | (go_simp; done) | (go_simp; rfl)
          case hrep => exact Reps.none _ _
          intro v97 w97 hn97 hb97 hg97 hat97
          have HN97 := Aside0.mk hn97
          have HB97 := Aside0.mk hb97
          have HG97 := Aside0.mk hg97
          have HAT97 := Aside0.mk hat97
          clear hn97 hb97 hg97 hat97
          refine hK.out _ _ (pw_cell_below HB97.out HC8.out) (fun hHeld => ?_)
          clear hK K
          refine m_ 97 (h := ?_)
          refine two_ (i := 8) (j := 10) (Ni := some 104) (Nj := some 106) (bb 22 259071) (bb 22 259839) rfl rfl rfl rfl (by kernel_rfl) (by decide) (by decide) (fun K hK => ?_) (fun K hK => ?_)
          · refine Kd.N_append_rows_step kI (w0 := w8) w8.heap.size (by rfl) (.tmp 97) (.tmp 103) 28 3 (.int .i64 0) 8 rfl Try.underlying28 info3 rfl (by decide) (by omega) v97 ([]) (X.map (fun t => t.h)) (AH) (n) (cH) ((fun k => (D k ∧ k ≠ gr ∧ k < w8.heap.size) ∨ w8.heap.size ≤ k)) ((fun k => (D k ∧ k ≠ gr) ∧ k < w8.heap.size)) rfl rfl (HN97.out) (Kd.F_below HFX.out HB97.out) (fun k hk => ⟨.inl ⟨hk.1.1, hk.1.2, hk.2⟩, fun he => by have h1 := Kd.N_base (HN97.out) k he.symm; have h2 := hk.2; omega⟩) (fun k hk => .inr (Nat.le_trans HB97.out.size hk)) (HB97.out) (HB97.out.size) (by have h1 := HLEN.out; have h2 := HNT.out; have h4 := HNX.out; simp; omega) ?_
            intro v104 w104 hn104 hb104 hg104 hat104
            have HN104 := Aside0.mk hn104
            have HB104 := Aside0.mk hb104
            have HG104 := Aside0.mk hg104
            have HAT104 := Aside0.mk hat104
            clear hn104 hb104 hg104 hat104
            refine hK.out _ _ (pw_cell_below HB104.out HC8.out) (fun hHeld => ?_)
            clear hK K
            refine m_ 104 (h := ?_)
            refine one_ (i := 10) (N := some 106) (bb 22 260095) rfl rfl (by kernel_rfl) (by decide) (fun K hK => ?_)
            refine Kd.N_lit_step kI w104.heap.size 3 (by rfl) rfl (xs := [height]) (inner := [.int .i64 height]) (ok := (fun k => w104.heap.size ≤ k)) (okp := (fun _ => False)) ?hrun ?hrep (fun _ hk => hk.elim) (Nat.le_refl _) (Below.refl _ _) (Nat.le_refl _) (by simp) ?_
            case hrun => first | (go_simp; done) | (go_simp; rfl)
            case hrep => exact Reps.one (fun _ _ => rfl) (Reps.none _ _)
            intro v106 w106 hn106 hb106 hg106 hat106
            have HN106 := Aside0.mk hn106
            have HB106 := Aside0.mk hb106
            have HG106 := Aside0.mk hg106
            have HAT106 := Aside0.mk hat106
            clear hn106 hb106 hg106 hat106
            obtain ⟨A106, c106, rfl⟩ := Kd.N_slice HN106.out
            have HB106 := Aside0.mk (below_step HB104.out (show Below w104.heap.size w104 w106 from ⟨HG106.out.os, HG106.out.tape, HG106.out.output, HG106.out.size, fun i hi => HG106.out.block i hi (by simp)⟩))
            refine hK.out _ _ (pw_cell_below HB106.out HC8.out) (fun hHeld => ?_)
            clear hK K
            refine m_ 106 (h := ?_)
            refine norm_ ?_ (hcont (v97, v104, .slice A106 1 c106) _ ⟨A106, c106, _, rfl, Kd.N_F (Kd.N_bound HN106.out), fun k hk => ⟨Nat.le_trans HB104.out.size hk.1, fun he => by have h1 := Kd.N_lt HN104.out k he.symm; have h2 := hk.1; omega⟩, Kd.N_below HN104.out (show Below w104.heap.size w104 w106 from ⟨HG106.out.os, HG106.out.tape, HG106.out.output, HG106.out.size, fun i hi => HG106.out.block i hi (by simp)⟩), HB106.out⟩)
            show _ = putAll _ [(97, v97), (104, v104), (106, .slice A106 1 c106)]
            simp only [putAll, Act.put, List.setIfInBounds_toArray, List.set_cons_zero, List.set_cons_succ]
            rfl

          · refine Kd.N_lit_step kI w97.heap.size 3 (by rfl) rfl (xs := [height]) (inner := [.int .i64 height]) (ok := (fun k => w97.heap.size ≤ k)) (okp := (fun _ => False)) ?hrun ?hrep (fun _ hk => hk.elim) (Nat.le_refl _) (Below.refl _ _) (Nat.le_refl _) (by simp) ?_
            case hrun => first | (go_simp; done) | (go_simp; rfl)
            case hrep => exact Reps.one (fun _ _ => rfl) (Reps.none _ _)
            intro v106 w106 hn106 hb106 hg106 hat106
            have HN106 := Aside0.mk hn106
            have HB106 := Aside0.mk hb106
            have HG106 := Aside0.mk hg106
            have HAT106 := Aside0.mk hat106
            clear hn106 hb106 hg106 hat106
            obtain ⟨A106, c106, rfl⟩ := Kd.N_slice HN106.out
            have HB106 := Aside0.mk (below_step HB97.out (show Below w97.heap.size w97 w106 from ⟨HG106.out.os, HG106.out.tape, HG106.out.output, HG106.out.size, fun i hi => HG106.out.block i hi (by simp)⟩))
            have HN297 := Aside0.mk (Kd.N_below HN97.out (show Below w97.heap.size w97 w106 from ⟨HG106.out.os, HG106.out.tape, HG106.out.output, HG106.out.size, fun i hi => HG106.out.block i hi (by simp)⟩))
            refine hK.out _ _ (pw_cell_below HB106.out HC8.out) (fun hHeld => ?_)
            clear hK K
            refine m_ 106 (h := ?_)
            refine one_ (i := 8) (N := some 104) (bb 22 260095) rfl rfl (by kernel_rfl) (by decide) (fun K hK => ?_)
            refine Kd.N_append_rows_step kI (w0 := w8) w8.heap.size (by rfl) (.tmp 97) (.tmp 103) 28 3 (.int .i64 0) 8 rfl Try.underlying28 info3 rfl (by decide) (by omega) v97 ([]) (X.map (fun t => t.h)) (AH) (n) (cH) ((fun k => (D k ∧ k ≠ gr ∧ k < w8.heap.size) ∨ w8.heap.size ≤ k)) ((fun k => (D k ∧ k ≠ gr) ∧ k < w8.heap.size)) rfl rfl (HN297.out) (Kd.F_below HFX.out HB106.out) (fun k hk => ⟨.inl ⟨hk.1.1, hk.1.2, hk.2⟩, fun he => by have h1 := Kd.N_base (HN297.out) k he.symm; have h2 := hk.2; omega⟩) (fun k hk => .inr (Nat.le_trans HB106.out.size hk)) (HB106.out) (HB106.out.size) (by have h1 := HLEN.out; have h2 := HNT.out; have h4 := HNX.out; simp; omega) ?_
            intro v104 w104 hn104 hb104 hg104 hat104
            have HN104 := Aside0.mk hn104
            have HB104 := Aside0.mk hb104
            have HG104 := Aside0.mk hg104
            have HAT104 := Aside0.mk hat104
            clear hn104 hb104 hg104 hat104
            refine hK.out _ _ (pw_cell_below HB104.out HC8.out) (fun hHeld => ?_)
            clear hK K
            refine m_ 104 (h := ?_)
            refine norm_ ?_ (hcont (v97, v104, .slice A106 1 c106) _ ⟨A106, c106, _, rfl, Kd.F_grown (Kd.N_F (Kd.N_bound HN106.out)) HG104.out (fun k hk he => by have h1 := Kd.N_lt HN97.out k he.symm; have h2 := hk.1; omega), fun k hk => ⟨Nat.le_trans HB97.out.size hk.1, fun he => by
              have h2 := hk.1
              have h3 := hk.2
              rcases HAT104.out with h4 | ⟨b, h4, h5⟩
              · rw [h4] at he; have h1 := Kd.N_lt HN97.out k he.symm; omega
              · rw [h4] at he; injection he with he; omega⟩, HN104.out, HB104.out⟩)
            show _ = putAll _ [(97, v97), (104, v104), (106, .slice A106 1 c106)]
            simp only [putAll, Act.put, List.setIfInBounds_toArray, List.set_cons_zero, List.set_cons_succ]
            rfl


        · refine Kd.N_lit_step kI w8.heap.size 3 (by rfl) rfl (xs := [height]) (inner := [.int .i64 height]) (ok := (fun k => w8.heap.size ≤ k)) (okp := (fun _ => False)) ?hrun ?hrep (fun _ hk => hk.elim) (Nat.le_refl _) (Below.refl _ _) (Nat.le_refl _) (by simp) ?_
          case hrun => first | (go_simp; done) | (go_simp; rfl)
          case hrep => exact Reps.one (fun _ _ => rfl) (Reps.none _ _)
          intro v106 w106 hn106 hb106 hg106 hat106
          have HN106 := Aside0.mk hn106
          have HB106 := Aside0.mk hb106
          have HG106 := Aside0.mk hg106
          have HAT106 := Aside0.mk hat106
          clear hn106 hb106 hg106 hat106
          obtain ⟨A106, c106, rfl⟩ := Kd.N_slice HN106.out
          refine hK.out _ _ (pw_cell_below HB106.out HC8.out) (fun hHeld => ?_)
          clear hK K
          refine m_ 106 (h := ?_)
          refine one_ (i := 1) (N := some 97) (bb 22 259839) rfl rfl (by kernel_rfl) (by decide) (fun K hK => ?_)
          refine Kd.N_lit_step kI w106.heap.size 3 (by rfl) rfl (xs := ([] : List Int)) (inner := []) (ok := (fun k => (D k ∧ k ≠ gr ∧ k < w8.heap.size) ∨ w8.heap.size ≤ k)) (okp := (fun _ => False)) ?hrun ?hrep (fun _ hk => hk.elim) (.inr (HB106.out.size)) (Below.refl _ _) (Nat.le_refl _) (by simp) ?_
          case hrun => first | (go_simp; done) | (go_simp; rfl)
          case hrep => exact Reps.none _ _
          intro v97 w97 hn97 hb97 hg97 hat97
          have HN97 := Aside0.mk hn97
          have HB97 := Aside0.mk hb97
          have HG97 := Aside0.mk hg97
          have HAT97 := Aside0.mk hat97
          clear hn97 hb97 hg97 hat97
          have HB97 := Aside0.mk (below_step HB106.out (show Below w106.heap.size w106 w97 from ⟨HG97.out.os, HG97.out.tape, HG97.out.output, HG97.out.size, fun i hi => HG97.out.block i hi (by simp)⟩))
          have HN297 := Aside0.mk (Kd.N_lower HN97.out HB106.out.size)
          refine hK.out _ _ (pw_cell_below HB97.out HC8.out) (fun hHeld => ?_)
          clear hK K
          refine m_ 97 (h := ?_)
          refine one_ (i := 8) (N := some 104) (bb 22 260095) rfl rfl (by kernel_rfl) (by decide) (fun K hK => ?_)
          refine Kd.N_append_rows_step kI (w0 := w8) w8.heap.size (by rfl) (.tmp 97) (.tmp 103) 28 3 (.int .i64 0) 8 rfl Try.underlying28 info3 rfl (by decide) (by omega) v97 ([]) (X.map (fun t => t.h)) (AH) (n) (cH) ((fun k => (D k ∧ k ≠ gr ∧ k < w8.heap.size) ∨ w8.heap.size ≤ k)) ((fun k => (D k ∧ k ≠ gr) ∧ k < w8.heap.size)) rfl rfl (HN297.out) (Kd.F_below HFX.out HB97.out) (fun k hk => ⟨.inl ⟨hk.1.1, hk.1.2, hk.2⟩, fun he => by have h1 := Kd.N_base (HN297.out) k he.symm; have h2 := hk.2; omega⟩) (fun k hk => .inr (Nat.le_trans HB97.out.size hk)) (HB97.out) (HB97.out.size) (by have h1 := HLEN.out; have h2 := HNT.out; have h4 := HNX.out; simp; omega) ?_
          intro v104 w104 hn104 hb104 hg104 hat104
          have HN104 := Aside0.mk hn104
          have HB104 := Aside0.mk hb104
          have HG104 := Aside0.mk hg104
          have HAT104 := Aside0.mk hat104
          clear hn104 hb104 hg104 hat104
          refine hK.out _ _ (pw_cell_below HB104.out HC8.out) (fun hHeld => ?_)
          clear hK K
          refine m_ 104 (h := ?_)
          refine norm_ ?_ (hcont (v97, v104, .slice A106 1 c106) _ ⟨A106, c106, _, rfl, Kd.F_grown (Kd.F_below (Kd.N_F (Kd.N_bound HN106.out)) (show Below w106.heap.size w106 w97 from ⟨HG97.out.os, HG97.out.tape, HG97.out.output, HG97.out.size, fun i hi => HG97.out.block i hi (by simp)⟩)) HG104.out (fun k hk he => by have h1 := Kd.N_base HN97.out k he.symm; have h2 := hk.2; omega), fun k hk => ⟨hk.1, fun he => by
            have h2 := hk.2
            have h6 := HG97.out.size
            rcases HAT104.out with h4 | ⟨b, h4, h5⟩
            · rw [h4] at he; have h1 := Kd.N_base HN97.out k he.symm; omega
            · rw [h4] at he; injection he with he; omega⟩, HN104.out, HB104.out⟩)
          show _ = putAll _ [(97, v97), (104, v104), (106, .slice A106 1 c106)]
          simp only [putAll, Act.put, List.setIfInBounds_toArray, List.set_cons_zero, List.set_cons_succ]
          rfl

      rintro ⟨v97, v104, v106⟩ w104 ⟨A106, c106, ok1, hv106, hF106, hk1, hn104, hb104⟩
      replace hv106 : v106 = _ := hv106
      subst hv106
      have HF106 := Aside0.mk hF106
      have HK1 := Aside0.mk hk1
      have HN104 := Aside0.mk (show Kd.N kI 3 w104 w8.heap.size _ v104 _ from hn104)
      have HB104 := Aside0.mk hb104
      clear hF106 hk1 hn104 hb104
      have hHeld := (pw_cell_below HB104.out HC8.out)
      refine norm_ (a' := ?_) ?_ ?_
      rotate_left
      · show putAll _ [(97, v97), (104, v104), (106, _)] = _
        simp only [putAll, Act.put, List.setIfInBounds_toArray, List.set_cons_zero, List.set_cons_succ]
        rfl
      refine n_ 11 107 (bb 22 262143) (h := fun K hK => ?_)
      refine Kd.N_append_rows_step kI (w0 := w8) w8.heap.size (by rfl) (.tmp 104) (.tmp 106) 28 3 (.int .i64 0) 8 rfl Try.underlying28 info3 rfl (by decide) (by omega) v104 ([] ++ X.map (fun t => t.h)) ([height]) (A106) (1) (c106) ((fun k => (D k ∧ k ≠ gr ∧ k < w8.heap.size) ∨ w8.heap.size ≤ k)) (ok1) rfl rfl (HN104.out) (HF106.out) (fun k hk => ⟨.inr (HK1.out k hk).1, (HK1.out k hk).2⟩) (fun k hk => .inr (Nat.le_trans HB104.out.size hk)) (HB104.out) (HB104.out.size) (by have h1 := HLEN.out; have h2 := HNT.out; have h4 := HNX.out; simp; omega) ?_
      intro v107 w107 hn107 hb107 hg107 hat107
      have HN107 := Aside0.mk hn107
      have HB107 := Aside0.mk hb107
      have HG107 := Aside0.mk hg107
      have HAT107 := Aside0.mk hat107
      clear hn107 hb107 hg107 hat107
      refine hK.out _ _ (pw_cell_below HB107.out HC8.out) (fun hHeld => ?_)
      clear hK K
      refine m_ 107 (h := ?_)
      refine n_ 18 114 (bb 22 524287) (h := fun K hK => ?_)
      refine Kd.N_append_rows_step kI (w0 := w8) w8.heap.size (by rfl) (.tmp 107) (.tmp 113) 28 3 (.int .i64 0) 8 rfl Try.underlying28 info3 rfl (by decide) (by omega) v107 (([] ++ X.map (fun t => t.h)) ++ [height]) (Y.map (fun t => t.h)) (Ah) (T.length - n) (ch) ((fun k => (D k ∧ k ≠ gr ∧ k < w8.heap.size) ∨ w8.heap.size ≤ k)) ((fun k => (D k ∧ k ≠ gr) ∧ k < w8.heap.size)) rfl rfl (HN107.out) (Kd.F_below HFY.out HB107.out) (fun k hk => ⟨.inl ⟨hk.1.1, hk.1.2, hk.2⟩, fun he => by have h1 := Kd.N_base HN107.out k he.symm; have h2 := hk.2; omega⟩) (fun k hk => .inr (Nat.le_trans HB107.out.size hk)) (HB107.out) (HB107.out.size) (by have h1 := HLEN.out; have h2 := HNT.out; have h4 := HNX.out; have h3 := HTL.out; simp; omega) ?_
      intro v114 w114 hn114 hb114 hg114 hat114
      have HN114 := Aside0.mk hn114
      have HB114 := Aside0.mk hb114
      have HG114 := Aside0.mk hg114
      have HAT114 := Aside0.mk hat114
      clear hn114 hb114 hg114 hat114
      obtain ⟨A114, c114, rfl⟩ := Kd.N_slice HN114.out
      obtain ⟨n114, hn114⟩ : ∃ m, m = (([] ++ X.map (fun t : Tw => t.h) ++ [height]) ++ Y.map (fun t : Tw => t.h)).length := ⟨_, rfl⟩
      rw [← hn114] at HN114 ⊢
      clear hn114
      refine hK.out _ _ (pw_cell_below HB114.out HC8.out) (fun hHeld => ?_)
      clear hK K
      refine m_ 114 (h := ?_)
      refine p_ 19 115 (bb 22 1048575) (h := ?_)
      refine p_ 20 116 (bb 22 2097151) (h := ?_)
      have hsg : w114.cell? ⟨gr, 1, none⟩ = some (.slice AH T.length cH) := hHeld
      have hsf : w114.frozen? ⟨gr, 1, none⟩ = false := blk_frozen (blk_below HGR8.out HB114.out) 1
      refine l_ 21 (bb 22 4194303) (h := ?_)
      refine d_ (h := ?_)

      clear hct hcf hsg hsf hHeld
      go_wp2
      go_ret
      have HBG := Aside0.mk (show base ≤ w8.heap.size by have h1 := HDB.out gr HDG.out; have h2 := blk_lt HGR8.out; omega)
      have HGRL := Aside0.mk (blk_lt HGR.out)
      refine ⟨rfl, RPutEnd.build HDB.out HDG.out HGRL.out ((CH8.out.below_step HB114.out).set (p := ⟨gr, 1, none⟩) (.inl rfl) _) (blk_put (blk_below HGR8.out HB114.out) 1 _ rfl) (Kd.N_far (p := ⟨gr, 1, none⟩) (Kd.N_below HNL8.out HB114.out) (fun k hk => hk.2) _) ?_⟩
      have h1 := Kd.N_far (p := ⟨gr, 1, none⟩) (Kd.N_lower HN114.out HBG.out) (fun k hk => by
        rcases hk with hk1 | hk1
        · exact hk1.2.1
        · have h2 := blk_lt HGR8.out; show k ≠ gr; omega) (.slice A114 n114 c114)
      have h3 := Kd.N_mono h1 (fun k hk => show (D k ∨ w.heap.size ≤ k) ∧ k ≠ gr from ⟨hk.elim (fun h => .inl h.1) (fun h => .inr (Nat.le_trans CH8.out.kept.1 h)), by
        rcases hk with hk1 | hk1
        · exact hk1.2.1
        · have h2 := blk_lt HGR8.out; omega⟩)
      rw [← HINS.out, List.map_append, List.map_cons]
      simpa using h3

    | succ k1 =>
      have hnx : n < X.length := by have h1 := HK.out; omega
      have hnl : n < T.length := by have h1 := HTL.out; omega
      have hlt : (n < T.length) = True := eq_true hnl
      obtain ⟨z, hz⟩ : ∃ z, X[n]? = some z := ⟨_, List.getElem?_eq_getElem hnx⟩
      have hzT : T[n]? = some z := by rw [← HXY.out, List.getElem?_append_left hnx]; exact hz
      have HAH := Aside0.mk (HXA.out z (List.mem_of_getElem? hz))
      have hze : (T.map (fun t => t.e))[n]? = some z.e := by rw [List.getElem?_map, hzT]; rfl
      obtain ⟨ad, hA⟩ := N_addr HNLr.out (by rw [List.length_map]; omega)
      subst hA
      obtain ⟨B0, b0, B3, b3, hd0, hd1', hd2', hd3, hFZ⟩ := at_N34 HNLr.out n z.e hze
      have HFZ := Aside0.mk (Kd.FK_below hFZ (below_drew (Below.refl _ _)))
      have HZO := Aside0.mk (show Byts z.e.f0 ∧ z.e.f0.length ≤ 140737488351232 from ⟨(HT.out.ok z (List.mem_of_getElem? hzT)).2.1.1, (okE_len (HT.out.ok z (List.mem_of_getElem? hzT)).1).1⟩)
      clear hFZ hze
      have HW := Aside0.mk (show wrap64 ((n : Int) + 1) = ((n + 1 : Nat) : Int) by rw [wrap_in (by omega) (by have := HLEN.out; omega)]; rfl)
      clear hz hzT hnl hnx
      go_wp2
      refine s_ 18 [] (fun w' => w'.cell? ⟨gr, 0, none⟩ = some (.slice (some ad) T.length cL) ∧ w'.cell? (ad.add (n * 4)) = some (.slice B0 z.e.f0.length b0) ∧ w'.cell? ⟨(ad.add (n * 4)).block, (ad.add (n * 4)).off + 1, none⟩ = some (.int .i64 z.e.f1) ∧ w'.cell? ⟨(ad.add (n * 4)).block, (ad.add (n * 4)).off + 2, none⟩ = some (.bool z.e.f2) ∧ w'.cell? ⟨(ad.add (n * 4)).block, (ad.add (n * 4)).off + 3, none⟩ = some (.slice B3 z.e.f3.length b3) ∧ w'.cell? ⟨g4, 0, none⟩ = some (.slice A0 e.f0.length c0) ∧ w'.cell? ⟨g4, 1, none⟩ = some (.int .i64 e.f1) ∧ w'.cell? ⟨g4, 2, none⟩ = some (.bool e.f2) ∧ w'.cell? ⟨g4, 3, none⟩ = some (.slice A3 e.f3.length c3)) (hS := ⟨(show wr.drew.cell? _ = _ from hcr), (show wr.drew.cell? _ = _ from hd0), (show wr.drew.cell? _ = _ from hd1'), (show wr.drew.cell? _ = _ from hd2'), (show wr.drew.cell? _ = _ from hd3), (blk_cell (blk_drew H4.out) 0).trans rfl, (blk_cell (blk_drew H4.out) 1).trans rfl, (blk_cell (blk_drew H4.out) 2).trans rfl, (blk_cell (blk_drew H4.out) 3).trans rfl⟩) (h := fun hHeld => ?_)
      refine p_ 0 19 (bb 18 1) (h := ?_)
      refine p_ 1 20 (bb 18 3) (h := ?_)
      refine p_ 2 21 (bb 18 7) (h := ?_)
      refine p_ 3 22 (bb 18 15) (h := ?_)
      refine t_ 4 23 (bb 18 31) hHeld (h := ?_)
      refine p_ 5 24 (bb 18 63) (h := ?_)
      refine p_ 6 25 (bb 18 127) (h := ?_)
      refine p_ 7 26 (bb 18 255) (h := ?_)
      refine p_ 8 27 (bb 18 511) (h := ?_)
      refine p_ 9 28 (bb 18 1023) (h := ?_)
      refine p_ 10 29 (bb 18 2047) (h := ?_)
      refine t_ 11 30 (bb 18 4095) hHeld (h := ?_)
      refine p_ 12 31 (bb 18 8191) (h := ?_)
      refine p_ 13 32 (bb 18 16383) (h := ?_)
      refine t_ 14 33 (bb 18 32767) hHeld (h := ?_)
      refine t_ 15 34 (bb 18 65535) hHeld (h := ?_)
      refine n_ 16 35 (bb 18 131071) (h := fun K hK => ?_)
      refine goes_ Try.func45 (by kernel_rfl) rfl #[.agg #[.slice B0 z.e.f0.length b0, .int .i64 z.e.f1, .bool z.e.f2, .slice B3 z.e.f3.length b3], .agg #[.slice A0 e.f0.length c0, .int .i64 e.f1, .bool e.f2, .slice A3 e.f3.length c3]] (by rfl) rfl rfl (by (try simp only [List.map_toArray, List.map_cons, List.map_nil]); first | done | rfl) ?_
      refine (aheadC (K34_C (Kd.FK_now HFZ.out)).2.1 (K34_C (Kd.FK_now HFZ.out)).1 (K34_C (Kd.FK_now HFZ.out)).2.2.2 (K34_C (Kd.FK_now HFZ.out)).2.2.1 (Kd.C_below HR0.out (below_drew HB.out)) HC0.out (Kd.C_below HR3.out (below_drew HB.out)) HC3.out HZO.out.1 HGE.out.1 HZO.out.2).mono ?_
      rintro ex w5 ⟨rfl, hb5⟩
      refine ⟨_, rfl, ?_⟩
      rw [HAH.out]
      have hb5 := Aside0.mk hb5
      refine hK.out _ _ ⟨pw_cell_below hb5.out hHeld.1, pw_cell_below hb5.out hHeld.2.1, pw_cell_below hb5.out hHeld.2.2.1, pw_cell_below hb5.out hHeld.2.2.2.1, pw_cell_below hb5.out hHeld.2.2.2.2.1, pw_cell_below hb5.out hHeld.2.2.2.2.2.1, pw_cell_below hb5.out hHeld.2.2.2.2.2.2.1, pw_cell_below hb5.out hHeld.2.2.2.2.2.2.2.1, pw_cell_below hb5.out hHeld.2.2.2.2.2.2.2.2⟩ (fun hHeld => ?_)
      clear hK K
      refine m_ 35 (h := ?_)
      refine p_ 17 36 (bb 18 262143) (h := ?_)
      refine d_ (h := ?_)

      go_wp2
      go_roundg k1
      case measure => exact Nat.lt_succ_self _
      case rel => exact ⟨n + 1, by first | rfl | rw [HW.out], ⟨by have h1 := HK.out; omega⟩, ⟨blk_below (blk_drew H4.out) hb5.out⟩, ⟨below_step (below_drew HB.out) hb5.out⟩⟩

set_option maxHeartbeats 4000000 in
set_option maxRecDepth 100000 in
theorem rput_dup {w : World} {base : Nat} {D : Nat → Prop} {gr : Nat} {T : List Tw} (h : RL w base D gr T) (hT : FitT T) (hlen : T.length ≤ 1000000) (A0 : Option Addr) (c0 : Nat) (e : S34) (A3 : Option Addr) (c3 : Nat) (hr0 : Kd.C (Kd.int .u8) w A0 e.f0.length e.f0) (hc0 : e.f0.length ≤ c0) (hr3 : Kd.C (Kd.int .u8) w A3 e.f3.length e.f3) (hc3 : e.f3.length ≤ c3) (hok : okE e = true) (hgd : Sw.Good e) (height : Int) (hh1 : ¬ height < 1) (hh2 : ¬ 12 < height) (y : Tw) (Y1 : List Tw) (hYn : T.filter (fun x => !qB e.f0 e.f1 x.e) = y :: Y1) (hkd : decide (y.e.f0 = e.f0) = true) (hsq : y.e.f1 = e.f1) :
    Calls Try.prog 27 #[.pointer (some ⟨gr, 0, none⟩), .agg #[.slice A0 e.f0.length c0, .int .i64 e.f1, .bool e.f2, .slice A3 e.f3.length c3], .int .i64 height] w fun ex w' => ex = .returned (.int .i64 1) ∧ Below w.heap.size w w' := by
  have hu34 := Try.underlying34
  have hu30 := Try.underlying30
  have hu32 := Try.underlying32
  obtain ⟨vL, vH, hgr, hnL, hnH, hDg, hDb⟩ := h
  obtain ⟨AL, cL, rfl⟩ := Kd.N_slice hnL
  obtain ⟨AH, cH, rfl⟩ := Kd.N_slice hnH
  rw [List.length_map, List.length_map] at hgr
  have HGR := Aside0.mk hgr
  have HNL := Aside0.mk hnL
  have HNH := Aside0.mk hnH
  have HT := Aside0.mk hT
  have HLEN := Aside0.mk hlen
  have HDG := Aside0.mk hDg
  have HDB := Aside0.mk hDb
  have HGE := Aside0.mk hgd
  have HOE := Aside0.mk (okE_len hok)
  have HOK := Aside0.mk (show (if okE e = true then (0 : Int) else 1) = 0 from if_pos hok)
  have hd1 : decide (height < 1) = false := decide_eq_false hh1
  have hd2 : decide (12 < height) = false := decide_eq_false hh2
  have HH := Aside0.mk (show 1 ≤ height ∧ height ≤ 12 by omega)
  have HR0 := Aside0.mk hr0
  clear hr0
  have HC0 := Aside0.mk hc0
  clear hc0
  have HR3 := Aside0.mk hr3
  clear hr3
  have HC3 := Aside0.mk hc3
  clear hc3
  clear hgr hnL hnH hDb hDg hT hlen hgd hok hh1 hh2
  have HSP := Aside0.mk (spl HT.out.srt e)
  obtain ⟨X, hX⟩ : ∃ X, X = T.filter (fun x => qB e.f0 e.f1 x.e) := ⟨_, rfl⟩
  obtain ⟨Y, hY⟩ : ∃ Y, Y = T.filter (fun x => !qB e.f0 e.f1 x.e) := ⟨_, rfl⟩
  have HXY := Aside0.mk (show X ++ Y = T by rw [hX, hY]; exact HSP.out)
  have HXA := Aside0.mk (show ∀ x, x ∈ X → ahe x.e e = true by rw [hX]; exact fun x hx => (List.mem_filter.1 hx).2)
  have HYA := Aside0.mk (show ∀ y, y ∈ Y → ahe y.e e = false by rw [hY]; exact fun y hy => by have h1 := (List.mem_filter.1 hy).2; rw [qB_ahe] at h1; simpa using h1)
  have HINS := Aside0.mk (show X ++ (⟨e, height⟩ : Tw) :: Y = insT T ⟨e, height⟩ by rw [hX, hY]; rfl)
  clear HSP
  have HYN := Aside0.mk (hY.trans hYn)
  have HKD := Aside0.mk hkd
  have HSQ := Aside0.mk (show decide (y.e.f1 = e.f1) = true ∧ (y.e.f1 == e.f1) = true from ⟨decide_eq_true hsq, beq_iff_eq.2 hsq⟩)
  clear hsq
  clear hYn hX hY hkd
  go_enter Try.func27, Try.ntmps27
  go_wp2_with (first
    | ((with_reducible refine gate_dst (N := 4) rfl ?_); (try (refine gate_guard (by rfl) ?_; dsimp only)); refine box_event ?hg (N := 4) ?hd (cs := #[.slice A0 e.f0.length c0, .int .i64 e.f1, .bool e.f2, .slice A3 e.f3.length c3]) (t := 34) ?hr ?_; (case hd => rfl); (case hg => rfl); (case hr => first | (go_simp; done) | (go_simp; rfl)); intro g4 hqg4 w1 hxg4 hbg4; have n_ := Aside0.mk hqg4; clear hqg4; have hqg4 := n_; clear n_; have n_ := Aside0.mk hxg4; clear hxg4; have hxg4 := n_; clear n_; have n_ := Aside0.mk hbg4; clear hbg4; have hbg4 := n_; clear n_; have hca0 : w1.cell? ⟨g4, 0, none⟩ = some (.slice A0 e.f0.length c0) := (blk_cell hxg4.out 0).trans rfl; have hca1 : w1.cell? ⟨g4, 1, none⟩ = some (.int .i64 e.f1) := (blk_cell hxg4.out 1).trans rfl; have hca2 : w1.cell? ⟨g4, 2, none⟩ = some (.bool e.f2) := (blk_cell hxg4.out 2).trans rfl; have hca3 : w1.cell? ⟨g4, 3, none⟩ = some (.slice A3 e.f3.length c3) := (blk_cell hxg4.out 3).trans rfl)
    | ((with_reducible refine gate_callee (f := 14) rfl ?_); (try (refine gate_guard (by rfl) ?_; dsimp only)); refine goesL_ (some 9) rfl rfl Try.func14 (by kernel_rfl) rfl #[.agg #[.slice A0 e.f0.length c0, .int .i64 e.f1, .bool e.f2, .slice A3 e.f3.length c3]] rfl (by (try simp only [List.map_toArray, List.map_cons, List.map_nil]); first | done | rfl) ?_; refine (rcheckC (Kd.C_below HR0.out hbg4.out) HC0.out (Kd.C_below HR3.out hbg4.out) HC3.out).mono ?_; rintro ex w2 ⟨rfl, hb2⟩; refine ⟨_, rfl, ?_⟩; rw [HOK.out]; have n_ := Aside0.mk hb2; clear hb2; have hb2 := n_; clear n_; have B2 := Aside0.mk (below_step hbg4.out hb2.out); have X2 := Aside0.mk (blk_below hxg4.out hb2.out)))
  go_loopg [7] X.length (fun kq v7 w' => ∃ n : Nat, v7 = .int .i64 (n : Int) ∧ Aside0 (kq + n = X.length) ∧ Aside0 (w'.heap[g4]? = some (.cells #[.slice A0 e.f0.length c0, .int .i64 e.f1, .bool e.f2, .slice A3 e.f3.length c3] 34 (0, 0))) ∧ Aside0 (Below w.heap.size w w'))
  case atStart => exact ⟨0, rfl, ⟨rfl⟩, X2, B2⟩
  case round =>
    obtain ⟨n, rfl, HK, H4, HB⟩ := hrel
    have HGRr := Aside0.mk (blk_below HGR.out HB.out)
    have hcr : wr.cell? ⟨gr, 0, none⟩ = some (.slice AL T.length cL) := (blk_cell HGRr.out 0).trans rfl
    have HNLr := Aside0.mk (Kd.N_below HNL.out HB.out)
    have HTL := Aside0.mk (show T.length = X.length + Y.length by rw [← HXY.out, List.length_append])
    cases gk with
    | zero =>
      have hn : n = X.length := by have h1 := HK.out; omega
      have HNX := Aside0.mk hn
      clear hn
      obtain ⟨z, hz⟩ : ∃ z, z = y := ⟨_, rfl⟩
      subst hz
      have hnl : n < T.length := by have h1 := HTL.out; have h2 := HNX.out; rw [HYN.out, List.length_cons] at h1; omega
      have hlt : (n < T.length) = True := eq_true hnl
      have hzT : T[n]? = some z := by rw [← HXY.out, HYN.out, HNX.out, List.getElem?_append_right (Nat.le_refl _)]; simp
      have HAH := Aside0.mk (HYA.out z (by rw [HYN.out]; simp))
      have hze : (T.map (fun t => t.e))[n]? = some z.e := by rw [List.getElem?_map, hzT]; rfl
      obtain ⟨ad, hA⟩ := N_addr HNLr.out (by rw [List.length_map]; omega)
      subst hA
      obtain ⟨B0, b0, B3, b3, hd0, hd1', hd2', hd3, hFZ⟩ := at_N34 HNLr.out n z.e hze
      have HFZ := Aside0.mk (Kd.FK_below hFZ (below_drew (Below.refl _ _)))
      have HZO := Aside0.mk (show Byts z.e.f0 ∧ z.e.f0.length ≤ 140737488351232 from ⟨(HT.out.ok z (List.mem_of_getElem? hzT)).2.1.1, (okE_len (HT.out.ok z (List.mem_of_getElem? hzT)).1).1⟩)
      clear hFZ hze
      clear hzT hnl
      go_wp2
      refine s_ 18 [] (fun w' => w'.cell? ⟨gr, 0, none⟩ = some (.slice (some ad) T.length cL) ∧ w'.cell? (ad.add (n * 4)) = some (.slice B0 z.e.f0.length b0) ∧ w'.cell? ⟨(ad.add (n * 4)).block, (ad.add (n * 4)).off + 1, none⟩ = some (.int .i64 z.e.f1) ∧ w'.cell? ⟨(ad.add (n * 4)).block, (ad.add (n * 4)).off + 2, none⟩ = some (.bool z.e.f2) ∧ w'.cell? ⟨(ad.add (n * 4)).block, (ad.add (n * 4)).off + 3, none⟩ = some (.slice B3 z.e.f3.length b3) ∧ w'.cell? ⟨g4, 0, none⟩ = some (.slice A0 e.f0.length c0) ∧ w'.cell? ⟨g4, 1, none⟩ = some (.int .i64 e.f1) ∧ w'.cell? ⟨g4, 2, none⟩ = some (.bool e.f2) ∧ w'.cell? ⟨g4, 3, none⟩ = some (.slice A3 e.f3.length c3)) (hS := ⟨(show wr.drew.cell? _ = _ from hcr), (show wr.drew.cell? _ = _ from hd0), (show wr.drew.cell? _ = _ from hd1'), (show wr.drew.cell? _ = _ from hd2'), (show wr.drew.cell? _ = _ from hd3), (blk_cell (blk_drew H4.out) 0).trans rfl, (blk_cell (blk_drew H4.out) 1).trans rfl, (blk_cell (blk_drew H4.out) 2).trans rfl, (blk_cell (blk_drew H4.out) 3).trans rfl⟩) (h := fun hHeld => ?_)
      refine p_ 0 19 (bb 18 1) (h := ?_)
      refine p_ 1 20 (bb 18 3) (h := ?_)
      refine p_ 2 21 (bb 18 7) (h := ?_)
      refine p_ 3 22 (bb 18 15) (h := ?_)
      refine t_ 4 23 (bb 18 31) hHeld (h := ?_)
      refine p_ 5 24 (bb 18 63) (h := ?_)
      refine p_ 6 25 (bb 18 127) (h := ?_)
      refine p_ 7 26 (bb 18 255) (h := ?_)
      refine p_ 8 27 (bb 18 511) (h := ?_)
      refine p_ 9 28 (bb 18 1023) (h := ?_)
      refine p_ 10 29 (bb 18 2047) (h := ?_)
      refine t_ 11 30 (bb 18 4095) hHeld (h := ?_)
      refine p_ 12 31 (bb 18 8191) (h := ?_)
      refine p_ 13 32 (bb 18 16383) (h := ?_)
      refine t_ 14 33 (bb 18 32767) hHeld (h := ?_)
      refine t_ 15 34 (bb 18 65535) hHeld (h := ?_)
      refine n_ 16 35 (bb 18 131071) (h := fun K hK => ?_)
      refine goes_ Try.func45 (by kernel_rfl) rfl #[.agg #[.slice B0 z.e.f0.length b0, .int .i64 z.e.f1, .bool z.e.f2, .slice B3 z.e.f3.length b3], .agg #[.slice A0 e.f0.length c0, .int .i64 e.f1, .bool e.f2, .slice A3 e.f3.length c3]] (by rfl) rfl rfl (by (try simp only [List.map_toArray, List.map_cons, List.map_nil]); first | done | rfl) ?_
      refine (aheadC (K34_C (Kd.FK_now HFZ.out)).2.1 (K34_C (Kd.FK_now HFZ.out)).1 (K34_C (Kd.FK_now HFZ.out)).2.2.2 (K34_C (Kd.FK_now HFZ.out)).2.2.1 (Kd.C_below HR0.out (below_drew HB.out)) HC0.out (Kd.C_below HR3.out (below_drew HB.out)) HC3.out HZO.out.1 HGE.out.1 HZO.out.2).mono ?_
      rintro ex w5 ⟨rfl, hb5⟩
      refine ⟨_, rfl, ?_⟩
      rw [HAH.out]
      have hb5 := Aside0.mk hb5
      refine hK.out _ _ ⟨pw_cell_below hb5.out hHeld.1, pw_cell_below hb5.out hHeld.2.1, pw_cell_below hb5.out hHeld.2.2.1, pw_cell_below hb5.out hHeld.2.2.2.1, pw_cell_below hb5.out hHeld.2.2.2.2.1, pw_cell_below hb5.out hHeld.2.2.2.2.2.1, pw_cell_below hb5.out hHeld.2.2.2.2.2.2.1, pw_cell_below hb5.out hHeld.2.2.2.2.2.2.2.1, pw_cell_below hb5.out hHeld.2.2.2.2.2.2.2.2⟩ (fun hHeld => ?_)
      clear hK K
      refine m_ 35 (h := ?_)
      refine p_ 17 36 (bb 18 262143) (h := ?_)
      refine d_ (h := ?_)

      obtain ⟨hc6r, hc60, hc61, _, _, _, _, _, _⟩ := hHeld
      have HB6 := Aside0.mk (below_step (below_drew HB.out) hb5.out)
      have H6 := Aside0.mk (blk_below (blk_drew H4.out) hb5.out)
      have HF6 := Aside0.mk (Kd.FK_below (Kd.FK_below HFZ.out hb5.out) (below_drew (Below.refl _ _)))
      have hse := str_eq HZO.out.1 HGE.out.1
      rw [HKD.out] at hse
      have hsd := HSQ.out.1
      have hsb := HSQ.out.2
      go_wp2
      refine s_ 35 [] (fun w' => w'.cell? ⟨gr, 0, none⟩ = some (.slice (some ad) T.length cL) ∧ w'.cell? (ad.add (n * 4)) = some (.slice B0 z.e.f0.length b0) ∧ w'.cell? ⟨(ad.add (n * 4)).block, (ad.add (n * 4)).off + 1, none⟩ = some (.int .i64 z.e.f1) ∧ w'.cell? ⟨g4, 0, none⟩ = some (.slice A0 e.f0.length c0) ∧ w'.cell? ⟨g4, 1, none⟩ = some (.int .i64 e.f1) ∧ Kd.C (Kd.int .u8) w' B0 z.e.f0.length z.e.f0 ∧ Kd.C (Kd.int .u8) w' A0 e.f0.length e.f0) (hS := ⟨(pw_cell_below (below_drew (Below.refl _ _)) hc6r), (pw_cell_below (below_drew (Below.refl _ _)) hc60), (pw_cell_below (below_drew (Below.refl _ _)) hc61), (blk_cell (blk_drew H6.out) 0).trans rfl, (blk_cell (blk_drew H6.out) 1).trans rfl, Kd.C_drew (K34_C (Kd.FK_now HF6.out)).2.1, Kd.C_below HR0.out (below_drew HB6.out)⟩) (h := fun hHeld => ?_)
      refine p_ 0 39 (bb 35 1) (h := ?_)
      refine p_ 1 40 (bb 35 3) (h := ?_)
      refine p_ 2 41 (bb 35 7) (h := ?_)
      refine p_ 3 42 (bb 35 15) (h := ?_)
      refine t_ 4 43 (bb 35 31) hHeld (h := ?_)
      refine p_ 5 44 (bb 35 63) (h := ?_)
      refine p_ 6 45 (bb 35 127) (h := ?_)
      refine p_ 7 46 (bb 35 255) (h := ?_)
      refine p_ 8 47 (bb 35 511) (h := ?_)
      refine p_ 9 48 (bb 35 1023) (h := ?_)
      refine p_ 10 49 (bb 35 2047) (h := ?_)
      refine t_ 11 50 (bb 35 4095) hHeld (h := ?_)
      refine p_ 12 51 (bb 35 8191) (h := ?_)
      refine p_ 13 52 (bb 35 16383) (h := ?_)
      refine p_ 14 53 (bb 35 32767) (h := ?_)
      refine t_ 15 54 (bb 35 65535) hHeld (h := ?_)
      refine t_ 16 55 (bb 35 131071) hHeld (hy := by (rintro w' ⟨s0, s1, s2, s3, s4, s5, s6⟩; have hcv := Kd.C_string (P := Try.prog) (A := B0) (c := b0) Try.underlying32 Try.underlying5 Try.underlying9 s5; go_simp; with_reducible rfl)) (h := ?_)
      refine p_ 17 56 (bb 35 262143) (h := ?_)
      refine t_ 18 57 (bb 35 524287) hHeld (h := ?_)
      refine t_ 19 58 (bb 35 1048575) hHeld (hy := by (rintro w' ⟨s0, s1, s2, s3, s4, s5, s6⟩; have hcv := Kd.C_string (P := Try.prog) (A := A0) (c := c0) Try.underlying32 Try.underlying5 Try.underlying9 s6; go_simp; with_reducible rfl)) (h := ?_)
      refine p_ 20 59 (bb 35 2097151) (h := ?_)
      refine p_ 21 60 (bb 35 4194303) (h := ?_)
      refine p_ 22 61 (bb 35 8388607) (h := ?_)
      refine p_ 23 62 (bb 35 16777215) (h := ?_)
      refine p_ 24 63 (bb 35 33554431) (h := ?_)
      refine p_ 25 64 (bb 35 67108863) (h := ?_)
      refine t_ 26 65 (bb 35 134217727) hHeld (h := ?_)
      refine p_ 27 66 (bb 35 268435455) (h := ?_)
      refine p_ 28 67 (bb 35 536870911) (h := ?_)
      refine p_ 29 68 (bb 35 1073741823) (h := ?_)
      refine t_ 30 69 (bb 35 2147483647) hHeld (h := ?_)
      refine p_ 31 70 (bb 35 4294967295) (h := ?_)
      refine t_ 32 71 (bb 35 8589934591) hHeld (h := ?_)
      refine p_ 33 72 (bb 35 17179869183) (h := ?_)
      refine p_ 34 73 (bb 35 34359738367) (h := ?_)
      refine d_ (h := ?_)

      clear hHeld hc6r hc60 hc61 hse hsd hsb
      have HB7 := Aside0.mk (below_drew HB6.out)
      go_wp2
      go_ret
      exact ⟨rfl, HB7.out⟩

    | succ k1 =>
      have hnx : n < X.length := by have h1 := HK.out; omega
      have hnl : n < T.length := by have h1 := HTL.out; omega
      have hlt : (n < T.length) = True := eq_true hnl
      obtain ⟨z, hz⟩ : ∃ z, X[n]? = some z := ⟨_, List.getElem?_eq_getElem hnx⟩
      have hzT : T[n]? = some z := by rw [← HXY.out, List.getElem?_append_left hnx]; exact hz
      have HAH := Aside0.mk (HXA.out z (List.mem_of_getElem? hz))
      have hze : (T.map (fun t => t.e))[n]? = some z.e := by rw [List.getElem?_map, hzT]; rfl
      obtain ⟨ad, hA⟩ := N_addr HNLr.out (by rw [List.length_map]; omega)
      subst hA
      obtain ⟨B0, b0, B3, b3, hd0, hd1', hd2', hd3, hFZ⟩ := at_N34 HNLr.out n z.e hze
      have HFZ := Aside0.mk (Kd.FK_below hFZ (below_drew (Below.refl _ _)))
      have HZO := Aside0.mk (show Byts z.e.f0 ∧ z.e.f0.length ≤ 140737488351232 from ⟨(HT.out.ok z (List.mem_of_getElem? hzT)).2.1.1, (okE_len (HT.out.ok z (List.mem_of_getElem? hzT)).1).1⟩)
      clear hFZ hze
      have HW := Aside0.mk (show wrap64 ((n : Int) + 1) = ((n + 1 : Nat) : Int) by rw [wrap_in (by omega) (by have := HLEN.out; omega)]; rfl)
      clear hz hzT hnl hnx
      go_wp2
      refine s_ 18 [] (fun w' => w'.cell? ⟨gr, 0, none⟩ = some (.slice (some ad) T.length cL) ∧ w'.cell? (ad.add (n * 4)) = some (.slice B0 z.e.f0.length b0) ∧ w'.cell? ⟨(ad.add (n * 4)).block, (ad.add (n * 4)).off + 1, none⟩ = some (.int .i64 z.e.f1) ∧ w'.cell? ⟨(ad.add (n * 4)).block, (ad.add (n * 4)).off + 2, none⟩ = some (.bool z.e.f2) ∧ w'.cell? ⟨(ad.add (n * 4)).block, (ad.add (n * 4)).off + 3, none⟩ = some (.slice B3 z.e.f3.length b3) ∧ w'.cell? ⟨g4, 0, none⟩ = some (.slice A0 e.f0.length c0) ∧ w'.cell? ⟨g4, 1, none⟩ = some (.int .i64 e.f1) ∧ w'.cell? ⟨g4, 2, none⟩ = some (.bool e.f2) ∧ w'.cell? ⟨g4, 3, none⟩ = some (.slice A3 e.f3.length c3)) (hS := ⟨(show wr.drew.cell? _ = _ from hcr), (show wr.drew.cell? _ = _ from hd0), (show wr.drew.cell? _ = _ from hd1'), (show wr.drew.cell? _ = _ from hd2'), (show wr.drew.cell? _ = _ from hd3), (blk_cell (blk_drew H4.out) 0).trans rfl, (blk_cell (blk_drew H4.out) 1).trans rfl, (blk_cell (blk_drew H4.out) 2).trans rfl, (blk_cell (blk_drew H4.out) 3).trans rfl⟩) (h := fun hHeld => ?_)
      refine p_ 0 19 (bb 18 1) (h := ?_)
      refine p_ 1 20 (bb 18 3) (h := ?_)
      refine p_ 2 21 (bb 18 7) (h := ?_)
      refine p_ 3 22 (bb 18 15) (h := ?_)
      refine t_ 4 23 (bb 18 31) hHeld (h := ?_)
      refine p_ 5 24 (bb 18 63) (h := ?_)
      refine p_ 6 25 (bb 18 127) (h := ?_)
      refine p_ 7 26 (bb 18 255) (h := ?_)
      refine p_ 8 27 (bb 18 511) (h := ?_)
      refine p_ 9 28 (bb 18 1023) (h := ?_)
      refine p_ 10 29 (bb 18 2047) (h := ?_)
      refine t_ 11 30 (bb 18 4095) hHeld (h := ?_)
      refine p_ 12 31 (bb 18 8191) (h := ?_)
      refine p_ 13 32 (bb 18 16383) (h := ?_)
      refine t_ 14 33 (bb 18 32767) hHeld (h := ?_)
      refine t_ 15 34 (bb 18 65535) hHeld (h := ?_)
      refine n_ 16 35 (bb 18 131071) (h := fun K hK => ?_)
      refine goes_ Try.func45 (by kernel_rfl) rfl #[.agg #[.slice B0 z.e.f0.length b0, .int .i64 z.e.f1, .bool z.e.f2, .slice B3 z.e.f3.length b3], .agg #[.slice A0 e.f0.length c0, .int .i64 e.f1, .bool e.f2, .slice A3 e.f3.length c3]] (by rfl) rfl rfl (by (try simp only [List.map_toArray, List.map_cons, List.map_nil]); first | done | rfl) ?_
      refine (aheadC (K34_C (Kd.FK_now HFZ.out)).2.1 (K34_C (Kd.FK_now HFZ.out)).1 (K34_C (Kd.FK_now HFZ.out)).2.2.2 (K34_C (Kd.FK_now HFZ.out)).2.2.1 (Kd.C_below HR0.out (below_drew HB.out)) HC0.out (Kd.C_below HR3.out (below_drew HB.out)) HC3.out HZO.out.1 HGE.out.1 HZO.out.2).mono ?_
      rintro ex w5 ⟨rfl, hb5⟩
      refine ⟨_, rfl, ?_⟩
      rw [HAH.out]
      have hb5 := Aside0.mk hb5
      refine hK.out _ _ ⟨pw_cell_below hb5.out hHeld.1, pw_cell_below hb5.out hHeld.2.1, pw_cell_below hb5.out hHeld.2.2.1, pw_cell_below hb5.out hHeld.2.2.2.1, pw_cell_below hb5.out hHeld.2.2.2.2.1, pw_cell_below hb5.out hHeld.2.2.2.2.2.1, pw_cell_below hb5.out hHeld.2.2.2.2.2.2.1, pw_cell_below hb5.out hHeld.2.2.2.2.2.2.2.1, pw_cell_below hb5.out hHeld.2.2.2.2.2.2.2.2⟩ (fun hHeld => ?_)
      clear hK K
      refine m_ 35 (h := ?_)
      refine p_ 17 36 (bb 18 262143) (h := ?_)
      refine d_ (h := ?_)

      go_wp2
      go_roundg k1
      case measure => exact Nat.lt_succ_self _
      case rel => exact ⟨n + 1, by first | rfl | rw [HW.out], ⟨by have h1 := HK.out; omega⟩, ⟨blk_below (blk_drew H4.out) hb5.out⟩, ⟨below_step (below_drew HB.out) hb5.out⟩⟩
end Go.Proofs.Ytjlkcidohabcfaa.Sk
