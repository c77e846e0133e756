/- The document's Split, walked. Conditions: those of each theorem. -/
import Derived.Test.YtobjkjmmkbhecaaCore
import Derived.Test.YtobjkjmmkbhecaaHcu
import Derived.Test.YtobjkjmmkbhecaaHgp
import Derived.Test.YtobjkjmmkbhecaaHps
import Derived.Test.YtobjkjmmkbhecaaHrg
import Derived.Test.YtobjkjmmkbhecaaHrv
import Derived.Test.YtobjkjmmkbhecaaHrw
import Derived.Test.YtobjkjmmkbhecaaHsp
import Derived.Test.YtobjkjmmkbhecaaHvi
import Derived.Test.YtobjkjmmkbhecaaME
import Derived.Test.YtobjkjmmkbhecaaPx0
import Derived.Test.YtobjkjmmkbhecaaSpecA
import Derived.Test.YtobjkjmmkbhecaaHgr
import Derived.Test.YtobjkjmmkbhecaaHcp
import Derived.Test.YtobjkjmmkbhecaaHpl
namespace Go.Proofs.Ytobjkjmmkbhecaa.Sk
open Go.RowKit Go.Proofs.YtobjkjmmkbhecaaW.PrintWords Go.Proofs.YtobjkjmmkbhecaaW.PrintLast Go.Proofs.YtobjkjmmkbhecaaW.PrintMore Go.Proofs.Ytobjkjmmkbhecaa.Px Go.Proofs.Ytobjkjmmkbhecaa.Sw
set_option linter.unusedVariables false
set_option linter.unusedSimpArgs false
set_option maxHeartbeats 40000000 in
set_option maxRecDepth 100000 in
theorem rsplit_calls {w : World} {A : Option Addr} {c : Nat} {xs : List S36} {okF : Nat → Prop} (hF0 : Kd.F k36 w okF A xs.length xs) (hlc : xs.length ≤ c) (hgd : goodL xs = true) (most : Int) :
  Calls Try.prog 20 #[.slice A xs.length c, .int .i64 most] w fun ex w' => ∃ v, ex = .returned v ∧ Kd.N (Kd.slice 36 k36) 24 w' w.heap.size (fun _ => True) v (splitE (fun e : S36 => e.f0) most xs) ∧ Below w.heap.size w w' := by
 obtain ⟨gs, hgs⟩ : ∃ gs, gs = groupsK (fun e : S36 => e.f0) xs := ⟨_, rfl⟩
 have hflat : gs.flatten = xs := by rw [hgs]; exact groupsK_flat xs.length xs (Nat.le_refl _)
 have hglen : gs.length ≤ xs.length := by rw [hgs]; exact groupsK_len xs.length xs (Nat.le_refl _)
 have hggood : ∀ g ∈ gs, goodL g = true := by rw [hgs]; exact good_groups hgd
 have hspl : splitE (fun e : S36 => e.f0) most xs = gs.foldl (pieceE most) [] := by rw [hgs]; rfl
 rw [hspl]
 have HF := Aside0.mk hF0
 have HLC := Aside0.mk hlc
 have HLN := Aside0.mk (goodL_iff.1 hgd).2
 have HGA := Aside0.mk (goodL_iff.1 hgd).1
 have HFL := Aside0.mk hflat
 have HGN := Aside0.mk hglen
 have HGS := Aside0.mk hgs
 have HGO := Aside0.mk hggood
 clear hF0 hlc hgd hspl hflat hglen hgs hggood
 go_enter Try.func20, Try.ntmps20
 go_wp2_with (first
  | ((with_reducible refine gate_dst (N := 10) rfl ?_); (try (refine gate_guard (by rfl) ?_; dsimp only)); refine goesL_ (some 10) rfl rfl Try.func34 (by kernel_rfl) rfl #[.slice A xs.length c] rfl (by (try simp only [List.map_toArray, List.map_cons, List.map_nil]); first | done | rfl) ?_; refine (rgroups_calls HF.out HLC.out HLN.out HGA.out).mono ?_; rintro ex w1 ⟨v1, rfl, hn1, hb1⟩; refine ⟨_, rfl, ?_⟩; rw [← HGS.out] at hn1; obtain ⟨Ag, cg, rfl⟩ := Kd.N_slice hn1; have n_ := Aside0.mk hn1; clear hn1; have hn1 := n_; clear n_; have n_ := Aside0.mk hb1; clear hb1; have hb1 := n_; clear n_))
 have HGF := Aside0.mk (Kd.F_mono (ok' := fun k => k < w1.heap.size) (Kd.F_bound (Kd.N_F hn1.out)) (fun k hk => hk.2))
 have HGC := Aside0.mk (Kd.N_reads' hn1.out).2.1
 clear hn1 HGS
 go_loopg [5, 7] gs.length (fun kq v5 v7 w' => ∃ (m : Nat) (X : List (List S36)) (rows : List (List Value)) (T : Nat) (Av : Option Addr) (cv : Nat), v5 = .slice Av X.length cv ∧ v7 = .int .i64 (m : Int) ∧ Aside0 (kq + m = gs.length) ∧ Aside0 ((gs.take m).foldl (pieceE most) [] = X) ∧ Aside0 (Kd.N (Kd.raw 1) 24 w' w1.heap.size (fun k => w1.heap.size ≤ k) (.slice Av X.length cv) rows) ∧ Aside0 (Pcs w' w1.heap.size T (Value.slice Av X.length cv).ownBlock rows X) ∧ Aside0 (Below w1.heap.size w1 w'))
 case atStart => exact ⟨0, [], [], _, none, 0, rfl, rfl, ⟨rfl⟩, ⟨rfl⟩, ⟨Kd.N_nil _ _ _ _ _⟩, ⟨Pcs.nil _ _ (Nat.le_refl _)⟩, ⟨Below.refl _ _⟩⟩
 case round =>
  obtain ⟨m, X, rows, T, Av, cv, rfl, rfl, HK, HX, HN, HP, HB⟩ := hrel
  cases gk with
  | zero =>
   as_aux_lemma =>
   have hlt : ((m : Int) < (gs.length : Int)) = False := eq_false (by have h := HK.out; omega)
   go_wp2
   go_ret
   have e := HX.out
   rw [List.take_of_length_le (by have h := HK.out; omega)] at e
   rw [e]
   exact ⟨_, rfl, Kd.N_lower (HP.out.toN HN.out (fun _ _ => trivial)) hb1.out.size, below_step hb1.out HB.out⟩
  | succ k1 =>
   as_aux_lemma =>
   have hml : m < gs.length := by have h := HK.out; omega
   have hlt : ((m : Int) < (gs.length : Int)) = True := eq_true (by omega)
   obtain ⟨g, hg⟩ : ∃ g, gs[m]? = some g := ⟨_, List.getElem?_eq_getElem hml⟩
   have HGI := Aside0.mk hg
   obtain ⟨gd, Ag0, cg0, hA, hcg0, hlg, hFg⟩ := rows_of_F HGF.out m g hg
   subst hA
   have HCG := Aside0.mk hcg0
   have hcg := cell_below_ hcg0 HB.out
   have hmf := mem_flat hg
   rw [HFL.out] at hmf
   have HGL := Aside0.mk (show g.length ≤ 1000000000 by have h1 := hmf.1; have h2 := HLN.out; omega)
   have HGG := Aside0.mk (HGO.out g (List.mem_of_getElem? hg))
   have HLG := Aside0.mk hlg
   have HFG := Aside0.mk hFg
   have HWK := Aside0.mk (wadd1 (x := m) (z := m + 1) rfl (by have h1 := HGN.out; have h2 := HLN.out; omega))
   have HXM := Aside0.mk (show X.length ≤ m by rw [← HX.out]; exact fold_len most gs m)
   have HFT := Aside0.mk (fold_take (pieceE most) [] hg)
   have HLG2 := Aside0.mk (show m ≤ 1000000000 by have h1 := HGN.out; have h2 := HLN.out; omega)
   clear hg hlg hFg hmf hcg0
   rcases List.eq_nil_or_concat X with hX | ⟨X0, x, hX⟩
   ·
    have hz : ((X.length : Int) == 0) = true := by rw [hX]; rfl
    have HPE := Aside0.mk (show pieceE most X g = X ++ [g] by rw [hX]; rfl)
    clear hX hcg
    go_upto_region 7 with (fail)
    refine s_ 18 [] (fun w' => True) (hS := (trivial)) (h := fun hHeld => ?_)
    have Bw7 := Aside0.mk (show Below wr.heap.size wr wr.drew from below_drew (Below.refl _ _))
    generalize wr.drew = w7 at hHeld Bw7 ⊢
    refine p_ 0 19 (bb 18 1) (h := ?_)
    refine p_ 1 20 (bb 18 3) (h := ?_)
    refine p_ 2 21 (bb 18 7) (h := ?_)
    refine o_ 3 22 (bb 18 15) (h := ?_)
    refine o_ 4 23 (bb 18 31) (h := ?_)
    refine o_ 5 24 (bb 18 63) (h := ?_)
    refine o_ 6 25 (bb 18 127) (h := ?_)
    refine o_ 7 26 (bb 18 255) (h := ?_)
    refine o_ 8 27 (bb 18 511) (h := ?_)
    refine o_ 9 28 (bb 18 1023) (h := ?_)
    refine o_ 10 29 (bb 18 2047) (h := ?_)
    refine o_ 11 30 (bb 18 4095) (h := ?_)
    refine o_ 12 31 (bb 18 8191) (h := ?_)
    refine o_ 13 32 (bb 18 16383) (h := ?_)
    refine o_ 14 33 (bb 18 32767) (h := ?_)
    refine o_ 15 34 (bb 18 65535) (h := ?_)
    refine o_ 16 35 (bb 18 131071) (h := ?_)
    refine p_ 17 36 (bb 18 262143) (h := ?_)
    refine d_ (h := ?_)
    clear hHeld hz
    obtain ⟨n1, hn1e⟩ : ∃ n1 : Nat, n1 = X.length + 1 := ⟨_, rfl⟩
    obtain ⟨y, hye⟩ : ∃ y : List S36, y = [] := ⟨_, rfl⟩
    have hwn : wrap64 ((X.length : Int) + 1) = (n1 : Int) := by rw [hn1e]; exact wadd1 (x := X.length) rfl (by have h1 := HXM.out; have h2 := HLG2.out; omega)
    have hw1 : wrap64 ((n1 : Int) - 1) = (X.length : Int) := wsub1 (by omega) (by have h1 := HXM.out; have h2 := HLG2.out; omega)
    have hltB : ((X.length : Int) < (n1 : Int)) = True := eq_true (by omega)
    have HN1L := Aside0.mk (show n1 = (X ++ [y]).length by rw [hn1e]; simp)
    have HXL2 := Aside0.mk (show X.length < n1 by omega)
    have HXG := Aside0.mk (show y.length + g.length ≤ 1000000000 by rw [hye]; have h := HGL.out; simpa using h)
    have HPE := Aside0.mk (show pieceE most X g = X ++ [y ++ g] by rw [hye, HPE.out]; rfl)
    have HN1E := Aside0.mk hn1e
    have HYE := Aside0.mk hye
    clear hn1e hye
    go_upto_region 10 with (first
     | ((with_reducible refine gate_builtin (b := .append) (xs := #[.tmp 37, .tmp 38]) rfl ?_); at_builtin; refine Kd.N_append (Kd.raw 1) (w0 := w7) w1.heap.size rfl (.tmp 37) (.tmp 38) 22 24 (.slice none 0 0) 24 rfl Try.underlying22 (show (Try.prog.info? 24).map (fun i => (i.zero, i.size, i.bytes)) = some (some (.slice none 0 0), 1, 24) by kernel_rfl) rfl (by decide) (by omega) (.slice Av X.length cv) rows [.slice none 0 0] [.slice none 0 0] (fun k => w1.heap.size ≤ k) (fun _ => False) rfl rfl ?aP ?aH ?aF ?aO ?aB ?aS ?aL ?_; (case aP => exact FK_raw1 rfl); (case aH => exact fun k hk => hk.elim); (case aF => exact fun k hk => by have h1 := HB.out.size; have h2 := Bw7.out.size; omega); (case aO => exact Kd.N_below HN.out Bw7.out); (case aB => exact Below.refl _ _); (case aS => have h1 := HB.out.size; have h2 := Bw7.out.size; omega); (case aL => have h1 := HP.out.len; have h2 := HXM.out; have h3 := HLG2.out; omega); intro v4 w8 hn4 hb4 hgr4 hat4; obtain ⟨A4, c4, e_⟩ := Kd.N_slice hn4; rw [show (rows ++ [[Value.slice none 0 0]]).length = n1 by rw [HN1E.out, List.length_append, HP.out.len]; rfl] at e_; subst e_; have HP1 := Aside0.mk (Pcs.push (p := y) (okU := fun _ => False) (HP.out.below Bw7.out) (Below.refl _ _) (by rw [HYE.out]; exact Kd.N_nil _ _ _ _ _) (fun k hk => hk.elim) hgr4 hat4); have HB1 := Aside0.mk (below_lower2 (below_step HB.out Bw7.out) hb4 (Nat.le_refl _)); have HN1 := Aside0.mk hn4; clear hgr4 hat4 hn4 hb4))
    have HPX := Aside0.mk (show Pcs w8 w1.heap.size w7.heap.size (Value.slice A4 n1 c4).ownBlock (rows ++ [[Value.slice none 0 0]]) (X ++ [y]) from HP1.out)
    obtain ⟨rows0, Al, cl, hr, hl0, hlx, hnx⟩ := HPX.out.open_
    obtain ⟨gO, cap, e, hbO, hltO, _⟩ := Kd.N_form HN1.out (by rw [hr]; simp)
    injection e with e1 e2 e3
    obtain ⟨ag, hag⟩ : ∃ ag : Addr, ag = ⟨gO, 0, none⟩ := ⟨_, rfl⟩
    rw [← hag] at e1
    subst e1
    have hR0 : (rows ++ [[Value.slice none 0 0]])[X.length]? = some [.slice Al y.length cl] := by rw [hr, ← hl0]; simp
    have hcl := raw_cell HN1.out hR0
    have HCL := Aside0.mk hcl
    have HR0 := Aside0.mk hR0
    have HRW := Aside0.mk hr
    have HL0 := Aside0.mk hl0
    have HLN2 := Aside0.mk hnx
    have HAG := Aside0.mk hag
    have HBO := Aside0.mk (show w1.heap.size ≤ ag.block ∧ ag.block < w8.heap.size by rw [hag]; exact ⟨hbO, hltO⟩)
    have HVU := Aside0.mk (show ∀ k, some k = (Value.slice (some ag) n1 c4).ownBlock → some k ≠ (Value.slice Al y.length cl).ownBlock from fun k hk he => HLN2.out.1 k he.symm hk)
    have HNR := Aside0.mk (raw_tightN HN1.out)
    have HLO := Aside0.mk HP1.out.lo
    clear hr hl0 hlx hnx hag hR0 hbO hltO e2 e3
    go_upto_region 10 with (fail)
    clear hcl
    refine s_ 16 [15] (fun w' => w'.cell? (ag.add X.length) = some (.slice Al y.length cl) ∧ w'.cell? (gd.add m) = some (.slice Ag0 g.length cg0)) (hS := ⟨cell_below_ HCL.out (below_drew (Below.refl _ _)), cell_below_ HCG.out (below_drew HB1.out)⟩) (h := fun hHeld => ?_)
    have B2l := Aside0.mk (show Below w8.heap.size w8 w8.drew from below_drew (Below.refl _ _))
    have B2 := Aside0.mk (show Below w1.heap.size w1 w8.drew from below_drew HB1.out)
    generalize w8.drew = w2 at B2 B2l hHeld ⊢
    refine p_ 0 42 (bb 16 1) (h := ?_)
    refine p_ 1 43 (bb 16 3) (h := ?_)
    refine p_ 2 44 (bb 16 7) (h := ?_)
    refine p_ 3 45 (bb 16 15) (h := ?_)
    refine p_ 4 46 (bb 16 31) (h := ?_)
    refine p_ 5 47 (bb 16 63) (h := ?_)
    refine p_ 6 48 (bb 16 127) (h := ?_)
    refine t_ 7 49 (bb 16 255) hHeld (h := ?_)
    refine p_ 8 50 (bb 16 511) (h := ?_)
    refine p_ 9 51 (bb 16 1023) (h := ?_)
    refine p_ 10 52 (bb 16 2047) (h := ?_)
    refine t_ 11 53 (bb 16 4095) hHeld (h := ?_)
    refine n_ 12 54 (bb 16 8191) (h := fun K hK => ?_)
    refine goes_ Try.func38 (by kernel_rfl) rfl #[.slice Ag0 g.length cg0] (by rfl) rfl rfl (by (try simp only [List.map_toArray, List.map_cons, List.map_nil]); first | done | rfl) ?_
    refine (rcopies_calls (Kd.F_now (Kd.F_below HFG.out B2.out)) HLG.out HGG.out).mono ?_
    rintro ex w4 ⟨v4, rfl, hn4, hb4⟩
    refine ⟨_, rfl, ?_⟩
    obtain ⟨A4q, c4q, rfl⟩ := Kd.N_slice hn4
    have hn4 := Aside0.mk hn4
    have hb4 := Aside0.mk hb4
    refine hK.out _ _ ⟨pw_cell_below hb4.out hHeld.1, pw_cell_below hb4.out hHeld.2⟩ (fun hHeld => ?_)
    clear hK K
    refine m_ 54 (h := ?_)
    refine n_ 13 55 (bb 16 16383) (h := fun K hK => ?_)
    refine Kd.N_append_rows_step k36 (w0 := w4) w7.heap.size (by rfl) (.tmp 49) (.tmp 54) 24 36 (.agg #[.slice none 0 0, .int .i64 0, .bool false, .slice none 0 0]) 64 rfl Try.underlying24 info36 rfl (by decide) (by omega) (.slice Al y.length cl) y g _ _ _ (fun k => some k ≠ some ag.block) (fun k => w2.heap.size ≤ k) rfl rfl ?aO ?aR ?aH ?aF ?aB ?aS ?aL ?_
    case aO => exact Kd.N_below (Kd.N_below HLN2.out B2l.out) hb4.out
    case aR => exact Kd.N_F hn4.out
    case aH => exact fun k hk => ⟨fun he => (by injection he with he; have h1 := HBO.out; have h3 := B2l.out.size; have h4 : w2.heap.size ≤ k := hk; omega), fun he => (by have h2 := Kd.N_lt HLN2.out k he.symm; have h4 := B2l.out.size; have h5 : w2.heap.size ≤ k := hk; omega)⟩
    case aF => exact fun k hk he => by injection he with he; have h1 := HBO.out; have h2 := B2l.out.size; have h3 := hb4.out.size; omega
    case aB => exact Below.refl _ _
    case aS => have h1 := HP1.out.hi; have h2 := B2l.out.size; have h3 := hb4.out.size; omega
    case aL => have h1 := HXG.out; omega
    intro v5 w5 hn5 hb5 hgr5 hat5
    have hn5 := Aside0.mk hn5
    have hgr5 := Aside0.mk hgr5
    have N5 := Aside0.mk (Kd.N_grown (Kd.N_below (Kd.N_below HNR.out B2l.out) hb4.out) hgr5.out (fun k hk he => HVU.out k hk he))
    have B5 := Aside0.mk (show Below w1.heap.size w1 w5 from below_lower2 (below_step B2.out hb4.out) hb5 HLO.out)
    clear hb5 hat5
    obtain ⟨A5, c5, e5⟩ := Kd.N_slice hn5.out
    subst e5
    have hc5 := Aside0.mk (raw_cell N5.out HR0.out)
    refine hK.out _ _ ⟨hc5.out, cell_below_ HCG.out B5.out⟩ (fun hHeld => ?_)
    clear hK K
    refine m_ 55 (h := ?_)
    refine p_ 14 56 (bb 16 32767) (h := ?_)
    refine lN_ 15 (bb 16 65535) 24 (.tmp 56) (.tmp 55) X.length HAG.out N5.out HXL2.out (u := .slice A5 (y ++ g).length c5) (FK_raw1 (u := .slice A5 (y ++ g).length c5) rfl) (fun k hk => False.elim hk) ht24 rfl (by rfl) (by rfl) (by kernel_rfl) (by decide) (by rfl) rfl (by show _ = Value.pointer (some (ag.add (X.length * 1))); rw [Nat.mul_one]; rfl) rfl (fun w6 hn6 hg6 => ?_)
    refine d_ (h := ?_)
    go_wp2
    go_roundg k1
    case measure => exact Nat.lt_succ_self _
    case rel =>
     refine ⟨m + 1, X ++ [y ++ g], rows0 ++ [[.slice A5 (y ++ g).length c5]], w7.heap.size, some ag, c4, ?_, by first | rfl | rw [HWK.out], ⟨by have h := HK.out; omega⟩, ⟨by rw [HFT.out, HX.out]; exact HPE.out⟩, ⟨?_⟩, ⟨?_⟩, ⟨?_⟩⟩
     ·
      rw [show n1 = (X ++ [y ++ g]).length by rw [HN1L.out]; simp]
     ·
      have h := hn6
      rw [show (rows ++ [[Value.slice none 0 0]]).set X.length [Value.slice A5 (y ++ g).length c5] = rows0 ++ [[Value.slice A5 (y ++ g).length c5]] by rw [HRW.out, ← HL0.out]; simp, show n1 = (X ++ [y ++ g]).length by rw [HN1L.out]; simp] at h
      exact Kd.N_mono h (fun k hk => by injection hk with hk; rw [hk]; exact HBO.out.1)
     ·
      have hp := HPX.out
      rw [HRW.out] at hp
      have h5 := hn5.out
      have h6 := hg6
      rw [show gO = ag.block by rw [HAG.out]] at h6
      exact Pcs.grown hp (below_step B2l.out hb4.out) (fun k hk => Kd.N_base HLN2.out k hk) hgr5.out h5 (fun k hk => hk) h6
     ·
      exact B5.out.grown hg6 (by have h := B5.out.size; omega) (fun k hk => by injection hk with hk; have h := HBO.out.1; rw [HAG.out] at h; show _ ≤ k; rw [← hk]; exact h)
   ·
    rw [List.concat_eq_append] at hX
    have HXE := Aside0.mk hX
    have HPX := Aside0.mk (show Pcs wr w1.heap.size T (Value.slice Av X.length cv).ownBlock rows (X0 ++ [x]) by rw [← hX]; exact HP.out)
    have HP1 := HP
    have HN1 := HN
    have HB1 := HB
    have hXl : X.length = X0.length + 1 := by rw [hX]; simp
    have HN1L := Aside0.mk (show X.length = (X0 ++ [x]).length by rw [hX])
    have HXL2 := Aside0.mk (show X0.length < X.length by omega)
    have HXG := Aside0.mk (show x.length + g.length ≤ 1000000000 by have h1 := fold_bound most HGI.out (HX.out.trans hX); rw [HFL.out] at h1; have h2 := HLN.out; omega)
    have hz : ((X.length : Int) == 0) = false := beq_eq_false_iff_ne.mpr (by omega)
    have hwA : wrap64 ((X.length : Int) - 1) = (X0.length : Int) := wsub1 (by omega) (by have h1 := HXM.out; have h2 := HLG2.out; omega)
    have hltA : ((X0.length : Int) < (X.length : Int)) = True := eq_true (by omega)
    have hs : wrap64 ((x.length : Int) + (g.length : Int)) = (x.length : Int) + (g.length : Int) := wrap_in (by omega) (by have h := HXG.out; omega)
    clear hX hXl
    obtain ⟨rows0, Al, cl, hr, hl0, hlx, hnx⟩ := HPX.out.open_
    obtain ⟨gO, cap, e, hbO, hltO, _⟩ := Kd.N_form HN1.out (by rw [hr]; simp)
    injection e with e1 e2 e3
    obtain ⟨ag, hag⟩ : ∃ ag : Addr, ag = ⟨gO, 0, none⟩ := ⟨_, rfl⟩
    rw [← hag] at e1
    subst e1
    have hR0 : (rows)[X0.length]? = some [.slice Al x.length cl] := by rw [hr, ← hl0]; simp
    have hcl := raw_cell HN1.out hR0
    have HCL := Aside0.mk hcl
    have HR0 := Aside0.mk hR0
    have HRW := Aside0.mk hr
    have HL0 := Aside0.mk hl0
    have HLN2 := Aside0.mk hnx
    have HAG := Aside0.mk hag
    have HBO := Aside0.mk (show w1.heap.size ≤ ag.block ∧ ag.block < wr.heap.size by rw [hag]; exact ⟨hbO, hltO⟩)
    have HVU := Aside0.mk (show ∀ k, some k = (Value.slice (some ag) X.length cv).ownBlock → some k ≠ (Value.slice Al x.length cl).ownBlock from fun k hk he => HLN2.out.1 k he.symm hk)
    have HNR := Aside0.mk (raw_tightN HN1.out)
    have HLO := Aside0.mk HP1.out.lo
    clear hr hl0 hlx hnx hag hR0 hbO hltO e2 e3
    by_cases hgt : most < (x.length : Int) + (g.length : Int)
    ·
     have hd := eq_true hgt
     have HPE := Aside0.mk (show pieceE most X g = X ++ [g] by rw [HXE.out]; unfold pieceE; simp [hgt])
     clear hgt
     go_upto_region 7 with (fail)
     refine s_ 18 [] (fun w' => w'.cell? (ag.add X0.length) = some (.slice Al x.length cl) ∧ w'.cell? (gd.add m) = some (.slice Ag0 g.length cg0)) (hS := ⟨hcl, hcg⟩) (h := fun hHeld => ?_)
     have Bw7 := Aside0.mk (show Below wr.heap.size wr wr.drew from below_drew (Below.refl _ _))
     clear hcl hcg
     generalize wr.drew = w7 at hHeld Bw7 ⊢
     refine p_ 0 19 (bb 18 1) (h := ?_)
     refine p_ 1 20 (bb 18 3) (h := ?_)
     refine p_ 2 21 (bb 18 7) (h := ?_)
     refine p_ 3 22 (bb 18 15) (h := ?_)
     refine p_ 4 23 (bb 18 31) (h := ?_)
     refine p_ 5 24 (bb 18 63) (h := ?_)
     refine p_ 6 25 (bb 18 127) (h := ?_)
     refine t_ 7 26 (bb 18 255) hHeld (h := ?_)
     refine p_ 8 27 (bb 18 511) (h := ?_)
     refine p_ 9 28 (bb 18 1023) (h := ?_)
     refine p_ 10 29 (bb 18 2047) (h := ?_)
     refine p_ 11 30 (bb 18 4095) (h := ?_)
     refine t_ 12 31 (bb 18 8191) hHeld (h := ?_)
     refine p_ 13 32 (bb 18 16383) (h := ?_)
     refine p_ 14 33 (bb 18 32767) (h := ?_)
     refine p_ 15 34 (bb 18 65535) (h := ?_)
     refine p_ 16 35 (bb 18 131071) (h := ?_)
     refine p_ 17 36 (bb 18 262143) (h := ?_)
     refine d_ (h := ?_)
     clear hHeld hz hwA hltA hs hd HPX HP1 HN1 HB1 HN1L HXL2 HXG HVU HNR HLO HBO HAG HLN2 HL0 HRW HR0 HCL
     obtain ⟨n1, hn1e⟩ : ∃ n1 : Nat, n1 = X.length + 1 := ⟨_, rfl⟩
     obtain ⟨y, hye⟩ : ∃ y : List S36, y = [] := ⟨_, rfl⟩
     have hwn : wrap64 ((X.length : Int) + 1) = (n1 : Int) := by rw [hn1e]; exact wadd1 (x := X.length) rfl (by have h1 := HXM.out; have h2 := HLG2.out; omega)
     have hw1 : wrap64 ((n1 : Int) - 1) = (X.length : Int) := wsub1 (by omega) (by have h1 := HXM.out; have h2 := HLG2.out; omega)
     have hltB : ((X.length : Int) < (n1 : Int)) = True := eq_true (by omega)
     have HN1L := Aside0.mk (show n1 = (X ++ [y]).length by rw [hn1e]; simp)
     have HXL2 := Aside0.mk (show X.length < n1 by omega)
     have HXG := Aside0.mk (show y.length + g.length ≤ 1000000000 by rw [hye]; have h := HGL.out; simpa using h)
     have HPE := Aside0.mk (show pieceE most X g = X ++ [y ++ g] by rw [hye, HPE.out]; rfl)
     have HN1E := Aside0.mk hn1e
     have HYE := Aside0.mk hye
     clear hn1e hye
     go_upto_region 10 with (first
      | ((with_reducible refine gate_builtin (b := .append) (xs := #[.tmp 37, .tmp 38]) rfl ?_); at_builtin; refine Kd.N_append (Kd.raw 1) (w0 := w7) w1.heap.size rfl (.tmp 37) (.tmp 38) 22 24 (.slice none 0 0) 24 rfl Try.underlying22 (show (Try.prog.info? 24).map (fun i => (i.zero, i.size, i.bytes)) = some (some (.slice none 0 0), 1, 24) by kernel_rfl) rfl (by decide) (by omega) (.slice (some ag) X.length cv) rows [.slice none 0 0] [.slice none 0 0] (fun k => w1.heap.size ≤ k) (fun _ => False) rfl rfl ?aP ?aH ?aF ?aO ?aB ?aS ?aL ?_; (case aP => exact FK_raw1 rfl); (case aH => exact fun k hk => hk.elim); (case aF => exact fun k hk => by have h1 := HB.out.size; have h2 := Bw7.out.size; omega); (case aO => exact Kd.N_below HN.out Bw7.out); (case aB => exact Below.refl _ _); (case aS => have h1 := HB.out.size; have h2 := Bw7.out.size; omega); (case aL => have h1 := HP.out.len; have h2 := HXM.out; have h3 := HLG2.out; omega); intro v4 w8 hn4 hb4 hgr4 hat4; obtain ⟨A4, c4, e_⟩ := Kd.N_slice hn4; rw [show (rows ++ [[Value.slice none 0 0]]).length = n1 by rw [HN1E.out, List.length_append, HP.out.len]; rfl] at e_; subst e_; have HP1 := Aside0.mk (Pcs.push (p := y) (okU := fun _ => False) (HP.out.below Bw7.out) (Below.refl _ _) (by rw [HYE.out]; exact Kd.N_nil _ _ _ _ _) (fun k hk => hk.elim) hgr4 hat4); have HB1 := Aside0.mk (below_lower2 (below_step HB.out Bw7.out) hb4 (Nat.le_refl _)); have HN1 := Aside0.mk hn4; clear hgr4 hat4 hn4 hb4))
     have HPX := Aside0.mk (show Pcs w8 w1.heap.size w7.heap.size (Value.slice A4 n1 c4).ownBlock (rows ++ [[Value.slice none 0 0]]) (X ++ [y]) from HP1.out)
     obtain ⟨rows0, Al, cl, hr, hl0, hlx, hnx⟩ := HPX.out.open_
     obtain ⟨gO, cap, e, hbO, hltO, _⟩ := Kd.N_form HN1.out (by rw [hr]; simp)
     injection e with e1 e2 e3
     obtain ⟨ag, hag⟩ : ∃ ag : Addr, ag = ⟨gO, 0, none⟩ := ⟨_, rfl⟩
     rw [← hag] at e1
     subst e1
     have hR0 : (rows ++ [[Value.slice none 0 0]])[X.length]? = some [.slice Al y.length cl] := by rw [hr, ← hl0]; simp
     have hcl := raw_cell HN1.out hR0
     have HCL := Aside0.mk hcl
     have HR0 := Aside0.mk hR0
     have HRW := Aside0.mk hr
     have HL0 := Aside0.mk hl0
     have HLN2 := Aside0.mk hnx
     have HAG := Aside0.mk hag
     have HBO := Aside0.mk (show w1.heap.size ≤ ag.block ∧ ag.block < w8.heap.size by rw [hag]; exact ⟨hbO, hltO⟩)
     have HVU := Aside0.mk (show ∀ k, some k = (Value.slice (some ag) n1 c4).ownBlock → some k ≠ (Value.slice Al y.length cl).ownBlock from fun k hk he => HLN2.out.1 k he.symm hk)
     have HNR := Aside0.mk (raw_tightN HN1.out)
     have HLO := Aside0.mk HP1.out.lo
     clear hr hl0 hlx hnx hag hR0 hbO hltO e2 e3
     go_upto_region 10 with (fail)
     clear hcl
     refine s_ 16 [15] (fun w' => w'.cell? (ag.add X.length) = some (.slice Al y.length cl) ∧ w'.cell? (gd.add m) = some (.slice Ag0 g.length cg0)) (hS := ⟨cell_below_ HCL.out (below_drew (Below.refl _ _)), cell_below_ HCG.out (below_drew HB1.out)⟩) (h := fun hHeld => ?_)
     have B2l := Aside0.mk (show Below w8.heap.size w8 w8.drew from below_drew (Below.refl _ _))
     have B2 := Aside0.mk (show Below w1.heap.size w1 w8.drew from below_drew HB1.out)
     generalize w8.drew = w2 at B2 B2l hHeld ⊢
     refine p_ 0 42 (bb 16 1) (h := ?_)
     refine p_ 1 43 (bb 16 3) (h := ?_)
     refine p_ 2 44 (bb 16 7) (h := ?_)
     refine p_ 3 45 (bb 16 15) (h := ?_)
     refine p_ 4 46 (bb 16 31) (h := ?_)
     refine p_ 5 47 (bb 16 63) (h := ?_)
     refine p_ 6 48 (bb 16 127) (h := ?_)
     refine t_ 7 49 (bb 16 255) hHeld (h := ?_)
     refine p_ 8 50 (bb 16 511) (h := ?_)
     refine p_ 9 51 (bb 16 1023) (h := ?_)
     refine p_ 10 52 (bb 16 2047) (h := ?_)
     refine t_ 11 53 (bb 16 4095) hHeld (h := ?_)
     refine n_ 12 54 (bb 16 8191) (h := fun K hK => ?_)
     refine goes_ Try.func38 (by kernel_rfl) rfl #[.slice Ag0 g.length cg0] (by rfl) rfl rfl (by (try simp only [List.map_toArray, List.map_cons, List.map_nil]); first | done | rfl) ?_
     refine (rcopies_calls (Kd.F_now (Kd.F_below HFG.out B2.out)) HLG.out HGG.out).mono ?_
     rintro ex w4 ⟨v4, rfl, hn4, hb4⟩
     refine ⟨_, rfl, ?_⟩
     obtain ⟨A4q, c4q, rfl⟩ := Kd.N_slice hn4
     have hn4 := Aside0.mk hn4
     have hb4 := Aside0.mk hb4
     refine hK.out _ _ ⟨pw_cell_below hb4.out hHeld.1, pw_cell_below hb4.out hHeld.2⟩ (fun hHeld => ?_)
     clear hK K
     refine m_ 54 (h := ?_)
     refine n_ 13 55 (bb 16 16383) (h := fun K hK => ?_)
     refine Kd.N_append_rows_step k36 (w0 := w4) w7.heap.size (by rfl) (.tmp 49) (.tmp 54) 24 36 (.agg #[.slice none 0 0, .int .i64 0, .bool false, .slice none 0 0]) 64 rfl Try.underlying24 info36 rfl (by decide) (by omega) (.slice Al y.length cl) y g _ _ _ (fun k => some k ≠ some ag.block) (fun k => w2.heap.size ≤ k) rfl rfl ?aO ?aR ?aH ?aF ?aB ?aS ?aL ?_
     case aO => exact Kd.N_below (Kd.N_below HLN2.out B2l.out) hb4.out
     case aR => exact Kd.N_F hn4.out
     case aH => exact fun k hk => ⟨fun he => (by injection he with he; have h1 := HBO.out; have h3 := B2l.out.size; have h4 : w2.heap.size ≤ k := hk; omega), fun he => (by have h2 := Kd.N_lt HLN2.out k he.symm; have h4 := B2l.out.size; have h5 : w2.heap.size ≤ k := hk; omega)⟩
     case aF => exact fun k hk he => by injection he with he; have h1 := HBO.out; have h2 := B2l.out.size; have h3 := hb4.out.size; omega
     case aB => exact Below.refl _ _
     case aS => have h1 := HP1.out.hi; have h2 := B2l.out.size; have h3 := hb4.out.size; omega
     case aL => have h1 := HXG.out; omega
     intro v5 w5 hn5 hb5 hgr5 hat5
     have hn5 := Aside0.mk hn5
     have hgr5 := Aside0.mk hgr5
     have N5 := Aside0.mk (Kd.N_grown (Kd.N_below (Kd.N_below HNR.out B2l.out) hb4.out) hgr5.out (fun k hk he => HVU.out k hk he))
     have B5 := Aside0.mk (show Below w1.heap.size w1 w5 from below_lower2 (below_step B2.out hb4.out) hb5 HLO.out)
     clear hb5 hat5
     obtain ⟨A5, c5, e5⟩ := Kd.N_slice hn5.out
     subst e5
     have hc5 := Aside0.mk (raw_cell N5.out HR0.out)
     refine hK.out _ _ ⟨hc5.out, cell_below_ HCG.out B5.out⟩ (fun hHeld => ?_)
     clear hK K
     refine m_ 55 (h := ?_)
     refine p_ 14 56 (bb 16 32767) (h := ?_)
     refine lN_ 15 (bb 16 65535) 24 (.tmp 56) (.tmp 55) X.length HAG.out N5.out HXL2.out (u := .slice A5 (y ++ g).length c5) (FK_raw1 (u := .slice A5 (y ++ g).length c5) rfl) (fun k hk => False.elim hk) ht24 rfl (by rfl) (by rfl) (by kernel_rfl) (by decide) (by rfl) rfl (by show _ = Value.pointer (some (ag.add (X.length * 1))); rw [Nat.mul_one]; rfl) rfl (fun w6 hn6 hg6 => ?_)
     refine d_ (h := ?_)
     go_wp2
     go_roundg k1
     case measure => exact Nat.lt_succ_self _
     case rel =>
      refine ⟨m + 1, X ++ [y ++ g], rows0 ++ [[.slice A5 (y ++ g).length c5]], w7.heap.size, some ag, c4, ?_, by first | rfl | rw [HWK.out], ⟨by have h := HK.out; omega⟩, ⟨by rw [HFT.out, HX.out]; exact HPE.out⟩, ⟨?_⟩, ⟨?_⟩, ⟨?_⟩⟩
      ·
       rw [show n1 = (X ++ [y ++ g]).length by rw [HN1L.out]; simp]
      ·
       have h := hn6
       rw [show (rows ++ [[Value.slice none 0 0]]).set X.length [Value.slice A5 (y ++ g).length c5] = rows0 ++ [[Value.slice A5 (y ++ g).length c5]] by rw [HRW.out, ← HL0.out]; simp, show n1 = (X ++ [y ++ g]).length by rw [HN1L.out]; simp] at h
       exact Kd.N_mono h (fun k hk => by injection hk with hk; rw [hk]; exact HBO.out.1)
      ·
       have hp := HPX.out
       rw [HRW.out] at hp
       have h5 := hn5.out
       have h6 := hg6
       rw [show gO = ag.block by rw [HAG.out]] at h6
       exact Pcs.grown hp (below_step B2l.out hb4.out) (fun k hk => Kd.N_base HLN2.out k hk) hgr5.out h5 (fun k hk => hk) h6
      ·
       exact B5.out.grown hg6 (by have h := B5.out.size; omega) (fun k hk => by injection hk with hk; have h := HBO.out.1; rw [HAG.out] at h; show _ ≤ k; rw [← hk]; exact h)
    ·
     have hd := eq_false hgt
     have HPE := Aside0.mk (show pieceE most X g = X0 ++ [x ++ g] by rw [HXE.out]; unfold pieceE; simp [hgt])
     clear hgt
     go_upto_region 7 with (fail)
     refine s_ 18 [] (fun w' => w'.cell? (ag.add X0.length) = some (.slice Al x.length cl) ∧ w'.cell? (gd.add m) = some (.slice Ag0 g.length cg0)) (hS := ⟨hcl, hcg⟩) (h := fun hHeld => ?_)
     have Bw7 := Aside0.mk (show Below wr.heap.size wr wr.drew from below_drew (Below.refl _ _))
     clear hcl hcg
     generalize wr.drew = w7 at hHeld Bw7 ⊢
     refine p_ 0 19 (bb 18 1) (h := ?_)
     refine p_ 1 20 (bb 18 3) (h := ?_)
     refine p_ 2 21 (bb 18 7) (h := ?_)
     refine p_ 3 22 (bb 18 15) (h := ?_)
     refine p_ 4 23 (bb 18 31) (h := ?_)
     refine p_ 5 24 (bb 18 63) (h := ?_)
     refine p_ 6 25 (bb 18 127) (h := ?_)
     refine t_ 7 26 (bb 18 255) hHeld (h := ?_)
     refine p_ 8 27 (bb 18 511) (h := ?_)
     refine p_ 9 28 (bb 18 1023) (h := ?_)
     refine p_ 10 29 (bb 18 2047) (h := ?_)
     refine p_ 11 30 (bb 18 4095) (h := ?_)
     refine t_ 12 31 (bb 18 8191) hHeld (h := ?_)
     refine p_ 13 32 (bb 18 16383) (h := ?_)
     refine p_ 14 33 (bb 18 32767) (h := ?_)
     refine p_ 15 34 (bb 18 65535) (h := ?_)
     refine p_ 16 35 (bb 18 131071) (h := ?_)
     refine p_ 17 36 (bb 18 262143) (h := ?_)
     refine d_ (h := ?_)
     clear hHeld hz hs hd
     have HB1 := Aside0.mk (below_step HB1.out Bw7.out)
     have HLN2 := Aside0.mk (Kd.N_below HLN2.out Bw7.out)
     have HNR := Aside0.mk (Kd.N_below HNR.out Bw7.out)
     have HP1 := Aside0.mk (HP1.out.below Bw7.out)
     have HPX := Aside0.mk (HPX.out.below Bw7.out)
     have HCL := Aside0.mk (cell_below_ HCL.out Bw7.out)
     have HBO := Aside0.mk (show w1.heap.size ≤ ag.block ∧ ag.block < w7.heap.size by have h := HBO.out; have h2 := Bw7.out.size; exact ⟨h.1, by omega⟩)
     go_upto_region 10 with (fail)
     refine s_ 16 [15] (fun w' => w'.cell? (ag.add X0.length) = some (.slice Al x.length cl) ∧ w'.cell? (gd.add m) = some (.slice Ag0 g.length cg0)) (hS := ⟨cell_below_ HCL.out (below_drew (Below.refl _ _)), cell_below_ HCG.out (below_drew HB1.out)⟩) (h := fun hHeld => ?_)
     have B2l := Aside0.mk (show Below w7.heap.size w7 w7.drew from below_drew (Below.refl _ _))
     have B2 := Aside0.mk (show Below w1.heap.size w1 w7.drew from below_drew HB1.out)
     generalize w7.drew = w2 at B2 B2l hHeld ⊢
     refine p_ 0 42 (bb 16 1) (h := ?_)
     refine p_ 1 43 (bb 16 3) (h := ?_)
     refine p_ 2 44 (bb 16 7) (h := ?_)
     refine p_ 3 45 (bb 16 15) (h := ?_)
     refine p_ 4 46 (bb 16 31) (h := ?_)
     refine p_ 5 47 (bb 16 63) (h := ?_)
     refine p_ 6 48 (bb 16 127) (h := ?_)
     refine t_ 7 49 (bb 16 255) hHeld (h := ?_)
     refine p_ 8 50 (bb 16 511) (h := ?_)
     refine p_ 9 51 (bb 16 1023) (h := ?_)
     refine p_ 10 52 (bb 16 2047) (h := ?_)
     refine t_ 11 53 (bb 16 4095) hHeld (h := ?_)
     refine n_ 12 54 (bb 16 8191) (h := fun K hK => ?_)
     refine goes_ Try.func38 (by kernel_rfl) rfl #[.slice Ag0 g.length cg0] (by rfl) rfl rfl (by (try simp only [List.map_toArray, List.map_cons, List.map_nil]); first | done | rfl) ?_
     refine (rcopies_calls (Kd.F_now (Kd.F_below HFG.out B2.out)) HLG.out HGG.out).mono ?_
     rintro ex w4 ⟨v4, rfl, hn4, hb4⟩
     refine ⟨_, rfl, ?_⟩
     obtain ⟨A4q, c4q, rfl⟩ := Kd.N_slice hn4
     have hn4 := Aside0.mk hn4
     have hb4 := Aside0.mk hb4
     refine hK.out _ _ ⟨pw_cell_below hb4.out hHeld.1, pw_cell_below hb4.out hHeld.2⟩ (fun hHeld => ?_)
     clear hK K
     refine m_ 54 (h := ?_)
     refine n_ 13 55 (bb 16 16383) (h := fun K hK => ?_)
     refine Kd.N_append_rows_step k36 (w0 := w4) T (by rfl) (.tmp 49) (.tmp 54) 24 36 (.agg #[.slice none 0 0, .int .i64 0, .bool false, .slice none 0 0]) 64 rfl Try.underlying24 info36 rfl (by decide) (by omega) (.slice Al x.length cl) x g _ _ _ (fun k => some k ≠ some ag.block) (fun k => w2.heap.size ≤ k) rfl rfl ?aO ?aR ?aH ?aF ?aB ?aS ?aL ?_
     case aO => exact Kd.N_below (Kd.N_below HLN2.out B2l.out) hb4.out
     case aR => exact Kd.N_F hn4.out
     case aH => exact fun k hk => ⟨fun he => (by injection he with he; have h1 := HBO.out; have h3 := B2l.out.size; have h4 : w2.heap.size ≤ k := hk; omega), fun he => (by have h2 := Kd.N_lt HLN2.out k he.symm; have h4 := B2l.out.size; have h5 : w2.heap.size ≤ k := hk; omega)⟩
     case aF => exact fun k hk he => by injection he with he; have h1 := HBO.out; have h2 := B2l.out.size; have h3 := hb4.out.size; omega
     case aB => exact Below.refl _ _
     case aS => have h1 := HP1.out.hi; have h2 := B2l.out.size; have h3 := hb4.out.size; omega
     case aL => have h1 := HXG.out; omega
     intro v5 w5 hn5 hb5 hgr5 hat5
     have hn5 := Aside0.mk hn5
     have hgr5 := Aside0.mk hgr5
     have N5 := Aside0.mk (Kd.N_grown (Kd.N_below (Kd.N_below HNR.out B2l.out) hb4.out) hgr5.out (fun k hk he => HVU.out k hk he))
     have B5 := Aside0.mk (show Below w1.heap.size w1 w5 from below_lower2 (below_step B2.out hb4.out) hb5 HLO.out)
     clear hb5 hat5
     obtain ⟨A5, c5, e5⟩ := Kd.N_slice hn5.out
     subst e5
     have hc5 := Aside0.mk (raw_cell N5.out HR0.out)
     refine hK.out _ _ ⟨hc5.out, cell_below_ HCG.out B5.out⟩ (fun hHeld => ?_)
     clear hK K
     refine m_ 55 (h := ?_)
     refine p_ 14 56 (bb 16 32767) (h := ?_)
     refine lN_ 15 (bb 16 65535) 24 (.tmp 56) (.tmp 55) X0.length HAG.out N5.out HXL2.out (u := .slice A5 (x ++ g).length c5) (FK_raw1 (u := .slice A5 (x ++ g).length c5) rfl) (fun k hk => False.elim hk) ht24 rfl (by rfl) (by rfl) (by kernel_rfl) (by decide) (by rfl) rfl (by show _ = Value.pointer (some (ag.add (X0.length * 1))); rw [Nat.mul_one]; rfl) rfl (fun w6 hn6 hg6 => ?_)
     refine d_ (h := ?_)
     go_wp2
     go_roundg k1
     case measure => exact Nat.lt_succ_self _
     case rel =>
      refine ⟨m + 1, X0 ++ [x ++ g], rows0 ++ [[.slice A5 (x ++ g).length c5]], T, some ag, cv, ?_, by first | rfl | rw [HWK.out], ⟨by have h := HK.out; omega⟩, ⟨by rw [HFT.out, HX.out]; exact HPE.out⟩, ⟨?_⟩, ⟨?_⟩, ⟨?_⟩⟩
      ·
       rw [show X.length = (X0 ++ [x ++ g]).length by rw [HN1L.out]; simp]
      ·
       have h := hn6
       rw [show (rows).set X0.length [Value.slice A5 (x ++ g).length c5] = rows0 ++ [[Value.slice A5 (x ++ g).length c5]] by rw [HRW.out, ← HL0.out]; simp, show X.length = (X0 ++ [x ++ g]).length by rw [HN1L.out]; simp] at h
       exact Kd.N_mono h (fun k hk => by injection hk with hk; rw [hk]; exact HBO.out.1)
      ·
       have hp := HPX.out
       rw [HRW.out] at hp
       have h5 := hn5.out
       have h6 := hg6
       rw [show gO = ag.block by rw [HAG.out]] at h6
       exact Pcs.grown hp (below_step B2l.out hb4.out) (fun k hk => Kd.N_base HLN2.out k hk) hgr5.out h5 (fun k hk => hk) h6
      ·
       exact B5.out.grown hg6 (by have h := B5.out.size; omega) (fun k hk => by injection hk with hk; have h := HBO.out.1; rw [HAG.out] at h; show _ ≤ k; rw [← hk]; exact h)
end Go.Proofs.Ytobjkjmmkbhecaa.Sk
