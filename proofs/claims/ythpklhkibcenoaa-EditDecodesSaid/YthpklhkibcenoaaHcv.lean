/- Notes turned by hand. Conditions: those of each theorem. -/
import Derived.Test.YthpklhkibcenoaaCore
import Derived.Test.YthpklhkibcenoaaHap
import Derived.Test.YthpklhkibcenoaaHde
import Derived.Test.YthpklhkibcenoaaHso
import Derived.Test.YthpklhkibcenoaaHto
import Derived.Test.YthpklhkibcenoaaME
import Derived.Test.YthpklhkibcenoaaPx0
namespace Go.Proofs.Ythpklhkibcenoaa.Sk
open Go.RowKit Go.Proofs.YthpklhkibcenoaaW.PrintWords Go.Proofs.YthpklhkibcenoaaW.PrintLast Go.Proofs.YthpklhkibcenoaaW.PrintMore Go.Proofs.Ythpklhkibcenoaa.Px Go.Proofs.Ythpklhkibcenoaa.Sw
set_option linter.unusedVariables false
set_option linter.unusedSimpArgs false
theorem at_FR {W : World} {A : Option Addr} {n : Nat} {ok : Nat → Prop} {xs : List S37} (h : Kd.F k37 W ok A n xs) (i : Nat) (e : S37) (he : xs[i]? = some e) :
  ∃ ad A3 c3 A4 c4, A = some ad ∧ W.cell? (ad.add (i * 5)) = some (.int .i64 e.f0) ∧ W.cell? ⟨(ad.add (i * 5)).block, (ad.add (i * 5)).off + 1, none⟩ = some (.int .i64 e.f1) ∧ W.cell? ⟨(ad.add (i * 5)).block, (ad.add (i * 5)).off + 2, none⟩ = some (.int .i64 e.f2) ∧ W.cell? ⟨(ad.add (i * 5)).block, (ad.add (i * 5)).off + 3, none⟩ = some (.slice A3 e.f3.length c3) ∧ W.cell? ⟨(ad.add (i * 5)).block, (ad.add (i * 5)).off + 4, none⟩ = some (.slice A4 e.f4.length c4) ∧
   e.f3.length ≤ c3 ∧ Kd.F (Kd.int .u8) W ok A3 e.f3.length e.f3 ∧ e.f4.length ≤ c4 ∧ Kd.F (Kd.int .u8) W ok A4 e.f4.length e.f4 := by
 have hn := (Kd.F_now h).1
 have hi : i < xs.length := (List.getElem?_eq_some_iff.1 he).1
 obtain ⟨ad, c, e0, _, hK, hc0, _⟩ := Kd.F_get h e (i : Int) (by omega) (by omega)
 rw [Int.toNat_natCast, List.getD_eq_getElem?_getD, he] at hK
 replace hK : Kd.FK k37 W ok e c := hK
 obtain ⟨A3, c3, A4, c4, rfl, l3, g3, l4, g4⟩ := k37_openF hK
 have hc : ∀ j u, ([.int .i64 e.f0, .int .i64 e.f1, .int .i64 e.f2, .slice A3 e.f3.length c3, .slice A4 e.f4.length c4] : List Value)[j]? = some u → W.cell? (ad.add (i * 5 + j)) = some u := by
  intro j u hu
  have := hc0 j u hu
  rwa [Int.toNat_natCast] at this
 exact ⟨ad, A3, c3, A4, c4, e0, hc 0 _ rfl, by rw [← add_field _ _ 1 (by omega)]; exact hc 1 _ rfl, by rw [← add_field _ _ 2 (by omega)]; exact hc 2 _ rfl, by rw [← add_field _ _ 3 (by omega)]; exact hc 3 _ rfl, by rw [← add_field _ _ 4 (by omega)]; exact hc 4 _ rfl, l3, g3, l4, g4⟩
theorem build1A_run {f : Operand → Value} {o : Oper} {x : Operand} {W : World} {n0 n1 n2 : Int} {A3 A4 : Option Addr} {l3 c3 l4 c4 : Nat} (ho : o.op = .buildSlice 26 1 #[(0, x)]) (hv : f x = .agg #[.int .i64 n0, .int .i64 n1, .int .i64 n2, .slice A3 l3 c3, .slice A4 l4 c4]) :
  (execOp f o).run Try.prog W = .ok (.value (.slice (some ⟨W.heap.size, 0, none⟩) 1 1)) (W.alloc (.cells #[.int .i64 n0, .int .i64 n1, .int .i64 n2, .slice A3 l3 c3, .slice A4 l4 c4] 57 (0, 0))) := by
 have hu := Try.underlying26
 unfold execOp
 simp only [ho]
 go_simp
set_option maxHeartbeats 40000000 in
set_option maxRecDepth 100000 in
theorem metas_callsH {w : World} {A : Option Addr} {c : Nat} {okF : Nat → Prop} {l : List S37} {rs : List S57} (hr : rs = l.map toM) (hC : Kd.F k37 w okF A l.length l) (hl : l.length ≤ 1954687338211) :
  Calls Try.prog 13 #[.slice A l.length c] w fun ex w' => ∃ A' c', ex = .returned (.slice A' rs.length c') ∧ rs.length ≤ c' ∧ Kd.F k57 w' (fun k => (okF k ∧ k < w.heap.size) ∨ w.heap.size ≤ k) A' rs.length rs ∧ Below w.heap.size w w' := by
 have HC := Aside0.mk hC
 have HL := Aside0.mk hl
 clear hC hl
 go_enter Try.func13, Try.ntmps13
 go_wp2
 go_loopg [3, 4] l.length (fun kq v3 v4 w' => ∃ (pre post : List S37) (out : List S57) (Av : Option Addr) (cv : Nat), v3 = .slice Av out.length cv ∧ v4 = .int .i64 (pre.length : Int) ∧ Aside0 (kq = post.length) ∧ Aside0 (l = pre ++ post) ∧ Aside0 (Kd.N k57 57 w' w.heap.size (fun k => (okF k ∧ k < w.heap.size) ∨ w.heap.size ≤ k) (.slice Av out.length cv) out) ∧ Aside0 (out = pre.map toM) ∧ Aside0 (Below w.heap.size w w'))
 case atStart => exact ⟨[], l, [], none, 0, rfl, rfl, ⟨rfl⟩, ⟨rfl⟩, ⟨Kd.N_nil _ _ _ _ _⟩, ⟨rfl⟩, ⟨Below.refl _ _⟩⟩
 case round =>
  obtain ⟨pre, post, out, Av, cv, rfl, rfl, HK, HP, HN, HO, HB⟩ := hrel
  cases gk with
  | zero =>
   have HPE := Aside0.mk (show l = pre by rw [HP.out, List.length_eq_zero_iff.1 HK.out.symm, List.append_nil])
   have hlt : (pre.length < l.length) = False := eq_false (by rw [HPE.out]; omega)
   go_wp2
   go_ret
   have e := HPE.out
   subst e
   have e2 := hr.trans HO.out.symm
   subst e2
   exact ⟨Av, cv, rfl, (Kd.N_reads' HN.out).2.1, Kd.N_F HN.out, HB.out⟩
  | succ k1 =>
   obtain ⟨m, post', rfl⟩ : ∃ m p, post = m :: p := by
    cases post with
    | nil => exact absurd HK.out (by simp)
    | cons m p => exact ⟨m, p, rfl⟩
   have hlt : (pre.length < l.length) = True := eq_true (by rw [HP.out]; simp)
   have HPL := Aside0.mk (show pre.length < l.length by rw [HP.out]; simp)
   have HWK := Aside0.mk (wadd1 (x := pre.length) (z := pre.length + 1) rfl (by have h1 := HPL.out; have h2 := HL.out; omega))
   have HPX := Aside0.mk (show l = pre ++ [m] ++ post' by rw [HP.out]; simp)
   obtain ⟨ad, M3, e3, M4, e4, hA, h0, h1, h2, h3, h4, hE_⟩ := at_FR HC.out pre.length m (by rw [HP.out]; exact get_app _ _ _)
   subst hA
   have HE := Aside0.mk hE_
   have hd0 := Aside0.mk h0
   have hd1 := Aside0.mk h1
   have hd2 := Aside0.mk h2
   have hd3 := Aside0.mk h3
   have hd4 := Aside0.mk h4
   clear hE_ h0 h1 h2 h3 h4
   go_upto_region 5 with (fail)
   refine s_ 30 [] (fun w' => w'.cell? (ad.add (pre.length * 5)) = some (.int .i64 m.f0) ∧ w'.cell? ⟨(ad.add (pre.length * 5)).block, (ad.add (pre.length * 5)).off + 1, none⟩ = some (.int .i64 m.f1) ∧ w'.cell? ⟨(ad.add (pre.length * 5)).block, (ad.add (pre.length * 5)).off + 2, none⟩ = some (.int .i64 m.f2) ∧ w'.cell? ⟨(ad.add (pre.length * 5)).block, (ad.add (pre.length * 5)).off + 3, none⟩ = some (.slice M3 m.f3.length e3) ∧ w'.cell? ⟨(ad.add (pre.length * 5)).block, (ad.add (pre.length * 5)).off + 4, none⟩ = some (.slice M4 m.f4.length e4)) (hS := ⟨pw_cell_below (below_drew HB.out) hd0.out, pw_cell_below (below_drew HB.out) hd1.out, pw_cell_below (below_drew HB.out) hd2.out, pw_cell_below (below_drew HB.out) hd3.out, pw_cell_below (below_drew HB.out) hd4.out⟩) (h := fun hHeld => ?_)
   have N2 := Aside0.mk (Kd.N_drew HN.out)
   have B2 := Aside0.mk (below_drew HB.out)
   clear HN HB
   generalize wr.drew = w2 at N2 B2 hHeld ⊢
   refine p_ 0 11 (bb 30 1) (h := ?_)
   refine p_ 1 12 (bb 30 3) (h := ?_)
   refine p_ 2 13 (bb 30 7) (h := ?_)
   refine p_ 3 14 (bb 30 15) (h := ?_)
   refine p_ 4 15 (bb 30 31) (h := ?_)
   refine t_ 5 16 (bb 30 63) hHeld (h := ?_)
   refine p_ 6 17 (bb 30 127) (h := ?_)
   refine p_ 7 18 (bb 30 255) (h := ?_)
   refine p_ 8 19 (bb 30 511) (h := ?_)
   refine p_ 9 20 (bb 30 1023) (h := ?_)
   refine t_ 10 21 (bb 30 2047) hHeld (h := ?_)
   refine p_ 11 22 (bb 30 4095) (h := ?_)
   refine p_ 12 23 (bb 30 8191) (h := ?_)
   refine p_ 13 24 (bb 30 16383) (h := ?_)
   refine p_ 14 25 (bb 30 32767) (h := ?_)
   refine t_ 15 26 (bb 30 65535) hHeld (h := ?_)
   refine p_ 16 27 (bb 30 131071) (h := ?_)
   refine p_ 17 28 (bb 30 262143) (h := ?_)
   refine p_ 18 29 (bb 30 524287) (h := ?_)
   refine p_ 19 30 (bb 30 1048575) (h := ?_)
   refine t_ 20 31 (bb 30 2097151) hHeld (h := ?_)
   refine p_ 21 32 (bb 30 4194303) (h := ?_)
   refine p_ 22 33 (bb 30 8388607) (h := ?_)
   refine p_ 23 34 (bb 30 16777215) (h := ?_)
   refine p_ 24 35 (bb 30 33554431) (h := ?_)
   refine t_ 25 36 (bb 30 67108863) hHeld (h := ?_)
   refine p_ 26 37 (bb 30 134217727) (h := ?_)
   refine n_ 27 38 (bb 30 268435455) (h := fun K hK => ?_)
   refine value_ (w1 := w2.alloc (.cells #[.int .i64 m.f0, .int .i64 m.f1, .int .i64 m.f2, .slice M3 m.f3.length e3, .slice M4 m.f4.length e4] 57 (0, 0))) (v := .slice (some ⟨w2.heap.size, 0, none⟩) 1 1) (by rfl) rfl (build1A_run (x := .tmp 37) rfl rfl) ?_
   refine hK.out _ _ ⟨pw_cell_below (below_alloc B2.out _) hd0.out, pw_cell_below (below_alloc B2.out _) hd1.out, pw_cell_below (below_alloc B2.out _) hd2.out, pw_cell_below (below_alloc B2.out _) hd3.out, pw_cell_below (below_alloc B2.out _) hd4.out⟩ (fun hHeld => ?_)
   clear hK K
   refine m_ 38 (h := ?_)
   refine n_ 28 39 (bb 30 536870911) (h := fun K hK => ?_)
   refine Kd.N_append_step k57 (w0 := w) w.heap.size (by rfl) (.tmp 11) (.tmp 38) 26 57 (.agg #[.int .i64 0, .int .i64 0, .int .i64 0, .slice none 0 0, .slice none 0 0]) 72 rfl Try.underlying26 info57 rfl (by decide) (by omega) (.slice Av out.length cv) out (toM m) [.int .i64 m.f0, .int .i64 m.f1, .int .i64 m.f2, .slice M3 m.f3.length e3, .slice M4 m.f4.length e4] (fun k => (okF k ∧ k < w.heap.size) ∨ w.heap.size ≤ k) (fun k => okF k ∧ k < w.heap.size) rfl rfl ?aP ?aH ?aF ?aO ?aB ?aS ?aL ?_
   case aP => exact k57_mkF _ _ (toM m) HE.out.1 (Kd.F_below (Kd.F_bound HE.out.2.1) B2.out) HE.out.2.2.1 (Kd.F_below (Kd.F_bound HE.out.2.2.2) B2.out)
   case aH => exact fun k hk => ⟨.inl hk, fun he => by have h1 := Kd.N_base N2.out k he.symm; have h2 := hk.2; omega⟩
   case aF => exact fun k hk => .inr (Nat.le_trans B2.out.size hk)
   case aO => exact N2.out
   case aB => exact B2.out
   case aS => exact B2.out.size
   case aL => have h1 := HPL.out; have h2 := HL.out; have h3 := congrArg List.length HO.out; rw [List.length_map] at h3; omega
   intro v3 w3 hn3 hb3 hgr3 hat3
   clear hgr3 hat3
   obtain ⟨A3v, c3v, rfl⟩ := Kd.N_slice hn3
   have N3 := Aside0.mk hn3
   have B3 := Aside0.mk hb3
   clear hn3 hb3
   refine hK.out _ _ ⟨pw_cell_below B3.out hd0.out, pw_cell_below B3.out hd1.out, pw_cell_below B3.out hd2.out, pw_cell_below B3.out hd3.out, pw_cell_below B3.out hd4.out⟩ (fun hHeld => ?_)
   clear hK K
   refine m_ 39 (h := ?_)
   refine p_ 29 3 (bb 30 1073741823) (h := ?_)
   refine d_ (h := ?_)
   go_wp2
   go_roundg k1
   case measure => exact Nat.lt_succ_self _
   case rel => exact ⟨pre ++ [m], post', out ++ [toM m], A3v, c3v, by rw [List.length_append]; rfl, by first | rfl | (rw [HWK.out, List.length_append]; rfl) | (rw [List.length_append]; rfl), ⟨by have h1 := HK.out; simp only [List.length_cons] at h1; omega⟩, ⟨HPX.out⟩, N3, ⟨by rw [HO.out]; simp⟩, ⟨B3.out⟩⟩
theorem at_FE {W : World} {A : Option Addr} {n : Nat} {ok : Nat → Prop} {xs : List S57} (h : Kd.F k57 W ok A n xs) (i : Nat) (e : S57) (he : xs[i]? = some e) :
  ∃ ad A3 c3 A4 c4, A = some ad ∧ W.cell? (ad.add (i * 5)) = some (.int .i64 e.f0) ∧ W.cell? ⟨(ad.add (i * 5)).block, (ad.add (i * 5)).off + 1, none⟩ = some (.int .i64 e.f1) ∧ W.cell? ⟨(ad.add (i * 5)).block, (ad.add (i * 5)).off + 2, none⟩ = some (.int .i64 e.f2) ∧ W.cell? ⟨(ad.add (i * 5)).block, (ad.add (i * 5)).off + 3, none⟩ = some (.slice A3 e.f3.length c3) ∧ W.cell? ⟨(ad.add (i * 5)).block, (ad.add (i * 5)).off + 4, none⟩ = some (.slice A4 e.f4.length c4) ∧
   e.f3.length ≤ c3 ∧ Kd.F (Kd.int .u8) W ok A3 e.f3.length e.f3 ∧ e.f4.length ≤ c4 ∧ Kd.F (Kd.int .u8) W ok A4 e.f4.length e.f4 := by
 have hn := (Kd.F_now h).1
 have hi : i < xs.length := (List.getElem?_eq_some_iff.1 he).1
 obtain ⟨ad, c, e0, _, hK, hc0, _⟩ := Kd.F_get h e (i : Int) (by omega) (by omega)
 rw [Int.toNat_natCast, List.getD_eq_getElem?_getD, he] at hK
 replace hK : Kd.FK k57 W ok e c := hK
 obtain ⟨A3, c3, A4, c4, rfl, l3, g3, l4, g4⟩ := k57_openF hK
 have hc : ∀ j u, ([.int .i64 e.f0, .int .i64 e.f1, .int .i64 e.f2, .slice A3 e.f3.length c3, .slice A4 e.f4.length c4] : List Value)[j]? = some u → W.cell? (ad.add (i * 5 + j)) = some u := by
  intro j u hu
  have := hc0 j u hu
  rwa [Int.toNat_natCast] at this
 exact ⟨ad, A3, c3, A4, c4, e0, hc 0 _ rfl, by rw [← add_field _ _ 1 (by omega)]; exact hc 1 _ rfl, by rw [← add_field _ _ 2 (by omega)]; exact hc 2 _ rfl, by rw [← add_field _ _ 3 (by omega)]; exact hc 3 _ rfl, by rw [← add_field _ _ 4 (by omega)]; exact hc 4 _ rfl, l3, g3, l4, g4⟩
theorem build1B_run {f : Operand → Value} {o : Oper} {x : Operand} {W : World} {n0 n1 n2 : Int} {A3 A4 : Option Addr} {l3 c3 l4 c4 : Nat} (ho : o.op = .buildSlice 22 1 #[(0, x)]) (hv : f x = .agg #[.int .i64 n0, .int .i64 n1, .int .i64 n2, .slice A3 l3 c3, .slice A4 l4 c4]) :
  (execOp f o).run Try.prog W = .ok (.value (.slice (some ⟨W.heap.size, 0, none⟩) 1 1)) (W.alloc (.cells #[.int .i64 n0, .int .i64 n1, .int .i64 n2, .slice A3 l3 c3, .slice A4 l4 c4] 37 (0, 0))) := by
 have hu := Try.underlying22
 unfold execOp
 simp only [ho]
 go_simp
set_option maxHeartbeats 40000000 in
set_option maxRecDepth 100000 in
theorem notes_callsH {w : World} {A : Option Addr} {c : Nat} {okF : Nat → Prop} {l : List S57} {rs : List S37} (hr : rs = l.map toR) (hC : Kd.F k57 w okF A l.length l) (hl : l.length ≤ 1954687338211) :
  Calls Try.prog 15 #[.slice A l.length c] w fun ex w' => ∃ A' c', ex = .returned (.slice A' rs.length c') ∧ rs.length ≤ c' ∧ Kd.F k37 w' (fun k => (okF k ∧ k < w.heap.size) ∨ w.heap.size ≤ k) A' rs.length rs ∧ Below w.heap.size w w' := by
 have HC := Aside0.mk hC
 have HL := Aside0.mk hl
 clear hC hl
 go_enter Try.func15, Try.ntmps15
 go_wp2
 go_loopg [3, 4] l.length (fun kq v3 v4 w' => ∃ (pre post : List S57) (out : List S37) (Av : Option Addr) (cv : Nat), v3 = .slice Av out.length cv ∧ v4 = .int .i64 (pre.length : Int) ∧ Aside0 (kq = post.length) ∧ Aside0 (l = pre ++ post) ∧ Aside0 (Kd.N k37 37 w' w.heap.size (fun k => (okF k ∧ k < w.heap.size) ∨ w.heap.size ≤ k) (.slice Av out.length cv) out) ∧ Aside0 (out = pre.map toR) ∧ Aside0 (Below w.heap.size w w'))
 case atStart => exact ⟨[], l, [], none, 0, rfl, rfl, ⟨rfl⟩, ⟨rfl⟩, ⟨Kd.N_nil _ _ _ _ _⟩, ⟨rfl⟩, ⟨Below.refl _ _⟩⟩
 case round =>
  obtain ⟨pre, post, out, Av, cv, rfl, rfl, HK, HP, HN, HO, HB⟩ := hrel
  cases gk with
  | zero =>
   have HPE := Aside0.mk (show l = pre by rw [HP.out, List.length_eq_zero_iff.1 HK.out.symm, List.append_nil])
   have hlt : (pre.length < l.length) = False := eq_false (by rw [HPE.out]; omega)
   go_wp2
   go_ret
   have e := HPE.out
   subst e
   have e2 := hr.trans HO.out.symm
   subst e2
   exact ⟨Av, cv, rfl, (Kd.N_reads' HN.out).2.1, Kd.N_F HN.out, HB.out⟩
  | succ k1 =>
   obtain ⟨m, post', rfl⟩ : ∃ m p, post = m :: p := by
    cases post with
    | nil => exact absurd HK.out (by simp)
    | cons m p => exact ⟨m, p, rfl⟩
   have hlt : (pre.length < l.length) = True := eq_true (by rw [HP.out]; simp)
   have HPL := Aside0.mk (show pre.length < l.length by rw [HP.out]; simp)
   have HWK := Aside0.mk (wadd1 (x := pre.length) (z := pre.length + 1) rfl (by have h1 := HPL.out; have h2 := HL.out; omega))
   have HPX := Aside0.mk (show l = pre ++ [m] ++ post' by rw [HP.out]; simp)
   obtain ⟨ad, M3, e3, M4, e4, hA, h0, h1, h2, h3, h4, hE_⟩ := at_FE HC.out pre.length m (by rw [HP.out]; exact get_app _ _ _)
   subst hA
   have HE := Aside0.mk hE_
   have hd0 := Aside0.mk h0
   have hd1 := Aside0.mk h1
   have hd2 := Aside0.mk h2
   have hd3 := Aside0.mk h3
   have hd4 := Aside0.mk h4
   clear hE_ h0 h1 h2 h3 h4
   go_upto_region 5 with (fail)
   refine s_ 30 [] (fun w' => w'.cell? (ad.add (pre.length * 5)) = some (.int .i64 m.f0) ∧ w'.cell? ⟨(ad.add (pre.length * 5)).block, (ad.add (pre.length * 5)).off + 1, none⟩ = some (.int .i64 m.f1) ∧ w'.cell? ⟨(ad.add (pre.length * 5)).block, (ad.add (pre.length * 5)).off + 2, none⟩ = some (.int .i64 m.f2) ∧ w'.cell? ⟨(ad.add (pre.length * 5)).block, (ad.add (pre.length * 5)).off + 3, none⟩ = some (.slice M3 m.f3.length e3) ∧ w'.cell? ⟨(ad.add (pre.length * 5)).block, (ad.add (pre.length * 5)).off + 4, none⟩ = some (.slice M4 m.f4.length e4)) (hS := ⟨pw_cell_below (below_drew HB.out) hd0.out, pw_cell_below (below_drew HB.out) hd1.out, pw_cell_below (below_drew HB.out) hd2.out, pw_cell_below (below_drew HB.out) hd3.out, pw_cell_below (below_drew HB.out) hd4.out⟩) (h := fun hHeld => ?_)
   have N2 := Aside0.mk (Kd.N_drew HN.out)
   have B2 := Aside0.mk (below_drew HB.out)
   clear HN HB
   generalize wr.drew = w2 at N2 B2 hHeld ⊢
   refine p_ 0 11 (bb 30 1) (h := ?_)
   refine p_ 1 12 (bb 30 3) (h := ?_)
   refine p_ 2 13 (bb 30 7) (h := ?_)
   refine p_ 3 14 (bb 30 15) (h := ?_)
   refine p_ 4 15 (bb 30 31) (h := ?_)
   refine t_ 5 16 (bb 30 63) hHeld (h := ?_)
   refine p_ 6 17 (bb 30 127) (h := ?_)
   refine p_ 7 18 (bb 30 255) (h := ?_)
   refine p_ 8 19 (bb 30 511) (h := ?_)
   refine p_ 9 20 (bb 30 1023) (h := ?_)
   refine t_ 10 21 (bb 30 2047) hHeld (h := ?_)
   refine p_ 11 22 (bb 30 4095) (h := ?_)
   refine p_ 12 23 (bb 30 8191) (h := ?_)
   refine p_ 13 24 (bb 30 16383) (h := ?_)
   refine p_ 14 25 (bb 30 32767) (h := ?_)
   refine t_ 15 26 (bb 30 65535) hHeld (h := ?_)
   refine p_ 16 27 (bb 30 131071) (h := ?_)
   refine p_ 17 28 (bb 30 262143) (h := ?_)
   refine p_ 18 29 (bb 30 524287) (h := ?_)
   refine p_ 19 30 (bb 30 1048575) (h := ?_)
   refine t_ 20 31 (bb 30 2097151) hHeld (h := ?_)
   refine p_ 21 32 (bb 30 4194303) (h := ?_)
   refine p_ 22 33 (bb 30 8388607) (h := ?_)
   refine p_ 23 34 (bb 30 16777215) (h := ?_)
   refine p_ 24 35 (bb 30 33554431) (h := ?_)
   refine t_ 25 36 (bb 30 67108863) hHeld (h := ?_)
   refine p_ 26 37 (bb 30 134217727) (h := ?_)
   refine n_ 27 38 (bb 30 268435455) (h := fun K hK => ?_)
   refine value_ (w1 := w2.alloc (.cells #[.int .i64 m.f0, .int .i64 m.f1, .int .i64 m.f2, .slice M3 m.f3.length e3, .slice M4 m.f4.length e4] 37 (0, 0))) (v := .slice (some ⟨w2.heap.size, 0, none⟩) 1 1) (by rfl) rfl (build1B_run (x := .tmp 37) rfl rfl) ?_
   refine hK.out _ _ ⟨pw_cell_below (below_alloc B2.out _) hd0.out, pw_cell_below (below_alloc B2.out _) hd1.out, pw_cell_below (below_alloc B2.out _) hd2.out, pw_cell_below (below_alloc B2.out _) hd3.out, pw_cell_below (below_alloc B2.out _) hd4.out⟩ (fun hHeld => ?_)
   clear hK K
   refine m_ 38 (h := ?_)
   refine n_ 28 39 (bb 30 536870911) (h := fun K hK => ?_)
   refine Kd.N_append_step k37 (w0 := w) w.heap.size (by rfl) (.tmp 11) (.tmp 38) 22 37 (.agg #[.int .i64 0, .int .i64 0, .int .i64 0, .slice none 0 0, .slice none 0 0]) 72 rfl Try.underlying22 info37 rfl (by decide) (by omega) (.slice Av out.length cv) out (toR m) [.int .i64 m.f0, .int .i64 m.f1, .int .i64 m.f2, .slice M3 m.f3.length e3, .slice M4 m.f4.length e4] (fun k => (okF k ∧ k < w.heap.size) ∨ w.heap.size ≤ k) (fun k => okF k ∧ k < w.heap.size) rfl rfl ?aP ?aH ?aF ?aO ?aB ?aS ?aL ?_
   case aP => exact k37_mkF _ _ (toR m) HE.out.1 (Kd.F_below (Kd.F_bound HE.out.2.1) B2.out) HE.out.2.2.1 (Kd.F_below (Kd.F_bound HE.out.2.2.2) B2.out)
   case aH => exact fun k hk => ⟨.inl hk, fun he => by have h1 := Kd.N_base N2.out k he.symm; have h2 := hk.2; omega⟩
   case aF => exact fun k hk => .inr (Nat.le_trans B2.out.size hk)
   case aO => exact N2.out
   case aB => exact B2.out
   case aS => exact B2.out.size
   case aL => have h1 := HPL.out; have h2 := HL.out; have h3 := congrArg List.length HO.out; rw [List.length_map] at h3; omega
   intro v3 w3 hn3 hb3 hgr3 hat3
   clear hgr3 hat3
   obtain ⟨A3v, c3v, rfl⟩ := Kd.N_slice hn3
   have N3 := Aside0.mk hn3
   have B3 := Aside0.mk hb3
   clear hn3 hb3
   refine hK.out _ _ ⟨pw_cell_below B3.out hd0.out, pw_cell_below B3.out hd1.out, pw_cell_below B3.out hd2.out, pw_cell_below B3.out hd3.out, pw_cell_below B3.out hd4.out⟩ (fun hHeld => ?_)
   clear hK K
   refine m_ 39 (h := ?_)
   refine p_ 29 3 (bb 30 1073741823) (h := ?_)
   refine d_ (h := ?_)
   go_wp2
   go_roundg k1
   case measure => exact Nat.lt_succ_self _
   case rel => exact ⟨pre ++ [m], post', out ++ [toR m], A3v, c3v, by rw [List.length_append]; rfl, by first | rfl | (rw [HWK.out, List.length_append]; rfl) | (rw [List.length_append]; rfl), ⟨by have h1 := HK.out; simp only [List.length_cons] at h1; omega⟩, ⟨HPX.out⟩, N3, ⟨by rw [HO.out]; simp⟩, ⟨B3.out⟩⟩
set_option maxHeartbeats 40000000 in
set_option maxRecDepth 100000 in
theorem mine_callsH {w : World} (g n s q : Int) {A : Option Addr} {c : Nat} {l : List S37} {rs : List S57} (hr : rs = l.map toM) (hC : Kd.C k37 w A l.length l) (hl : l.length ≤ 1954687338211) :
  Calls Try.prog 12 #[.agg #[.int .i64 g, .int .i64 n, .int .i64 s, .int .i64 q, .slice A l.length c]] w fun ex w' => ∃ A' c', ex = .returned (.agg #[.int .i64 g, .int .i64 n, .int .i64 s, .int .i64 q, .slice A' rs.length c']) ∧ rs.length ≤ c' ∧ Kd.C k57 w' A' rs.length rs ∧ Below w.heap.size w w' := by
 have huA := Try.underlying24
 have huB := Try.underlying28
 have HC := Aside0.mk hC
 have HR := Aside0.mk hr
 have HL := Aside0.mk hl
 clear hC hl hr
 go_enter Try.func12, Try.ntmps12
 go_upto_region 1 with (first
  | ((with_reducible refine gate_dst (N := 1) rfl ?_); (try (refine gate_guard (by rfl) ?_; dsimp only)); refine box_event ?hg (N := 1) ?hd (cs := #[.int .i64 g, .int .i64 n, .int .i64 s, .int .i64 q, .slice A l.length c]) (t := 24) ?hr ?_; (case hd => rfl); (case hg => rfl); (case hr => first | (go_simp; done) | (go_simp; rfl)); intro g1 hqg1 w1 hxg1 hbg1; have n_ := Aside0.mk hqg1; clear hqg1; have hqg1 := n_; clear n_; have n_ := Aside0.mk hxg1; clear hxg1; have hxg1 := n_; clear n_; have n_ := Aside0.mk hbg1; clear hbg1; have hbg1 := n_; clear n_)
  | ((with_reducible refine gate_dst (N := 2) rfl ?_); (try (refine gate_guard (by rfl) ?_; dsimp only)); refine box_event ?hg (N := 2) ?hd (cs := #[.int .i64 0, .int .i64 0, .int .i64 0, .int .i64 0, .slice none 0 0]) (t := 28) ?hr ?_; (case hd => rfl); (case hg => rfl); (case hr => first | (go_simp; done) | (go_simp; rfl)); intro g2 hqg2 w2 hxg2 hbg2; have n_ := Aside0.mk hqg2; clear hqg2; have hqg2 := n_; clear n_; have n_ := Aside0.mk hxg2; clear hxg2; have hxg2 := n_; clear n_; have n_ := Aside0.mk hbg2; clear hbg2; have hbg2 := n_; clear n_; have X2 := Aside0.mk (blk_below hxg1.out hbg2.out); have B2 := Aside0.mk (below_step hbg1.out hbg2.out); have Q2 := Aside0.mk (show w.heap.size ≤ g2 by have h := hqg2.out; have h1 := hbg1.out.size; omega)))
 refine s_ 13 [12] (fun w' => w'.cell? ⟨g1, 0, none⟩ = some (.int .i64 g) ∧ w'.cell? ⟨g1, 1, none⟩ = some (.int .i64 n) ∧ w'.cell? ⟨g1, 2, none⟩ = some (.int .i64 s) ∧ w'.cell? ⟨g1, 3, none⟩ = some (.int .i64 q) ∧ w'.cell? ⟨g1, 4, none⟩ = some (.slice A l.length c)) (hS := ⟨(blk_cell (blk_drew X2.out) 0).trans rfl, (blk_cell (blk_drew X2.out) 1).trans rfl, (blk_cell (blk_drew X2.out) 2).trans rfl, (blk_cell (blk_drew X2.out) 3).trans rfl, (blk_cell (blk_drew X2.out) 4).trans rfl⟩) (h := fun hHeld => ?_)
 have X3 := Aside0.mk (blk_drew X2.out)
 have Z3 := Aside0.mk (blk_drew hxg2.out)
 have B3 := Aside0.mk (below_drew B2.out)
 clear X2 B2 hxg1 hxg2 hbg1 hbg2 hqg1 hqg2
 generalize w2.drew = w3 at X3 Z3 B3 hHeld ⊢
 refine p_ 0 3 (bb 13 1) (h := ?_)
 refine t_ 1 4 (bb 13 3) hHeld (h := ?_)
 refine p_ 2 5 (bb 13 7) (h := ?_)
 refine t_ 3 6 (bb 13 15) hHeld (h := ?_)
 refine p_ 4 7 (bb 13 31) (h := ?_)
 refine t_ 5 8 (bb 13 63) hHeld (h := ?_)
 refine p_ 6 9 (bb 13 127) (h := ?_)
 refine t_ 7 10 (bb 13 255) hHeld (h := ?_)
 refine p_ 8 11 (bb 13 511) (h := ?_)
 refine t_ 9 12 (bb 13 1023) hHeld (h := ?_)
 refine n_ 10 13 (bb 13 2047) (h := fun K hK => ?_)
 refine goes_ Try.func13 (by kernel_rfl) rfl #[.slice A l.length c] (by rfl) rfl rfl (by (try simp only [List.map_toArray, List.map_cons, List.map_nil]); first | done | rfl) ?_
 refine (metas_callsH HR.out (Kd.F_below (Kd.C_F k37_heap HC.out) B3.out) HL.out).mono ?_
 rintro ex w4 ⟨Av, cv, rfl, hl4, hc4, hb4⟩
 refine ⟨_, rfl, ?_⟩
 have X4 := Aside0.mk (blk_below X3.out hb4)
 have Z4 := Aside0.mk (blk_below Z3.out hb4)
 have B4 := Aside0.mk (below_step B3.out hb4)
 have L4 := Aside0.mk hl4
 have C4 := Aside0.mk (Kd.F_mono hc4 (fun k hk => (show k ≠ g2 by have h := blk_lt Z3.out; have h2 := Q2.out; rcases hk with hk | hk <;> omega)))
 clear hl4 hc4 hb4
 refine hK.out _ _ ⟨(blk_cell X4.out 0).trans rfl, (blk_cell X4.out 1).trans rfl, (blk_cell X4.out 2).trans rfl, (blk_cell X4.out 3).trans rfl, (blk_cell X4.out 4).trans rfl⟩ (fun hHeld => ?_)
 clear hK K
 refine m_ 13 (h := ?_)
 have hcz0 : w4.cell? ⟨g2, 0, none⟩ = some (.int .i64 0) := (blk_cell Z4.out 0).trans rfl
 have hcz1 : w4.cell? ⟨g2, 1, none⟩ = some (.int .i64 0) := (blk_cell Z4.out 1).trans rfl
 have hcz2 : w4.cell? ⟨g2, 2, none⟩ = some (.int .i64 0) := (blk_cell Z4.out 2).trans rfl
 have hcz3 : w4.cell? ⟨g2, 3, none⟩ = some (.int .i64 0) := (blk_cell Z4.out 3).trans rfl
 have hcz4 : w4.cell? ⟨g2, 4, none⟩ = some (.slice none 0 0) := (blk_cell Z4.out 4).trans rfl
 have hfz0 : w4.frozen? ⟨g2, 0, none⟩ = false := blk_frozen Z4.out 0
 have hfz1 : w4.frozen? ⟨g2, 1, none⟩ = false := blk_frozen Z4.out 1
 have hfz2 : w4.frozen? ⟨g2, 2, none⟩ = false := blk_frozen Z4.out 2
 have hfz3 : w4.frozen? ⟨g2, 3, none⟩ = false := blk_frozen Z4.out 3
 have hfz4 : w4.frozen? ⟨g2, 4, none⟩ = false := blk_frozen Z4.out 4
 refine p_ 11 14 (bb 13 4095) (h := ?_)
 refine l_ 12 (bb 13 8191) (h := ?_)
 refine d_ (h := ?_)
 clear hHeld
 go_wp2
 refine bodyPost_ret (results_cell_row rfl _ _ g2 28 _ (0, 0) _ rfl (setsE Z4.out) Try.underlying28 rfl (by kernel_rfl)) rfl ?_
 exact ⟨Av, cv, rfl, L4.out, Kd.F_now (Kd.F_keep C4.out (keep5 _ _ _ _ _ _ _) (fun k hk => hk)), below5 _ _ _ _ _ B4.out Q2.out⟩
set_option maxHeartbeats 40000000 in
set_option maxRecDepth 100000 in
theorem theirs_callsH {w : World} (g n s q : Int) {A : Option Addr} {c : Nat} {l : List S57} {rs : List S37} (hr : rs = l.map toR) (hC : Kd.C k57 w A l.length l) (hl : l.length ≤ 1954687338211) :
  Calls Try.prog 26 #[.agg #[.int .i64 g, .int .i64 n, .int .i64 s, .int .i64 q, .slice A l.length c]] w fun ex w' => ∃ A' c', ex = .returned (.agg #[.int .i64 g, .int .i64 n, .int .i64 s, .int .i64 q, .slice A' rs.length c']) ∧ rs.length ≤ c' ∧ Kd.C k37 w' A' rs.length rs ∧ Below w.heap.size w w' := by
 have huA := Try.underlying28
 have huB := Try.underlying24
 have HC := Aside0.mk hC
 have HR := Aside0.mk hr
 have HL := Aside0.mk hl
 clear hC hl hr
 go_enter Try.func26, Try.ntmps26
 go_upto_region 1 with (first
  | ((with_reducible refine gate_dst (N := 1) rfl ?_); (try (refine gate_guard (by rfl) ?_; dsimp only)); refine box_event ?hg (N := 1) ?hd (cs := #[.int .i64 g, .int .i64 n, .int .i64 s, .int .i64 q, .slice A l.length c]) (t := 28) ?hr ?_; (case hd => rfl); (case hg => rfl); (case hr => first | (go_simp; done) | (go_simp; rfl)); intro g1 hqg1 w1 hxg1 hbg1; have n_ := Aside0.mk hqg1; clear hqg1; have hqg1 := n_; clear n_; have n_ := Aside0.mk hxg1; clear hxg1; have hxg1 := n_; clear n_; have n_ := Aside0.mk hbg1; clear hbg1; have hbg1 := n_; clear n_)
  | ((with_reducible refine gate_dst (N := 2) rfl ?_); (try (refine gate_guard (by rfl) ?_; dsimp only)); refine box_event ?hg (N := 2) ?hd (cs := #[.int .i64 0, .int .i64 0, .int .i64 0, .int .i64 0, .slice none 0 0]) (t := 24) ?hr ?_; (case hd => rfl); (case hg => rfl); (case hr => first | (go_simp; done) | (go_simp; rfl)); intro g2 hqg2 w2 hxg2 hbg2; have n_ := Aside0.mk hqg2; clear hqg2; have hqg2 := n_; clear n_; have n_ := Aside0.mk hxg2; clear hxg2; have hxg2 := n_; clear n_; have n_ := Aside0.mk hbg2; clear hbg2; have hbg2 := n_; clear n_; have X2 := Aside0.mk (blk_below hxg1.out hbg2.out); have B2 := Aside0.mk (below_step hbg1.out hbg2.out); have Q2 := Aside0.mk (show w.heap.size ≤ g2 by have h := hqg2.out; have h1 := hbg1.out.size; omega)))
 refine s_ 13 [12] (fun w' => w'.cell? ⟨g1, 0, none⟩ = some (.int .i64 g) ∧ w'.cell? ⟨g1, 1, none⟩ = some (.int .i64 n) ∧ w'.cell? ⟨g1, 2, none⟩ = some (.int .i64 s) ∧ w'.cell? ⟨g1, 3, none⟩ = some (.int .i64 q) ∧ w'.cell? ⟨g1, 4, none⟩ = some (.slice A l.length c)) (hS := ⟨(blk_cell (blk_drew X2.out) 0).trans rfl, (blk_cell (blk_drew X2.out) 1).trans rfl, (blk_cell (blk_drew X2.out) 2).trans rfl, (blk_cell (blk_drew X2.out) 3).trans rfl, (blk_cell (blk_drew X2.out) 4).trans rfl⟩) (h := fun hHeld => ?_)
 have X3 := Aside0.mk (blk_drew X2.out)
 have Z3 := Aside0.mk (blk_drew hxg2.out)
 have B3 := Aside0.mk (below_drew B2.out)
 clear X2 B2 hxg1 hxg2 hbg1 hbg2 hqg1 hqg2
 generalize w2.drew = w3 at X3 Z3 B3 hHeld ⊢
 refine p_ 0 3 (bb 13 1) (h := ?_)
 refine t_ 1 4 (bb 13 3) hHeld (h := ?_)
 refine p_ 2 5 (bb 13 7) (h := ?_)
 refine t_ 3 6 (bb 13 15) hHeld (h := ?_)
 refine p_ 4 7 (bb 13 31) (h := ?_)
 refine t_ 5 8 (bb 13 63) hHeld (h := ?_)
 refine p_ 6 9 (bb 13 127) (h := ?_)
 refine t_ 7 10 (bb 13 255) hHeld (h := ?_)
 refine p_ 8 11 (bb 13 511) (h := ?_)
 refine t_ 9 12 (bb 13 1023) hHeld (h := ?_)
 refine n_ 10 13 (bb 13 2047) (h := fun K hK => ?_)
 refine goes_ Try.func15 (by kernel_rfl) rfl #[.slice A l.length c] (by rfl) rfl rfl (by (try simp only [List.map_toArray, List.map_cons, List.map_nil]); first | done | rfl) ?_
 refine (notes_callsH HR.out (Kd.F_below (Kd.C_F k57_heap HC.out) B3.out) HL.out).mono ?_
 rintro ex w4 ⟨Av, cv, rfl, hl4, hc4, hb4⟩
 refine ⟨_, rfl, ?_⟩
 have X4 := Aside0.mk (blk_below X3.out hb4)
 have Z4 := Aside0.mk (blk_below Z3.out hb4)
 have B4 := Aside0.mk (below_step B3.out hb4)
 have L4 := Aside0.mk hl4
 have C4 := Aside0.mk (Kd.F_mono hc4 (fun k hk => (show k ≠ g2 by have h := blk_lt Z3.out; have h2 := Q2.out; rcases hk with hk | hk <;> omega)))
 clear hl4 hc4 hb4
 refine hK.out _ _ ⟨(blk_cell X4.out 0).trans rfl, (blk_cell X4.out 1).trans rfl, (blk_cell X4.out 2).trans rfl, (blk_cell X4.out 3).trans rfl, (blk_cell X4.out 4).trans rfl⟩ (fun hHeld => ?_)
 clear hK K
 refine m_ 13 (h := ?_)
 have hcz0 : w4.cell? ⟨g2, 0, none⟩ = some (.int .i64 0) := (blk_cell Z4.out 0).trans rfl
 have hcz1 : w4.cell? ⟨g2, 1, none⟩ = some (.int .i64 0) := (blk_cell Z4.out 1).trans rfl
 have hcz2 : w4.cell? ⟨g2, 2, none⟩ = some (.int .i64 0) := (blk_cell Z4.out 2).trans rfl
 have hcz3 : w4.cell? ⟨g2, 3, none⟩ = some (.int .i64 0) := (blk_cell Z4.out 3).trans rfl
 have hcz4 : w4.cell? ⟨g2, 4, none⟩ = some (.slice none 0 0) := (blk_cell Z4.out 4).trans rfl
 have hfz0 : w4.frozen? ⟨g2, 0, none⟩ = false := blk_frozen Z4.out 0
 have hfz1 : w4.frozen? ⟨g2, 1, none⟩ = false := blk_frozen Z4.out 1
 have hfz2 : w4.frozen? ⟨g2, 2, none⟩ = false := blk_frozen Z4.out 2
 have hfz3 : w4.frozen? ⟨g2, 3, none⟩ = false := blk_frozen Z4.out 3
 have hfz4 : w4.frozen? ⟨g2, 4, none⟩ = false := blk_frozen Z4.out 4
 refine p_ 11 14 (bb 13 4095) (h := ?_)
 refine l_ 12 (bb 13 8191) (h := ?_)
 refine d_ (h := ?_)
 clear hHeld
 go_wp2
 refine bodyPost_ret (results_cell_row rfl _ _ g2 24 _ (0, 0) _ rfl (setsE Z4.out) Try.underlying24 rfl (by kernel_rfl)) rfl ?_
 exact ⟨Av, cv, rfl, L4.out, Kd.F_now (Kd.F_keep C4.out (keep5 _ _ _ _ _ _ _) (fun k hk => hk)), below5 _ _ _ _ _ B4.out Q2.out⟩
set_option maxHeartbeats 40000000 in
set_option maxRecDepth 100000 in
theorem samemetas_callsH {w : World} {A B : Option Addr} {c d : Nat} {l : List S37} (hC : Kd.C k37 w A l.length l) (hD : Kd.C k37 w B l.length l) (hl : l.length ≤ 1954687338211) :
  Calls Try.prog 14 #[.slice A l.length c, .slice B l.length d] w fun ex w' => ex = .returned (.bool true) ∧ Below w.heap.size w w' := by
 have HC := Aside0.mk hC
 have HD := Aside0.mk hD
 have HL := Aside0.mk hl
 clear hC hD hl
 go_enter Try.func14, Try.ntmps14
 go_wp2
 go_loopg [5] l.length (fun kq v5 w' => ∃ (pre post : List S37), v5 = .int .i64 (pre.length : Int) ∧ Aside0 (kq = post.length) ∧ Aside0 (l = pre ++ post) ∧ Aside0 (Below w.heap.size w w'))
 case atStart => exact ⟨[], l, rfl, ⟨rfl⟩, ⟨rfl⟩, ⟨Below.refl _ _⟩⟩
 case round =>
  obtain ⟨pre, post, rfl, HK, HP, HB⟩ := hrel
  cases gk with
  | zero =>
   have HPE := Aside0.mk (show l = pre by rw [HP.out, List.length_eq_zero_iff.1 HK.out.symm, List.append_nil])
   have hlt : (pre.length < l.length) = False := eq_false (by rw [HPE.out]; omega)
   go_wp2
   go_ret
   exact ⟨rfl, HB.out⟩
  | succ k1 =>
   as_aux_lemma =>
   obtain ⟨m, post', rfl⟩ : ∃ m p, post = m :: p := by
    cases post with
    | nil => exact absurd HK.out (by simp)
    | cons m p => exact ⟨m, p, rfl⟩
   have hlt : (pre.length < l.length) = True := eq_true (by rw [HP.out]; simp)
   have HPL := Aside0.mk (show pre.length < l.length by rw [HP.out]; simp)
   have HWK := Aside0.mk (wadd1 (x := pre.length) (z := pre.length + 1) rfl (by have h1 := HPL.out; have h2 := HL.out; omega))
   have HPX := Aside0.mk (show l = pre ++ [m] ++ post' by rw [HP.out]; simp)
   obtain ⟨ad, M3, e3, M4, e4, hA, ha0, ha1, ha2, ha3, ha4, hE1⟩ := at_FR (Kd.C_F k37_heap HC.out) pre.length m (by rw [HP.out]; exact get_app _ _ _)
   subst hA
   obtain ⟨bd, N3, h3, N4, h4, hB, hb0, hb1, hb2, hb3, hb4, hE2⟩ := at_FR (Kd.C_F k37_heap HD.out) pre.length m (by rw [HP.out]; exact get_app _ _ _)
   subst hB
   go_upto_region 6 with (fail)
   refine s_ 67 [] (fun w' => w'.cell? (ad.add (pre.length * 5)) = some (.int .i64 m.f0) ∧ w'.cell? ⟨(ad.add (pre.length * 5)).block, (ad.add (pre.length * 5)).off + 1, none⟩ = some (.int .i64 m.f1) ∧ w'.cell? ⟨(ad.add (pre.length * 5)).block, (ad.add (pre.length * 5)).off + 2, none⟩ = some (.int .i64 m.f2) ∧ w'.cell? ⟨(ad.add (pre.length * 5)).block, (ad.add (pre.length * 5)).off + 3, none⟩ = some (.slice M3 m.f3.length e3) ∧ w'.cell? ⟨(ad.add (pre.length * 5)).block, (ad.add (pre.length * 5)).off + 4, none⟩ = some (.slice M4 m.f4.length e4) ∧ w'.cell? (bd.add (pre.length * 5)) = some (.int .i64 m.f0) ∧ w'.cell? ⟨(bd.add (pre.length * 5)).block, (bd.add (pre.length * 5)).off + 1, none⟩ = some (.int .i64 m.f1) ∧ w'.cell? ⟨(bd.add (pre.length * 5)).block, (bd.add (pre.length * 5)).off + 2, none⟩ = some (.int .i64 m.f2) ∧ w'.cell? ⟨(bd.add (pre.length * 5)).block, (bd.add (pre.length * 5)).off + 3, none⟩ = some (.slice N3 m.f3.length h3) ∧ w'.cell? ⟨(bd.add (pre.length * 5)).block, (bd.add (pre.length * 5)).off + 4, none⟩ = some (.slice N4 m.f4.length h4) ∧ Kd.C (Kd.int .u8) w' M3 m.f3.length m.f3 ∧ Kd.C (Kd.int .u8) w' N3 m.f3.length m.f3 ∧ Kd.C (Kd.int .u8) w' M4 m.f4.length m.f4 ∧ Kd.C (Kd.int .u8) w' N4 m.f4.length m.f4) (hS := ⟨pw_cell_below (below_drew HB.out) ha0, pw_cell_below (below_drew HB.out) ha1, pw_cell_below (below_drew HB.out) ha2, pw_cell_below (below_drew HB.out) ha3, pw_cell_below (below_drew HB.out) ha4, pw_cell_below (below_drew HB.out) hb0, pw_cell_below (below_drew HB.out) hb1, pw_cell_below (below_drew HB.out) hb2, pw_cell_below (below_drew HB.out) hb3, pw_cell_below (below_drew HB.out) hb4, Kd.C_below (Kd.F_now hE1.2.1) (below_drew HB.out), Kd.C_below (Kd.F_now hE2.2.1) (below_drew HB.out), Kd.C_below (Kd.F_now hE1.2.2.2) (below_drew HB.out), Kd.C_below (Kd.F_now hE2.2.2.2) (below_drew HB.out)⟩) (h := fun hHeld => ?_)
   have B2 := Aside0.mk (below_drew HB.out)
   clear HB ha0 ha1 ha2 ha3 ha4 hb0 hb1 hb2 hb3 hb4 hE1 hE2
   generalize wr.drew = w2 at B2 hHeld ⊢
   as_aux_lemma =>
   refine p_ 0 17 (bb 67 1) (h := ?_)
   refine p_ 1 18 (bb 67 3) (h := ?_)
   refine p_ 2 19 (bb 67 7) (h := ?_)
   refine p_ 3 20 (bb 67 15) (h := ?_)
   refine t_ 4 21 (bb 67 31) hHeld (h := ?_)
   refine p_ 5 22 (bb 67 63) (h := ?_)
   refine p_ 6 23 (bb 67 127) (h := ?_)
   refine p_ 7 24 (bb 67 255) (h := ?_)
   refine p_ 8 25 (bb 67 511) (h := ?_)
   refine t_ 9 26 (bb 67 1023) hHeld (h := ?_)
   refine p_ 10 27 (bb 67 2047) (h := ?_)
   refine p_ 11 28 (bb 67 4095) (h := ?_)
   as_aux_lemma =>
   refine p_ 12 29 (bb 67 8191) (h := ?_)
   refine p_ 13 30 (bb 67 16383) (h := ?_)
   refine p_ 14 31 (bb 67 32767) (h := ?_)
   refine p_ 15 32 (bb 67 65535) (h := ?_)
   refine t_ 16 33 (bb 67 131071) hHeld (h := ?_)
   refine p_ 17 34 (bb 67 262143) (h := ?_)
   refine p_ 18 35 (bb 67 524287) (h := ?_)
   refine p_ 19 36 (bb 67 1048575) (h := ?_)
   refine p_ 20 37 (bb 67 2097151) (h := ?_)
   refine t_ 21 38 (bb 67 4194303) hHeld (h := ?_)
   refine p_ 22 39 (bb 67 8388607) (h := ?_)
   refine p_ 23 40 (bb 67 16777215) (h := ?_)
   as_aux_lemma =>
   refine p_ 24 41 (bb 67 33554431) (h := ?_)
   refine p_ 25 42 (bb 67 67108863) (h := ?_)
   refine p_ 26 43 (bb 67 134217727) (h := ?_)
   refine p_ 27 44 (bb 67 268435455) (h := ?_)
   refine p_ 28 45 (bb 67 536870911) (h := ?_)
   refine t_ 29 46 (bb 67 1073741823) hHeld (h := ?_)
   refine p_ 30 47 (bb 67 2147483647) (h := ?_)
   refine p_ 31 48 (bb 67 4294967295) (h := ?_)
   refine p_ 32 49 (bb 67 8589934591) (h := ?_)
   refine p_ 33 50 (bb 67 17179869183) (h := ?_)
   refine t_ 34 51 (bb 67 34359738367) hHeld (h := ?_)
   refine p_ 35 52 (bb 67 68719476735) (h := ?_)
   as_aux_lemma =>
   refine p_ 36 53 (bb 67 137438953471) (h := ?_)
   refine p_ 37 54 (bb 67 274877906943) (h := ?_)
   refine p_ 38 55 (bb 67 549755813887) (h := ?_)
   refine p_ 39 56 (bb 67 1099511627775) (h := ?_)
   refine p_ 40 57 (bb 67 2199023255551) (h := ?_)
   refine p_ 41 58 (bb 67 4398046511103) (h := ?_)
   refine t_ 42 59 (bb 67 8796093022207) hHeld (h := ?_)
   refine t_ 43 60 (bb 67 17592186044415) hHeld (hy := by (rintro w' ⟨s0, s1, s2, s3, s4, s5, s6, s7, s8, s9, s10, s11, s12, s13⟩; have hcv := Kd.C_string (P := Try.prog) (A := M3) (c := e3) Try.underlying35 Try.underlying5 Try.underlying9 s10; go_simp; with_reducible rfl)) (h := ?_)
   refine p_ 44 61 (bb 67 35184372088831) (h := ?_)
   refine p_ 45 62 (bb 67 70368744177663) (h := ?_)
   refine p_ 46 63 (bb 67 140737488355327) (h := ?_)
   refine p_ 47 64 (bb 67 281474976710655) (h := ?_)
   as_aux_lemma =>
   refine t_ 48 65 (bb 67 562949953421311) hHeld (h := ?_)
   refine t_ 49 66 (bb 67 1125899906842623) hHeld (hy := by (rintro w' ⟨s0, s1, s2, s3, s4, s5, s6, s7, s8, s9, s10, s11, s12, s13⟩; have hcv := Kd.C_string (P := Try.prog) (A := N3) (c := h3) Try.underlying35 Try.underlying5 Try.underlying9 s11; go_simp; with_reducible rfl)) (h := ?_)
   refine p_ 50 67 (bb 67 2251799813685247) (h := ?_)
   refine p_ 51 68 (bb 67 4503599627370495) (h := ?_)
   refine p_ 52 69 (bb 67 9007199254740991) (h := ?_)
   refine p_ 53 70 (bb 67 18014398509481983) (h := ?_)
   refine p_ 54 71 (bb 67 36028797018963967) (h := ?_)
   refine p_ 55 72 (bb 67 72057594037927935) (h := ?_)
   refine p_ 56 73 (bb 67 144115188075855871) (h := ?_)
   refine t_ 57 74 (bb 67 288230376151711743) hHeld (h := ?_)
   refine t_ 58 75 (bb 67 576460752303423487) hHeld (hy := by (rintro w' ⟨s0, s1, s2, s3, s4, s5, s6, s7, s8, s9, s10, s11, s12, s13⟩; have hcv := Kd.C_string (P := Try.prog) (A := M4) (c := e4) Try.underlying35 Try.underlying5 Try.underlying9 s12; go_simp; with_reducible rfl)) (h := ?_)
   refine p_ 59 76 (bb 67 1152921504606846975) (h := ?_)
   as_aux_lemma =>
   refine p_ 60 77 (bb 67 2305843009213693951) (h := ?_)
   refine p_ 61 78 (bb 67 4611686018427387903) (h := ?_)
   refine p_ 62 79 (bb 67 9223372036854775807) (h := ?_)
   refine t_ 63 80 (bb 67 18446744073709551615) hHeld (h := ?_)
   refine t_ 64 81 (bb 67 36893488147419103231) hHeld (hy := by (rintro w' ⟨s0, s1, s2, s3, s4, s5, s6, s7, s8, s9, s10, s11, s12, s13⟩; have hcv := Kd.C_string (P := Try.prog) (A := N4) (c := h4) Try.underlying35 Try.underlying5 Try.underlying9 s13; go_simp; with_reducible rfl)) (h := ?_)
   refine p_ 65 82 (bb 67 73786976294838206463) (h := ?_)
   refine p_ 66 83 (bb 67 147573952589676412927) (h := ?_)
   refine d_ (h := ?_)
   clear hHeld
   go_wp2
   go_roundg k1
   case measure => exact Nat.lt_succ_self _
   case rel => exact ⟨pre ++ [m], post', by first | rfl | (rw [HWK.out, List.length_append]; rfl) | (rw [List.length_append]; rfl), ⟨by have h1 := HK.out; simp only [List.length_cons] at h1; omega⟩, ⟨HPX.out⟩, ⟨B2.out⟩⟩
set_option maxHeartbeats 40000000 in
set_option maxRecDepth 100000 in
theorem same_callsH {w : World} (g n s q : Int) {A B : Option Addr} {c d : Nat} {l : List S37} (hC : Kd.C k37 w A l.length l) (hD : Kd.C k37 w B l.length l) (hl : l.length ≤ 1954687338211) :
  Calls Try.prog 25 #[.agg #[.int .i64 g, .int .i64 n, .int .i64 s, .int .i64 q, .slice A l.length c], .agg #[.int .i64 g, .int .i64 n, .int .i64 s, .int .i64 q, .slice B l.length d]] w fun ex w' => ex = .returned (.bool true) ∧ Below w.heap.size w w' := by
 have huB := Try.underlying24
 have HC := Aside0.mk hC
 have HD := Aside0.mk hD
 have HL := Aside0.mk hl
 clear hC hD hl
 go_enter Try.func25, Try.ntmps25
 go_wp2_with (first
  | ((with_reducible refine gate_dst (N := 2) rfl ?_); (try (refine gate_guard (by rfl) ?_; dsimp only)); refine box_event ?hg (N := 2) ?hd (cs := #[.int .i64 g, .int .i64 n, .int .i64 s, .int .i64 q, .slice A l.length c]) (t := 24) ?hr ?_; (case hd => rfl); (case hg => rfl); (case hr => first | (go_simp; done) | (go_simp; rfl)); intro g2 hqg2 w1 hxg2 hbg2; have n_ := Aside0.mk hqg2; clear hqg2; have hqg2 := n_; clear n_; have n_ := Aside0.mk hxg2; clear hxg2; have hxg2 := n_; clear n_; have n_ := Aside0.mk hbg2; clear hbg2; have hbg2 := n_; clear n_)
  | ((with_reducible refine gate_dst (N := 3) rfl ?_); (try (refine gate_guard (by rfl) ?_; dsimp only)); refine box_event ?hg (N := 3) ?hd (cs := #[.int .i64 g, .int .i64 n, .int .i64 s, .int .i64 q, .slice B l.length d]) (t := 24) ?hr ?_; (case hd => rfl); (case hg => rfl); (case hr => first | (go_simp; done) | (go_simp; rfl)); intro g3 hqg3 w2 hxg3 hbg3; have n_ := Aside0.mk hqg3; clear hqg3; have hqg3 := n_; clear n_; have n_ := Aside0.mk hxg3; clear hxg3; have hxg3 := n_; clear n_; have n_ := Aside0.mk hbg3; clear hbg3; have hbg3 := n_; clear n_; have X2 := Aside0.mk (blk_below hxg2.out hbg3.out); have B2 := Aside0.mk (below_step hbg2.out hbg3.out); clear hxg2 hbg2 hqg2 hqg3 hbg3; have hca0 : w2.cell? ⟨g2, 0, none⟩ = some (.int .i64 g) := (blk_cell X2.out 0).trans rfl; have hca1 : w2.cell? ⟨g2, 1, none⟩ = some (.int .i64 n) := (blk_cell X2.out 1).trans rfl; have hca2 : w2.cell? ⟨g2, 2, none⟩ = some (.int .i64 s) := (blk_cell X2.out 2).trans rfl; have hca3 : w2.cell? ⟨g2, 3, none⟩ = some (.int .i64 q) := (blk_cell X2.out 3).trans rfl; have hca4 : w2.cell? ⟨g2, 4, none⟩ = some (.slice A l.length c) := (blk_cell X2.out 4).trans rfl; have hcb0 : w2.cell? ⟨g3, 0, none⟩ = some (.int .i64 g) := (blk_cell hxg3.out 0).trans rfl; have hcb1 : w2.cell? ⟨g3, 1, none⟩ = some (.int .i64 n) := (blk_cell hxg3.out 1).trans rfl; have hcb2 : w2.cell? ⟨g3, 2, none⟩ = some (.int .i64 s) := (blk_cell hxg3.out 2).trans rfl; have hcb3 : w2.cell? ⟨g3, 3, none⟩ = some (.int .i64 q) := (blk_cell hxg3.out 3).trans rfl; have hcb4 : w2.cell? ⟨g3, 4, none⟩ = some (.slice B l.length d) := (blk_cell hxg3.out 4).trans rfl)
  | ((with_reducible refine gate_dst (N := 36) rfl ?_); (try (refine gate_guard (by rfl) ?_; dsimp only)); refine goesL_ (some 36) rfl rfl Try.func14 (by kernel_rfl) rfl #[.slice A l.length c, .slice B l.length d] rfl (by (try simp only [List.map_toArray, List.map_cons, List.map_nil]); first | done | rfl) ?_; refine (samemetas_callsH (Kd.C_below HC.out B2.out) (Kd.C_below HD.out B2.out) HL.out).mono ?_; rintro ex w3 ⟨rfl, hb⟩; refine ⟨_, rfl, ?_⟩; have B3 := Aside0.mk (below_step B2.out hb)))
 go_ret
 exact ⟨rfl, B3.out⟩
end Go.Proofs.Ythpklhkibcenoaa.Sk
