/- The law MergeLater as a contract of its function. Conditions: those of each theorem. -/
import Derived.Test.YtobjkjmmkbhecaaCore
import Derived.Test.YtobjkjmmkbhecaaHaw
import Derived.Test.YtobjkjmmkbhecaaME
import Derived.Test.YtobjkjmmkbhecaaHmo
import Derived.Test.YtobjkjmmkbhecaaHod
import Derived.Test.YtobjkjmmkbhecaaHpl
import Derived.Test.YtobjkjmmkbhecaaHrw
import Derived.Test.YtobjkjmmkbhecaaHvi
import Derived.Test.YtobjkjmmkbhecaaPx0
import Derived.Test.YtobjkjmmkbhecaaHgp
import Derived.Test.YtobjkjmmkbhecaaHso
namespace Go.Proofs.Ytobjkjmmkbhecaa.Sk
open Go.RowKit Go.Proofs.YtobjkjmmkbhecaaW.PrintWords Go.Proofs.YtobjkjmmkbhecaaW.PrintLast Go.Proofs.YtobjkjmmkbhecaaW.PrintMore Go.Proofs.Ytobjkjmmkbhecaa.Px Go.Proofs.Ytobjkjmmkbhecaa.Sw
set_option linter.unusedVariables false
set_option linter.unusedSimpArgs false

theorem ckE_len {e : S36} (h : ckE e = true) : e.f0.length ≤ 140737488355328 ∧ e.f0.length < 140737488355328 ∧ e.f3.length < 140737488355328 := by
 have := ckE_iff.1 h
 exact ⟨by omega, by omega, by omega⟩
theorem pair_at {l : List S36} {R : S36 → S36 → Prop} (h : l.Pairwise R) {i j : Nat} {x y : S36} (hx : l[i]? = some x) (hy : l[j]? = some y) (hij : i < j) : R x y := by
 obtain ⟨h1, h2⟩ := List.getElem?_eq_some_iff.1 hx
 obtain ⟨h3, h4⟩ := List.getElem?_eq_some_iff.1 hy
 have := List.pairwise_iff_getElem.1 h i j h1 h3 hij
 rwa [h2, h4] at this
theorem good_of {l : List S36} (hE : ∀ e ∈ l, EB e) (hc : ∀ e ∈ l, ckE e = true) (hl : l.length ≤ 1000000000) : goodL l = true := goodL_iff.2 ⟨fun e he => ⟨hE e he, (ckE_len (hc e he)).2⟩, hl⟩
set_option maxHeartbeats 4000000 in
set_option maxRecDepth 100000 in
theorem later_calls {w : World} {A : Option Addr} {c : Nat} {xs : List S36} (hC : Kd.C k36 w A xs.length xs) (hlc : xs.length ≤ c) (hE : ∀ e ∈ xs, EB e) (hln : xs.length ≤ 4000000000000) (a b : Int) :
  Calls Try.prog 10 #[.slice A xs.length c, .int .i64 a, .int .i64 b] w fun ex w' => ex = .returned (.bool true) ∧ Below w.heap.size w w' := by
 have HC := Aside0.mk hC
 have HLC := Aside0.mk hlc
 have HE := Aside0.mk hE
 have HLN := Aside0.mk hln
 obtain ⟨ob, hob⟩ : ∃ ob, ob = rowOk none xs := ⟨_, rfl⟩
 have HOB := Aside0.mk hob
 clear hC hlc hE hln hob
 cases ob with
 | false =>
  as_aux_lemma =>
  go_enter Try.func10, Try.ntmps10
  go_wp2_with (first
   | ((with_reducible refine gate_dst (N := 12) rfl ?_); (try (refine gate_guard (by rfl) ?_; dsimp only)); refine goesL_ (some 12) rfl rfl Try.func11 (by kernel_rfl) rfl #[] rfl (by (try simp only [List.map_toArray, List.map_cons, List.map_nil]); first | done | rfl) ?_; refine (awake_calls w).mono ?_; rintro ex w1 ⟨rfl, hb1⟩; refine ⟨_, rfl, ?_⟩; have n_ := Aside0.mk hb1; clear hb1; have hb1 := n_; clear n_)
   | ((with_reducible refine gate_dst (N := 14) rfl ?_); (try (refine gate_guard (by rfl) ?_; dsimp only)); refine goesL_ (some 14) rfl rfl Try.func21 (by kernel_rfl) rfl #[.slice A xs.length c] rfl (by (try simp only [List.map_toArray, List.map_cons, List.map_nil]); first | done | rfl) ?_; refine (ordered_calls (Kd.C_below HC.out hb1.out) HLC.out (fun e he => (HE.out e he).1) HLN.out).mono ?_; rintro ex w2 ⟨rfl, hb2⟩; refine ⟨_, rfl, ?_⟩; rw [← HOB.out]; have n_ := Aside0.mk hb2; clear hb2; have hb2 := n_; clear n_))
  go_ret
  exact ⟨rfl, below_step hb1.out hb2.out⟩
 | true =>
 by_cases hl : xs.length ≤ 200
 case neg =>
  as_aux_lemma =>
  have hd : ((200 : Int) < (xs.length : Int)) = True := eq_true (by omega)
  go_enter Try.func10, Try.ntmps10
  go_wp2_with (first
   | ((with_reducible refine gate_dst (N := 12) rfl ?_); (try (refine gate_guard (by rfl) ?_; dsimp only)); refine goesL_ (some 12) rfl rfl Try.func11 (by kernel_rfl) rfl #[] rfl (by (try simp only [List.map_toArray, List.map_cons, List.map_nil]); first | done | rfl) ?_; refine (awake_calls w).mono ?_; rintro ex w1 ⟨rfl, hb1⟩; refine ⟨_, rfl, ?_⟩; have n_ := Aside0.mk hb1; clear hb1; have hb1 := n_; clear n_)
   | ((with_reducible refine gate_dst (N := 14) rfl ?_); (try (refine gate_guard (by rfl) ?_; dsimp only)); refine goesL_ (some 14) rfl rfl Try.func21 (by kernel_rfl) rfl #[.slice A xs.length c] rfl (by (try simp only [List.map_toArray, List.map_cons, List.map_nil]); first | done | rfl) ?_; refine (ordered_calls (Kd.C_below HC.out hb1.out) HLC.out (fun e he => (HE.out e he).1) HLN.out).mono ?_; rintro ex w2 ⟨rfl, hb2⟩; refine ⟨_, rfl, ?_⟩; rw [← HOB.out]; have n_ := Aside0.mk hb2; clear hb2; have hb2 := n_; clear n_))
  go_ret
  exact ⟨rfl, below_step hb1.out hb2.out⟩
 by_cases hab : a ≤ b
 case neg =>
  as_aux_lemma =>
  have hd : ((200 : Int) < (xs.length : Int)) = False := eq_false (by omega)
  have hd2 : (b < a) = True := eq_true (by omega)
  go_enter Try.func10, Try.ntmps10
  go_wp2_with (first
   | ((with_reducible refine gate_dst (N := 12) rfl ?_); (try (refine gate_guard (by rfl) ?_; dsimp only)); refine goesL_ (some 12) rfl rfl Try.func11 (by kernel_rfl) rfl #[] rfl (by (try simp only [List.map_toArray, List.map_cons, List.map_nil]); first | done | rfl) ?_; refine (awake_calls w).mono ?_; rintro ex w1 ⟨rfl, hb1⟩; refine ⟨_, rfl, ?_⟩; have n_ := Aside0.mk hb1; clear hb1; have hb1 := n_; clear n_)
   | ((with_reducible refine gate_dst (N := 14) rfl ?_); (try (refine gate_guard (by rfl) ?_; dsimp only)); refine goesL_ (some 14) rfl rfl Try.func21 (by kernel_rfl) rfl #[.slice A xs.length c] rfl (by (try simp only [List.map_toArray, List.map_cons, List.map_nil]); first | done | rfl) ?_; refine (ordered_calls (Kd.C_below HC.out hb1.out) HLC.out (fun e he => (HE.out e he).1) HLN.out).mono ?_; rintro ex w2 ⟨rfl, hb2⟩; refine ⟨_, rfl, ?_⟩; rw [← HOB.out]; have n_ := Aside0.mk hb2; clear hb2; have hb2 := n_; clear n_))
  go_ret
  exact ⟨rfl, below_step hb1.out hb2.out⟩
 as_aux_lemma =>
 have hd : ((200 : Int) < (xs.length : Int)) = False := eq_false (by omega)
 have hd2 : (b < a) = False := eq_false (by omega)
 have hro := rowOk_str (fun e he => HE.out e he) (fun q hq => by cases hq) HOB.out.symm
 have HGD := Aside0.mk (show goodL xs = true from good_of HE.out hro.2.1 (by omega))
 have HVLa := Aside0.mk (fun (x : S36) (hx : x ∈ visM a xs) (y : S36) (hy : y ∈ visM b xs) (e : x.f0 = y.f0) => vis_later HE.out hro.1 hab hx hy e)
 have HVRa := Aside0.mk (fun (y : S36) (hy : y ∈ visM b xs) => vis_right y hy)
 have HVSa := Aside0.mk (vis_rise HE.out hro.1 b)
 have HEXa := Aside0.mk (fun (e : S36) (he : e ∈ visM a xs) => HE.out e ((visM_sub a xs).1 e he))
 have HEYa := Aside0.mk (fun (e : S36) (he : e ∈ visM b xs) => HE.out e ((visM_sub b xs).1 e he))
 have HPLa := Aside0.mk (fun (e : S36) (he : e ∈ visM b xs) => (ckE_len (hro.2.1 e ((visM_sub b xs).1 e he))).1)
 have HXLa := Aside0.mk (Nat.le_trans (visM_sub a xs).2 hl)
 have HYLa := Aside0.mk (Nat.le_trans (visM_sub b xs).2 hl)
 obtain ⟨X, hX⟩ : ∃ X, X = visM a xs := ⟨_, rfl⟩
 obtain ⟨Y, hY⟩ : ∃ Y, Y = visM b xs := ⟨_, rfl⟩
 rw [← hX] at HVLa HEXa HXLa
 rw [← hY] at HVLa HVRa HVSa HEYa HPLa HYLa
 have HX := Aside0.mk hX
 have HY := Aside0.mk hY
 have HVL := Aside0.mk HVLa.out; have HVR := Aside0.mk HVRa.out; have HVS := Aside0.mk HVSa.out; have HEX := Aside0.mk HEXa.out; have HEY := Aside0.mk HEYa.out; have HPY := Aside0.mk HPLa.out; have HXL := Aside0.mk HXLa.out; have HYL := Aside0.mk HYLa.out
 clear hX hY hro hl hab HVLa HVRa HVSa HEXa HEYa HPLa HXLa HYLa
 go_enter Try.func10, Try.ntmps10
 go_wp2_with (first
  | ((with_reducible refine gate_dst (N := 12) rfl ?_); (try (refine gate_guard (by rfl) ?_; dsimp only)); refine goesL_ (some 12) rfl rfl Try.func11 (by kernel_rfl) rfl #[] rfl (by (try simp only [List.map_toArray, List.map_cons, List.map_nil]); first | done | rfl) ?_; refine (awake_calls w).mono ?_; rintro ex w1 ⟨rfl, hb1⟩; refine ⟨_, rfl, ?_⟩; have n_ := Aside0.mk hb1; clear hb1; have hb1 := n_; clear n_)
  | ((with_reducible refine gate_dst (N := 14) rfl ?_); (try (refine gate_guard (by rfl) ?_; dsimp only)); refine goesL_ (some 14) rfl rfl Try.func21 (by kernel_rfl) rfl #[.slice A xs.length c] rfl (by (try simp only [List.map_toArray, List.map_cons, List.map_nil]); first | done | rfl) ?_; refine (ordered_calls (Kd.C_below HC.out hb1.out) HLC.out (fun e he => (HE.out e he).1) HLN.out).mono ?_; rintro ex w2 ⟨rfl, hb2⟩; refine ⟨_, rfl, ?_⟩; rw [← HOB.out]; have n_ := Aside0.mk hb2; clear hb2; have hb2 := n_; clear n_)
  | ((with_reducible refine gate_dst (N := 29) rfl ?_); (try (refine gate_guard (by rfl) ?_; dsimp only)); refine goesL_ (some 29) rfl rfl Try.func15 (by kernel_rfl) rfl #[.slice A xs.length c, .int .i64 a] rfl (by (try simp only [List.map_toArray, List.map_cons, List.map_nil]); first | done | rfl) ?_; refine (visible_calls (Kd.C_F k36_heap (Kd.C_below (Kd.C_below HC.out hb1.out) hb2.out)) HLC.out HGD.out a).mono ?_; rintro ex w3 ⟨v_, rfl, hv_, hb_⟩; refine ⟨_, rfl, ?_⟩; rw [← HX.out] at hv_; obtain ⟨Ax, cx, rfl, l_, f_⟩ := hv_; have LX := Aside0.mk (l_); have CX := Aside0.mk (Kd.F_now f_); have Bw3 := Aside0.mk (hb_); clear l_ f_ hb_)
  | ((with_reducible refine gate_dst (N := 32) rfl ?_); (try (refine gate_guard (by rfl) ?_; dsimp only)); refine goesL_ (some 32) rfl rfl Try.func15 (by kernel_rfl) rfl #[.slice A xs.length c, .int .i64 b] rfl (by (try simp only [List.map_toArray, List.map_cons, List.map_nil]); first | done | rfl) ?_; refine (visible_calls (Kd.C_F k36_heap (Kd.C_below (Kd.C_below (Kd.C_below HC.out hb1.out) hb2.out) Bw3.out)) HLC.out HGD.out b).mono ?_; rintro ex w4 ⟨v_, rfl, hv_, hb_⟩; refine ⟨_, rfl, ?_⟩; rw [← HY.out] at hv_; obtain ⟨Ay, cy, rfl, l_, f_⟩ := hv_; have LY := Aside0.mk (l_); have CY := Aside0.mk (Kd.F_now f_); have Bw4 := Aside0.mk (hb_); clear l_ f_ hb_))
 go_loopg [10] Y.length (fun kq v10 w' => ∃ i : Nat, v10 = .int .i64 (i : Int) ∧ Aside0 (kq + i = Y.length) ∧ Aside0 (Below w4.heap.size w4 w'))
 case atStart => exact ⟨0, rfl, ⟨rfl⟩, ⟨Below.refl _ _⟩⟩
 case round =>
  obtain ⟨i, rfl, HK, HB⟩ := hrel
  cases gk with
  | zero =>
   as_aux_lemma =>
   have hlt : ((i : Int) < (Y.length : Int)) = False := eq_false (by have h := HK.out; omega)
   go_wp2
   go_ret
   exact ⟨rfl, below_step (below_step (below_step (below_step hb1.out hb2.out) Bw3.out) Bw4.out) HB.out⟩
  | succ k1 =>
   as_aux_lemma =>
   have hil : i < Y.length := by have h := HK.out; omega
   have hlt : ((i : Int) < (Y.length : Int)) = True := eq_true (by omega)
   have HIL := Aside0.mk hil
   obtain ⟨y, hy⟩ : ∃ y, Y[i]? = some y := ⟨_, List.getElem?_eq_getElem hil⟩
   have HYI := Aside0.mk hy
   have HYM := Aside0.mk (List.mem_of_getElem? hy)
   have HCY := Aside0.mk (Kd.C_below CY.out HB.out)
   obtain ⟨ay, N0, n0, N3, n3, ea, hy0, hy1, hy2, _, ly0, hcy, _, _⟩ := at_CE HCY.out i y hy
   subst ea
   have HY0 := Aside0.mk hcy
   have HY1 := Aside0.mk ly0
   have HWK := Aside0.mk (wadd1 (x := i) (z := i + 1) rfl (by have h := HYL.out; omega))
   have hf2 : y.f2 = false := (HVR.out y HYM.out).1
   have hgb : (b < y.f1) = False := eq_false (by have h := (HVR.out y HYM.out).2; omega)
   rw [hf2] at hy2
   clear hil hy hcy ly0
   by_cases hi : 0 < i
   case neg =>
    have hi0 : (0 < i) = False := eq_false hi
    clear hi
    go_upto_region 9 with (fail)
    refine s_ 33 [] (fun w' => w'.cell? ⟨(ay.add (i * 4)).block, (ay.add (i * 4)).off + 2, none⟩ = some (.bool false) ∧ w'.cell? ⟨(ay.add (i * 4)).block, (ay.add (i * 4)).off + 1, none⟩ = some (.int .i64 y.f1)) (hS := ⟨hy2, hy1⟩) (h := fun hHeld => ?_)
    have Bw11 := Aside0.mk (show Below wr.heap.size wr wr.drew from below_drew (Below.refl _ _))
    clear hy1 hy2
    generalize wr.drew = w11 at hHeld Bw11 ⊢
    refine p_ 0 39 (bb 33 1) (h := ?_)
    refine p_ 1 40 (bb 33 3) (h := ?_)
    refine p_ 2 41 (bb 33 7) (h := ?_)
    refine p_ 3 42 (bb 33 15) (h := ?_)
    refine t_ 4 43 (bb 33 31) hHeld (h := ?_)
    refine p_ 5 44 (bb 33 63) (h := ?_)
    refine p_ 6 45 (bb 33 127) (h := ?_)
    refine p_ 7 46 (bb 33 255) (h := ?_)
    refine p_ 8 47 (bb 33 511) (h := ?_)
    refine p_ 9 48 (bb 33 1023) (h := ?_)
    refine t_ 10 49 (bb 33 2047) hHeld (h := ?_)
    refine p_ 11 50 (bb 33 4095) (h := ?_)
    refine p_ 12 51 (bb 33 8191) (h := ?_)
    refine p_ 13 52 (bb 33 16383) (h := ?_)
    refine p_ 14 53 (bb 33 32767) (h := ?_)
    refine p_ 15 54 (bb 33 65535) (h := ?_)
    refine p_ 16 55 (bb 33 131071) (h := ?_)
    refine p_ 17 56 (bb 33 262143) (h := ?_)
    refine o_ 18 57 (bb 33 524287) (h := ?_)
    refine o_ 19 58 (bb 33 1048575) (h := ?_)
    refine o_ 20 59 (bb 33 2097151) (h := ?_)
    refine o_ 21 60 (bb 33 4194303) (h := ?_)
    refine o_ 22 61 (bb 33 8388607) (h := ?_)
    refine o_ 23 62 (bb 33 16777215) (h := ?_)
    refine o_ 24 63 (bb 33 33554431) (h := ?_)
    refine o_ 25 64 (bb 33 67108863) (h := ?_)
    refine o_ 26 65 (bb 33 134217727) (h := ?_)
    refine o_ 27 66 (bb 33 268435455) (h := ?_)
    refine o_ 28 67 (bb 33 536870911) (h := ?_)
    refine n_ 29 68 (bb 33 1073741823) (h := fun K hK => ?_)
    refine off_ (by rfl) ?_
    refine hK.out _ _ ⟨hHeld.1, hHeld.2⟩ (fun hHeld => ?_)
    clear hK K
    refine m_ 68 (h := ?_)
    refine o_ 30 69 (bb 33 2147483647) (h := ?_)
    refine p_ 31 70 (bb 33 4294967295) (h := ?_)
    refine p_ 32 71 (bb 33 8589934591) (h := ?_)
    refine d_ (h := ?_)
    clear hHeld
    go_wp2
    go_loopg [11] X.length (fun kq v11 w' => ∃ k : Nat, v11 = .int .i64 (k : Int) ∧ Aside0 (kq + k = X.length) ∧ Aside0 (Below w11.heap.size w11 w'))
    case atStart => exact ⟨0, rfl, ⟨rfl⟩, ⟨Below.refl _ _⟩⟩
    case round =>
     obtain ⟨k, rfl, Hk36, HBI⟩ := hrel
     cases gk with
     | zero =>
      have hlt3 : ((k : Int) < (X.length : Int)) = False := eq_false (by have h := Hk36.out; omega)
      go_wp2
      go_roundg k1
      case measure => exact Nat.lt_succ_self _
      case rel => exact ⟨i + 1, by first | rfl | rw [HWK.out], ⟨by have h := HK.out; omega⟩, ⟨below_step (below_step HB.out Bw11.out) HBI.out⟩⟩
     | succ k2 =>
      have hkl : k < X.length := by have h := Hk36.out; omega
      have hlt3 : ((k : Int) < (X.length : Int)) = True := eq_true (by omega)
      obtain ⟨x, hx⟩ : ∃ x, X[k]? = some x := ⟨_, List.getElem?_eq_getElem hkl⟩
      have HCW := Aside0.mk (Kd.C_below (Kd.C_below (Kd.C_below (Kd.C_below CX.out Bw4.out) HB.out) Bw11.out) HBI.out)
      have HCV := Aside0.mk (Kd.C_below (Kd.C_below (Kd.C_below CY.out HB.out) Bw11.out) HBI.out)
      obtain ⟨ax, M0, m0, M3, m3, ea, hx0, hx1, _, _, _, hcx, _, _⟩ := at_CE HCW.out k x hx
      subst ea
      obtain ⟨ay2, N0, n0, N3, n3, ea, hy0, hy1, _, _, _, hcy, _, _⟩ := at_CE HCV.out i y HYI.out
      obtain rfl := Option.some.inj ea
      have HXK := Aside0.mk (List.mem_of_getElem? hx)
      have HWI := Aside0.mk (wadd1 (x := k) (z := k + 1) rfl (by have h := HXL.out; omega))
      have hse := str_eq (HEX.out x HXK.out).1 (HEY.out y HYM.out).1
      have hltk : ((i : Int) < (Y.length : Int)) = True := eq_true (by have h := HIL.out; omega)
      clear hx hkl HCW HCV
      by_cases hq : x.f0 = y.f0
      ·
       rw [decide_eq_true hq] at hse
       have hvl := HVL.out x HXK.out y HYM.out hq
       have hg1 : (y.f1 < x.f1) = False := eq_false (by omega)
       have hg2 : (a < x.f1) = False := eq_false (by omega)
       clear hvl hq
       go_upto_region 14 with (fail)
       refine s_ 35 [] (fun w' => w'.cell? (ax.add (k * 4)) = some (.slice M0 x.f0.length m0) ∧ w'.cell? (ay.add (i * 4)) = some (.slice N0 y.f0.length n0) ∧ Kd.C (Kd.int .u8) w' M0 x.f0.length x.f0 ∧ Kd.C (Kd.int .u8) w' N0 y.f0.length y.f0 ∧ w'.cell? ⟨(ax.add (k * 4)).block, (ax.add (k * 4)).off + 1, none⟩ = some (.int .i64 x.f1) ∧ w'.cell? ⟨(ay.add (i * 4)).block, (ay.add (i * 4)).off + 1, none⟩ = some (.int .i64 y.f1)) (hS := ⟨hx0, hy0, hcx, hcy, hx1, hy1⟩) (h := fun hHeld => ?_)
       have Bw14 := Aside0.mk (show Below wr.heap.size wr wr.drew from below_drew (Below.refl _ _))
       clear hx0 hy0 hcx hcy hx1 hy1
       generalize wr.drew = w14 at hHeld Bw14 ⊢
       refine p_ 0 78 (bb 35 1) (h := ?_)
       refine p_ 1 79 (bb 35 3) (h := ?_)
       refine p_ 2 80 (bb 35 7) (h := ?_)
       refine p_ 3 81 (bb 35 15) (h := ?_)
       refine t_ 4 82 (bb 35 31) hHeld (h := ?_)
       refine t_ 5 83 (bb 35 63) hHeld (hy := by (rintro w' ⟨s0, s1, s2, s3, s4, s5⟩; have hcv := Kd.C_string (P := Try.prog) (A := M0) (c := m0) Try.underlying34 Try.underlying5 Try.underlying9 s2; go_simp; with_reducible rfl)) (h := ?_)
       refine p_ 6 84 (bb 35 127) (h := ?_)
       refine p_ 7 85 (bb 35 255) (h := ?_)
       refine p_ 8 86 (bb 35 511) (h := ?_)
       refine p_ 9 87 (bb 35 1023) (h := ?_)
       refine t_ 10 88 (bb 35 2047) hHeld (h := ?_)
       refine t_ 11 89 (bb 35 4095) hHeld (hy := by (rintro w' ⟨s0, s1, s2, s3, s4, s5⟩; have hcv := Kd.C_string (P := Try.prog) (A := N0) (c := n0) Try.underlying34 Try.underlying5 Try.underlying9 s3; go_simp; with_reducible rfl)) (h := ?_)
       refine p_ 12 90 (bb 35 8191) (h := ?_)
       refine p_ 13 91 (bb 35 16383) (h := ?_)
       refine p_ 14 92 (bb 35 32767) (h := ?_)
       refine p_ 15 93 (bb 35 65535) (h := ?_)
       refine p_ 16 94 (bb 35 131071) (h := ?_)
       refine p_ 17 95 (bb 35 262143) (h := ?_)
       refine t_ 18 96 (bb 35 524287) hHeld (h := ?_)
       refine p_ 19 97 (bb 35 1048575) (h := ?_)
       refine p_ 20 98 (bb 35 2097151) (h := ?_)
       refine p_ 21 99 (bb 35 4194303) (h := ?_)
       refine p_ 22 100 (bb 35 8388607) (h := ?_)
       refine t_ 23 101 (bb 35 16777215) hHeld (h := ?_)
       refine p_ 24 102 (bb 35 33554431) (h := ?_)
       refine p_ 25 103 (bb 35 67108863) (h := ?_)
       refine p_ 26 104 (bb 35 134217727) (h := ?_)
       refine p_ 27 105 (bb 35 268435455) (h := ?_)
       refine p_ 28 106 (bb 35 536870911) (h := ?_)
       refine p_ 29 107 (bb 35 1073741823) (h := ?_)
       refine t_ 30 108 (bb 35 2147483647) hHeld (h := ?_)
       refine p_ 31 109 (bb 35 4294967295) (h := ?_)
       refine p_ 32 110 (bb 35 8589934591) (h := ?_)
       refine p_ 33 111 (bb 35 17179869183) (h := ?_)
       refine p_ 34 112 (bb 35 34359738367) (h := ?_)
       refine d_ (h := ?_)
       clear hHeld
       go_wp2
       go_roundg k2
       case measure => exact Nat.lt_succ_self _
       case rel => exact ⟨k + 1, by first | rfl | rw [HWI.out], ⟨by have h := Hk36.out; omega⟩, ⟨below_step HBI.out Bw14.out⟩⟩
      ·
       rw [decide_eq_false hq] at hse
       clear hq
       go_upto_region 14 with (fail)
       refine s_ 35 [] (fun w' => w'.cell? (ax.add (k * 4)) = some (.slice M0 x.f0.length m0) ∧ w'.cell? (ay.add (i * 4)) = some (.slice N0 y.f0.length n0) ∧ Kd.C (Kd.int .u8) w' M0 x.f0.length x.f0 ∧ Kd.C (Kd.int .u8) w' N0 y.f0.length y.f0 ∧ w'.cell? ⟨(ax.add (k * 4)).block, (ax.add (k * 4)).off + 1, none⟩ = some (.int .i64 x.f1) ∧ w'.cell? ⟨(ay.add (i * 4)).block, (ay.add (i * 4)).off + 1, none⟩ = some (.int .i64 y.f1)) (hS := ⟨hx0, hy0, hcx, hcy, hx1, hy1⟩) (h := fun hHeld => ?_)
       have Bw14 := Aside0.mk (show Below wr.heap.size wr wr.drew from below_drew (Below.refl _ _))
       clear hx0 hy0 hcx hcy hx1 hy1
       generalize wr.drew = w14 at hHeld Bw14 ⊢
       refine p_ 0 78 (bb 35 1) (h := ?_)
       refine p_ 1 79 (bb 35 3) (h := ?_)
       refine p_ 2 80 (bb 35 7) (h := ?_)
       refine p_ 3 81 (bb 35 15) (h := ?_)
       refine t_ 4 82 (bb 35 31) hHeld (h := ?_)
       refine t_ 5 83 (bb 35 63) hHeld (hy := by (rintro w' ⟨s0, s1, s2, s3, s4, s5⟩; have hcv := Kd.C_string (P := Try.prog) (A := M0) (c := m0) Try.underlying34 Try.underlying5 Try.underlying9 s2; go_simp; with_reducible rfl)) (h := ?_)
       refine p_ 6 84 (bb 35 127) (h := ?_)
       refine p_ 7 85 (bb 35 255) (h := ?_)
       refine p_ 8 86 (bb 35 511) (h := ?_)
       refine p_ 9 87 (bb 35 1023) (h := ?_)
       refine t_ 10 88 (bb 35 2047) hHeld (h := ?_)
       refine t_ 11 89 (bb 35 4095) hHeld (hy := by (rintro w' ⟨s0, s1, s2, s3, s4, s5⟩; have hcv := Kd.C_string (P := Try.prog) (A := N0) (c := n0) Try.underlying34 Try.underlying5 Try.underlying9 s3; go_simp; with_reducible rfl)) (h := ?_)
       refine p_ 12 90 (bb 35 8191) (h := ?_)
       refine p_ 13 91 (bb 35 16383) (h := ?_)
       refine o_ 14 92 (bb 35 32767) (h := ?_)
       refine o_ 15 93 (bb 35 65535) (h := ?_)
       refine o_ 16 94 (bb 35 131071) (h := ?_)
       refine o_ 17 95 (bb 35 262143) (h := ?_)
       refine o_ 18 96 (bb 35 524287) (h := ?_)
       refine o_ 19 97 (bb 35 1048575) (h := ?_)
       refine o_ 20 98 (bb 35 2097151) (h := ?_)
       refine o_ 21 99 (bb 35 4194303) (h := ?_)
       refine o_ 22 100 (bb 35 8388607) (h := ?_)
       refine o_ 23 101 (bb 35 16777215) (h := ?_)
       refine o_ 24 102 (bb 35 33554431) (h := ?_)
       refine o_ 25 103 (bb 35 67108863) (h := ?_)
       refine o_ 26 104 (bb 35 134217727) (h := ?_)
       refine o_ 27 105 (bb 35 268435455) (h := ?_)
       refine o_ 28 106 (bb 35 536870911) (h := ?_)
       refine o_ 29 107 (bb 35 1073741823) (h := ?_)
       refine o_ 30 108 (bb 35 2147483647) (h := ?_)
       refine o_ 31 109 (bb 35 4294967295) (h := ?_)
       refine o_ 32 110 (bb 35 8589934591) (h := ?_)
       refine o_ 33 111 (bb 35 17179869183) (h := ?_)
       refine p_ 34 112 (bb 35 34359738367) (h := ?_)
       refine d_ (h := ?_)
       clear hHeld
       go_wp2
       go_roundg k2
       case measure => exact Nat.lt_succ_self _
       case rel => exact ⟨k + 1, by first | rfl | rw [HWI.out], ⟨by have h := Hk36.out; omega⟩, ⟨below_step HBI.out Bw14.out⟩⟩
   case pos =>
    obtain ⟨j, hj⟩ : ∃ j, j + 1 = i := ⟨i - 1, by omega⟩
    obtain ⟨p, hp⟩ : ∃ p, Y[j]? = some p := ⟨_, List.getElem?_eq_getElem (by have h := HIL.out; omega)⟩
    obtain ⟨ay2, P0, p0, P3, p3, ea, hp0, _, _, _, lp0, hcp, _, _⟩ := at_CE HCY.out j p hp
    obtain rfl := Option.some.inj ea
    have HP0 := Aside0.mk hcp
    have HP1 := Aside0.mk lp0
    have HPL := Aside0.mk (HPY.out p (List.mem_of_getElem? hp))
    have HLE := Aside0.mk (show less p.f0 y.f0 = true from pair_at HVS.out hp HYI.out (by omega))
    have hw1 : wrap64 ((i : Int) - 1) = (j : Int) := wsub1 hj (by have h1 := HIL.out; have h2 := HYL.out; omega)
    have hjl : ((j : Int) < (Y.length : Int)) = True := eq_true (by have h := HIL.out; omega)
    have hi0 : (0 < i) = True := eq_true hi
    clear hi hj hp hcp lp0
    go_upto_region 9 with (fail)
    refine s_ 33 [] (fun w' => w'.cell? ⟨(ay.add (i * 4)).block, (ay.add (i * 4)).off + 2, none⟩ = some (.bool false) ∧ w'.cell? ⟨(ay.add (i * 4)).block, (ay.add (i * 4)).off + 1, none⟩ = some (.int .i64 y.f1) ∧ w'.cell? (ay.add (j * 4)) = some (.slice P0 p.f0.length p0) ∧ w'.cell? (ay.add (i * 4)) = some (.slice N0 y.f0.length n0)) (hS := ⟨hy2, hy1, hp0, hy0⟩) (h := fun hHeld => ?_)
    have Bw9 := Aside0.mk (show Below wr.heap.size wr wr.drew from below_drew (Below.refl _ _))
    clear hy1 hy2 hp0 hy0
    generalize wr.drew = w9 at hHeld Bw9 ⊢
    obtain ⟨s0, s1, s2, s3⟩ := id hHeld
    refine p_ 0 39 (bb 33 1) (h := ?_)
    refine p_ 1 40 (bb 33 3) (h := ?_)
    refine p_ 2 41 (bb 33 7) (h := ?_)
    refine p_ 3 42 (bb 33 15) (h := ?_)
    refine t_ 4 43 (bb 33 31) hHeld (h := ?_)
    refine p_ 5 44 (bb 33 63) (h := ?_)
    refine p_ 6 45 (bb 33 127) (h := ?_)
    refine p_ 7 46 (bb 33 255) (h := ?_)
    refine p_ 8 47 (bb 33 511) (h := ?_)
    refine p_ 9 48 (bb 33 1023) (h := ?_)
    refine t_ 10 49 (bb 33 2047) hHeld (h := ?_)
    refine p_ 11 50 (bb 33 4095) (h := ?_)
    refine p_ 12 51 (bb 33 8191) (h := ?_)
    refine p_ 13 52 (bb 33 16383) (h := ?_)
    refine p_ 14 53 (bb 33 32767) (h := ?_)
    refine p_ 15 54 (bb 33 65535) (h := ?_)
    refine p_ 16 55 (bb 33 131071) (h := ?_)
    refine p_ 17 56 (bb 33 262143) (h := ?_)
    refine p_ 18 57 (bb 33 524287) (h := ?_)
    refine p_ 19 58 (bb 33 1048575) (h := ?_)
    refine p_ 20 59 (bb 33 2097151) (h := ?_)
    refine p_ 21 60 (bb 33 4194303) (h := ?_)
    refine p_ 22 61 (bb 33 8388607) (h := ?_)
    refine t_ 23 62 (bb 33 16777215) hHeld (h := ?_)
    refine p_ 24 63 (bb 33 33554431) (h := ?_)
    refine p_ 25 64 (bb 33 67108863) (h := ?_)
    refine p_ 26 65 (bb 33 134217727) (h := ?_)
    refine p_ 27 66 (bb 33 268435455) (h := ?_)
    refine t_ 28 67 (bb 33 536870911) hHeld (h := ?_)
    refine n_ 29 68 (bb 33 1073741823) (h := fun K hK => ?_)
    refine goes_ Try.func24 (by kernel_rfl) rfl #[.slice P0 p.f0.length p0, .slice N0 y.f0.length n0] (by rfl) rfl rfl (by (try simp only [List.map_toArray, List.map_cons, List.map_nil]); first | done | rfl) ?_
    refine (less_calls (Kd.C_below HP0.out Bw9.out) HP1.out (Kd.C_below HY0.out Bw9.out) HY1.out HPL.out).mono ?_
    rintro ex w10 ⟨rfl, n10, rfl⟩
    refine ⟨_, rfl, ?_⟩
    rw [HLE.out]
    refine hK.out _ _ ⟨s0, s1, s2, s3⟩ (fun hHeld => ?_)
    clear hK K
    refine m_ 68 (h := ?_)
    refine p_ 30 69 (bb 33 2147483647) (h := ?_)
    refine p_ 31 70 (bb 33 4294967295) (h := ?_)
    refine p_ 32 71 (bb 33 8589934591) (h := ?_)
    refine d_ (h := ?_)
    have Bw11 := Aside0.mk (below_step Bw9.out (pw_below_drewN (Below.refl w9.heap.size w9) n10))
    clear hHeld s0 s1 s2 s3
    generalize w9.drewN n10 = w11 at Bw11 ⊢
    go_wp2
    go_loopg [11] X.length (fun kq v11 w' => ∃ k : Nat, v11 = .int .i64 (k : Int) ∧ Aside0 (kq + k = X.length) ∧ Aside0 (Below w11.heap.size w11 w'))
    case atStart => exact ⟨0, rfl, ⟨rfl⟩, ⟨Below.refl _ _⟩⟩
    case round =>
     obtain ⟨k, rfl, Hk36, HBI⟩ := hrel
     cases gk with
     | zero =>
      have hlt3 : ((k : Int) < (X.length : Int)) = False := eq_false (by have h := Hk36.out; omega)
      go_wp2
      go_roundg k1
      case measure => exact Nat.lt_succ_self _
      case rel => exact ⟨i + 1, by first | rfl | rw [HWK.out], ⟨by have h := HK.out; omega⟩, ⟨below_step (below_step HB.out Bw11.out) HBI.out⟩⟩
     | succ k2 =>
      have hkl : k < X.length := by have h := Hk36.out; omega
      have hlt3 : ((k : Int) < (X.length : Int)) = True := eq_true (by omega)
      obtain ⟨x, hx⟩ : ∃ x, X[k]? = some x := ⟨_, List.getElem?_eq_getElem hkl⟩
      have HCW := Aside0.mk (Kd.C_below (Kd.C_below (Kd.C_below (Kd.C_below CX.out Bw4.out) HB.out) Bw11.out) HBI.out)
      have HCV := Aside0.mk (Kd.C_below (Kd.C_below (Kd.C_below CY.out HB.out) Bw11.out) HBI.out)
      obtain ⟨ax, M0, m0, M3, m3, ea, hx0, hx1, _, _, _, hcx, _, _⟩ := at_CE HCW.out k x hx
      subst ea
      obtain ⟨ay2, N0, n0, N3, n3, ea, hy0, hy1, _, _, _, hcy, _, _⟩ := at_CE HCV.out i y HYI.out
      obtain rfl := Option.some.inj ea
      have HXK := Aside0.mk (List.mem_of_getElem? hx)
      have HWI := Aside0.mk (wadd1 (x := k) (z := k + 1) rfl (by have h := HXL.out; omega))
      have hse := str_eq (HEX.out x HXK.out).1 (HEY.out y HYM.out).1
      have hltk : ((i : Int) < (Y.length : Int)) = True := eq_true (by have h := HIL.out; omega)
      clear hx hkl HCW HCV
      by_cases hq : x.f0 = y.f0
      ·
       rw [decide_eq_true hq] at hse
       have hvl := HVL.out x HXK.out y HYM.out hq
       have hg1 : (y.f1 < x.f1) = False := eq_false (by omega)
       have hg2 : (a < x.f1) = False := eq_false (by omega)
       clear hvl hq
       go_upto_region 14 with (fail)
       refine s_ 35 [] (fun w' => w'.cell? (ax.add (k * 4)) = some (.slice M0 x.f0.length m0) ∧ w'.cell? (ay.add (i * 4)) = some (.slice N0 y.f0.length n0) ∧ Kd.C (Kd.int .u8) w' M0 x.f0.length x.f0 ∧ Kd.C (Kd.int .u8) w' N0 y.f0.length y.f0 ∧ w'.cell? ⟨(ax.add (k * 4)).block, (ax.add (k * 4)).off + 1, none⟩ = some (.int .i64 x.f1) ∧ w'.cell? ⟨(ay.add (i * 4)).block, (ay.add (i * 4)).off + 1, none⟩ = some (.int .i64 y.f1)) (hS := ⟨hx0, hy0, hcx, hcy, hx1, hy1⟩) (h := fun hHeld => ?_)
       have Bw14 := Aside0.mk (show Below wr.heap.size wr wr.drew from below_drew (Below.refl _ _))
       clear hx0 hy0 hcx hcy hx1 hy1
       generalize wr.drew = w14 at hHeld Bw14 ⊢
       refine p_ 0 78 (bb 35 1) (h := ?_)
       refine p_ 1 79 (bb 35 3) (h := ?_)
       refine p_ 2 80 (bb 35 7) (h := ?_)
       refine p_ 3 81 (bb 35 15) (h := ?_)
       refine t_ 4 82 (bb 35 31) hHeld (h := ?_)
       refine t_ 5 83 (bb 35 63) hHeld (hy := by (rintro w' ⟨s0, s1, s2, s3, s4, s5⟩; have hcv := Kd.C_string (P := Try.prog) (A := M0) (c := m0) Try.underlying34 Try.underlying5 Try.underlying9 s2; go_simp; with_reducible rfl)) (h := ?_)
       refine p_ 6 84 (bb 35 127) (h := ?_)
       refine p_ 7 85 (bb 35 255) (h := ?_)
       refine p_ 8 86 (bb 35 511) (h := ?_)
       refine p_ 9 87 (bb 35 1023) (h := ?_)
       refine t_ 10 88 (bb 35 2047) hHeld (h := ?_)
       refine t_ 11 89 (bb 35 4095) hHeld (hy := by (rintro w' ⟨s0, s1, s2, s3, s4, s5⟩; have hcv := Kd.C_string (P := Try.prog) (A := N0) (c := n0) Try.underlying34 Try.underlying5 Try.underlying9 s3; go_simp; with_reducible rfl)) (h := ?_)
       refine p_ 12 90 (bb 35 8191) (h := ?_)
       refine p_ 13 91 (bb 35 16383) (h := ?_)
       refine p_ 14 92 (bb 35 32767) (h := ?_)
       refine p_ 15 93 (bb 35 65535) (h := ?_)
       refine p_ 16 94 (bb 35 131071) (h := ?_)
       refine p_ 17 95 (bb 35 262143) (h := ?_)
       refine t_ 18 96 (bb 35 524287) hHeld (h := ?_)
       refine p_ 19 97 (bb 35 1048575) (h := ?_)
       refine p_ 20 98 (bb 35 2097151) (h := ?_)
       refine p_ 21 99 (bb 35 4194303) (h := ?_)
       refine p_ 22 100 (bb 35 8388607) (h := ?_)
       refine t_ 23 101 (bb 35 16777215) hHeld (h := ?_)
       refine p_ 24 102 (bb 35 33554431) (h := ?_)
       refine p_ 25 103 (bb 35 67108863) (h := ?_)
       refine p_ 26 104 (bb 35 134217727) (h := ?_)
       refine p_ 27 105 (bb 35 268435455) (h := ?_)
       refine p_ 28 106 (bb 35 536870911) (h := ?_)
       refine p_ 29 107 (bb 35 1073741823) (h := ?_)
       refine t_ 30 108 (bb 35 2147483647) hHeld (h := ?_)
       refine p_ 31 109 (bb 35 4294967295) (h := ?_)
       refine p_ 32 110 (bb 35 8589934591) (h := ?_)
       refine p_ 33 111 (bb 35 17179869183) (h := ?_)
       refine p_ 34 112 (bb 35 34359738367) (h := ?_)
       refine d_ (h := ?_)
       clear hHeld
       go_wp2
       go_roundg k2
       case measure => exact Nat.lt_succ_self _
       case rel => exact ⟨k + 1, by first | rfl | rw [HWI.out], ⟨by have h := Hk36.out; omega⟩, ⟨below_step HBI.out Bw14.out⟩⟩
      ·
       rw [decide_eq_false hq] at hse
       clear hq
       go_upto_region 14 with (fail)
       refine s_ 35 [] (fun w' => w'.cell? (ax.add (k * 4)) = some (.slice M0 x.f0.length m0) ∧ w'.cell? (ay.add (i * 4)) = some (.slice N0 y.f0.length n0) ∧ Kd.C (Kd.int .u8) w' M0 x.f0.length x.f0 ∧ Kd.C (Kd.int .u8) w' N0 y.f0.length y.f0 ∧ w'.cell? ⟨(ax.add (k * 4)).block, (ax.add (k * 4)).off + 1, none⟩ = some (.int .i64 x.f1) ∧ w'.cell? ⟨(ay.add (i * 4)).block, (ay.add (i * 4)).off + 1, none⟩ = some (.int .i64 y.f1)) (hS := ⟨hx0, hy0, hcx, hcy, hx1, hy1⟩) (h := fun hHeld => ?_)
       have Bw14 := Aside0.mk (show Below wr.heap.size wr wr.drew from below_drew (Below.refl _ _))
       clear hx0 hy0 hcx hcy hx1 hy1
       generalize wr.drew = w14 at hHeld Bw14 ⊢
       refine p_ 0 78 (bb 35 1) (h := ?_)
       refine p_ 1 79 (bb 35 3) (h := ?_)
       refine p_ 2 80 (bb 35 7) (h := ?_)
       refine p_ 3 81 (bb 35 15) (h := ?_)
       refine t_ 4 82 (bb 35 31) hHeld (h := ?_)
       refine t_ 5 83 (bb 35 63) hHeld (hy := by (rintro w' ⟨s0, s1, s2, s3, s4, s5⟩; have hcv := Kd.C_string (P := Try.prog) (A := M0) (c := m0) Try.underlying34 Try.underlying5 Try.underlying9 s2; go_simp; with_reducible rfl)) (h := ?_)
       refine p_ 6 84 (bb 35 127) (h := ?_)
       refine p_ 7 85 (bb 35 255) (h := ?_)
       refine p_ 8 86 (bb 35 511) (h := ?_)
       refine p_ 9 87 (bb 35 1023) (h := ?_)
       refine t_ 10 88 (bb 35 2047) hHeld (h := ?_)
       refine t_ 11 89 (bb 35 4095) hHeld (hy := by (rintro w' ⟨s0, s1, s2, s3, s4, s5⟩; have hcv := Kd.C_string (P := Try.prog) (A := N0) (c := n0) Try.underlying34 Try.underlying5 Try.underlying9 s3; go_simp; with_reducible rfl)) (h := ?_)
       refine p_ 12 90 (bb 35 8191) (h := ?_)
       refine p_ 13 91 (bb 35 16383) (h := ?_)
       refine o_ 14 92 (bb 35 32767) (h := ?_)
       refine o_ 15 93 (bb 35 65535) (h := ?_)
       refine o_ 16 94 (bb 35 131071) (h := ?_)
       refine o_ 17 95 (bb 35 262143) (h := ?_)
       refine o_ 18 96 (bb 35 524287) (h := ?_)
       refine o_ 19 97 (bb 35 1048575) (h := ?_)
       refine o_ 20 98 (bb 35 2097151) (h := ?_)
       refine o_ 21 99 (bb 35 4194303) (h := ?_)
       refine o_ 22 100 (bb 35 8388607) (h := ?_)
       refine o_ 23 101 (bb 35 16777215) (h := ?_)
       refine o_ 24 102 (bb 35 33554431) (h := ?_)
       refine o_ 25 103 (bb 35 67108863) (h := ?_)
       refine o_ 26 104 (bb 35 134217727) (h := ?_)
       refine o_ 27 105 (bb 35 268435455) (h := ?_)
       refine o_ 28 106 (bb 35 536870911) (h := ?_)
       refine o_ 29 107 (bb 35 1073741823) (h := ?_)
       refine o_ 30 108 (bb 35 2147483647) (h := ?_)
       refine o_ 31 109 (bb 35 4294967295) (h := ?_)
       refine o_ 32 110 (bb 35 8589934591) (h := ?_)
       refine o_ 33 111 (bb 35 17179869183) (h := ?_)
       refine p_ 34 112 (bb 35 34359738367) (h := ?_)
       refine d_ (h := ?_)
       clear hHeld
       go_wp2
       go_roundg k2
       case measure => exact Nat.lt_succ_self _
       case rel => exact ⟨k + 1, by first | rfl | rw [HWI.out], ⟨by have h := Hk36.out; omega⟩, ⟨below_step HBI.out Bw14.out⟩⟩
end Go.Proofs.Ytobjkjmmkbhecaa.Sk
