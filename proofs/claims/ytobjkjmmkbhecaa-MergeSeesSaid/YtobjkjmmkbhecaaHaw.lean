/- awake. Conditions: those of each theorem. -/
import Derived.Test.YtobjkjmmkbhecaaCore
import Derived.Test.YtobjkjmmkbhecaaHae
import Derived.Test.YtobjkjmmkbhecaaMF
import Derived.Test.YtobjkjmmkbhecaaME
import Derived.Test.YtobjkjmmkbhecaaHmr
import Derived.Test.YtobjkjmmkbhecaaHpr
import Derived.Test.YtobjkjmmkbhecaaHrw
import Derived.Test.YtobjkjmmkbhecaaHsp
import Derived.Test.YtobjkjmmkbhecaaHvi
import Derived.Test.YtobjkjmmkbhecaaPx0
import Derived.Test.YtobjkjmmkbhecaaHkp
import Derived.Test.YtobjkjmmkbhecaaHgp
import Derived.Test.YtobjkjmmkbhecaaHpl
import Derived.Test.YtobjkjmmkbhecaaHso
namespace Go.Proofs.Ytobjkjmmkbhecaa.Sk
open Go.RowKit Go.Proofs.YtobjkjmmkbhecaaW.PrintWords Go.Proofs.YtobjkjmmkbhecaaW.PrintLast Go.Proofs.YtobjkjmmkbhecaaW.PrintMore Go.Proofs.Ytobjkjmmkbhecaa.Px Go.Proofs.Ytobjkjmmkbhecaa.Sw
set_option linter.unusedVariables false
set_option linter.unusedSimpArgs false

theorem mk1_calls (w : World) (b : UInt8) (n : Int) (hb : bytesOf ⟨#[b]⟩ = [n]) (seq : Int) (gone : Bool) :
  Calls Try.prog 25 #[.string ⟨#[b]⟩, .int .i64 seq, .bool gone] w fun ex w' => ∃ A c, ex = .returned (.agg #[.slice A 1 c, .int .i64 seq, .bool gone, .slice none 0 0]) ∧ 1 ≤ c ∧ Kd.F (Kd.int .u8) w' (fun k => w.heap.size ≤ k) A 1 [n] ∧ Below w.heap.size w w' := by
 have h := mk_calls w ⟨#[b]⟩ (by show 1 ≤ 140737488355328; omega) seq gone
 rw [hb] at h
 exact h
theorem rows3 {W : World} {okF : Nat → Prop} {g : Nat} {Aa Ab Ac : Option Addr} {ca cb cc : Nat} {xa xb xc : List S36} (hg : W.heap[g]? = some (.cells #[.slice Aa xa.length ca, .slice Ab xb.length cb, .slice Ac xc.length cc] 24 (0, 0))) (la : xa.length ≤ ca) (lb : xb.length ≤ cb) (lc : xc.length ≤ cc) (ha : Kd.F k36 W okF Aa xa.length xa) (hb : Kd.F k36 W okF Ab xb.length xb) (hc : Kd.F k36 W okF Ac xc.length xc) :
  Rows W okF (some ⟨g, 0, none⟩) [xa, xb, xc] := by
 intro i xs hi
 match i, hi with
 | 0, hi =>
  obtain rfl := Option.some.inj hi
  exact ⟨_, Aa, ca, rfl, (blk_cell hg 0).trans rfl, la, ha⟩
 | 1, hi =>
  obtain rfl := Option.some.inj hi
  exact ⟨_, Ab, cb, rfl, (blk_cell hg 1).trans rfl, lb, hb⟩
 | 2, hi =>
  obtain rfl := Option.some.inj hi
  exact ⟨_, Ac, cc, rfl, (blk_cell hg 2).trans rfl, lc, hc⟩
 | (j + 3), hi => cases hi
set_option maxHeartbeats 40000000 in
set_option maxRecDepth 100000 in
theorem awake_calls (w : World) : Calls Try.prog 11 #[] w fun ex w' => ex = .returned (.bool true) ∧ Below w.heap.size w w' := by
 have huE := Try.underlying36
 go_enter Try.func11, Try.ntmps11
 go_upto_region 6 with (first
  | ((with_reducible refine gate_dst (N := 8) rfl ?_); (try (refine gate_guard (by rfl) ?_; dsimp only)); refine goesF_ (some 8) rfl rfl Try.func25 (by kernel_rfl) rfl #[] #[] (#[.string ⟨#[97]⟩, .int .i64 5, .bool false]) rfl rfl (by (try simp only [List.map_toArray, List.map_cons, List.map_nil]); first | done | rfl) ?_; refine (mk1_calls w 97 97 (by kernel_rfl) 5 false).mono ?_; rintro ex w1 ⟨A8, c8, rfl, l_, f_, b_⟩; refine ⟨_, rfl, ?_⟩; have L8 := Aside0.mk (l_); have F8 := Aside0.mk (f_); have B8 := Aside0.mk (b_); clear l_ f_ b_)
  | ((with_reducible refine gate_dst (N := 10) rfl ?_); (try (refine gate_guard (by rfl) ?_; dsimp only)); refine goesF_ (some 10) rfl rfl Try.func25 (by kernel_rfl) rfl #[] #[] (#[.string ⟨#[97]⟩, .int .i64 3, .bool false]) rfl rfl (by (try simp only [List.map_toArray, List.map_cons, List.map_nil]); first | done | rfl) ?_; refine (mk1_calls w1 97 97 (by kernel_rfl) 3 false).mono ?_; rintro ex w2 ⟨A10, c10, rfl, l_, f_, b_⟩; refine ⟨_, rfl, ?_⟩; have L10 := Aside0.mk (l_); have F10 := Aside0.mk (f_); have B10 := Aside0.mk (b_); clear l_ f_ b_)
  | ((with_reducible refine gate_dst (N := 12) rfl ?_); (try (refine gate_guard (by rfl) ?_; dsimp only)); refine goesF_ (some 12) rfl rfl Try.func25 (by kernel_rfl) rfl #[] #[] (#[.string ⟨#[97]⟩, .int .i64 1, .bool false]) rfl rfl (by (try simp only [List.map_toArray, List.map_cons, List.map_nil]); first | done | rfl) ?_; refine (mk1_calls w2 97 97 (by kernel_rfl) 1 false).mono ?_; rintro ex w3 ⟨A12, c12, rfl, l_, f_, b_⟩; refine ⟨_, rfl, ?_⟩; have L12 := Aside0.mk (l_); have F12 := Aside0.mk (f_); have B12 := Aside0.mk (b_); clear l_ f_ b_)
  | ((with_reducible refine gate_dst (N := 14) rfl ?_); (try (refine gate_guard (by rfl) ?_; dsimp only)); refine goesF_ (some 14) rfl rfl Try.func25 (by kernel_rfl) rfl #[] #[] (#[.string ⟨#[98]⟩, .int .i64 4, .bool true]) rfl rfl (by (try simp only [List.map_toArray, List.map_cons, List.map_nil]); first | done | rfl) ?_; refine (mk1_calls w3 98 98 (by kernel_rfl) 4 true).mono ?_; rintro ex w4 ⟨A14, c14, rfl, l_, f_, b_⟩; refine ⟨_, rfl, ?_⟩; have L14 := Aside0.mk (l_); have F14 := Aside0.mk (f_); have B14 := Aside0.mk (b_); clear l_ f_ b_)
  | ((with_reducible refine gate_dst (N := 15) rfl ?_); (try (refine gate_guard (by rfl) ?_; dsimp only)); refine Kd.N_lit k36 _ 36 ?hg (N' := 15) ?hd (xs := exL) (inner := [.slice A8 1 c8, .int .i64 5, .bool false, .slice none 0 0, .slice A10 1 c10, .int .i64 3, .bool false, .slice none 0 0, .slice A12 1 c12, .int .i64 1, .bool false, .slice none 0 0, .slice A14 1 c14, .int .i64 4, .bool true, .slice none 0 0]) (ok := fun _ => True) (okp := fun _ => True) ?hr ?hp (fun _ hk => hk) trivial (Below.refl _ _) (Nat.le_refl _) (by show 4 ≤ 9223372036854775807; omega) ?_; (case hd => rfl); (case hg => rfl); (case hr => first | (go_simp; done) | (go_simp; rfl)); (case hp => exact Reps.c4 (k36_mkF _ _ (⟨[97], 5, false, []⟩ : S36) L8.out (Kd.F_mono (Kd.F_below (Kd.F_below (Kd.F_below F8.out B10.out) B12.out) B14.out) (fun _ _ => trivial)) (Nat.le_refl _) (Kd.F_nil _ _ _)) (Reps.c4 (k36_mkF _ _ (⟨[97], 3, false, []⟩ : S36) L10.out (Kd.F_mono (Kd.F_below (Kd.F_below F10.out B12.out) B14.out) (fun _ _ => trivial)) (Nat.le_refl _) (Kd.F_nil _ _ _)) (Reps.c4 (k36_mkF _ _ (⟨[97], 1, false, []⟩ : S36) L12.out (Kd.F_mono (Kd.F_below F12.out B14.out) (fun _ _ => trivial)) (Nat.le_refl _) (Kd.F_nil _ _ _)) (Reps.c4 (k36_mkF _ _ (⟨[98], 4, true, []⟩ : S36) L14.out (Kd.F_mono F14.out (fun _ _ => trivial)) (Nat.le_refl _) (Kd.F_nil _ _ _)) (Reps.none _ _))))); intro v15 w5 ho15 hb hg_ hnew_; clear hg_ hnew_; obtain ⟨A15, c15, e_⟩ := Kd.N_slice ho15; have e_ : v15 = .slice A15 4 c15 := e_; subst e_; have G5 := Aside0.mk (Kd.N_F ho15); have C15 := Aside0.mk ((Kd.N_reads' ho15).2.1); have B5 := Aside0.mk (below_step B8.out (below_step B10.out (below_step B12.out (below_step B14.out hb)))); clear ho15 hb)
  | ((with_reducible refine gate_dst (N := 17) rfl ?_); (try (refine gate_guard (by rfl) ?_; dsimp only)); refine Kd.R_lit (Kd.int .i64) _ 3 ?hg (N := 17) ?hd (xs := ([3] : List Int)) (inner := [.int .i64 3]) (ok := fun _ => True) (okp := fun _ => True) ?hr ?hp (fun _ hk => hk) trivial (Below.refl _ _) (Nat.le_refl _) (by simp) ?_; (case hd => rfl); (case hg => rfl); (case hr => first | (go_simp; done) | (go_simp; rfl)); (case hp => exact (Reps.one (show Kd.M (Kd.int .i64) _ _ _ 3 [.int .i64 3] from rfl) (Reps.none _ _))); intro v_ w6 ho_ hb hg_ hnew_; clear hg_ hnew_; obtain ⟨A17, c17, rfl⟩ := Kd.R_slice ho_; have R17 := Aside0.mk (ho_); have D17 := Aside0.mk (hb); clear ho_ hb)
  | ((with_reducible refine gate_dst (N := 18) rfl ?_); (try (refine gate_guard (by rfl) ?_; dsimp only)); refine goesL_ (some 18) rfl rfl Try.func17 (by kernel_rfl) rfl #[.slice A15 4 c15, .slice A17 1 c17, .bool false] rfl (by (try simp only [List.map_toArray, List.map_cons, List.map_nil]); first | done | rfl) ?_; refine (prune_calls (Kd.F_below G5.out D17.out) C15.out ex_good (Kd.R_reads' R17.out).2.2 (Kd.R_reads' R17.out).2.1 (by decide) false).mono ?_; rintro ex w7 ⟨v_, rfl, hv_, hb_⟩; refine ⟨_, rfl, ?_⟩; rw [exP0] at hv_; obtain ⟨A18, c18, rfl, l_, f_⟩ := hv_; have V18 := Aside0.mk (Kd.F_now f_); have D18 := Aside0.mk (hb_); clear l_ f_ hb_)
  | ((with_reducible refine gate_dst (N := 20) rfl ?_); (try (refine gate_guard (by rfl) ?_; dsimp only)); refine Kd.R_lit (Kd.int .i64) _ 3 ?hg (N := 20) ?hd (xs := ([3] : List Int)) (inner := [.int .i64 3]) (ok := fun _ => True) (okp := fun _ => True) ?hr ?hp (fun _ hk => hk) trivial (Below.refl _ _) (Nat.le_refl _) (by simp) ?_; (case hd => rfl); (case hg => rfl); (case hr => first | (go_simp; done) | (go_simp; rfl)); (case hp => exact (Reps.one (show Kd.M (Kd.int .i64) _ _ _ 3 [.int .i64 3] from rfl) (Reps.none _ _))); intro v_ w8 ho_ hb hg_ hnew_; clear hg_ hnew_; obtain ⟨A20, c20, rfl⟩ := Kd.R_slice ho_; have R20 := Aside0.mk (ho_); have D20 := Aside0.mk (hb); clear ho_ hb)
  | ((with_reducible refine gate_dst (N := 21) rfl ?_); (try (refine gate_guard (by rfl) ?_; dsimp only)); refine goesL_ (some 21) rfl rfl Try.func17 (by kernel_rfl) rfl #[.slice A15 4 c15, .slice A20 1 c20, .bool true] rfl (by (try simp only [List.map_toArray, List.map_cons, List.map_nil]); first | done | rfl) ?_; refine (prune_calls (Kd.F_below (Kd.F_below (Kd.F_below G5.out D17.out) D18.out) D20.out) C15.out ex_good (Kd.R_reads' R20.out).2.2 (Kd.R_reads' R20.out).2.1 (by decide) true).mono ?_; rintro ex w9 ⟨v_, rfl, hv_, hb_⟩; refine ⟨_, rfl, ?_⟩; rw [exP1] at hv_; obtain ⟨A21, c21, rfl, l_, f_⟩ := hv_; have V21 := Aside0.mk (Kd.F_now f_); have D21 := Aside0.mk (hb_); clear l_ f_ hb_)
  | ((with_reducible refine gate_dst (N := 23) rfl ?_); (try (refine gate_guard (by rfl) ?_; dsimp only)); refine goesL_ (some 23) rfl rfl Try.func15 (by kernel_rfl) rfl #[.slice A15 4 c15, .int .i64 4] rfl (by (try simp only [List.map_toArray, List.map_cons, List.map_nil]); first | done | rfl) ?_; refine (visible_calls (Kd.F_below (Kd.F_below (Kd.F_below (Kd.F_below G5.out D17.out) D18.out) D20.out) D21.out) C15.out ex_good 4).mono ?_; rintro ex w10 ⟨v_, rfl, hv_, hb_⟩; refine ⟨_, rfl, ?_⟩; rw [exV] at hv_; obtain ⟨A23, c23, rfl, l_, f_⟩ := hv_; have V23 := Aside0.mk (Kd.F_now f_); have D23 := Aside0.mk (hb_); clear l_ f_ hb_))
 have hC15 : 4 ≤ c15 := C15.out
 have HH6 := Aside0.mk (show Kd.F k36 w10 (fun _ => True) A15 exL.length exL from (Kd.F_below (Kd.F_below (Kd.F_below (Kd.F_below (Kd.F_below G5.out D17.out) D18.out) D20.out) D21.out) D23.out))
 obtain ⟨ad, had, _⟩ := (Kd.F_now HH6.out).2.2 (by decide)
 subst had
 have HH2 := Aside0.mk (Kd.F_take (m := 2) HH6.out (by decide))
 have HH4 := Aside0.mk (show Kd.F k36 w10 (fun _ => True) (some ⟨ad.block, ad.off + 8, none⟩) (exL.drop 2).length (exL.drop 2) from by
  have h := Kd.F_cut (m := 2) HH6.out (by decide) C15.out
  rw [if_neg (by omega)] at h
  exact h)
 obtain ⟨i0, hi0, _, hsz0, _⟩ := info_parts info36
 have hcutA := cut_to (P := Try.prog) 24 36 .i64 Try.underlying24 hi0 (some ad) 4 c15 2 (by decide) (by decide) hC15
 have hcutB : ∀ W : World, (Instr.slice 24 (.slice (some ad) 4 c15) (some (.int .i64 2)) none none).run Try.prog W = .ok (.slice (some (ad.add 8)) 2 (c15 - 2)) W := by
  intro W
  have h := cut_from (P := Try.prog) 24 36 .i64 Try.underlying24 hi0 4 hsz0 (some ad) 4 c15 2 (by decide) (by decide) W
  rwa [if_neg (by show ¬ c15 = 2; omega)] at h
 have C2 := Aside0.mk (show (exL.take 2).length ≤ c15 from Nat.le_trans (by decide) hC15)
 have C4 := Aside0.mk (show (exL.drop 2).length ≤ c15 - 2 by show 2 ≤ c15 - 2; omega)
 have hq1 : ((2 : Int) ≤ (c15 : Int)) = True := eq_true (by omega)
 have hq2 : (c15 = 2) = False := eq_false (by omega)
 clear hi0 hsz0 hC15 hcutA hcutB
 refine s_ 8 [] (fun w' => True) (hS := (trivial)) (h := fun hHeld => ?_)
 have D11 := Aside0.mk (show Below w10.heap.size w10 w10.drew from below_drew (Below.refl _ _))
 have H2 := Aside0.mk (Kd.F_below HH2.out D11.out)
 have H4 := Aside0.mk (Kd.F_below HH4.out D11.out)
 have H6 := Aside0.mk (Kd.F_below HH6.out D11.out)
 generalize w10.drew = w11 at D11 H2 H4 H6 hHeld ⊢
 refine p_ 0 24 (bb 8 1) (h := ?_)
 refine p_ 1 25 (bb 8 3) (h := ?_)
 refine p_ 2 26 (bb 8 7) (h := ?_)
 refine p_ 3 27 (bb 8 15) (h := ?_)
 refine p_ 4 28 (bb 8 31) (h := ?_)
 refine n_ 5 29 (bb 8 63) (h := fun K hK => ?_)
 refine value_ (w1 := w11.alloc (.cells #[.slice (some ad) 2 c15, .slice (some ⟨ad.block, ad.off + 8, none⟩) 2 (c15 - 2), .slice (some ad) 4 c15] 24 (0, 0))) (v := .slice (some ⟨w11.heap.size, 0, none⟩) 3 3) (by rfl) rfl (by first | (go_simp; done) | (go_simp; rfl)) ?_
 have D29 := Aside0.mk (below_alloc (Below.refl w11.heap.size w11) (.cells #[.slice (some ad) 2 c15, .slice (some ⟨ad.block, ad.off + 8, none⟩) 2 (c15 - 2), .slice (some ad) 4 c15] 24 (0, 0)))
 have X29 := Aside0.mk (show (w11.alloc (.cells #[.slice (some ad) 2 c15, .slice (some ⟨ad.block, ad.off + 8, none⟩) 2 (c15 - 2), .slice (some ad) 4 c15] 24 (0, 0))).heap[w11.heap.size]? = some (.cells #[.slice (some ad) 2 c15, .slice (some ⟨ad.block, ad.off + 8, none⟩) 2 (c15 - 2), .slice (some ad) 4 c15] 24 (0, 0)) from blk_new w11 _)
 generalize w11.alloc (.cells #[.slice (some ad) 2 c15, .slice (some ⟨ad.block, ad.off + 8, none⟩) 2 (c15 - 2), .slice (some ad) 4 c15] 24 (0, 0)) = w12 at D29 X29 ⊢
 refine hK.out _ _ trivial (fun hHeld => ?_)
 clear hK K
 refine m_ 29 (h := ?_)
 refine n_ 6 30 (bb 8 127) (h := fun K hK => ?_)
 refine goes_ Try.func13 (by kernel_rfl) rfl #[.slice (some ⟨w11.heap.size, 0, none⟩) 3 3] (by rfl) rfl rfl (by (try simp only [List.map_toArray, List.map_cons, List.map_nil]); first | done | rfl) ?_
 refine (merge_calls (c := 3) (xss := [exL.take 2, exL.drop 2, exL]) (rows3 X29.out C2.out C4.out C15.out (Kd.F_below H2.out D29.out) (Kd.F_below H4.out D29.out) (Kd.F_below H6.out D29.out)) (goodL_iff.1 exF_good).2 (by decide) (fun e he => ((goodL_iff.1 exF_good).1 e he).2) (fun e he => ((goodL_iff.1 exF_good).1 e he).1)).mono ?_
 rintro ex w13 ⟨v_, rfl, hn_, hb_⟩
 refine ⟨_, rfl, ?_⟩
 rw [exM] at hn_
 obtain ⟨A30, c30, e_⟩ := Kd.N_slice hn_
 have e_ : v_ = .slice A30 4 c30 := e_
 subst e_
 have D30 := Aside0.mk hb_
 clear hn_ hb_
 refine hK.out _ _ trivial (fun hHeld => ?_)
 clear hK K
 refine m_ 30 (h := ?_)
 refine p_ 7 6 (bb 8 255) (h := ?_)
 refine d_ (h := ?_)
 obtain ⟨ad1, M0, m0, M3, m3, e1, _, _, hp2, _⟩ := at_CE ((Kd.C_below (Kd.C_below (Kd.C_below (Kd.C_below (Kd.C_below (Kd.C_below V18.out D20.out) D21.out) D23.out) D11.out) D29.out) D30.out)) 2 _ rfl
 subst e1
 obtain ⟨ad2, M0', m0', M3', m3', e2, _, hq1, _⟩ := at_CE ((Kd.C_below (Kd.C_below (Kd.C_below (Kd.C_below V21.out D23.out) D11.out) D29.out) D30.out)) 1 _ rfl
 subst e2
 obtain ⟨ad3, M0'', m0'', M3'', m3'', e3, _, hv1, _⟩ := at_CE ((Kd.C_below (Kd.C_below (Kd.C_below V23.out D11.out) D29.out) D30.out)) 0 _ rfl
 subst e3
 have hp2 : w13.cell? ⟨ad1.block, ad1.off + 8 + 2, none⟩ = some (.bool true) := hp2
 have hq1 : w13.cell? ⟨ad2.block, ad2.off + 4 + 1, none⟩ = some (.int .i64 3) := hq1
 have hv1 : w13.cell? ⟨ad3.block, ad3.off + 1, none⟩ = some (.int .i64 3) := hv1
 have hl4 : exL.length = 4 := rfl
 go_wp2_with (first
  | ((with_reducible refine gate_dst (N := 71) rfl ?_); (try (refine gate_guard (by rfl) ?_; dsimp only)); refine goesL_ (some 71) rfl rfl Try.func19 (by kernel_rfl) rfl #[.slice (some ad) 4 c15, .int .i64 2] rfl (by (try simp only [List.map_toArray, List.map_cons, List.map_nil]); first | done | rfl) ?_; refine (split_calls (Kd.F_below (Kd.F_below H6.out D29.out) D30.out) C15.out (by decide) (goodL_iff.1 ex_good).1 2).mono ?_; rintro ex w14 ⟨v_, rfl, hn_, hb_⟩; refine ⟨_, rfl, ?_⟩; rw [exS] at hn_; obtain ⟨A71, c71, rfl⟩ := Kd.N_slice hn_; have D71 := Aside0.mk (hb_); clear hn_ hb_))
 go_ret
 exact ⟨rfl, (below_step (below_step (below_step (below_step (below_step (below_step (below_step (below_step (below_step B5.out D17.out) D18.out) D20.out) D21.out) D23.out) D11.out) D29.out) D30.out) D71.out)⟩
end Go.Proofs.Ytobjkjmmkbhecaa.Sk
