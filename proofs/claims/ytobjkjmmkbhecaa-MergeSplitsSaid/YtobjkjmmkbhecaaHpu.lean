/- The document's put. Conditions: those of each theorem. -/
import Derived.Test.YtobjkjmmkbhecaaCore
import Derived.Test.YtobjkjmmkbhecaaHcu
import Derived.Test.YtobjkjmmkbhecaaME
import Derived.Test.YtobjkjmmkbhecaaHmo
import Derived.Test.YtobjkjmmkbhecaaHod
import Derived.Test.YtobjkjmmkbhecaaHpl
import Derived.Test.YtobjkjmmkbhecaaHrw
import Derived.Test.YtobjkjmmkbhecaaHso
import Derived.Test.YtobjkjmmkbhecaaPx0
import Derived.Test.YtobjkjmmkbhecaaMB
namespace Go.Proofs.Ytobjkjmmkbhecaa.Sk
open Go.RowKit Go.Proofs.YtobjkjmmkbhecaaW.PrintWords Go.Proofs.YtobjkjmmkbhecaaW.PrintLast Go.Proofs.YtobjkjmmkbhecaaW.PrintMore Go.Proofs.Ytobjkjmmkbhecaa.Px Go.Proofs.Ytobjkjmmkbhecaa.Sw
set_option linter.unusedVariables false
set_option linter.unusedSimpArgs false

theorem cutT (A : Option Addr) (t e sz by_ : Nat) (z : Value) (ht : Try.prog.underlying t = some (.slice e)) (hinfo : (Try.prog.info? e).map (fun i => (i.zero, i.size, i.bytes)) = some (some z, sz, by_)) (n c i : Nat) (hi : i ≤ n) (hc : n ≤ c) :
  (∀ W : World, (Instr.slice t (.slice A n c) none (some (.int .i64 (i : Int))) none).run Try.prog W = .ok (.slice A i c) W) ∧ (∀ W : World, (Instr.slice t (.slice A n c) (some (.int .i64 (i : Int))) none none).run Try.prog W = .ok (.slice (if c = i then A else A.map (·.add (i * sz))) (n - i) (c - i)) W) := by
 obtain ⟨i0, hi0, _, hsz0, _⟩ := info_parts hinfo
 refine ⟨fun W => ?_, fun W => ?_⟩
 ·
  have h := cut_to (P := Try.prog) t e .i64 ht hi0 A n c (i : Int) (by omega) (by omega) hc W
  rw [Int.toNat_natCast] at h
  exact h
 ·
  have h := cut_from (P := Try.prog) t e .i64 ht hi0 sz hsz0 A n c (i : Int) (by omega) (by omega) W
  rw [Int.toNat_natCast] at h
  exact h
theorem ahead_calls {w : World} {A0 A3 B0 B3 : Option Addr} {c0 c3 d0 d3 : Nat} {a e : S36} (ha : EB a) (he : EB e) (hl : a.f0.length < 140737488355328) (h0 : Kd.C (Kd.int .u8) w A0 a.f0.length a.f0) (g0 : a.f0.length ≤ c0) (h3 : Kd.C (Kd.int .u8) w A3 a.f3.length a.f3) (g3 : a.f3.length ≤ c3) (h4 : Kd.C (Kd.int .u8) w B0 e.f0.length e.f0) (g4 : e.f0.length ≤ d0) (h5 : Kd.C (Kd.int .u8) w B3 e.f3.length e.f3) (g5 : e.f3.length ≤ d3) :
  Calls Try.prog 40 #[.agg #[.slice A0 a.f0.length c0, .int .i64 a.f1, .bool a.f2, .slice A3 a.f3.length c3], .agg #[.slice B0 e.f0.length d0, .int .i64 e.f1, .bool e.f2, .slice B3 e.f3.length d3]] w fun ex w' => ex = .returned (.bool (ahe a e)) ∧ Below w.heap.size w w' := by
 obtain ⟨K, hf⟩ := refAhead_f (a := a) (b := e) ha.1 he.1 (by omega)
 exact sawyerref06_Ahead.calls K A0 c0 a.f0 a.f1 a.f2 A3 c3 a.f3 B0 d0 e.f0 e.f1 e.f2 B3 d3 e.f3 _ w h0 g0 h3 g3 h4 g4 h5 g5 (hf K (Nat.le_refl _))
theorem copy_calls {w : World} {A0 A3 : Option Addr} {c0 c3 : Nat} {e : S36} (hl : e.f0.length < 140737488355328 ∧ e.f3.length < 140737488355328) (h0 : Kd.C (Kd.int .u8) w A0 e.f0.length e.f0) (g0 : e.f0.length ≤ c0) (h3 : Kd.C (Kd.int .u8) w A3 e.f3.length e.f3) (g3 : e.f3.length ≤ c3) :
  Calls Try.prog 36 #[.agg #[.slice A0 e.f0.length c0, .int .i64 e.f1, .bool e.f2, .slice A3 e.f3.length c3]] w fun ex w' => ∃ P0 d0 P3 d3, ex = .returned (.agg #[.slice P0 e.f0.length d0, .int .i64 e.f1, .bool e.f2, .slice P3 e.f3.length d3]) ∧ e.f0.length ≤ d0 ∧ e.f3.length ≤ d3 ∧ Kd.F (Kd.int .u8) w' (fun k => w.heap.size ≤ k) P0 e.f0.length e.f0 ∧ Kd.F (Kd.int .u8) w' (fun k => w.heap.size ≤ k) P3 e.f3.length e.f3 ∧ Below w.heap.size w w' := by
 refine (sawyerref06_Copy.calls A0 c0 e.f0 e.f1 e.f2 A3 c3 e.f3 e.f0 e.f1 e.f2 e.f3 w h0 g0 h3 g3 (by unfold sawyerref06_Copy.f; simp [hl.1, hl.2])).mono ?_
 rintro ex w' ⟨v0, v3, rfl, r0, r3, hb⟩
 obtain ⟨P0, d0, rfl⟩ := Kd.R_slice r0
 obtain ⟨P3, d3, rfl⟩ := Kd.R_slice r3
 exact ⟨P0, d0, P3, d3, rfl, (Kd.R_reads' r0).2.1, (Kd.R_reads' r3).2.1, Kd.F_mono (Kd.R_F (Kd.R_bound r0)) (fun k hk => hk.2.1), Kd.F_mono (Kd.R_F (Kd.R_bound r3)) (fun k hk => hk.2.1), hb⟩
/-- Where an entry goes in. -/
theorem putE_at {e : S36} : ∀ {xs : List S36} {n : Nat}, n ≤ xs.length → (∀ j z, j < n → xs[j]? = some z → cmpE z e < 0) →
  ((n = xs.length → putE cmpE e xs = xs.take n ++ ([e] ++ xs.drop n)) ∧ ∀ z, xs[n]? = some z → ¬ cmpE z e < 0 → (cmpE e z < 0 → putE cmpE e xs = xs.take n ++ ([e] ++ xs.drop n)) ∧ (¬ cmpE e z < 0 → putE cmpE e xs = xs))
 | [], 0, _, _ => ⟨fun _ => rfl, fun z h => by simp at h⟩
 | y :: xs, 0, _, _ => by
  refine ⟨fun h => by simp at h, fun z hz h1 => ?_⟩
  injection hz with hz
  subst hz
  unfold putE
  rw [if_neg h1]
  exact ⟨fun h2 => by rw [if_pos h2]; rfl, fun h2 => by rw [if_neg h2]⟩
 | [], n + 1, h, _ => by simp at h
 | y :: xs, n + 1, h, hh => by
  have ih := putE_at (e := e) (xs := xs) (n := n) (by simp at h; omega) (fun j z hj hz => hh (j + 1) z (by omega) (by simpa using hz))
  have hy := hh 0 y (by omega) rfl
  have hp : putE cmpE e (y :: xs) = y :: putE cmpE e xs := by
   conv => lhs; unfold putE
   rw [if_pos hy]
  rw [hp]
  refine ⟨fun h2 => by rw [ih.1 (by simp at h2; omega)]; rfl, fun z hz h1 => ⟨fun h2 => ?_, fun h2 => ?_⟩⟩
  ·
   rw [(ih.2 z (by simpa using hz) h1).1 h2]; rfl
  ·
   rw [(ih.2 z (by simpa using hz) h1).2 h2]
set_option maxHeartbeats 40000000 in
set_option maxRecDepth 100000 in
theorem put_calls {w : World} {A : Option Addr} {c : Nat} {xs : List S36} {okF : Nat → Prop} {A0 A3 : Option Addr} {c0 c3 : Nat} {e : S36} (hF0 : Kd.F k36 w okF A xs.length xs) (hlc : xs.length ≤ c) (hg : goodL xs = true) (hln : xs.length ≤ 100000000) (he : EB e) (hle : e.f0.length < 140737488355328 ∧ e.f3.length < 140737488355328) (h0 : Kd.C (Kd.int .u8) w A0 e.f0.length e.f0) (g0 : e.f0.length ≤ c0) (h3 : Kd.C (Kd.int .u8) w A3 e.f3.length e.f3) (g3 : e.f3.length ≤ c3) :
  Calls Try.prog 31 #[.slice A xs.length c, .agg #[.slice A0 e.f0.length c0, .int .i64 e.f1, .bool e.f2, .slice A3 e.f3.length c3]] w fun ex w' => ∃ v, ex = .returned v ∧ Kd.V k36 36 w' w.heap.size (fun k => okF k ∨ w.heap.size ≤ k) v (putE cmpE e xs) ∧ Below w.heap.size w w' := by
 have huE := Try.underlying36
 have HF := Aside0.mk hF0
 have HLC := Aside0.mk hlc
 have HGD := Aside0.mk (goodL_iff.1 hg).1
 have HXN := Aside0.mk hln
 have H36 := Aside0.mk he
 have HLE := Aside0.mk hle
 have HK0 := Aside0.mk h0
 have HK3 := Aside0.mk h3
 have HKL := Aside0.mk (show e.f0.length ≤ c0 ∧ e.f3.length ≤ c3 from ⟨g0, g3⟩)
 clear hF0 hlc hg hln he hle h0 h3 g0 g3
 go_enter Try.func31, Try.ntmps31
 go_wp2_with (first
  | ((with_reducible refine gate_dst (N := 3) rfl ?_); (try (refine gate_guard (by rfl) ?_; dsimp only)); refine box_event ?hg (N := 3) ?hd (cs := #[.slice A0 e.f0.length c0, .int .i64 e.f1, .bool e.f2, .slice A3 e.f3.length c3]) (t := 36) ?hr ?_; (case hd => rfl); (case hg => rfl); (case hr => first | (go_simp; done) | (go_simp; rfl)); intro g3 hqg3 w1 hxg3 hbg3; have n_ := Aside0.mk hqg3; clear hqg3; have hqg3 := n_; clear n_; have n_ := Aside0.mk hxg3; clear hxg3; have hxg3 := n_; clear n_; have n_ := Aside0.mk hbg3; clear hbg3; have hbg3 := n_; clear n_))
 go_loopg [5] xs.length (fun kq v5 w' => ∃ n : Nat, v5 = .int .i64 (n : Int) ∧ Aside0 (kq + n = xs.length) ∧ Aside0 (∀ j z, j < n → xs[j]? = some z → cmpE z e < 0) ∧ Aside0 (w'.heap[g3]? = some (.cells #[.slice A0 e.f0.length c0, .int .i64 e.f1, .bool e.f2, .slice A3 e.f3.length c3] 36 (0, 0))) ∧ Aside0 (Below w.heap.size w w'))
 case atStart => exact ⟨0, rfl, ⟨rfl⟩, ⟨fun j z h => by omega⟩, hxg3, hbg3⟩
 case round =>
  clear hxg3 hbg3 hqg3
  obtain ⟨n, rfl, HK, HQ, HX, HB⟩ := hrel
  cases gk with
  | zero =>
   as_aux_lemma =>
   have hne : n = xs.length := by have h := HK.out; omega
   have HNT := Aside0.mk (show n ≤ xs.length by omega)
   have hlt : (n < xs.length) = False := eq_false (by omega)
   have HPE := Aside0.mk ((putE_at HNT.out HQ.out).1 hne)
   clear hne
   go_upto_region 2 with (fail)
   refine s_ 12 [] (fun w' => True) (hS := (trivial)) (h := fun hHeld => ?_)
   have B2 := Aside0.mk (show Below wr.heap.size wr wr.drew from below_drew (Below.refl _ _))
   have X2 := Aside0.mk (blk_drew HX.out)
   generalize wr.drew = w2 at hHeld B2 X2 ⊢
   refine p_ 0 6 (bb 12 1) (h := ?_)
   refine p_ 1 7 (bb 12 3) (h := ?_)
   refine p_ 2 8 (bb 12 7) (h := ?_)
   refine p_ 3 9 (bb 12 15) (h := ?_)
   refine p_ 4 10 (bb 12 31) (h := ?_)
   refine o_ 5 11 (bb 12 63) (h := ?_)
   refine o_ 6 12 (bb 12 127) (h := ?_)
   refine o_ 7 13 (bb 12 255) (h := ?_)
   refine o_ 8 14 (bb 12 511) (h := ?_)
   refine o_ 9 15 (bb 12 1023) (h := ?_)
   refine n_ 10 16 (bb 12 2047) (h := fun K hK => ?_)
   refine off_ (by rfl) ?_
   refine hK.out _ _ trivial (fun hHeld => ?_)
   clear hK K
   refine m_ 16 (h := ?_)
   refine p_ 11 17 (bb 12 4095) (h := ?_)
   refine d_ (h := ?_)
   clear hHeld
   go_upto_region 4 with (fail)
   have XL := Aside0.mk X2.out
   have BWL := Aside0.mk (below_step HB.out B2.out)
   clear X2 B2 HB HX
   generalize w2 = wl at XL BWL ⊢
   refine s_ 26 [] (fun w' => True) (hS := (trivial)) (h := fun hHeld => ?_)
   have B8 := Aside0.mk (show Below wl.heap.size wl wl.drew from below_drew (Below.refl _ _))
   have X8 := Aside0.mk (blk_drew XL.out)
   generalize wl.drew = w8 at hHeld B8 X8 ⊢
   refine p_ 0 20 (bb 26 1) (h := ?_)
   refine p_ 1 21 (bb 26 3) (h := ?_)
   refine p_ 2 22 (bb 26 7) (h := ?_)
   refine p_ 3 23 (bb 26 15) (h := ?_)
   refine p_ 4 24 (bb 26 31) (h := ?_)
   refine o_ 5 25 (bb 26 63) (h := ?_)
   refine o_ 6 26 (bb 26 127) (h := ?_)
   refine o_ 7 27 (bb 26 255) (h := ?_)
   refine o_ 8 28 (bb 26 511) (h := ?_)
   refine o_ 9 29 (bb 26 1023) (h := ?_)
   refine o_ 10 30 (bb 26 2047) (h := ?_)
   refine o_ 11 31 (bb 26 4095) (h := ?_)
   refine o_ 12 32 (bb 26 8191) (h := ?_)
   refine o_ 13 33 (bb 26 16383) (h := ?_)
   refine o_ 14 34 (bb 26 32767) (h := ?_)
   refine p_ 15 35 (bb 26 65535) (h := ?_)
   refine p_ 16 36 (bb 26 131071) (h := ?_)
   refine o_ 17 37 (bb 26 262143) (h := ?_)
   refine o_ 18 38 (bb 26 524287) (h := ?_)
   refine o_ 19 39 (bb 26 1048575) (h := ?_)
   refine o_ 20 40 (bb 26 2097151) (h := ?_)
   refine o_ 21 41 (bb 26 4194303) (h := ?_)
   refine o_ 22 42 (bb 26 8388607) (h := ?_)
   refine o_ 23 43 (bb 26 16777215) (h := ?_)
   refine o_ 24 44 (bb 26 33554431) (h := ?_)
   refine p_ 25 45 (bb 26 67108863) (h := ?_)
   refine d_ (h := ?_)
   clear hHeld hlt
   have HFX0 := Aside0.mk (show Kd.F k36 w (fun k => okF k ∧ k < w.heap.size) A n (xs.take n) by
    have h := Kd.F_take (Kd.F_bound HF.out) HNT.out
    rwa [show (xs.take n).length = n by rw [List.length_take]; have h := HNT.out; omega] at h)
   obtain ⟨Ac, hAc⟩ : ∃ A_, A_ = (if c = n then A else Option.map (·.add (n * 4)) A) := ⟨_, rfl⟩
   obtain ⟨cc, hcc⟩ : ∃ c_, c_ = c - n := ⟨_, rfl⟩
   have HFY0 := Aside0.mk (show Kd.F k36 w (fun k => okF k ∧ k < w.heap.size) Ac (xs.length - n) (xs.drop n) by
    have h := Kd.F_cut (Kd.F_bound HF.out) HNT.out HLC.out
    rw [List.length_drop] at h
    rw [hAc]
    exact h)
   obtain ⟨hct, hcf⟩ := cutT A 24 36 4 64 _ Try.underlying24 info36 xs.length c n HNT.out HLC.out
   rw [← hAc, ← hcc] at hcf
   clear hAc hcc
   go_wp2
   refine s_ 14 [] (fun w' => w'.cell? ⟨g3, 0, none⟩ = some (.slice A0 e.f0.length c0) ∧ w'.cell? ⟨g3, 1, none⟩ = some (.int .i64 e.f1) ∧ w'.cell? ⟨g3, 2, none⟩ = some (.bool e.f2) ∧ w'.cell? ⟨g3, 3, none⟩ = some (.slice A3 e.f3.length c3)) (hS := ⟨(blk_cell (blk_drew X8.out) 0).trans rfl, (blk_cell (blk_drew X8.out) 1).trans rfl, (blk_cell (blk_drew X8.out) 2).trans rfl, (blk_cell (blk_drew X8.out) 3).trans rfl⟩) (h := fun hHeld => ?_)
   have B9 := Aside0.mk (show Below w.heap.size w w8.drew from below_drew (below_step BWL.out B8.out))
   have HC9 := Aside0.mk (show w8.drew.cell? ⟨g3, 0, none⟩ = some (.slice A0 e.f0.length c0) ∧ w8.drew.cell? ⟨g3, 1, none⟩ = some (.int .i64 e.f1) ∧ w8.drew.cell? ⟨g3, 2, none⟩ = some (.bool e.f2) ∧ w8.drew.cell? ⟨g3, 3, none⟩ = some (.slice A3 e.f3.length c3) from hHeld)
   generalize w8.drew = w9 at hHeld B9 HC9 ⊢
   have HWS := Aside0.mk B9.out.size
   have HFX := Aside0.mk (Kd.F_below HFX0.out B9.out)
   have HFY := Aside0.mk (Kd.F_below HFY0.out B9.out)
   have HKE09 := Aside0.mk (Kd.C_below HK0.out B9.out)
   have HKE39 := Aside0.mk (Kd.C_below HK3.out B9.out)
   refine p_ 1 48 (bb 14 2) (h := ?_)
   refine p_ 2 49 (bb 14 6) (h := ?_)
   refine p_ 3 50 (bb 14 14) (h := ?_)
   refine t_ 5 52 (bb 14 46) hHeld (h := ?_)
   refine p_ 9 56 (bb 14 558) (h := ?_)
   refine p_ 10 57 (bb 14 1582) (h := ?_)
   refine p_ 11 58 (bb 14 3630) (h := ?_)
   refine n_ 0 47 (bb 14 3631) (h := fun K hK => ?_)
   refine Kd.N_lit_step k36 w9.heap.size 36 (by rfl) rfl (xs := ([] : List S36)) (inner := []) (ok := (fun k => (okF k ∧ k < w.heap.size) ∨ w9.heap.size ≤ k)) (okp := (fun _ => False)) ?hrun ?hrep (fun _ hk => hk.elim) (.inr (Nat.le_refl _)) (Below.refl _ _) (Nat.le_refl _) (by simp) ?_
   case hrun => first | (go_simp; done) | (go_simp; rfl)
   case hrep => exact Reps.none _ _
   intro v47 w47 hn_ hb_ hg_ hat_
   have HN47 := Aside0.mk hn_
   have HB47 := Aside0.mk hb_
   have HG47 := Aside0.mk hg_
   clear hn_ hb_ hg_ hat_
   refine hK.out _ _ ⟨pw_cell_below HB47.out HC9.out.1, pw_cell_below HB47.out HC9.out.2.1, pw_cell_below HB47.out HC9.out.2.2.1, pw_cell_below HB47.out HC9.out.2.2.2⟩ (fun hHeld => ?_)
   clear hK K
   refine m_ 47 (h := ?_)
   refine n_ 4 51 (bb 14 3647) (h := fun K hK => ?_)
   refine Kd.N_append_rows_step k36 (w0 := w9) w9.heap.size (by rfl) (.tmp 47) (.tmp 50) 24 36 (.agg #[.slice none 0 0, .int .i64 0, .bool false, .slice none 0 0]) 64 rfl Try.underlying24 info36 rfl (by decide) (by omega) v47 ([]) (xs.take n) (A) (n) (c) ((fun k => (okF k ∧ k < w.heap.size) ∨ w9.heap.size ≤ k)) ((fun k => okF k ∧ k < w.heap.size)) rfl rfl (HN47.out) (Kd.F_below HFX.out HB47.out) (fun k hk => ⟨.inl hk, fun he => by have h1 := Kd.N_base HN47.out k he.symm; have h2 := hk.2; have h3 := HWS.out; omega⟩) (fun k hk => .inr (Nat.le_trans HB47.out.size hk)) (HB47.out) (HB47.out.size) (by have h1 := HXN.out; have h2 := HNT.out; simp; omega) ?_
   intro v51 w51 hn_ hb_ hg_ hat_
   have HN51 := Aside0.mk hn_
   have HB51 := Aside0.mk hb_
   have HG51 := Aside0.mk hg_
   clear hn_ hb_ hg_ hat_
   refine hK.out _ _ ⟨pw_cell_below HB51.out HC9.out.1, pw_cell_below HB51.out HC9.out.2.1, pw_cell_below HB51.out HC9.out.2.2.1, pw_cell_below HB51.out HC9.out.2.2.2⟩ (fun hHeld => ?_)
   clear hK K
   refine m_ 51 (h := ?_)
   refine n_ 6 53 (bb 14 3711) (h := fun K hK => ?_)
   refine goes_ Try.func36 (by kernel_rfl) rfl #[.agg #[.slice A0 e.f0.length c0, .int .i64 e.f1, .bool e.f2, .slice A3 e.f3.length c3]] (by rfl) rfl rfl (by (try simp only [List.map_toArray, List.map_cons, List.map_nil]); first | done | rfl) ?_
   refine (copy_calls HLE.out (Kd.C_below HKE09.out HB51.out) HKL.out.1 (Kd.C_below HKE39.out HB51.out) HKL.out.2).mono ?_
   rintro ex w53 ⟨P0, d0, P3, d3, rfl, hl0, hl3, hF0, hF3, hb53⟩
   refine ⟨_, rfl, ?_⟩
   have hl0 := Aside0.mk hl0
   have hF0 := Aside0.mk hF0
   have hl3 := Aside0.mk hl3
   have hF3 := Aside0.mk hF3
   have HB53 := Aside0.mk (below_step HB51.out hb53)
   have hb53 := Aside0.mk hb53
   refine hK.out _ _ ⟨pw_cell_below HB53.out HC9.out.1, pw_cell_below HB53.out HC9.out.2.1, pw_cell_below HB53.out HC9.out.2.2.1, pw_cell_below HB53.out HC9.out.2.2.2⟩ (fun hHeld => ?_)
   clear hK K
   refine m_ 53 (h := ?_)
   refine n_ 7 54 (bb 14 3839) (h := fun K hK => ?_)
   refine Kd.N_lit_step k36 w9.heap.size 36 (by rfl) rfl (xs := [e]) (inner := [.slice P0 e.f0.length d0, .int .i64 e.f1, .bool e.f2, .slice P3 e.f3.length d3]) (ok := (fun k => w51.heap.size ≤ k)) (okp := (fun k => w51.heap.size ≤ k)) ?hrun ?hrep (fun _ hk => hk) hb53.out.size HB53.out HB53.out.size (by simp) ?_
   case hrun => first | (go_simp; done) | (go_simp; rfl)
   case hrep => exact Reps.c4 (k36_mkF _ _ e hl0.out hF0.out hl3.out hF3.out) (Reps.none _ _)
   intro v54 w54 hn_ hb_ hg_ hat_
   have HN54 := Aside0.mk hn_
   have HB54 := Aside0.mk hb_
   have HG54 := Aside0.mk hg_
   clear hn_ hb_ hg_ hat_
   obtain ⟨A54, c54, rfl⟩ := Kd.N_slice HN54.out
   refine hK.out _ _ ⟨pw_cell_below HB54.out HC9.out.1, pw_cell_below HB54.out HC9.out.2.1, pw_cell_below HB54.out HC9.out.2.2.1, pw_cell_below HB54.out HC9.out.2.2.2⟩ (fun hHeld => ?_)
   clear hK K
   refine m_ 54 (h := ?_)
   refine n_ 8 55 (bb 14 4095) (h := fun K hK => ?_)
   have HB154 := Aside0.mk (show Below w51.heap.size w51 w54 from below_step hb53.out ⟨HG54.out.os, HG54.out.tape, HG54.out.output, HG54.out.size, fun i hi => HG54.out.block i hi (by simp)⟩)
   refine Kd.N_append_rows_step k36 (w0 := w9) w9.heap.size (by rfl) (.tmp 51) (.tmp 54) 24 36 (.agg #[.slice none 0 0, .int .i64 0, .bool false, .slice none 0 0]) 64 rfl Try.underlying24 info36 rfl (by decide) (by omega) v51 ([] ++ xs.take n) ([e]) (A54) (1) (c54) ((fun k => (okF k ∧ k < w.heap.size) ∨ w9.heap.size ≤ k)) ((fun k => w51.heap.size ≤ k)) rfl rfl (Kd.N_below HN51.out HB154.out) (Kd.N_F HN54.out) (fun k hk => ⟨.inr (Nat.le_trans HB51.out.size hk), fun he => by have h1 := Kd.N_lt HN51.out k he.symm; omega⟩) (fun k hk => .inr (Nat.le_trans HB54.out.size hk)) (HB54.out) (HB54.out.size) (by have h1 := HXN.out; have h2 := HNT.out; simp; omega) ?_
   intro v55 w55 hn_ hb_ hg_ hat_
   have HN55 := Aside0.mk hn_
   have HB55 := Aside0.mk hb_
   have HG55 := Aside0.mk hg_
   clear hn_ hb_ hg_ hat_
   refine hK.out _ _ ⟨pw_cell_below HB55.out HC9.out.1, pw_cell_below HB55.out HC9.out.2.1, pw_cell_below HB55.out HC9.out.2.2.1, pw_cell_below HB55.out HC9.out.2.2.2⟩ (fun hHeld => ?_)
   clear hK K
   refine m_ 55 (h := ?_)
   refine n_ 12 59 (bb 14 8191) (h := fun K hK => ?_)
   refine Kd.N_append_rows_step k36 (w0 := w9) w9.heap.size (by rfl) (.tmp 55) (.tmp 58) 24 36 (.agg #[.slice none 0 0, .int .i64 0, .bool false, .slice none 0 0]) 64 rfl Try.underlying24 info36 rfl (by decide) (by omega) v55 (([] ++ xs.take n) ++ [e]) (xs.drop n) (Ac) (xs.length - n) (cc) ((fun k => (okF k ∧ k < w.heap.size) ∨ w9.heap.size ≤ k)) ((fun k => okF k ∧ k < w.heap.size)) rfl rfl (HN55.out) (Kd.F_below HFY.out HB55.out) (fun k hk => ⟨.inl hk, fun he => by have h1 := Kd.N_base HN55.out k he.symm; have h2 := hk.2; have h3 := HWS.out; omega⟩) (fun k hk => .inr (Nat.le_trans HB55.out.size hk)) (HB55.out) (HB55.out.size) (by have h1 := HXN.out; have h2 := HNT.out; simp; omega) ?_
   intro v59 w59 hn_ hb_ hg_ hat_
   have HN59 := Aside0.mk hn_
   have HB59 := Aside0.mk hb_
   have HG59 := Aside0.mk hg_
   clear hn_ hb_ hg_ hat_
   refine hK.out _ _ ⟨pw_cell_below HB59.out HC9.out.1, pw_cell_below HB59.out HC9.out.2.1, pw_cell_below HB59.out HC9.out.2.2.1, pw_cell_below HB59.out HC9.out.2.2.2⟩ (fun hHeld => ?_)
   clear hK K
   refine m_ 59 (h := ?_)
   refine p_ 13 4 (bb 14 16383) (h := ?_)
   refine d_ (h := ?_)
   clear hct hcf hHeld
   go_wp2
   go_ret
   refine ⟨_, rfl, ?_, below_step B9.out HB59.out⟩
   have h := Kd.N_V (base' := w.heap.size) HN59.out
   rw [List.nil_append, List.append_assoc] at h
   rw [HPE.out]
   exact Kd.V_mono h (fun k hk => hk.imp (fun h => h.1) (fun h => Nat.le_trans HWS.out h))
  | succ k1 =>
   as_aux_lemma =>
   have hnl : n < xs.length := by have h := HK.out; omega
   have HNT := Aside0.mk (show n ≤ xs.length by omega)
   have hlt : (n < xs.length) = True := eq_true hnl
   obtain ⟨z, hz⟩ : ∃ z, xs[n]? = some z := ⟨_, List.getElem?_eq_getElem hnl⟩
   have HCX := Aside0.mk (Kd.F_now (Kd.F_below HF.out HB.out))
   obtain ⟨ad, M0, m0, M3, m3, hA, hz0, hz1, hz2, hz3, hKz⟩ := at_CE HCX.out n z hz
   subst hA
   have HZI := Aside0.mk hz
   have HKZ := Aside0.mk hKz
   have HGZ := Aside0.mk (HGD.out z (List.mem_of_getElem? hz))
   have HEZ := Aside0.mk HGZ.out.1
   have HLZ := Aside0.mk HGZ.out.2.1
   have HKE0 := Aside0.mk (Kd.C_below HK0.out HB.out)
   have HKE3 := Aside0.mk (Kd.C_below HK3.out HB.out)
   have HWK := Aside0.mk (wadd1 (x := n) (z := n + 1) rfl (by have h := HXN.out; omega))
   have HPT := Aside0.mk ((putE_at HNT.out HQ.out).2 z hz)
   clear hnl hz hKz
   by_cases hq : cmpE z e < 0
   ·
    have HAH := Aside0.mk ((ahe_cmp HEZ.out H36.out).2 hq)
    have HQ2 := Aside0.mk hq
    clear hq
    go_upto_region 2 with (fail)
    refine s_ 12 [] (fun w' => w'.cell? (ad.add (n * 4)) = some (.slice M0 z.f0.length m0) ∧ w'.cell? ⟨(ad.add (n * 4)).block, (ad.add (n * 4)).off + 1, none⟩ = some (.int .i64 z.f1) ∧ w'.cell? ⟨(ad.add (n * 4)).block, (ad.add (n * 4)).off + 2, none⟩ = some (.bool z.f2) ∧ w'.cell? ⟨(ad.add (n * 4)).block, (ad.add (n * 4)).off + 3, none⟩ = some (.slice M3 z.f3.length m3) ∧ w'.cell? ⟨g3, 0, none⟩ = some (.slice A0 e.f0.length c0) ∧ w'.cell? ⟨g3, 1, none⟩ = some (.int .i64 e.f1) ∧ w'.cell? ⟨g3, 2, none⟩ = some (.bool e.f2) ∧ w'.cell? ⟨g3, 3, none⟩ = some (.slice A3 e.f3.length c3)) (hS := ⟨hz0, hz1, hz2, hz3, (blk_cell (blk_drew HX.out) 0).trans rfl, (blk_cell (blk_drew HX.out) 1).trans rfl, (blk_cell (blk_drew HX.out) 2).trans rfl, (blk_cell (blk_drew HX.out) 3).trans rfl⟩) (h := fun hHeld => ?_)
    have B2 := Aside0.mk (show Below wr.heap.size wr wr.drew from below_drew (Below.refl _ _))
    have X2 := Aside0.mk (blk_drew HX.out)
    clear hz0 hz1 hz2 hz3
    generalize wr.drew = w2 at hHeld B2 X2 ⊢
    obtain ⟨s0, s1, s2, s3, s4, s5, s6, s7⟩ := id hHeld
    refine p_ 0 6 (bb 12 1) (h := ?_)
    refine p_ 1 7 (bb 12 3) (h := ?_)
    refine p_ 2 8 (bb 12 7) (h := ?_)
    refine p_ 3 9 (bb 12 15) (h := ?_)
    refine p_ 4 10 (bb 12 31) (h := ?_)
    refine p_ 5 11 (bb 12 63) (h := ?_)
    refine p_ 6 12 (bb 12 127) (h := ?_)
    refine p_ 7 13 (bb 12 255) (h := ?_)
    refine t_ 8 14 (bb 12 511) hHeld (h := ?_)
    refine t_ 9 15 (bb 12 1023) hHeld (h := ?_)
    refine n_ 10 16 (bb 12 2047) (h := fun K hK => ?_)
    refine goes_ Try.func40 (by kernel_rfl) rfl #[.agg #[.slice M0 z.f0.length m0, .int .i64 z.f1, .bool z.f2, .slice M3 z.f3.length m3], .agg #[.slice A0 e.f0.length c0, .int .i64 e.f1, .bool e.f2, .slice A3 e.f3.length c3]] (by rfl) rfl rfl (by (try simp only [List.map_toArray, List.map_cons, List.map_nil]); first | done | rfl) ?_
    refine (ahead_calls HEZ.out H36.out HLZ.out (Kd.C_below HKZ.out.2.1 B2.out) HKZ.out.1 (Kd.C_below HKZ.out.2.2.2 B2.out) HKZ.out.2.2.1 (Kd.C_below HKE0.out B2.out) HKL.out.1 (Kd.C_below HKE3.out B2.out) HKL.out.2).mono ?_
    rintro ex w3 ⟨rfl, hb3⟩
    refine ⟨_, rfl, ?_⟩
    rw [HAH.out]
    have B3 := Aside0.mk hb3
    clear hb3
    refine hK.out _ _ ⟨cell_below_ s0 B3.out, cell_below_ s1 B3.out, cell_below_ s2 B3.out, cell_below_ s3 B3.out, cell_below_ s4 B3.out, cell_below_ s5 B3.out, cell_below_ s6 B3.out, cell_below_ s7 B3.out⟩ (fun hHeld => ?_)
    clear hK K
    refine m_ 16 (h := ?_)
    refine p_ 11 17 (bb 12 4095) (h := ?_)
    refine d_ (h := ?_)
    clear hHeld s0 s1 s2 s3 s4 s5 s6 s7
    go_wp2
    go_roundg k1
    case measure => exact Nat.lt_succ_self _
    case rel =>
     refine ⟨n + 1, by first | rfl | rw [HWK.out], ⟨by have h := HK.out; omega⟩, ⟨fun j y hj hy => ?_⟩, ⟨blk_below X2.out B3.out⟩, ⟨below_step (below_step HB.out B2.out) B3.out⟩⟩
     by_cases e1 : j = n
     ·
      subst e1; rw [HZI.out] at hy; injection hy with hy; rw [← hy]; exact HQ2.out
     ·
      exact HQ.out j y (by omega) hy
   ·
    have HAH := Aside0.mk (show ahe z e = false by
     have h := ahe_cmp HEZ.out H36.out
     cases hc : ahe z e with
     | false => rfl
     | true => exact absurd (h.1 hc) hq)
    have HPT := Aside0.mk (HPT.out hq)
    have hni : (n : Int) < (xs.length : Int) := by have h := HK.out; omega
    have HCE := Aside0.mk (cmpE_zero HEZ.out H36.out)
    have HNE := Aside0.mk (cmpE_neg H36.out HEZ.out)
    have HNZ := Aside0.mk (cmpE_neg HEZ.out H36.out)
    have HNQ := Aside0.mk hq
    clear hq
    go_upto_region 2 with (fail)
    refine s_ 12 [] (fun w' => w'.cell? (ad.add (n * 4)) = some (.slice M0 z.f0.length m0) ∧ w'.cell? ⟨(ad.add (n * 4)).block, (ad.add (n * 4)).off + 1, none⟩ = some (.int .i64 z.f1) ∧ w'.cell? ⟨(ad.add (n * 4)).block, (ad.add (n * 4)).off + 2, none⟩ = some (.bool z.f2) ∧ w'.cell? ⟨(ad.add (n * 4)).block, (ad.add (n * 4)).off + 3, none⟩ = some (.slice M3 z.f3.length m3) ∧ w'.cell? ⟨g3, 0, none⟩ = some (.slice A0 e.f0.length c0) ∧ w'.cell? ⟨g3, 1, none⟩ = some (.int .i64 e.f1) ∧ w'.cell? ⟨g3, 2, none⟩ = some (.bool e.f2) ∧ w'.cell? ⟨g3, 3, none⟩ = some (.slice A3 e.f3.length c3)) (hS := ⟨hz0, hz1, hz2, hz3, (blk_cell (blk_drew HX.out) 0).trans rfl, (blk_cell (blk_drew HX.out) 1).trans rfl, (blk_cell (blk_drew HX.out) 2).trans rfl, (blk_cell (blk_drew HX.out) 3).trans rfl⟩) (h := fun hHeld => ?_)
    have B2 := Aside0.mk (show Below wr.heap.size wr wr.drew from below_drew (Below.refl _ _))
    have X2 := Aside0.mk (blk_drew HX.out)
    clear hz0 hz1 hz2 hz3
    generalize wr.drew = w2 at hHeld B2 X2 ⊢
    obtain ⟨s0, s1, s2, s3, s4, s5, s6, s7⟩ := id hHeld
    refine p_ 0 6 (bb 12 1) (h := ?_)
    refine p_ 1 7 (bb 12 3) (h := ?_)
    refine p_ 2 8 (bb 12 7) (h := ?_)
    refine p_ 3 9 (bb 12 15) (h := ?_)
    refine p_ 4 10 (bb 12 31) (h := ?_)
    refine p_ 5 11 (bb 12 63) (h := ?_)
    refine p_ 6 12 (bb 12 127) (h := ?_)
    refine p_ 7 13 (bb 12 255) (h := ?_)
    refine t_ 8 14 (bb 12 511) hHeld (h := ?_)
    refine t_ 9 15 (bb 12 1023) hHeld (h := ?_)
    refine n_ 10 16 (bb 12 2047) (h := fun K hK => ?_)
    refine goes_ Try.func40 (by kernel_rfl) rfl #[.agg #[.slice M0 z.f0.length m0, .int .i64 z.f1, .bool z.f2, .slice M3 z.f3.length m3], .agg #[.slice A0 e.f0.length c0, .int .i64 e.f1, .bool e.f2, .slice A3 e.f3.length c3]] (by rfl) rfl rfl (by (try simp only [List.map_toArray, List.map_cons, List.map_nil]); first | done | rfl) ?_
    refine (ahead_calls HEZ.out H36.out HLZ.out (Kd.C_below HKZ.out.2.1 B2.out) HKZ.out.1 (Kd.C_below HKZ.out.2.2.2 B2.out) HKZ.out.2.2.1 (Kd.C_below HKE0.out B2.out) HKL.out.1 (Kd.C_below HKE3.out B2.out) HKL.out.2).mono ?_
    rintro ex w3 ⟨rfl, hb3⟩
    refine ⟨_, rfl, ?_⟩
    rw [HAH.out]
    have B3 := Aside0.mk hb3
    clear hb3
    refine hK.out _ _ ⟨cell_below_ s0 B3.out, cell_below_ s1 B3.out, cell_below_ s2 B3.out, cell_below_ s3 B3.out, cell_below_ s4 B3.out, cell_below_ s5 B3.out, cell_below_ s6 B3.out, cell_below_ s7 B3.out⟩ (fun hHeld => ?_)
    clear hK K
    refine m_ 16 (h := ?_)
    refine p_ 11 17 (bb 12 4095) (h := ?_)
    refine d_ (h := ?_)
    clear hHeld s0 s1 s2 s3 s4 s5 s6 s7
    go_upto_region 4 with (fail)
    have XL := Aside0.mk (blk_below X2.out B3.out)
    have BWL := Aside0.mk (below_step (below_step HB.out B2.out) B3.out)
    clear X2 B2 B3 HB HX HCX HKZ HKE0 HKE3
    generalize w3 = wl at XL BWL ⊢
    have HCX := Aside0.mk (Kd.F_now (Kd.F_below HF.out BWL.out))
    obtain ⟨ad2, M0', m0', M3', m3', hA, hy0, hy1, _, _, lym, hym, _, _⟩ := at_CE HCX.out n z HZI.out
    obtain rfl := Option.some.inj hA
    have hya := Kd.C_below HK0.out BWL.out
    have hse := str_eq HEZ.out.1 H36.out.1
    clear lym
    by_cases hk : z.f0 = e.f0
    ·
     rw [decide_eq_true hk] at hse
     by_cases hs : z.f1 = e.f1
     ·
      have hsb : (z.f1 == e.f1) = true := beq_iff_eq.mpr hs
      have HPE := Aside0.mk (show putE cmpE e xs = xs from HPT.out.2 (fun h => by
       rcases HNE.out.1 h with h2 | h2
       ·
        rw [hk, less_irrefl] at h2; cases h2
       ·
        omega))
      clear hk hs
      refine s_ 26 [] (fun w' => w'.cell? (ad.add (n * 4)) = some (.slice M0' z.f0.length m0') ∧ w'.cell? ⟨(ad.add (n * 4)).block, (ad.add (n * 4)).off + 1, none⟩ = some (.int .i64 z.f1) ∧ w'.cell? ⟨g3, 0, none⟩ = some (.slice A0 e.f0.length c0) ∧ w'.cell? ⟨g3, 1, none⟩ = some (.int .i64 e.f1) ∧ Kd.C (Kd.int .u8) w' M0' z.f0.length z.f0 ∧ Kd.C (Kd.int .u8) w' A0 e.f0.length e.f0) (hS := ⟨hy0, hy1, (blk_cell (blk_drew XL.out) 0).trans rfl, (blk_cell (blk_drew XL.out) 1).trans rfl, hym, hya⟩) (h := fun hHeld => ?_)
      have B8 := Aside0.mk (show Below wl.heap.size wl wl.drew from below_drew (Below.refl _ _))
      have X8 := Aside0.mk (blk_drew XL.out)
      clear hy0 hy1 hym hya
      generalize wl.drew = w8 at hHeld B8 X8 ⊢
      refine p_ 0 20 (bb 26 1) (h := ?_)
      refine p_ 1 21 (bb 26 3) (h := ?_)
      refine p_ 2 22 (bb 26 7) (h := ?_)
      refine p_ 3 23 (bb 26 15) (h := ?_)
      refine p_ 4 24 (bb 26 31) (h := ?_)
      refine p_ 5 25 (bb 26 63) (h := ?_)
      refine p_ 6 26 (bb 26 127) (h := ?_)
      refine p_ 7 27 (bb 26 255) (h := ?_)
      refine p_ 8 28 (bb 26 511) (h := ?_)
      refine t_ 9 29 (bb 26 1023) hHeld (h := ?_)
      refine t_ 10 30 (bb 26 2047) hHeld (hy := by (rintro w' ⟨s0, s1, s2, s3, s4, s5⟩; have hcv := Kd.C_string (P := Try.prog) (A := M0') (c := m0') Try.underlying34 Try.underlying5 Try.underlying9 s4; go_simp; with_reducible rfl)) (h := ?_)
      refine p_ 11 31 (bb 26 4095) (h := ?_)
      refine t_ 12 32 (bb 26 8191) hHeld (h := ?_)
      refine t_ 13 33 (bb 26 16383) hHeld (hy := by (rintro w' ⟨s0, s1, s2, s3, s4, s5⟩; have hcv := Kd.C_string (P := Try.prog) (A := A0) (c := c0) Try.underlying34 Try.underlying5 Try.underlying9 s5; go_simp; with_reducible rfl)) (h := ?_)
      refine p_ 14 34 (bb 26 32767) (h := ?_)
      refine p_ 15 35 (bb 26 65535) (h := ?_)
      refine p_ 16 36 (bb 26 131071) (h := ?_)
      refine p_ 17 37 (bb 26 262143) (h := ?_)
      refine p_ 18 38 (bb 26 524287) (h := ?_)
      refine p_ 19 39 (bb 26 1048575) (h := ?_)
      refine p_ 20 40 (bb 26 2097151) (h := ?_)
      refine t_ 21 41 (bb 26 4194303) hHeld (h := ?_)
      refine p_ 22 42 (bb 26 8388607) (h := ?_)
      refine t_ 23 43 (bb 26 16777215) hHeld (h := ?_)
      refine p_ 24 44 (bb 26 33554431) (h := ?_)
      refine p_ 25 45 (bb 26 67108863) (h := ?_)
      refine d_ (h := ?_)
      clear hHeld
      go_wp2
      go_ret
      refine ⟨_, rfl, ?_, below_step BWL.out B8.out⟩
      rw [HPE.out]
      exact Kd.V_mk HLC.out (Kd.F_mono (Kd.F_below HF.out (below_step BWL.out B8.out)) (fun k hk => .inl hk))
     ·
      have hsb : (z.f1 == e.f1) = false := beq_eq_false_iff_ne.mpr hs
      have HPE := Aside0.mk (HPT.out.1 (HNE.out.2 (.inr ⟨hk.symm, by
       have h := HNQ.out
       rw [HNZ.out] at h
       have h2 : ¬ e.f1 < z.f1 := fun hh => h (.inr ⟨hk, hh⟩)
       omega⟩)))
      clear hk hs
      refine s_ 26 [] (fun w' => w'.cell? (ad.add (n * 4)) = some (.slice M0' z.f0.length m0') ∧ w'.cell? ⟨(ad.add (n * 4)).block, (ad.add (n * 4)).off + 1, none⟩ = some (.int .i64 z.f1) ∧ w'.cell? ⟨g3, 0, none⟩ = some (.slice A0 e.f0.length c0) ∧ w'.cell? ⟨g3, 1, none⟩ = some (.int .i64 e.f1) ∧ Kd.C (Kd.int .u8) w' M0' z.f0.length z.f0 ∧ Kd.C (Kd.int .u8) w' A0 e.f0.length e.f0) (hS := ⟨hy0, hy1, (blk_cell (blk_drew XL.out) 0).trans rfl, (blk_cell (blk_drew XL.out) 1).trans rfl, hym, hya⟩) (h := fun hHeld => ?_)
      have B8 := Aside0.mk (show Below wl.heap.size wl wl.drew from below_drew (Below.refl _ _))
      have X8 := Aside0.mk (blk_drew XL.out)
      clear hy0 hy1 hym hya
      generalize wl.drew = w8 at hHeld B8 X8 ⊢
      refine p_ 0 20 (bb 26 1) (h := ?_)
      refine p_ 1 21 (bb 26 3) (h := ?_)
      refine p_ 2 22 (bb 26 7) (h := ?_)
      refine p_ 3 23 (bb 26 15) (h := ?_)
      refine p_ 4 24 (bb 26 31) (h := ?_)
      refine p_ 5 25 (bb 26 63) (h := ?_)
      refine p_ 6 26 (bb 26 127) (h := ?_)
      refine p_ 7 27 (bb 26 255) (h := ?_)
      refine p_ 8 28 (bb 26 511) (h := ?_)
      refine t_ 9 29 (bb 26 1023) hHeld (h := ?_)
      refine t_ 10 30 (bb 26 2047) hHeld (hy := by (rintro w' ⟨s0, s1, s2, s3, s4, s5⟩; have hcv := Kd.C_string (P := Try.prog) (A := M0') (c := m0') Try.underlying34 Try.underlying5 Try.underlying9 s4; go_simp; with_reducible rfl)) (h := ?_)
      refine p_ 11 31 (bb 26 4095) (h := ?_)
      refine t_ 12 32 (bb 26 8191) hHeld (h := ?_)
      refine t_ 13 33 (bb 26 16383) hHeld (hy := by (rintro w' ⟨s0, s1, s2, s3, s4, s5⟩; have hcv := Kd.C_string (P := Try.prog) (A := A0) (c := c0) Try.underlying34 Try.underlying5 Try.underlying9 s5; go_simp; with_reducible rfl)) (h := ?_)
      refine p_ 14 34 (bb 26 32767) (h := ?_)
      refine p_ 15 35 (bb 26 65535) (h := ?_)
      refine p_ 16 36 (bb 26 131071) (h := ?_)
      refine p_ 17 37 (bb 26 262143) (h := ?_)
      refine p_ 18 38 (bb 26 524287) (h := ?_)
      refine p_ 19 39 (bb 26 1048575) (h := ?_)
      refine p_ 20 40 (bb 26 2097151) (h := ?_)
      refine t_ 21 41 (bb 26 4194303) hHeld (h := ?_)
      refine p_ 22 42 (bb 26 8388607) (h := ?_)
      refine t_ 23 43 (bb 26 16777215) hHeld (h := ?_)
      refine p_ 24 44 (bb 26 33554431) (h := ?_)
      refine p_ 25 45 (bb 26 67108863) (h := ?_)
      refine d_ (h := ?_)
      clear hHeld hse hsb
      have HFX0 := Aside0.mk (show Kd.F k36 w (fun k => okF k ∧ k < w.heap.size) (some ad) n (xs.take n) by
       have h := Kd.F_take (Kd.F_bound HF.out) HNT.out
       rwa [show (xs.take n).length = n by rw [List.length_take]; have h := HNT.out; omega] at h)
      obtain ⟨Ac, hAc⟩ : ∃ A_, A_ = (if c = n then (some ad) else Option.map (·.add (n * 4)) (some ad)) := ⟨_, rfl⟩
      obtain ⟨cc, hcc⟩ : ∃ c_, c_ = c - n := ⟨_, rfl⟩
      have HFY0 := Aside0.mk (show Kd.F k36 w (fun k => okF k ∧ k < w.heap.size) Ac (xs.length - n) (xs.drop n) by
       have h := Kd.F_cut (Kd.F_bound HF.out) HNT.out HLC.out
       rw [List.length_drop] at h
       rw [hAc]
       exact h)
      obtain ⟨hct, hcf⟩ := cutT (some ad) 24 36 4 64 _ Try.underlying24 info36 xs.length c n HNT.out HLC.out
      rw [← hAc, ← hcc] at hcf
      clear hAc hcc
      go_wp2
      refine s_ 14 [] (fun w' => w'.cell? ⟨g3, 0, none⟩ = some (.slice A0 e.f0.length c0) ∧ w'.cell? ⟨g3, 1, none⟩ = some (.int .i64 e.f1) ∧ w'.cell? ⟨g3, 2, none⟩ = some (.bool e.f2) ∧ w'.cell? ⟨g3, 3, none⟩ = some (.slice A3 e.f3.length c3)) (hS := ⟨(blk_cell (blk_drew X8.out) 0).trans rfl, (blk_cell (blk_drew X8.out) 1).trans rfl, (blk_cell (blk_drew X8.out) 2).trans rfl, (blk_cell (blk_drew X8.out) 3).trans rfl⟩) (h := fun hHeld => ?_)
      have B9 := Aside0.mk (show Below w.heap.size w w8.drew from below_drew (below_step BWL.out B8.out))
      have HC9 := Aside0.mk (show w8.drew.cell? ⟨g3, 0, none⟩ = some (.slice A0 e.f0.length c0) ∧ w8.drew.cell? ⟨g3, 1, none⟩ = some (.int .i64 e.f1) ∧ w8.drew.cell? ⟨g3, 2, none⟩ = some (.bool e.f2) ∧ w8.drew.cell? ⟨g3, 3, none⟩ = some (.slice A3 e.f3.length c3) from hHeld)
      generalize w8.drew = w9 at hHeld B9 HC9 ⊢
      have HWS := Aside0.mk B9.out.size
      have HFX := Aside0.mk (Kd.F_below HFX0.out B9.out)
      have HFY := Aside0.mk (Kd.F_below HFY0.out B9.out)
      have HKE09 := Aside0.mk (Kd.C_below HK0.out B9.out)
      have HKE39 := Aside0.mk (Kd.C_below HK3.out B9.out)
      refine p_ 1 48 (bb 14 2) (h := ?_)
      refine p_ 2 49 (bb 14 6) (h := ?_)
      refine p_ 3 50 (bb 14 14) (h := ?_)
      refine t_ 5 52 (bb 14 46) hHeld (h := ?_)
      refine p_ 9 56 (bb 14 558) (h := ?_)
      refine p_ 10 57 (bb 14 1582) (h := ?_)
      refine p_ 11 58 (bb 14 3630) (h := ?_)
      refine n_ 0 47 (bb 14 3631) (h := fun K hK => ?_)
      refine Kd.N_lit_step k36 w9.heap.size 36 (by rfl) rfl (xs := ([] : List S36)) (inner := []) (ok := (fun k => (okF k ∧ k < w.heap.size) ∨ w9.heap.size ≤ k)) (okp := (fun _ => False)) ?hrun ?hrep (fun _ hk => hk.elim) (.inr (Nat.le_refl _)) (Below.refl _ _) (Nat.le_refl _) (by simp) ?_
      case hrun => first | (go_simp; done) | (go_simp; rfl)
      case hrep => exact Reps.none _ _
      intro v47 w47 hn_ hb_ hg_ hat_
      have HN47 := Aside0.mk hn_
      have HB47 := Aside0.mk hb_
      have HG47 := Aside0.mk hg_
      clear hn_ hb_ hg_ hat_
      refine hK.out _ _ ⟨pw_cell_below HB47.out HC9.out.1, pw_cell_below HB47.out HC9.out.2.1, pw_cell_below HB47.out HC9.out.2.2.1, pw_cell_below HB47.out HC9.out.2.2.2⟩ (fun hHeld => ?_)
      clear hK K
      refine m_ 47 (h := ?_)
      refine n_ 4 51 (bb 14 3647) (h := fun K hK => ?_)
      refine Kd.N_append_rows_step k36 (w0 := w9) w9.heap.size (by rfl) (.tmp 47) (.tmp 50) 24 36 (.agg #[.slice none 0 0, .int .i64 0, .bool false, .slice none 0 0]) 64 rfl Try.underlying24 info36 rfl (by decide) (by omega) v47 ([]) (xs.take n) ((some ad)) (n) (c) ((fun k => (okF k ∧ k < w.heap.size) ∨ w9.heap.size ≤ k)) ((fun k => okF k ∧ k < w.heap.size)) rfl rfl (HN47.out) (Kd.F_below HFX.out HB47.out) (fun k hk => ⟨.inl hk, fun he => by have h1 := Kd.N_base HN47.out k he.symm; have h2 := hk.2; have h3 := HWS.out; omega⟩) (fun k hk => .inr (Nat.le_trans HB47.out.size hk)) (HB47.out) (HB47.out.size) (by have h1 := HXN.out; have h2 := HNT.out; simp; omega) ?_
      intro v51 w51 hn_ hb_ hg_ hat_
      have HN51 := Aside0.mk hn_
      have HB51 := Aside0.mk hb_
      have HG51 := Aside0.mk hg_
      clear hn_ hb_ hg_ hat_
      refine hK.out _ _ ⟨pw_cell_below HB51.out HC9.out.1, pw_cell_below HB51.out HC9.out.2.1, pw_cell_below HB51.out HC9.out.2.2.1, pw_cell_below HB51.out HC9.out.2.2.2⟩ (fun hHeld => ?_)
      clear hK K
      refine m_ 51 (h := ?_)
      refine n_ 6 53 (bb 14 3711) (h := fun K hK => ?_)
      refine goes_ Try.func36 (by kernel_rfl) rfl #[.agg #[.slice A0 e.f0.length c0, .int .i64 e.f1, .bool e.f2, .slice A3 e.f3.length c3]] (by rfl) rfl rfl (by (try simp only [List.map_toArray, List.map_cons, List.map_nil]); first | done | rfl) ?_
      refine (copy_calls HLE.out (Kd.C_below HKE09.out HB51.out) HKL.out.1 (Kd.C_below HKE39.out HB51.out) HKL.out.2).mono ?_
      rintro ex w53 ⟨P0, d0, P3, d3, rfl, hl0, hl3, hF0, hF3, hb53⟩
      refine ⟨_, rfl, ?_⟩
      have hl0 := Aside0.mk hl0
      have hF0 := Aside0.mk hF0
      have hl3 := Aside0.mk hl3
      have hF3 := Aside0.mk hF3
      have HB53 := Aside0.mk (below_step HB51.out hb53)
      have hb53 := Aside0.mk hb53
      refine hK.out _ _ ⟨pw_cell_below HB53.out HC9.out.1, pw_cell_below HB53.out HC9.out.2.1, pw_cell_below HB53.out HC9.out.2.2.1, pw_cell_below HB53.out HC9.out.2.2.2⟩ (fun hHeld => ?_)
      clear hK K
      refine m_ 53 (h := ?_)
      refine n_ 7 54 (bb 14 3839) (h := fun K hK => ?_)
      refine Kd.N_lit_step k36 w9.heap.size 36 (by rfl) rfl (xs := [e]) (inner := [.slice P0 e.f0.length d0, .int .i64 e.f1, .bool e.f2, .slice P3 e.f3.length d3]) (ok := (fun k => w51.heap.size ≤ k)) (okp := (fun k => w51.heap.size ≤ k)) ?hrun ?hrep (fun _ hk => hk) hb53.out.size HB53.out HB53.out.size (by simp) ?_
      case hrun => first | (go_simp; done) | (go_simp; rfl)
      case hrep => exact Reps.c4 (k36_mkF _ _ e hl0.out hF0.out hl3.out hF3.out) (Reps.none _ _)
      intro v54 w54 hn_ hb_ hg_ hat_
      have HN54 := Aside0.mk hn_
      have HB54 := Aside0.mk hb_
      have HG54 := Aside0.mk hg_
      clear hn_ hb_ hg_ hat_
      obtain ⟨A54, c54, rfl⟩ := Kd.N_slice HN54.out
      refine hK.out _ _ ⟨pw_cell_below HB54.out HC9.out.1, pw_cell_below HB54.out HC9.out.2.1, pw_cell_below HB54.out HC9.out.2.2.1, pw_cell_below HB54.out HC9.out.2.2.2⟩ (fun hHeld => ?_)
      clear hK K
      refine m_ 54 (h := ?_)
      refine n_ 8 55 (bb 14 4095) (h := fun K hK => ?_)
      have HB154 := Aside0.mk (show Below w51.heap.size w51 w54 from below_step hb53.out ⟨HG54.out.os, HG54.out.tape, HG54.out.output, HG54.out.size, fun i hi => HG54.out.block i hi (by simp)⟩)
      refine Kd.N_append_rows_step k36 (w0 := w9) w9.heap.size (by rfl) (.tmp 51) (.tmp 54) 24 36 (.agg #[.slice none 0 0, .int .i64 0, .bool false, .slice none 0 0]) 64 rfl Try.underlying24 info36 rfl (by decide) (by omega) v51 ([] ++ xs.take n) ([e]) (A54) (1) (c54) ((fun k => (okF k ∧ k < w.heap.size) ∨ w9.heap.size ≤ k)) ((fun k => w51.heap.size ≤ k)) rfl rfl (Kd.N_below HN51.out HB154.out) (Kd.N_F HN54.out) (fun k hk => ⟨.inr (Nat.le_trans HB51.out.size hk), fun he => by have h1 := Kd.N_lt HN51.out k he.symm; omega⟩) (fun k hk => .inr (Nat.le_trans HB54.out.size hk)) (HB54.out) (HB54.out.size) (by have h1 := HXN.out; have h2 := HNT.out; simp; omega) ?_
      intro v55 w55 hn_ hb_ hg_ hat_
      have HN55 := Aside0.mk hn_
      have HB55 := Aside0.mk hb_
      have HG55 := Aside0.mk hg_
      clear hn_ hb_ hg_ hat_
      refine hK.out _ _ ⟨pw_cell_below HB55.out HC9.out.1, pw_cell_below HB55.out HC9.out.2.1, pw_cell_below HB55.out HC9.out.2.2.1, pw_cell_below HB55.out HC9.out.2.2.2⟩ (fun hHeld => ?_)
      clear hK K
      refine m_ 55 (h := ?_)
      refine n_ 12 59 (bb 14 8191) (h := fun K hK => ?_)
      refine Kd.N_append_rows_step k36 (w0 := w9) w9.heap.size (by rfl) (.tmp 55) (.tmp 58) 24 36 (.agg #[.slice none 0 0, .int .i64 0, .bool false, .slice none 0 0]) 64 rfl Try.underlying24 info36 rfl (by decide) (by omega) v55 (([] ++ xs.take n) ++ [e]) (xs.drop n) (Ac) (xs.length - n) (cc) ((fun k => (okF k ∧ k < w.heap.size) ∨ w9.heap.size ≤ k)) ((fun k => okF k ∧ k < w.heap.size)) rfl rfl (HN55.out) (Kd.F_below HFY.out HB55.out) (fun k hk => ⟨.inl hk, fun he => by have h1 := Kd.N_base HN55.out k he.symm; have h2 := hk.2; have h3 := HWS.out; omega⟩) (fun k hk => .inr (Nat.le_trans HB55.out.size hk)) (HB55.out) (HB55.out.size) (by have h1 := HXN.out; have h2 := HNT.out; simp; omega) ?_
      intro v59 w59 hn_ hb_ hg_ hat_
      have HN59 := Aside0.mk hn_
      have HB59 := Aside0.mk hb_
      have HG59 := Aside0.mk hg_
      clear hn_ hb_ hg_ hat_
      refine hK.out _ _ ⟨pw_cell_below HB59.out HC9.out.1, pw_cell_below HB59.out HC9.out.2.1, pw_cell_below HB59.out HC9.out.2.2.1, pw_cell_below HB59.out HC9.out.2.2.2⟩ (fun hHeld => ?_)
      clear hK K
      refine m_ 59 (h := ?_)
      refine p_ 13 4 (bb 14 16383) (h := ?_)
      refine d_ (h := ?_)
      clear hct hcf hHeld
      go_wp2
      go_ret
      refine ⟨_, rfl, ?_, below_step B9.out HB59.out⟩
      have h := Kd.N_V (base' := w.heap.size) HN59.out
      rw [List.nil_append, List.append_assoc] at h
      rw [HPE.out]
      exact Kd.V_mono h (fun k hk => hk.imp (fun h => h.1) (fun h => Nat.le_trans HWS.out h))
    ·
     rw [decide_eq_false hk] at hse
     have HPE := Aside0.mk (HPT.out.1 (HNE.out.2 (.inl (by
      rcases less_total hk with h | h
      ·
       exact absurd (HNZ.out.2 (.inl h)) HNQ.out
      ·
       exact h))))
     clear hk
     refine s_ 26 [] (fun w' => w'.cell? (ad.add (n * 4)) = some (.slice M0' z.f0.length m0') ∧ w'.cell? ⟨(ad.add (n * 4)).block, (ad.add (n * 4)).off + 1, none⟩ = some (.int .i64 z.f1) ∧ w'.cell? ⟨g3, 0, none⟩ = some (.slice A0 e.f0.length c0) ∧ w'.cell? ⟨g3, 1, none⟩ = some (.int .i64 e.f1) ∧ Kd.C (Kd.int .u8) w' M0' z.f0.length z.f0 ∧ Kd.C (Kd.int .u8) w' A0 e.f0.length e.f0) (hS := ⟨hy0, hy1, (blk_cell (blk_drew XL.out) 0).trans rfl, (blk_cell (blk_drew XL.out) 1).trans rfl, hym, hya⟩) (h := fun hHeld => ?_)
     have B8 := Aside0.mk (show Below wl.heap.size wl wl.drew from below_drew (Below.refl _ _))
     have X8 := Aside0.mk (blk_drew XL.out)
     clear hy0 hy1 hym hya
     generalize wl.drew = w8 at hHeld B8 X8 ⊢
     refine p_ 0 20 (bb 26 1) (h := ?_)
     refine p_ 1 21 (bb 26 3) (h := ?_)
     refine p_ 2 22 (bb 26 7) (h := ?_)
     refine p_ 3 23 (bb 26 15) (h := ?_)
     refine p_ 4 24 (bb 26 31) (h := ?_)
     refine p_ 5 25 (bb 26 63) (h := ?_)
     refine p_ 6 26 (bb 26 127) (h := ?_)
     refine p_ 7 27 (bb 26 255) (h := ?_)
     refine p_ 8 28 (bb 26 511) (h := ?_)
     refine t_ 9 29 (bb 26 1023) hHeld (h := ?_)
     refine t_ 10 30 (bb 26 2047) hHeld (hy := by (rintro w' ⟨s0, s1, s2, s3, s4, s5⟩; have hcv := Kd.C_string (P := Try.prog) (A := M0') (c := m0') Try.underlying34 Try.underlying5 Try.underlying9 s4; go_simp; with_reducible rfl)) (h := ?_)
     refine p_ 11 31 (bb 26 4095) (h := ?_)
     refine t_ 12 32 (bb 26 8191) hHeld (h := ?_)
     refine t_ 13 33 (bb 26 16383) hHeld (hy := by (rintro w' ⟨s0, s1, s2, s3, s4, s5⟩; have hcv := Kd.C_string (P := Try.prog) (A := A0) (c := c0) Try.underlying34 Try.underlying5 Try.underlying9 s5; go_simp; with_reducible rfl)) (h := ?_)
     refine p_ 14 34 (bb 26 32767) (h := ?_)
     refine p_ 15 35 (bb 26 65535) (h := ?_)
     refine p_ 16 36 (bb 26 131071) (h := ?_)
     refine o_ 17 37 (bb 26 262143) (h := ?_)
     refine o_ 18 38 (bb 26 524287) (h := ?_)
     refine o_ 19 39 (bb 26 1048575) (h := ?_)
     refine o_ 20 40 (bb 26 2097151) (h := ?_)
     refine o_ 21 41 (bb 26 4194303) (h := ?_)
     refine o_ 22 42 (bb 26 8388607) (h := ?_)
     refine o_ 23 43 (bb 26 16777215) (h := ?_)
     refine o_ 24 44 (bb 26 33554431) (h := ?_)
     refine p_ 25 45 (bb 26 67108863) (h := ?_)
     refine d_ (h := ?_)
     clear hHeld hse
     have HFX0 := Aside0.mk (show Kd.F k36 w (fun k => okF k ∧ k < w.heap.size) (some ad) n (xs.take n) by
      have h := Kd.F_take (Kd.F_bound HF.out) HNT.out
      rwa [show (xs.take n).length = n by rw [List.length_take]; have h := HNT.out; omega] at h)
     obtain ⟨Ac, hAc⟩ : ∃ A_, A_ = (if c = n then (some ad) else Option.map (·.add (n * 4)) (some ad)) := ⟨_, rfl⟩
     obtain ⟨cc, hcc⟩ : ∃ c_, c_ = c - n := ⟨_, rfl⟩
     have HFY0 := Aside0.mk (show Kd.F k36 w (fun k => okF k ∧ k < w.heap.size) Ac (xs.length - n) (xs.drop n) by
      have h := Kd.F_cut (Kd.F_bound HF.out) HNT.out HLC.out
      rw [List.length_drop] at h
      rw [hAc]
      exact h)
     obtain ⟨hct, hcf⟩ := cutT (some ad) 24 36 4 64 _ Try.underlying24 info36 xs.length c n HNT.out HLC.out
     rw [← hAc, ← hcc] at hcf
     clear hAc hcc
     go_wp2
     refine s_ 14 [] (fun w' => w'.cell? ⟨g3, 0, none⟩ = some (.slice A0 e.f0.length c0) ∧ w'.cell? ⟨g3, 1, none⟩ = some (.int .i64 e.f1) ∧ w'.cell? ⟨g3, 2, none⟩ = some (.bool e.f2) ∧ w'.cell? ⟨g3, 3, none⟩ = some (.slice A3 e.f3.length c3)) (hS := ⟨(blk_cell (blk_drew X8.out) 0).trans rfl, (blk_cell (blk_drew X8.out) 1).trans rfl, (blk_cell (blk_drew X8.out) 2).trans rfl, (blk_cell (blk_drew X8.out) 3).trans rfl⟩) (h := fun hHeld => ?_)
     have B9 := Aside0.mk (show Below w.heap.size w w8.drew from below_drew (below_step BWL.out B8.out))
     have HC9 := Aside0.mk (show w8.drew.cell? ⟨g3, 0, none⟩ = some (.slice A0 e.f0.length c0) ∧ w8.drew.cell? ⟨g3, 1, none⟩ = some (.int .i64 e.f1) ∧ w8.drew.cell? ⟨g3, 2, none⟩ = some (.bool e.f2) ∧ w8.drew.cell? ⟨g3, 3, none⟩ = some (.slice A3 e.f3.length c3) from hHeld)
     generalize w8.drew = w9 at hHeld B9 HC9 ⊢
     have HWS := Aside0.mk B9.out.size
     have HFX := Aside0.mk (Kd.F_below HFX0.out B9.out)
     have HFY := Aside0.mk (Kd.F_below HFY0.out B9.out)
     have HKE09 := Aside0.mk (Kd.C_below HK0.out B9.out)
     have HKE39 := Aside0.mk (Kd.C_below HK3.out B9.out)
     refine p_ 1 48 (bb 14 2) (h := ?_)
     refine p_ 2 49 (bb 14 6) (h := ?_)
     refine p_ 3 50 (bb 14 14) (h := ?_)
     refine t_ 5 52 (bb 14 46) hHeld (h := ?_)
     refine p_ 9 56 (bb 14 558) (h := ?_)
     refine p_ 10 57 (bb 14 1582) (h := ?_)
     refine p_ 11 58 (bb 14 3630) (h := ?_)
     refine n_ 0 47 (bb 14 3631) (h := fun K hK => ?_)
     refine Kd.N_lit_step k36 w9.heap.size 36 (by rfl) rfl (xs := ([] : List S36)) (inner := []) (ok := (fun k => (okF k ∧ k < w.heap.size) ∨ w9.heap.size ≤ k)) (okp := (fun _ => False)) ?hrun ?hrep (fun _ hk => hk.elim) (.inr (Nat.le_refl _)) (Below.refl _ _) (Nat.le_refl _) (by simp) ?_
     case hrun => first | (go_simp; done) | (go_simp; rfl)
     case hrep => exact Reps.none _ _
     intro v47 w47 hn_ hb_ hg_ hat_
     have HN47 := Aside0.mk hn_
     have HB47 := Aside0.mk hb_
     have HG47 := Aside0.mk hg_
     clear hn_ hb_ hg_ hat_
     refine hK.out _ _ ⟨pw_cell_below HB47.out HC9.out.1, pw_cell_below HB47.out HC9.out.2.1, pw_cell_below HB47.out HC9.out.2.2.1, pw_cell_below HB47.out HC9.out.2.2.2⟩ (fun hHeld => ?_)
     clear hK K
     refine m_ 47 (h := ?_)
     refine n_ 4 51 (bb 14 3647) (h := fun K hK => ?_)
     refine Kd.N_append_rows_step k36 (w0 := w9) w9.heap.size (by rfl) (.tmp 47) (.tmp 50) 24 36 (.agg #[.slice none 0 0, .int .i64 0, .bool false, .slice none 0 0]) 64 rfl Try.underlying24 info36 rfl (by decide) (by omega) v47 ([]) (xs.take n) ((some ad)) (n) (c) ((fun k => (okF k ∧ k < w.heap.size) ∨ w9.heap.size ≤ k)) ((fun k => okF k ∧ k < w.heap.size)) rfl rfl (HN47.out) (Kd.F_below HFX.out HB47.out) (fun k hk => ⟨.inl hk, fun he => by have h1 := Kd.N_base HN47.out k he.symm; have h2 := hk.2; have h3 := HWS.out; omega⟩) (fun k hk => .inr (Nat.le_trans HB47.out.size hk)) (HB47.out) (HB47.out.size) (by have h1 := HXN.out; have h2 := HNT.out; simp; omega) ?_
     intro v51 w51 hn_ hb_ hg_ hat_
     have HN51 := Aside0.mk hn_
     have HB51 := Aside0.mk hb_
     have HG51 := Aside0.mk hg_
     clear hn_ hb_ hg_ hat_
     refine hK.out _ _ ⟨pw_cell_below HB51.out HC9.out.1, pw_cell_below HB51.out HC9.out.2.1, pw_cell_below HB51.out HC9.out.2.2.1, pw_cell_below HB51.out HC9.out.2.2.2⟩ (fun hHeld => ?_)
     clear hK K
     refine m_ 51 (h := ?_)
     refine n_ 6 53 (bb 14 3711) (h := fun K hK => ?_)
     refine goes_ Try.func36 (by kernel_rfl) rfl #[.agg #[.slice A0 e.f0.length c0, .int .i64 e.f1, .bool e.f2, .slice A3 e.f3.length c3]] (by rfl) rfl rfl (by (try simp only [List.map_toArray, List.map_cons, List.map_nil]); first | done | rfl) ?_
     refine (copy_calls HLE.out (Kd.C_below HKE09.out HB51.out) HKL.out.1 (Kd.C_below HKE39.out HB51.out) HKL.out.2).mono ?_
     rintro ex w53 ⟨P0, d0, P3, d3, rfl, hl0, hl3, hF0, hF3, hb53⟩
     refine ⟨_, rfl, ?_⟩
     have hl0 := Aside0.mk hl0
     have hF0 := Aside0.mk hF0
     have hl3 := Aside0.mk hl3
     have hF3 := Aside0.mk hF3
     have HB53 := Aside0.mk (below_step HB51.out hb53)
     have hb53 := Aside0.mk hb53
     refine hK.out _ _ ⟨pw_cell_below HB53.out HC9.out.1, pw_cell_below HB53.out HC9.out.2.1, pw_cell_below HB53.out HC9.out.2.2.1, pw_cell_below HB53.out HC9.out.2.2.2⟩ (fun hHeld => ?_)
     clear hK K
     refine m_ 53 (h := ?_)
     refine n_ 7 54 (bb 14 3839) (h := fun K hK => ?_)
     refine Kd.N_lit_step k36 w9.heap.size 36 (by rfl) rfl (xs := [e]) (inner := [.slice P0 e.f0.length d0, .int .i64 e.f1, .bool e.f2, .slice P3 e.f3.length d3]) (ok := (fun k => w51.heap.size ≤ k)) (okp := (fun k => w51.heap.size ≤ k)) ?hrun ?hrep (fun _ hk => hk) hb53.out.size HB53.out HB53.out.size (by simp) ?_
     case hrun => first | (go_simp; done) | (go_simp; rfl)
     case hrep => exact Reps.c4 (k36_mkF _ _ e hl0.out hF0.out hl3.out hF3.out) (Reps.none _ _)
     intro v54 w54 hn_ hb_ hg_ hat_
     have HN54 := Aside0.mk hn_
     have HB54 := Aside0.mk hb_
     have HG54 := Aside0.mk hg_
     clear hn_ hb_ hg_ hat_
     obtain ⟨A54, c54, rfl⟩ := Kd.N_slice HN54.out
     refine hK.out _ _ ⟨pw_cell_below HB54.out HC9.out.1, pw_cell_below HB54.out HC9.out.2.1, pw_cell_below HB54.out HC9.out.2.2.1, pw_cell_below HB54.out HC9.out.2.2.2⟩ (fun hHeld => ?_)
     clear hK K
     refine m_ 54 (h := ?_)
     refine n_ 8 55 (bb 14 4095) (h := fun K hK => ?_)
     have HB154 := Aside0.mk (show Below w51.heap.size w51 w54 from below_step hb53.out ⟨HG54.out.os, HG54.out.tape, HG54.out.output, HG54.out.size, fun i hi => HG54.out.block i hi (by simp)⟩)
     refine Kd.N_append_rows_step k36 (w0 := w9) w9.heap.size (by rfl) (.tmp 51) (.tmp 54) 24 36 (.agg #[.slice none 0 0, .int .i64 0, .bool false, .slice none 0 0]) 64 rfl Try.underlying24 info36 rfl (by decide) (by omega) v51 ([] ++ xs.take n) ([e]) (A54) (1) (c54) ((fun k => (okF k ∧ k < w.heap.size) ∨ w9.heap.size ≤ k)) ((fun k => w51.heap.size ≤ k)) rfl rfl (Kd.N_below HN51.out HB154.out) (Kd.N_F HN54.out) (fun k hk => ⟨.inr (Nat.le_trans HB51.out.size hk), fun he => by have h1 := Kd.N_lt HN51.out k he.symm; omega⟩) (fun k hk => .inr (Nat.le_trans HB54.out.size hk)) (HB54.out) (HB54.out.size) (by have h1 := HXN.out; have h2 := HNT.out; simp; omega) ?_
     intro v55 w55 hn_ hb_ hg_ hat_
     have HN55 := Aside0.mk hn_
     have HB55 := Aside0.mk hb_
     have HG55 := Aside0.mk hg_
     clear hn_ hb_ hg_ hat_
     refine hK.out _ _ ⟨pw_cell_below HB55.out HC9.out.1, pw_cell_below HB55.out HC9.out.2.1, pw_cell_below HB55.out HC9.out.2.2.1, pw_cell_below HB55.out HC9.out.2.2.2⟩ (fun hHeld => ?_)
     clear hK K
     refine m_ 55 (h := ?_)
     refine n_ 12 59 (bb 14 8191) (h := fun K hK => ?_)
     refine Kd.N_append_rows_step k36 (w0 := w9) w9.heap.size (by rfl) (.tmp 55) (.tmp 58) 24 36 (.agg #[.slice none 0 0, .int .i64 0, .bool false, .slice none 0 0]) 64 rfl Try.underlying24 info36 rfl (by decide) (by omega) v55 (([] ++ xs.take n) ++ [e]) (xs.drop n) (Ac) (xs.length - n) (cc) ((fun k => (okF k ∧ k < w.heap.size) ∨ w9.heap.size ≤ k)) ((fun k => okF k ∧ k < w.heap.size)) rfl rfl (HN55.out) (Kd.F_below HFY.out HB55.out) (fun k hk => ⟨.inl hk, fun he => by have h1 := Kd.N_base HN55.out k he.symm; have h2 := hk.2; have h3 := HWS.out; omega⟩) (fun k hk => .inr (Nat.le_trans HB55.out.size hk)) (HB55.out) (HB55.out.size) (by have h1 := HXN.out; have h2 := HNT.out; simp; omega) ?_
     intro v59 w59 hn_ hb_ hg_ hat_
     have HN59 := Aside0.mk hn_
     have HB59 := Aside0.mk hb_
     have HG59 := Aside0.mk hg_
     clear hn_ hb_ hg_ hat_
     refine hK.out _ _ ⟨pw_cell_below HB59.out HC9.out.1, pw_cell_below HB59.out HC9.out.2.1, pw_cell_below HB59.out HC9.out.2.2.1, pw_cell_below HB59.out HC9.out.2.2.2⟩ (fun hHeld => ?_)
     clear hK K
     refine m_ 59 (h := ?_)
     refine p_ 13 4 (bb 14 16383) (h := ?_)
     refine d_ (h := ?_)
     clear hct hcf hHeld
     go_wp2
     go_ret
     refine ⟨_, rfl, ?_, below_step B9.out HB59.out⟩
     have h := Kd.N_V (base' := w.heap.size) HN59.out
     rw [List.nil_append, List.append_assoc] at h
     rw [HPE.out]
     exact Kd.V_mono h (fun k hk => hk.imp (fun h => h.1) (fun h => Nat.le_trans HWS.out h))
end Go.Proofs.Ytobjkjmmkbhecaa.Sk
