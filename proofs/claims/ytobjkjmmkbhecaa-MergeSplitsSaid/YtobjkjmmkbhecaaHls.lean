/- The law MergeSplits as a contract of its function. Conditions: those of each theorem. -/
import Derived.Test.YtobjkjmmkbhecaaCore
import Derived.Test.YtobjkjmmkbhecaaHaw
import Derived.Test.YtobjkjmmkbhecaaME
import Derived.Test.YtobjkjmmkbhecaaHgp
import Derived.Test.YtobjkjmmkbhecaaHla
import Derived.Test.YtobjkjmmkbhecaaHlp
import Derived.Test.YtobjkjmmkbhecaaHmo
import Derived.Test.YtobjkjmmkbhecaaHod
import Derived.Test.YtobjkjmmkbhecaaHpl
import Derived.Test.YtobjkjmmkbhecaaHrm
import Derived.Test.YtobjkjmmkbhecaaHrw
import Derived.Test.YtobjkjmmkbhecaaHsp
import Derived.Test.YtobjkjmmkbhecaaPx0
import Derived.Test.YtobjkjmmkbhecaaHps
import Derived.Test.YtobjkjmmkbhecaaHso
namespace Go.Proofs.Ytobjkjmmkbhecaa.Sk
open Go.RowKit Go.Proofs.YtobjkjmmkbhecaaW.PrintWords Go.Proofs.YtobjkjmmkbhecaaW.PrintLast Go.Proofs.YtobjkjmmkbhecaaW.PrintMore Go.Proofs.Ytobjkjmmkbhecaa.Px Go.Proofs.Ytobjkjmmkbhecaa.Sw
set_option linter.unusedVariables false
set_option linter.unusedSimpArgs false

theorem pair_LL {l : List (List S36)} (h : l.Pairwise LL) {i j : Nat} {x y : List S36} (hx : l[i]? = some x) (hy : l[j]? = some y) (hij : i < j) : LL x y := by
 obtain ⟨h1, h2⟩ := List.getElem?_eq_some_iff.1 hx
 obtain ⟨h3, h4⟩ := List.getElem?_eq_some_iff.1 hy
 have := List.pairwise_iff_getElem.1 h i j h1 h3 hij
 rwa [h2, h4] at this
theorem one_key {p : List S36} (h : OneKey (fun e : S36 => e.f0) p) {z q : S36} (hz : z ∈ p) (hq : q ∈ p) : z.f0 = q.f0 := h.2 z hz q hq
set_option maxHeartbeats 40000000 in
set_option maxRecDepth 100000 in
theorem splits_calls {w : World} {A : Option Addr} {c : Nat} {xs : List S36} (hC : Kd.C k36 w A xs.length xs) (hlc : xs.length ≤ c) (hE : ∀ e ∈ xs, EB e) (hln : xs.length ≤ 4000000000000) (a : Int) :
  Calls Try.prog 7 #[.slice A xs.length c, .int .i64 a] w fun ex w' => ex = .returned (.bool true) ∧ Below w.heap.size w w' := by
 have HC := Aside0.mk hC
 have HLC := Aside0.mk hlc
 have HE := Aside0.mk hE
 have HLN := Aside0.mk hln
 obtain ⟨ob, hob⟩ : ∃ ob, ob = rowOk none xs := ⟨_, rfl⟩
 have HOB := Aside0.mk hob
 clear hC hlc hE hln hob
 cases ob with
 | false =>
  as_aux_lemma =>
  go_enter Try.func7, Try.ntmps7
  go_wp2_with (first
   | ((with_reducible refine gate_dst (N := 11) rfl ?_); (try (refine gate_guard (by rfl) ?_; dsimp only)); refine goesL_ (some 11) rfl rfl Try.func11 (by kernel_rfl) rfl #[] rfl (by (try simp only [List.map_toArray, List.map_cons, List.map_nil]); first | done | rfl) ?_; refine (awake_calls w).mono ?_; rintro ex w1 ⟨rfl, hb1⟩; refine ⟨_, rfl, ?_⟩; have n_ := Aside0.mk hb1; clear hb1; have hb1 := n_; clear n_)
   | ((with_reducible refine gate_dst (N := 13) rfl ?_); (try (refine gate_guard (by rfl) ?_; dsimp only)); refine goesL_ (some 13) rfl rfl Try.func21 (by kernel_rfl) rfl #[.slice A xs.length c] rfl (by (try simp only [List.map_toArray, List.map_cons, List.map_nil]); first | done | rfl) ?_; refine (ordered_calls (Kd.C_below HC.out hb1.out) HLC.out (fun e he => (HE.out e he).1) HLN.out).mono ?_; rintro ex w2 ⟨rfl, hb2⟩; refine ⟨_, rfl, ?_⟩; rw [← HOB.out]; have n_ := Aside0.mk hb2; clear hb2; have hb2 := n_; clear n_))
  go_ret
  exact ⟨rfl, below_step hb1.out hb2.out⟩
 | true =>
 by_cases hl : xs.length ≤ 300
 case neg =>
  as_aux_lemma =>
  have hd : ((300 : Int) < (xs.length : Int)) = True := eq_true (by omega)
  go_enter Try.func7, Try.ntmps7
  go_wp2_with (first
   | ((with_reducible refine gate_dst (N := 11) rfl ?_); (try (refine gate_guard (by rfl) ?_; dsimp only)); refine goesL_ (some 11) rfl rfl Try.func11 (by kernel_rfl) rfl #[] rfl (by (try simp only [List.map_toArray, List.map_cons, List.map_nil]); first | done | rfl) ?_; refine (awake_calls w).mono ?_; rintro ex w1 ⟨rfl, hb1⟩; refine ⟨_, rfl, ?_⟩; have n_ := Aside0.mk hb1; clear hb1; have hb1 := n_; clear n_)
   | ((with_reducible refine gate_dst (N := 13) rfl ?_); (try (refine gate_guard (by rfl) ?_; dsimp only)); refine goesL_ (some 13) rfl rfl Try.func21 (by kernel_rfl) rfl #[.slice A xs.length c] rfl (by (try simp only [List.map_toArray, List.map_cons, List.map_nil]); first | done | rfl) ?_; refine (ordered_calls (Kd.C_below HC.out hb1.out) HLC.out (fun e he => (HE.out e he).1) HLN.out).mono ?_; rintro ex w2 ⟨rfl, hb2⟩; refine ⟨_, rfl, ?_⟩; rw [← HOB.out]; have n_ := Aside0.mk hb2; clear hb2; have hb2 := n_; clear n_))
  go_ret
  exact ⟨rfl, below_step hb1.out hb2.out⟩
 as_aux_lemma =>
 have hd : ((300 : Int) < (xs.length : Int)) = False := eq_false (by omega)
 have hro := rowOk_str (fun e he => HE.out e he) (fun q hq => by cases hq) HOB.out.symm
 have HGD := Aside0.mk (show goodL xs = true from good_of HE.out hro.2.1 (by omega))
 have HL9 := Aside0.mk (show xs.length ≤ 1000000000 by omega)
 obtain ⟨S, hS⟩ : ∃ S, S = splitE (fun e : S36 => e.f0) a xs := ⟨_, rfl⟩
 have hflat : S.flatten = xs := by rw [hS]; exact splitE_flat a xs
 have HFL := Aside0.mk hflat
 have HSL := Aside0.mk (show S.length ≤ 300 by have := split_len a xs; rw [← hS] at this; omega)
 have HPC := Aside0.mk (show ∀ p ∈ S, Piece (fun e : S36 => e.f0) a p by rw [hS]; exact splitE_pieces a xs)
 have HLL := Aside0.mk (show S.Pairwise LL by rw [hS]; exact split_LL HE.out hro.1 a)
 have HGE := Aside0.mk (show ∀ e ∈ xs, GE e from fun e he => ⟨(HE.out e he).1, (HE.out e he).2.1⟩)
 have HS := Aside0.mk hS
 have HLS := Aside0.mk hl
 clear hS hflat hro hl
 go_enter Try.func7, Try.ntmps7
 go_wp2_with (first
  | ((with_reducible refine gate_dst (N := 11) rfl ?_); (try (refine gate_guard (by rfl) ?_; dsimp only)); refine goesL_ (some 11) rfl rfl Try.func11 (by kernel_rfl) rfl #[] rfl (by (try simp only [List.map_toArray, List.map_cons, List.map_nil]); first | done | rfl) ?_; refine (awake_calls w).mono ?_; rintro ex w1 ⟨rfl, hb1⟩; refine ⟨_, rfl, ?_⟩; have n_ := Aside0.mk hb1; clear hb1; have hb1 := n_; clear n_)
  | ((with_reducible refine gate_dst (N := 13) rfl ?_); (try (refine gate_guard (by rfl) ?_; dsimp only)); refine goesL_ (some 13) rfl rfl Try.func21 (by kernel_rfl) rfl #[.slice A xs.length c] rfl (by (try simp only [List.map_toArray, List.map_cons, List.map_nil]); first | done | rfl) ?_; refine (ordered_calls (Kd.C_below HC.out hb1.out) HLC.out (fun e he => (HE.out e he).1) HLN.out).mono ?_; rintro ex w2 ⟨rfl, hb2⟩; refine ⟨_, rfl, ?_⟩; rw [← HOB.out]; have n_ := Aside0.mk hb2; clear hb2; have hb2 := n_; clear n_)
  | ((with_reducible refine gate_dst (N := 23) rfl ?_); (try (refine gate_guard (by rfl) ?_; dsimp only)); refine goesL_ (some 23) rfl rfl Try.func19 (by kernel_rfl) rfl #[.slice A xs.length c, .int .i64 a] rfl (by (try simp only [List.map_toArray, List.map_cons, List.map_nil]); first | done | rfl) ?_; refine (split_calls (Kd.C_F k36_heap (Kd.C_below (Kd.C_below HC.out hb1.out) hb2.out)) HLC.out HL9.out (goodL_iff.1 HGD.out).1 a).mono ?_; rintro ex w3 ⟨v_, rfl, hn_, hb_⟩; refine ⟨_, rfl, ?_⟩; rw [← HS.out] at hn_; obtain ⟨As, cs, e_⟩ := Kd.N_slice hn_; subst e_; have SF := Aside0.mk (Kd.F_mono (ok' := fun k => k < w3.heap.size) (Kd.F_bound (Kd.N_F hn_)) (fun k hk => hk.2)); have Bw3 := Aside0.mk (hb_); clear hn_ hb_))
 go_loopg [7, 8] S.length (fun kq v7 v8 w' => ∃ (i : Nat) (acc : List S36) (Av : Option Addr) (cv : Nat), v7 = .slice Av acc.length cv ∧ v8 = .int .i64 (i : Int) ∧ Aside0 (kq + i = S.length) ∧ Aside0 (acc = (S.take i).flatten) ∧ Aside0 (Kd.N k36 36 w' w3.heap.size (fun _ => True) (.slice Av acc.length cv) acc) ∧ Aside0 (Below w3.heap.size w3 w'))
 case atStart => exact ⟨0, [], none, 0, rfl, rfl, ⟨rfl⟩, ⟨rfl⟩, ⟨Kd.N_nil _ _ _ _ _⟩, ⟨Below.refl _ _⟩⟩
 case round =>
  obtain ⟨i, acc, Av, cv, rfl, rfl, HK, HA, HN, HB⟩ := hrel
  cases gk with
  | zero =>
   as_aux_lemma =>
   have hlt : ((i : Int) < (S.length : Int)) = False := eq_false (by have h := HK.out; omega)
   have ha : xs = acc := by rw [HA.out, List.take_of_length_le (by have h := HK.out; omega)]; exact HFL.out.symm
   subst ha
   have HNX := Aside0.mk (Kd.N_reads' HN.out)
   go_wp2_with (first
    | ((with_reducible refine gate_dst (N := 118) rfl ?_); (try (refine gate_guard (by rfl) ?_; dsimp only)); refine goesL_ (some 118) rfl rfl Try.func12 (by kernel_rfl) rfl #[.slice Av xs.length cv, .slice A xs.length c] rfl (by (try simp only [List.map_toArray, List.map_cons, List.map_nil]); first | done | rfl) ?_; refine (same_calls HNX.out.2.2 HNX.out.2.1 (Kd.C_below (Kd.C_below (Kd.C_below (Kd.C_below HC.out hb1.out) hb2.out) Bw3.out) HB.out) HLC.out HGE.out (by have h := HL9.out; omega)).mono ?_; rintro ex w8 ⟨rfl, hb_⟩; refine ⟨_, rfl, ?_⟩; have Bw8 := Aside0.mk (hb_); clear hb_))
   go_ret
   exact ⟨rfl, below_step (below_step (below_step (below_step hb1.out hb2.out) Bw3.out) HB.out) Bw8.out⟩
  | succ k1 =>
   as_aux_lemma =>
   have hil : i < S.length := by have h := HK.out; omega
   have hlt : ((i : Int) < (S.length : Int)) = True := eq_true (by omega)
   obtain ⟨p, hp⟩ : ∃ p, S[i]? = some p := ⟨_, List.getElem?_eq_getElem hil⟩
   have HPI := Aside0.mk hp
   have HPX := Aside0.mk (HPC.out p (List.mem_of_getElem? hp))
   have HMF := Aside0.mk (mem_flat hp)
   have hpl : 0 < p.length := List.length_pos_iff.2 HPX.out.1
   have HPL := Aside0.mk hpl
   have HPN := Aside0.mk (show p.length ≤ 300 by have h := HMF.out.1; rw [HFL.out] at h; have h2 := HLS.out; omega)
   have HPE := Aside0.mk (show ∀ e ∈ p, EB e from fun e he => HE.out e (by have h := HMF.out.2 e he; rwa [HFL.out] at h))
   obtain ⟨q, hq⟩ : ∃ q, p[0]? = some q := ⟨_, List.getElem?_eq_getElem hpl⟩
   have HQI := Aside0.mk hq
   have HQM := Aside0.mk (List.mem_of_getElem? hq)
   have HIN := Aside0.mk hil
   have HWK := Aside0.mk (wadd1 (x := i) (z := i + 1) rfl (by have h := HSL.out; omega))
   have HAP := Aside0.mk (show acc.length + p.length ≤ 300 by
    have h1 := congrArg List.length (take_flat hp)
    rw [← HA.out, List.length_append] at h1
    have h2 := (flat_take (L := S) hp p.length).2
    rw [List.take_length, List.length_append, ← HA.out, HFL.out] at h2
    have h3 := HLS.out
    omega)
   obtain ⟨as_, B, d, ea, hrow, hlr, hfr⟩ := rows_of_F (Kd.F_below SF.out HB.out) i p hp
   subst ea
   have hpz : ((p.length : Int) == 0) = false := beq_eq_false_iff_ne.mpr (by omega)
   clear hp hq hil hpl hlr hfr
   go_wp2
   clear hrow hpz hlt
   have HBO := Aside0.mk HB.out
   have HNO := Aside0.mk HN.out
   clear HB HN
   generalize wr = wo at HBO HNO ⊢
   go_loopg [9, 10] p.length (fun kq v9 v10 w' => ∃ (b : Bool) (k : Nat), v9 = .bool b ∧ v10 = .int .i64 (k : Int) ∧ Aside0 (kq + k = p.length) ∧ Aside0 (OneKey (fun e : S36 => e.f0) p → b = true) ∧ Aside0 (Below wo.heap.size wo w'))
   case atStart => exact ⟨true, 0, rfl, rfl, ⟨rfl⟩, ⟨fun _ => rfl⟩, ⟨Below.refl _ _⟩⟩
   case round =>
    obtain ⟨b, k, rfl, rfl, Hk36, HOK, HBI⟩ := hrel
    have HBW := Aside0.mk (below_step HBO.out HBI.out)
    have hlt : ((i : Int) < (S.length : Int)) = True := eq_true (by have h := HIN.out; omega)
    obtain ⟨as2, B, d, ea, hrow, hlr, hfr⟩ := rows_of_F (Kd.F_below SF.out HBW.out) i p HPI.out
    obtain rfl := Option.some.inj ea
    have HFR := Aside0.mk (Kd.F_now hfr)
    clear hlr hfr
    obtain ⟨bd, P0, p0, P3, p3, ea, hq0, _, _, _, _, hqm, _, _⟩ := at_CE HFR.out 0 q HQI.out
    subst ea
    have hq0 : wr.cell? bd = some (.slice P0 q.f0.length p0) := hq0
    have h0p : ((0 : Int) < (p.length : Int)) = True := eq_true (by have h := HPL.out; omega)
    have h0p2 : (0 < p.length) = True := eq_true HPL.out
    cases gk with
    | zero =>
     as_aux_lemma =>
     have hlt2 : ((k : Int) < (p.length : Int)) = False := eq_false (by have h := Hk36.out; omega)
     by_cases hm : (p.length : Int) ≤ a
     ·
      have hbig : (a < (p.length : Int)) = False := eq_false (by omega)
      clear hm
      by_cases hi : 0 < i
      ·
       have hi0 : (0 < i) = True := eq_true hi
       obtain ⟨j, hj⟩ : ∃ j, j + 1 = i := ⟨i - 1, by omega⟩
       obtain ⟨r, hr⟩ : ∃ r, S[j]? = some r := ⟨_, List.getElem?_eq_getElem (by have h := HIN.out; omega)⟩
       have hw1 : wrap64 ((i : Int) - 1) = (j : Int) := wsub1 hj (by have h1 := HIN.out; have h2 := HSL.out; omega)
       have hjl : ((j : Int) < (S.length : Int)) = True := eq_true (by have h := HIN.out; omega)
       have hrl := List.length_pos_iff.2 (HPC.out r (List.mem_of_getElem? hr)).1
       obtain ⟨m, hm⟩ : ∃ m, m + 1 = r.length := ⟨r.length - 1, by omega⟩
       obtain ⟨u, hu⟩ : ∃ u, r[m]? = some u := ⟨_, List.getElem?_eq_getElem (by omega)⟩
       have hmf := mem_flat hr
       rw [HFL.out] at hmf
       have hw2 : wrap64 ((r.length : Int) - 1) = (m : Int) := wsub1 hm (by have h2 := hmf.1; have h3 := HLS.out; omega)
       have hml : ((m : Int) < (r.length : Int)) = True := eq_true (by omega)
       have hlu : less u.f0 q.f0 = true := pair_LL HLL.out hr HPI.out (by omega) u (List.mem_of_getElem? hu) q HQM.out
       have hne : u.f0 ≠ q.f0 := fun h => by rw [h, less_irrefl] at hlu; cases hlu
       have hse := str_eq (HE.out u (hmf.2 u (List.mem_of_getElem? hu))).1 (HPE.out q HQM.out).1
       rw [decide_eq_false hne] at hse
       obtain ⟨as3, B', d', ea, hrow2, hlr2, hfr2⟩ := rows_of_F (Kd.F_below SF.out HBW.out) j r hr
       obtain rfl := Option.some.inj ea
       obtain ⟨cd, U0, u0, U3, u3, ea, hu0, _, _, _, _, hum, _, _⟩ := at_CE (Kd.F_now hfr2) m u hu
       subst ea
       clear hi hj hr hrl hm hu hmf hlu hne hlr2 hfr2
       go_upto_region 16 with (fail)
       refine s_ 42 [] (fun w' => w'.cell? (as_.add i) = some (.slice (some bd) p.length d) ∧ w'.cell? (as_.add j) = some (.slice (some cd) r.length d') ∧ w'.cell? (cd.add (m * 4)) = some (.slice U0 u.f0.length u0) ∧ w'.cell? bd = some (.slice P0 q.f0.length p0) ∧ Kd.C (Kd.int .u8) w' U0 u.f0.length u.f0 ∧ Kd.C (Kd.int .u8) w' P0 q.f0.length q.f0) (hS := ⟨hrow, hrow2, hu0, hq0, hum, hqm⟩) (h := fun hHeld => ?_)
       have Bw6 := Aside0.mk (show Below wr.heap.size wr wr.drew from below_drew (Below.refl _ _))
       clear hrow hrow2 hu0 hq0 hum hqm
       generalize wr.drew = w6 at hHeld Bw6 ⊢
       refine p_ 0 66 (bb 42 1) (h := ?_)
       refine p_ 1 67 (bb 42 3) (h := ?_)
       refine p_ 2 68 (bb 42 7) (h := ?_)
       refine t_ 3 69 (bb 42 15) hHeld (h := ?_)
       refine p_ 4 70 (bb 42 31) (h := ?_)
       refine p_ 5 71 (bb 42 63) (h := ?_)
       refine p_ 6 72 (bb 42 127) (h := ?_)
       refine p_ 7 73 (bb 42 255) (h := ?_)
       refine o_ 8 74 (bb 42 511) (h := ?_)
       refine o_ 9 75 (bb 42 1023) (h := ?_)
       refine p_ 10 76 (bb 42 2047) (h := ?_)
       refine p_ 11 77 (bb 42 4095) (h := ?_)
       refine p_ 12 78 (bb 42 8191) (h := ?_)
       refine p_ 13 79 (bb 42 16383) (h := ?_)
       refine p_ 14 80 (bb 42 32767) (h := ?_)
       refine p_ 15 81 (bb 42 65535) (h := ?_)
       refine p_ 16 82 (bb 42 131071) (h := ?_)
       refine p_ 17 83 (bb 42 262143) (h := ?_)
       refine p_ 18 84 (bb 42 524287) (h := ?_)
       refine t_ 19 85 (bb 42 1048575) hHeld (h := ?_)
       refine p_ 20 86 (bb 42 2097151) (h := ?_)
       refine p_ 21 87 (bb 42 4194303) (h := ?_)
       refine p_ 22 88 (bb 42 8388607) (h := ?_)
       refine p_ 23 89 (bb 42 16777215) (h := ?_)
       refine t_ 24 90 (bb 42 33554431) hHeld (h := ?_)
       refine p_ 25 91 (bb 42 67108863) (h := ?_)
       refine p_ 26 92 (bb 42 134217727) (h := ?_)
       refine p_ 27 93 (bb 42 268435455) (h := ?_)
       refine p_ 28 94 (bb 42 536870911) (h := ?_)
       refine t_ 29 95 (bb 42 1073741823) hHeld (h := ?_)
       refine t_ 30 96 (bb 42 2147483647) hHeld (hy := by (rintro w' ⟨s0, s1, s2, s3, s4, s5⟩; have hcv := Kd.C_string (P := Try.prog) (A := U0) (c := u0) Try.underlying34 Try.underlying5 Try.underlying9 s4; go_simp; with_reducible rfl)) (h := ?_)
       refine p_ 31 97 (bb 42 4294967295) (h := ?_)
       refine p_ 32 98 (bb 42 8589934591) (h := ?_)
       refine p_ 33 99 (bb 42 17179869183) (h := ?_)
       refine t_ 34 100 (bb 42 34359738367) hHeld (h := ?_)
       refine p_ 35 101 (bb 42 68719476735) (h := ?_)
       refine p_ 36 102 (bb 42 137438953471) (h := ?_)
       refine t_ 37 103 (bb 42 274877906943) hHeld (h := ?_)
       refine t_ 38 104 (bb 42 549755813887) hHeld (hy := by (rintro w' ⟨s0, s1, s2, s3, s4, s5⟩; have hcv := Kd.C_string (P := Try.prog) (A := P0) (c := p0) Try.underlying34 Try.underlying5 Try.underlying9 s5; go_simp; with_reducible rfl)) (h := ?_)
       refine p_ 39 105 (bb 42 1099511627775) (h := ?_)
       refine p_ 40 106 (bb 42 2199023255551) (h := ?_)
       refine p_ 41 107 (bb 42 4398046511103) (h := ?_)
       refine d_ (h := ?_)
       clear hHeld
       have HB6 := Aside0.mk (below_step (below_step HBO.out HBI.out) Bw6.out)
       have HN6 := Aside0.mk (Kd.N_below (Kd.N_below HNO.out HBI.out) Bw6.out)
       obtain ⟨as9, B9, d9, ea, hrow9, hl9, hf9⟩ := rows_of_F (Kd.F_below SF.out HB6.out) i p HPI.out
       obtain rfl := Option.some.inj ea
       have HFP := Aside0.mk hf9
       clear hl9 hf9
       go_wp2_with ((with_reducible refine gate_builtin (b := .append) (xs := #[.tmp 108, .tmp 112]) rfl ?_); at_builtin; refine Kd.N_append_rows k36 (w0 := w3) w3.heap.size rfl (.tmp 108) (.tmp 112) 24 36 (.agg #[.slice none 0 0, .int .i64 0, .bool false, .slice none 0 0]) 64 rfl Try.underlying24 info36 rfl (by decide) (by omega) (.slice Av acc.length cv) acc p _ _ _ (fun _ => True) (fun k => k < w3.heap.size) rfl rfl ?aO ?aR ?aH ?aF ?aB ?aS ?aL ?_; (case aO => exact HN6.out); (case aR => exact HFP.out); (case aH => exact fun k hk => ⟨trivial, fun he => by have h1 := Kd.N_base HN6.out k he.symm; omega⟩); (case aF => exact fun _ _ => trivial); (case aB => exact HB6.out); (case aS => exact HB6.out.size); (case aL => have h1 := HAP.out; omega); intro v7_ w7 hn_ hb_ hgr_ hat_; obtain ⟨A7, c7, e_⟩ := Kd.N_slice hn_; subst e_; have N7 := Aside0.mk (hn_); have B7 := Aside0.mk (hb_); clear hn_ hb_ hgr_ hat_)
       go_roundg k1
       case measure => exact Nat.lt_succ_self _
       case rel =>
        refine ⟨i + 1, acc ++ p, A7, c7, by first | rfl | (rw [List.length_append]), by first | rfl | rw [HWK.out], ⟨by have h := HK.out; omega⟩, ⟨?_⟩, N7, B7⟩
        rw [take_flat HPI.out, HA.out]
      ·
       have hi0 : (0 < i) = False := eq_false hi
       clear hi hq0 hqm
       go_upto_region 16 with (fail)
       refine s_ 42 [] (fun w' => w'.cell? (as_.add i) = some (.slice (some bd) p.length d)) (hS := (hrow)) (h := fun hHeld => ?_)
       have Bw6 := Aside0.mk (show Below wr.heap.size wr wr.drew from below_drew (Below.refl _ _))
       clear hrow
       generalize wr.drew = w6 at hHeld Bw6 ⊢
       refine p_ 0 66 (bb 42 1) (h := ?_)
       refine p_ 1 67 (bb 42 3) (h := ?_)
       refine p_ 2 68 (bb 42 7) (h := ?_)
       refine t_ 3 69 (bb 42 15) hHeld (h := ?_)
       refine p_ 4 70 (bb 42 31) (h := ?_)
       refine p_ 5 71 (bb 42 63) (h := ?_)
       refine p_ 6 72 (bb 42 127) (h := ?_)
       refine p_ 7 73 (bb 42 255) (h := ?_)
       refine o_ 8 74 (bb 42 511) (h := ?_)
       refine o_ 9 75 (bb 42 1023) (h := ?_)
       refine p_ 10 76 (bb 42 2047) (h := ?_)
       refine p_ 11 77 (bb 42 4095) (h := ?_)
       refine p_ 12 78 (bb 42 8191) (h := ?_)
       refine p_ 13 79 (bb 42 16383) (h := ?_)
       refine p_ 14 80 (bb 42 32767) (h := ?_)
       refine o_ 15 81 (bb 42 65535) (h := ?_)
       refine o_ 16 82 (bb 42 131071) (h := ?_)
       refine o_ 17 83 (bb 42 262143) (h := ?_)
       refine o_ 18 84 (bb 42 524287) (h := ?_)
       refine o_ 19 85 (bb 42 1048575) (h := ?_)
       refine o_ 20 86 (bb 42 2097151) (h := ?_)
       refine o_ 21 87 (bb 42 4194303) (h := ?_)
       refine o_ 22 88 (bb 42 8388607) (h := ?_)
       refine o_ 23 89 (bb 42 16777215) (h := ?_)
       refine o_ 24 90 (bb 42 33554431) (h := ?_)
       refine o_ 25 91 (bb 42 67108863) (h := ?_)
       refine o_ 26 92 (bb 42 134217727) (h := ?_)
       refine o_ 27 93 (bb 42 268435455) (h := ?_)
       refine o_ 28 94 (bb 42 536870911) (h := ?_)
       refine o_ 29 95 (bb 42 1073741823) (h := ?_)
       refine o_ 30 96 (bb 42 2147483647) (h := ?_)
       refine o_ 31 97 (bb 42 4294967295) (h := ?_)
       refine o_ 32 98 (bb 42 8589934591) (h := ?_)
       refine o_ 33 99 (bb 42 17179869183) (h := ?_)
       refine o_ 34 100 (bb 42 34359738367) (h := ?_)
       refine o_ 35 101 (bb 42 68719476735) (h := ?_)
       refine o_ 36 102 (bb 42 137438953471) (h := ?_)
       refine o_ 37 103 (bb 42 274877906943) (h := ?_)
       refine o_ 38 104 (bb 42 549755813887) (h := ?_)
       refine o_ 39 105 (bb 42 1099511627775) (h := ?_)
       refine p_ 40 106 (bb 42 2199023255551) (h := ?_)
       refine p_ 41 107 (bb 42 4398046511103) (h := ?_)
       refine d_ (h := ?_)
       clear hHeld
       have HB6 := Aside0.mk (below_step (below_step HBO.out HBI.out) Bw6.out)
       have HN6 := Aside0.mk (Kd.N_below (Kd.N_below HNO.out HBI.out) Bw6.out)
       obtain ⟨as9, B9, d9, ea, hrow9, hl9, hf9⟩ := rows_of_F (Kd.F_below SF.out HB6.out) i p HPI.out
       obtain rfl := Option.some.inj ea
       have HFP := Aside0.mk hf9
       clear hl9 hf9
       go_wp2_with ((with_reducible refine gate_builtin (b := .append) (xs := #[.tmp 108, .tmp 112]) rfl ?_); at_builtin; refine Kd.N_append_rows k36 (w0 := w3) w3.heap.size rfl (.tmp 108) (.tmp 112) 24 36 (.agg #[.slice none 0 0, .int .i64 0, .bool false, .slice none 0 0]) 64 rfl Try.underlying24 info36 rfl (by decide) (by omega) (.slice Av acc.length cv) acc p _ _ _ (fun _ => True) (fun k => k < w3.heap.size) rfl rfl ?aO ?aR ?aH ?aF ?aB ?aS ?aL ?_; (case aO => exact HN6.out); (case aR => exact HFP.out); (case aH => exact fun k hk => ⟨trivial, fun he => by have h1 := Kd.N_base HN6.out k he.symm; omega⟩); (case aF => exact fun _ _ => trivial); (case aB => exact HB6.out); (case aS => exact HB6.out.size); (case aL => have h1 := HAP.out; omega); intro v7_ w7 hn_ hb_ hgr_ hat_; obtain ⟨A7, c7, e_⟩ := Kd.N_slice hn_; subst e_; have N7 := Aside0.mk (hn_); have B7 := Aside0.mk (hb_); clear hn_ hb_ hgr_ hat_)
       go_roundg k1
       case measure => exact Nat.lt_succ_self _
       case rel =>
        refine ⟨i + 1, acc ++ p, A7, c7, by first | rfl | (rw [List.length_append]), by first | rfl | rw [HWK.out], ⟨by have h := HK.out; omega⟩, ⟨?_⟩, N7, B7⟩
        rw [take_flat HPI.out, HA.out]
     ·
      have hbig : (a < (p.length : Int)) = True := eq_true (by omega)
      have hb : b = true := HOK.out (HPX.out.2.resolve_left (by omega))
      subst hb
      clear hm
      by_cases hi : 0 < i
      ·
       have hi0 : (0 < i) = True := eq_true hi
       obtain ⟨j, hj⟩ : ∃ j, j + 1 = i := ⟨i - 1, by omega⟩
       obtain ⟨r, hr⟩ : ∃ r, S[j]? = some r := ⟨_, List.getElem?_eq_getElem (by have h := HIN.out; omega)⟩
       have hw1 : wrap64 ((i : Int) - 1) = (j : Int) := wsub1 hj (by have h1 := HIN.out; have h2 := HSL.out; omega)
       have hjl : ((j : Int) < (S.length : Int)) = True := eq_true (by have h := HIN.out; omega)
       have hrl := List.length_pos_iff.2 (HPC.out r (List.mem_of_getElem? hr)).1
       obtain ⟨m, hm⟩ : ∃ m, m + 1 = r.length := ⟨r.length - 1, by omega⟩
       obtain ⟨u, hu⟩ : ∃ u, r[m]? = some u := ⟨_, List.getElem?_eq_getElem (by omega)⟩
       have hmf := mem_flat hr
       rw [HFL.out] at hmf
       have hw2 : wrap64 ((r.length : Int) - 1) = (m : Int) := wsub1 hm (by have h2 := hmf.1; have h3 := HLS.out; omega)
       have hml : ((m : Int) < (r.length : Int)) = True := eq_true (by omega)
       have hlu : less u.f0 q.f0 = true := pair_LL HLL.out hr HPI.out (by omega) u (List.mem_of_getElem? hu) q HQM.out
       have hne : u.f0 ≠ q.f0 := fun h => by rw [h, less_irrefl] at hlu; cases hlu
       have hse := str_eq (HE.out u (hmf.2 u (List.mem_of_getElem? hu))).1 (HPE.out q HQM.out).1
       rw [decide_eq_false hne] at hse
       obtain ⟨as3, B', d', ea, hrow2, hlr2, hfr2⟩ := rows_of_F (Kd.F_below SF.out HBW.out) j r hr
       obtain rfl := Option.some.inj ea
       obtain ⟨cd, U0, u0, U3, u3, ea, hu0, _, _, _, _, hum, _, _⟩ := at_CE (Kd.F_now hfr2) m u hu
       subst ea
       clear hi hj hr hrl hm hu hmf hlu hne hlr2 hfr2
       go_upto_region 16 with (fail)
       refine s_ 42 [] (fun w' => w'.cell? (as_.add i) = some (.slice (some bd) p.length d) ∧ w'.cell? (as_.add j) = some (.slice (some cd) r.length d') ∧ w'.cell? (cd.add (m * 4)) = some (.slice U0 u.f0.length u0) ∧ w'.cell? bd = some (.slice P0 q.f0.length p0) ∧ Kd.C (Kd.int .u8) w' U0 u.f0.length u.f0 ∧ Kd.C (Kd.int .u8) w' P0 q.f0.length q.f0) (hS := ⟨hrow, hrow2, hu0, hq0, hum, hqm⟩) (h := fun hHeld => ?_)
       have Bw6 := Aside0.mk (show Below wr.heap.size wr wr.drew from below_drew (Below.refl _ _))
       clear hrow hrow2 hu0 hq0 hum hqm
       generalize wr.drew = w6 at hHeld Bw6 ⊢
       refine p_ 0 66 (bb 42 1) (h := ?_)
       refine p_ 1 67 (bb 42 3) (h := ?_)
       refine p_ 2 68 (bb 42 7) (h := ?_)
       refine t_ 3 69 (bb 42 15) hHeld (h := ?_)
       refine p_ 4 70 (bb 42 31) (h := ?_)
       refine p_ 5 71 (bb 42 63) (h := ?_)
       refine p_ 6 72 (bb 42 127) (h := ?_)
       refine p_ 7 73 (bb 42 255) (h := ?_)
       refine p_ 8 74 (bb 42 511) (h := ?_)
       refine p_ 9 75 (bb 42 1023) (h := ?_)
       refine p_ 10 76 (bb 42 2047) (h := ?_)
       refine p_ 11 77 (bb 42 4095) (h := ?_)
       refine p_ 12 78 (bb 42 8191) (h := ?_)
       refine p_ 13 79 (bb 42 16383) (h := ?_)
       refine p_ 14 80 (bb 42 32767) (h := ?_)
       refine p_ 15 81 (bb 42 65535) (h := ?_)
       refine p_ 16 82 (bb 42 131071) (h := ?_)
       refine p_ 17 83 (bb 42 262143) (h := ?_)
       refine p_ 18 84 (bb 42 524287) (h := ?_)
       refine t_ 19 85 (bb 42 1048575) hHeld (h := ?_)
       refine p_ 20 86 (bb 42 2097151) (h := ?_)
       refine p_ 21 87 (bb 42 4194303) (h := ?_)
       refine p_ 22 88 (bb 42 8388607) (h := ?_)
       refine p_ 23 89 (bb 42 16777215) (h := ?_)
       refine t_ 24 90 (bb 42 33554431) hHeld (h := ?_)
       refine p_ 25 91 (bb 42 67108863) (h := ?_)
       refine p_ 26 92 (bb 42 134217727) (h := ?_)
       refine p_ 27 93 (bb 42 268435455) (h := ?_)
       refine p_ 28 94 (bb 42 536870911) (h := ?_)
       refine t_ 29 95 (bb 42 1073741823) hHeld (h := ?_)
       refine t_ 30 96 (bb 42 2147483647) hHeld (hy := by (rintro w' ⟨s0, s1, s2, s3, s4, s5⟩; have hcv := Kd.C_string (P := Try.prog) (A := U0) (c := u0) Try.underlying34 Try.underlying5 Try.underlying9 s4; go_simp; with_reducible rfl)) (h := ?_)
       refine p_ 31 97 (bb 42 4294967295) (h := ?_)
       refine p_ 32 98 (bb 42 8589934591) (h := ?_)
       refine p_ 33 99 (bb 42 17179869183) (h := ?_)
       refine t_ 34 100 (bb 42 34359738367) hHeld (h := ?_)
       refine p_ 35 101 (bb 42 68719476735) (h := ?_)
       refine p_ 36 102 (bb 42 137438953471) (h := ?_)
       refine t_ 37 103 (bb 42 274877906943) hHeld (h := ?_)
       refine t_ 38 104 (bb 42 549755813887) hHeld (hy := by (rintro w' ⟨s0, s1, s2, s3, s4, s5⟩; have hcv := Kd.C_string (P := Try.prog) (A := P0) (c := p0) Try.underlying34 Try.underlying5 Try.underlying9 s5; go_simp; with_reducible rfl)) (h := ?_)
       refine p_ 39 105 (bb 42 1099511627775) (h := ?_)
       refine p_ 40 106 (bb 42 2199023255551) (h := ?_)
       refine p_ 41 107 (bb 42 4398046511103) (h := ?_)
       refine d_ (h := ?_)
       clear hHeld
       have HB6 := Aside0.mk (below_step (below_step HBO.out HBI.out) Bw6.out)
       have HN6 := Aside0.mk (Kd.N_below (Kd.N_below HNO.out HBI.out) Bw6.out)
       obtain ⟨as9, B9, d9, ea, hrow9, hl9, hf9⟩ := rows_of_F (Kd.F_below SF.out HB6.out) i p HPI.out
       obtain rfl := Option.some.inj ea
       have HFP := Aside0.mk hf9
       clear hl9 hf9
       go_wp2_with ((with_reducible refine gate_builtin (b := .append) (xs := #[.tmp 108, .tmp 112]) rfl ?_); at_builtin; refine Kd.N_append_rows k36 (w0 := w3) w3.heap.size rfl (.tmp 108) (.tmp 112) 24 36 (.agg #[.slice none 0 0, .int .i64 0, .bool false, .slice none 0 0]) 64 rfl Try.underlying24 info36 rfl (by decide) (by omega) (.slice Av acc.length cv) acc p _ _ _ (fun _ => True) (fun k => k < w3.heap.size) rfl rfl ?aO ?aR ?aH ?aF ?aB ?aS ?aL ?_; (case aO => exact HN6.out); (case aR => exact HFP.out); (case aH => exact fun k hk => ⟨trivial, fun he => by have h1 := Kd.N_base HN6.out k he.symm; omega⟩); (case aF => exact fun _ _ => trivial); (case aB => exact HB6.out); (case aS => exact HB6.out.size); (case aL => have h1 := HAP.out; omega); intro v7_ w7 hn_ hb_ hgr_ hat_; obtain ⟨A7, c7, e_⟩ := Kd.N_slice hn_; subst e_; have N7 := Aside0.mk (hn_); have B7 := Aside0.mk (hb_); clear hn_ hb_ hgr_ hat_)
       go_roundg k1
       case measure => exact Nat.lt_succ_self _
       case rel =>
        refine ⟨i + 1, acc ++ p, A7, c7, by first | rfl | (rw [List.length_append]), by first | rfl | rw [HWK.out], ⟨by have h := HK.out; omega⟩, ⟨?_⟩, N7, B7⟩
        rw [take_flat HPI.out, HA.out]
      ·
       have hi0 : (0 < i) = False := eq_false hi
       clear hi hq0 hqm
       go_upto_region 16 with (fail)
       refine s_ 42 [] (fun w' => w'.cell? (as_.add i) = some (.slice (some bd) p.length d)) (hS := (hrow)) (h := fun hHeld => ?_)
       have Bw6 := Aside0.mk (show Below wr.heap.size wr wr.drew from below_drew (Below.refl _ _))
       clear hrow
       generalize wr.drew = w6 at hHeld Bw6 ⊢
       refine p_ 0 66 (bb 42 1) (h := ?_)
       refine p_ 1 67 (bb 42 3) (h := ?_)
       refine p_ 2 68 (bb 42 7) (h := ?_)
       refine t_ 3 69 (bb 42 15) hHeld (h := ?_)
       refine p_ 4 70 (bb 42 31) (h := ?_)
       refine p_ 5 71 (bb 42 63) (h := ?_)
       refine p_ 6 72 (bb 42 127) (h := ?_)
       refine p_ 7 73 (bb 42 255) (h := ?_)
       refine p_ 8 74 (bb 42 511) (h := ?_)
       refine p_ 9 75 (bb 42 1023) (h := ?_)
       refine p_ 10 76 (bb 42 2047) (h := ?_)
       refine p_ 11 77 (bb 42 4095) (h := ?_)
       refine p_ 12 78 (bb 42 8191) (h := ?_)
       refine p_ 13 79 (bb 42 16383) (h := ?_)
       refine p_ 14 80 (bb 42 32767) (h := ?_)
       refine o_ 15 81 (bb 42 65535) (h := ?_)
       refine o_ 16 82 (bb 42 131071) (h := ?_)
       refine o_ 17 83 (bb 42 262143) (h := ?_)
       refine o_ 18 84 (bb 42 524287) (h := ?_)
       refine o_ 19 85 (bb 42 1048575) (h := ?_)
       refine o_ 20 86 (bb 42 2097151) (h := ?_)
       refine o_ 21 87 (bb 42 4194303) (h := ?_)
       refine o_ 22 88 (bb 42 8388607) (h := ?_)
       refine o_ 23 89 (bb 42 16777215) (h := ?_)
       refine o_ 24 90 (bb 42 33554431) (h := ?_)
       refine o_ 25 91 (bb 42 67108863) (h := ?_)
       refine o_ 26 92 (bb 42 134217727) (h := ?_)
       refine o_ 27 93 (bb 42 268435455) (h := ?_)
       refine o_ 28 94 (bb 42 536870911) (h := ?_)
       refine o_ 29 95 (bb 42 1073741823) (h := ?_)
       refine o_ 30 96 (bb 42 2147483647) (h := ?_)
       refine o_ 31 97 (bb 42 4294967295) (h := ?_)
       refine o_ 32 98 (bb 42 8589934591) (h := ?_)
       refine o_ 33 99 (bb 42 17179869183) (h := ?_)
       refine o_ 34 100 (bb 42 34359738367) (h := ?_)
       refine o_ 35 101 (bb 42 68719476735) (h := ?_)
       refine o_ 36 102 (bb 42 137438953471) (h := ?_)
       refine o_ 37 103 (bb 42 274877906943) (h := ?_)
       refine o_ 38 104 (bb 42 549755813887) (h := ?_)
       refine o_ 39 105 (bb 42 1099511627775) (h := ?_)
       refine p_ 40 106 (bb 42 2199023255551) (h := ?_)
       refine p_ 41 107 (bb 42 4398046511103) (h := ?_)
       refine d_ (h := ?_)
       clear hHeld
       have HB6 := Aside0.mk (below_step (below_step HBO.out HBI.out) Bw6.out)
       have HN6 := Aside0.mk (Kd.N_below (Kd.N_below HNO.out HBI.out) Bw6.out)
       obtain ⟨as9, B9, d9, ea, hrow9, hl9, hf9⟩ := rows_of_F (Kd.F_below SF.out HB6.out) i p HPI.out
       obtain rfl := Option.some.inj ea
       have HFP := Aside0.mk hf9
       clear hl9 hf9
       go_wp2_with ((with_reducible refine gate_builtin (b := .append) (xs := #[.tmp 108, .tmp 112]) rfl ?_); at_builtin; refine Kd.N_append_rows k36 (w0 := w3) w3.heap.size rfl (.tmp 108) (.tmp 112) 24 36 (.agg #[.slice none 0 0, .int .i64 0, .bool false, .slice none 0 0]) 64 rfl Try.underlying24 info36 rfl (by decide) (by omega) (.slice Av acc.length cv) acc p _ _ _ (fun _ => True) (fun k => k < w3.heap.size) rfl rfl ?aO ?aR ?aH ?aF ?aB ?aS ?aL ?_; (case aO => exact HN6.out); (case aR => exact HFP.out); (case aH => exact fun k hk => ⟨trivial, fun he => by have h1 := Kd.N_base HN6.out k he.symm; omega⟩); (case aF => exact fun _ _ => trivial); (case aB => exact HB6.out); (case aS => exact HB6.out.size); (case aL => have h1 := HAP.out; omega); intro v7_ w7 hn_ hb_ hgr_ hat_; obtain ⟨A7, c7, e_⟩ := Kd.N_slice hn_; subst e_; have N7 := Aside0.mk (hn_); have B7 := Aside0.mk (hb_); clear hn_ hb_ hgr_ hat_)
       go_roundg k1
       case measure => exact Nat.lt_succ_self _
       case rel =>
        refine ⟨i + 1, acc ++ p, A7, c7, by first | rfl | (rw [List.length_append]), by first | rfl | rw [HWK.out], ⟨by have h := HK.out; omega⟩, ⟨?_⟩, N7, B7⟩
        rw [take_flat HPI.out, HA.out]
    | succ k2 =>
     as_aux_lemma =>
     have hkl : k < p.length := by have h := Hk36.out; omega
     have hlt2 : ((k : Int) < (p.length : Int)) = True := eq_true (by omega)
     have HWI := Aside0.mk (wadd1 (x := k) (z := k + 1) rfl (by have h := HPN.out; omega))
     obtain ⟨z, hz⟩ : ∃ z, p[k]? = some z := ⟨_, List.getElem?_eq_getElem hkl⟩
     cases b with
     | false =>
      clear hq0 hqm hz
      go_upto_region 15 with (fail)
      refine s_ 22 [] (fun w' => True) (hS := (trivial)) (h := fun hHeld => ?_)
      have Bw5 := Aside0.mk (show Below wr.heap.size wr wr.drew from below_drew (Below.refl _ _))
      clear hrow
      generalize wr.drew = w5 at hHeld Bw5 ⊢
      refine p_ 0 45 (bb 22 1) (h := ?_)
      refine p_ 1 46 (bb 22 3) (h := ?_)
      refine o_ 2 47 (bb 22 7) (h := ?_)
      refine o_ 3 48 (bb 22 15) (h := ?_)
      refine o_ 4 49 (bb 22 31) (h := ?_)
      refine o_ 5 50 (bb 22 63) (h := ?_)
      refine o_ 6 51 (bb 22 127) (h := ?_)
      refine o_ 7 52 (bb 22 255) (h := ?_)
      refine o_ 8 53 (bb 22 511) (h := ?_)
      refine o_ 9 54 (bb 22 1023) (h := ?_)
      refine o_ 10 55 (bb 22 2047) (h := ?_)
      refine o_ 11 56 (bb 22 4095) (h := ?_)
      refine o_ 12 57 (bb 22 8191) (h := ?_)
      refine o_ 13 58 (bb 22 16383) (h := ?_)
      refine o_ 14 59 (bb 22 32767) (h := ?_)
      refine o_ 15 60 (bb 22 65535) (h := ?_)
      refine o_ 16 61 (bb 22 131071) (h := ?_)
      refine o_ 17 62 (bb 22 262143) (h := ?_)
      refine o_ 18 63 (bb 22 524287) (h := ?_)
      refine o_ 19 64 (bb 22 1048575) (h := ?_)
      refine p_ 20 65 (bb 22 2097151) (h := ?_)
      refine p_ 21 9 (bb 22 4194303) (h := ?_)
      refine d_ (h := ?_)
      clear hHeld
      go_wp2
      go_roundg k2
      case measure => exact Nat.lt_succ_self _
      case rel => exact ⟨false, k + 1, rfl, by first | rfl | rw [HWI.out], ⟨by have h := Hk36.out; omega⟩, HOK, ⟨below_step HBI.out Bw5.out⟩⟩
     | true =>
      have HZM := Aside0.mk (List.mem_of_getElem? hz)
      obtain ⟨bd2, M0, m0, M3, m3, ea, hz0, _, _, _, _, hzm, _, _⟩ := at_CE HFR.out k z hz
      obtain rfl := Option.some.inj ea
      have hse := str_eq (HPE.out z HZM.out).1 (HPE.out q HQM.out).1
      clear hz hkl
      obtain ⟨b2, hb2⟩ : ∃ b2, b2 = decide (z.f0 = q.f0) := ⟨_, rfl⟩
      rw [← hb2] at hse
      have HB2 := Aside0.mk hb2
      clear hb2
      go_upto_region 15 with (fail)
      refine s_ 22 [] (fun w' => w'.cell? (as_.add i) = some (.slice (some bd) p.length d) ∧ w'.cell? (bd.add (k * 4)) = some (.slice M0 z.f0.length m0) ∧ w'.cell? bd = some (.slice P0 q.f0.length p0) ∧ Kd.C (Kd.int .u8) w' M0 z.f0.length z.f0 ∧ Kd.C (Kd.int .u8) w' P0 q.f0.length q.f0) (hS := ⟨hrow, hz0, hq0, hzm, hqm⟩) (h := fun hHeld => ?_)
      have Bw5 := Aside0.mk (show Below wr.heap.size wr wr.drew from below_drew (Below.refl _ _))
      clear hrow hz0 hq0 hzm hqm
      generalize wr.drew = w5 at hHeld Bw5 ⊢
      refine p_ 0 45 (bb 22 1) (h := ?_)
      refine p_ 1 46 (bb 22 3) (h := ?_)
      refine p_ 2 47 (bb 22 7) (h := ?_)
      refine p_ 3 48 (bb 22 15) (h := ?_)
      refine p_ 4 49 (bb 22 31) (h := ?_)
      refine t_ 5 50 (bb 22 63) hHeld (h := ?_)
      refine p_ 6 51 (bb 22 127) (h := ?_)
      refine p_ 7 52 (bb 22 255) (h := ?_)
      refine p_ 8 53 (bb 22 511) (h := ?_)
      refine t_ 9 54 (bb 22 1023) hHeld (h := ?_)
      refine t_ 10 55 (bb 22 2047) hHeld (hy := by (rintro w' ⟨s0, s1, s2, s3, s4⟩; have hcv := Kd.C_string (P := Try.prog) (A := M0) (c := m0) Try.underlying34 Try.underlying5 Try.underlying9 s3; go_simp; with_reducible rfl)) (h := ?_)
      refine p_ 11 56 (bb 22 4095) (h := ?_)
      refine p_ 12 57 (bb 22 8191) (h := ?_)
      refine p_ 13 58 (bb 22 16383) (h := ?_)
      refine t_ 14 59 (bb 22 32767) hHeld (h := ?_)
      refine p_ 15 60 (bb 22 65535) (h := ?_)
      refine p_ 16 61 (bb 22 131071) (h := ?_)
      refine t_ 17 62 (bb 22 262143) hHeld (h := ?_)
      refine t_ 18 63 (bb 22 524287) hHeld (hy := by (rintro w' ⟨s0, s1, s2, s3, s4⟩; have hcv := Kd.C_string (P := Try.prog) (A := P0) (c := p0) Try.underlying34 Try.underlying5 Try.underlying9 s4; go_simp; with_reducible rfl)) (h := ?_)
      refine p_ 19 64 (bb 22 1048575) (h := ?_)
      refine p_ 20 65 (bb 22 2097151) (h := ?_)
      refine p_ 21 9 (bb 22 4194303) (h := ?_)
      refine d_ (h := ?_)
      clear hHeld
      go_wp2
      go_roundg k2
      case measure => exact Nat.lt_succ_self _
      case rel => exact ⟨b2, k + 1, rfl, by first | rfl | rw [HWI.out], ⟨by have h := Hk36.out; omega⟩, ⟨fun h => by rw [HB2.out]; exact decide_eq_true (one_key h HZM.out HQM.out)⟩, ⟨below_step HBI.out Bw5.out⟩⟩
end Go.Proofs.Ytobjkjmmkbhecaa.Sk
