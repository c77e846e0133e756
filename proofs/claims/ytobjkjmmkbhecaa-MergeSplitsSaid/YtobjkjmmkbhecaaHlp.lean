/- The law MergeParts as a contract of its function. Conditions: those of each theorem. -/
import Derived.Test.YtobjkjmmkbhecaaCore
import Derived.Test.YtobjkjmmkbhecaaHaw
import Derived.Test.YtobjkjmmkbhecaaHgp
import Derived.Test.YtobjkjmmkbhecaaHla
import Derived.Test.YtobjkjmmkbhecaaHmo
import Derived.Test.YtobjkjmmkbhecaaHmr
import Derived.Test.YtobjkjmmkbhecaaHod
import Derived.Test.YtobjkjmmkbhecaaHpl
import Derived.Test.YtobjkjmmkbhecaaHrw
import Derived.Test.YtobjkjmmkbhecaaHso
import Derived.Test.YtobjkjmmkbhecaaHsp
import Derived.Test.YtobjkjmmkbhecaaHvi
import Derived.Test.YtobjkjmmkbhecaaME
import Derived.Test.YtobjkjmmkbhecaaPx0
import Derived.Test.YtobjkjmmkbhecaaHps
namespace Go.Proofs.Ytobjkjmmkbhecaa.Sk
open Go.RowKit Go.Proofs.YtobjkjmmkbhecaaW.PrintWords Go.Proofs.YtobjkjmmkbhecaaW.PrintLast Go.Proofs.YtobjkjmmkbhecaaW.PrintMore Go.Proofs.Ytobjkjmmkbhecaa.Px Go.Proofs.Ytobjkjmmkbhecaa.Sw
set_option linter.unusedVariables false
set_option linter.unusedSimpArgs false

theorem split_len (most : Int) (l : List S36) : (splitE (fun e : S36 => e.f0) most l).length ≤ l.length := by
 unfold splitE
 have h := fold_len most (groupsK (fun e : S36 => e.f0) l) (groupsK (fun e : S36 => e.f0) l).length
 rw [List.take_length] at h
 exact Nat.le_trans h (groupsK_len l.length l (Nat.le_refl _))
theorem flatten_rev_len {α : Type} : ∀ S : List (List α), S.reverse.flatten.length = S.flatten.length
 | [] => rfl
 | x :: S => by
  rw [List.reverse_cons, List.flatten_append, List.length_append, flatten_rev_len S]
  simp
  omega
set_option maxHeartbeats 40000000 in
set_option maxRecDepth 100000 in
theorem parts_calls {w : World} {A : Option Addr} {c : Nat} {xs : List S36} (hC : Kd.C k36 w A xs.length xs) (hlc : xs.length ≤ c) (hE : ∀ e ∈ xs, EB e) (hln : xs.length ≤ 4000000000000) (a : Int) :
  Calls Try.prog 9 #[.slice A xs.length c, .int .i64 a] w fun ex w' => ex = .returned (.bool true) ∧ Below w.heap.size w w' := by
 have HC := Aside0.mk hC
 have HLC := Aside0.mk hlc
 have HE := Aside0.mk hE
 have HLN := Aside0.mk hln
 obtain ⟨ob, hob⟩ : ∃ ob, ob = rowOk none xs := ⟨_, rfl⟩
 have HOB := Aside0.mk hob
 clear hC hlc hE hln hob
 cases ob with
 | false =>
  as_aux_lemma =>
  go_enter Try.func9, Try.ntmps9
  go_wp2_with (first
   | ((with_reducible refine gate_dst (N := 9) rfl ?_); (try (refine gate_guard (by rfl) ?_; dsimp only)); refine goesL_ (some 9) rfl rfl Try.func11 (by kernel_rfl) rfl #[] rfl (by (try simp only [List.map_toArray, List.map_cons, List.map_nil]); first | done | rfl) ?_; refine (awake_calls w).mono ?_; rintro ex w1 ⟨rfl, hb1⟩; refine ⟨_, rfl, ?_⟩; have n_ := Aside0.mk hb1; clear hb1; have hb1 := n_; clear n_)
   | ((with_reducible refine gate_dst (N := 11) rfl ?_); (try (refine gate_guard (by rfl) ?_; dsimp only)); refine goesL_ (some 11) rfl rfl Try.func21 (by kernel_rfl) rfl #[.slice A xs.length c] rfl (by (try simp only [List.map_toArray, List.map_cons, List.map_nil]); first | done | rfl) ?_; refine (ordered_calls (Kd.C_below HC.out hb1.out) HLC.out (fun e he => (HE.out e he).1) HLN.out).mono ?_; rintro ex w2 ⟨rfl, hb2⟩; refine ⟨_, rfl, ?_⟩; rw [← HOB.out]; have n_ := Aside0.mk hb2; clear hb2; have hb2 := n_; clear n_))
  go_ret
  exact ⟨rfl, below_step hb1.out hb2.out⟩
 | true =>
 by_cases hl : xs.length ≤ 200
 case neg =>
  as_aux_lemma =>
  have hd : ((200 : Int) < (xs.length : Int)) = True := eq_true (by omega)
  go_enter Try.func9, Try.ntmps9
  go_wp2_with (first
   | ((with_reducible refine gate_dst (N := 9) rfl ?_); (try (refine gate_guard (by rfl) ?_; dsimp only)); refine goesL_ (some 9) rfl rfl Try.func11 (by kernel_rfl) rfl #[] rfl (by (try simp only [List.map_toArray, List.map_cons, List.map_nil]); first | done | rfl) ?_; refine (awake_calls w).mono ?_; rintro ex w1 ⟨rfl, hb1⟩; refine ⟨_, rfl, ?_⟩; have n_ := Aside0.mk hb1; clear hb1; have hb1 := n_; clear n_)
   | ((with_reducible refine gate_dst (N := 11) rfl ?_); (try (refine gate_guard (by rfl) ?_; dsimp only)); refine goesL_ (some 11) rfl rfl Try.func21 (by kernel_rfl) rfl #[.slice A xs.length c] rfl (by (try simp only [List.map_toArray, List.map_cons, List.map_nil]); first | done | rfl) ?_; refine (ordered_calls (Kd.C_below HC.out hb1.out) HLC.out (fun e he => (HE.out e he).1) HLN.out).mono ?_; rintro ex w2 ⟨rfl, hb2⟩; refine ⟨_, rfl, ?_⟩; rw [← HOB.out]; have n_ := Aside0.mk hb2; clear hb2; have hb2 := n_; clear n_))
  go_ret
  exact ⟨rfl, below_step hb1.out hb2.out⟩
 as_aux_lemma =>
 have hd : ((200 : Int) < (xs.length : Int)) = False := eq_false (by omega)
 have hro := rowOk_str (fun e he => HE.out e he) (fun q hq => by cases hq) HOB.out.symm
 have HGD := Aside0.mk (show goodL xs = true from good_of HE.out hro.2.1 (by omega))
 have HL9 := Aside0.mk (show xs.length ≤ 1000000000 by omega)
 obtain ⟨S, hS⟩ : ∃ S, S = splitE (fun e : S36 => e.f0) a xs := ⟨_, rfl⟩
 have hflat : S.flatten = xs := by rw [hS]; exact splitE_flat a xs
 have HSL := Aside0.mk (show S.length ≤ 200 by have := split_len a xs; rw [← hS] at this; omega)
 have HGS := Aside0.mk (show goodL S.flatten = true by rw [hflat]; exact HGD.out)
 have hmem : ∀ e, e ∈ S.reverse.flatten ↔ e ∈ xs := by intro e; rw [← hflat]; simp [List.mem_flatten]
 have hlen : S.reverse.flatten.length = xs.length := by rw [← hflat]; exact flatten_rev_len S
 have HGR := Aside0.mk (show goodL S.reverse.flatten = true from goodL_sub HGD.out (fun e he => (hmem e).1 he) (by omega))
 have HE1 := Aside0.mk (show putAll cmpE S.flatten = xs by rw [hflat]; exact putAll_self cmpE_ord hro.1 HE.out)
 have HE2 := Aside0.mk (show putAll cmpE S.reverse.flatten = xs from putAll_mem HE.out hro.1 hmem)
 have HGE := Aside0.mk (show ∀ e ∈ xs, GE e from fun e he => ⟨(HE.out e he).1, (HE.out e he).2.1⟩)
 have HS := Aside0.mk hS
 clear hS hflat hmem hlen hro hl
 have hws : wrap64 ((S.length : Int) - 1) = (S.length : Int) - 1 := wrap_in (by omega) (by have h := HSL.out; omega)
 go_enter Try.func9, Try.ntmps9
 go_wp2_with (first
  | ((with_reducible refine gate_dst (N := 9) rfl ?_); (try (refine gate_guard (by rfl) ?_; dsimp only)); refine goesL_ (some 9) rfl rfl Try.func11 (by kernel_rfl) rfl #[] rfl (by (try simp only [List.map_toArray, List.map_cons, List.map_nil]); first | done | rfl) ?_; refine (awake_calls w).mono ?_; rintro ex w1 ⟨rfl, hb1⟩; refine ⟨_, rfl, ?_⟩; have n_ := Aside0.mk hb1; clear hb1; have hb1 := n_; clear n_)
  | ((with_reducible refine gate_dst (N := 11) rfl ?_); (try (refine gate_guard (by rfl) ?_; dsimp only)); refine goesL_ (some 11) rfl rfl Try.func21 (by kernel_rfl) rfl #[.slice A xs.length c] rfl (by (try simp only [List.map_toArray, List.map_cons, List.map_nil]); first | done | rfl) ?_; refine (ordered_calls (Kd.C_below HC.out hb1.out) HLC.out (fun e he => (HE.out e he).1) HLN.out).mono ?_; rintro ex w2 ⟨rfl, hb2⟩; refine ⟨_, rfl, ?_⟩; rw [← HOB.out]; have n_ := Aside0.mk hb2; clear hb2; have hb2 := n_; clear n_)
  | ((with_reducible refine gate_dst (N := 21) rfl ?_); (try (refine gate_guard (by rfl) ?_; dsimp only)); refine goesL_ (some 21) rfl rfl Try.func19 (by kernel_rfl) rfl #[.slice A xs.length c, .int .i64 a] rfl (by (try simp only [List.map_toArray, List.map_cons, List.map_nil]); first | done | rfl) ?_; refine (split_calls (Kd.C_F k36_heap (Kd.C_below (Kd.C_below HC.out hb1.out) hb2.out)) HLC.out HL9.out (goodL_iff.1 HGD.out).1 a).mono ?_; rintro ex w3 ⟨v_, rfl, hn_, hb_⟩; refine ⟨_, rfl, ?_⟩; rw [← HS.out] at hn_; obtain ⟨As, cs, e_⟩ := Kd.N_slice hn_; subst e_; have NS := Aside0.mk (hn_); have Bw3 := Aside0.mk (hb_); clear hn_ hb_))
 go_loopg [7, 8] S.length (fun kq v7 v8 w' => ∃ (z : Int) (out : List (List S36)) (Av : Option Addr) (cv : Nat), v7 = .slice Av out.length cv ∧ v8 = .int .i64 z ∧ Aside0 (z = (kq : Int) - 1) ∧ Aside0 (kq ≤ S.length) ∧ Aside0 (out = (S.drop kq).reverse) ∧ Aside0 (Kd.N (Kd.slice 36 k36) 24 w' w3.heap.size (fun _ => True) (.slice Av out.length cv) out) ∧ Aside0 (Below w3.heap.size w3 w'))
 case atStart => exact ⟨(S.length : Int) - 1, [], none, 0, rfl, by first | rfl | rw [hws], ⟨rfl⟩, ⟨Nat.le_refl _⟩, ⟨by rw [List.drop_length]; rfl⟩, ⟨Kd.N_nil _ _ _ _ _⟩, ⟨Below.refl _ _⟩⟩
 case round =>
  clear hws
  obtain ⟨z, out, Av, cv, rfl, rfl, HZ, HK, HO, HN, HB⟩ := hrel
  cases gk with
  | zero =>
   as_aux_lemma =>
   have hz : z = -1 := by have h := HZ.out; omega
   have ho : out = S.reverse := by rw [HO.out, List.drop_zero]
   subst hz
   have HGR2 := Aside0.mk (show goodL out.flatten = true by rw [ho]; exact HGR.out)
   have HE3 := Aside0.mk (show putAll cmpE out.flatten = xs by rw [ho]; exact HE2.out)
   have HOL := Aside0.mk (show out.length ≤ S.length by rw [ho]; simp)
   clear HZ HO ho
   go_wp2_with (first
    | ((with_reducible refine gate_dst (N := 39) rfl ?_); (try (refine gate_guard (by rfl) ?_; dsimp only)); refine goesL_ (some 39) rfl rfl Try.func13 (by kernel_rfl) rfl #[.slice As S.length cs] rfl (by (try simp only [List.map_toArray, List.map_cons, List.map_nil]); first | done | rfl) ?_; refine (merge_calls (c := cs) (xss := S) (rows_of_F (Kd.F_below (Kd.N_F NS.out) HB.out)) (goodL_iff.1 HGS.out).2 (by have h := HSL.out; omega) (fun e he => ((goodL_iff.1 HGS.out).1 e he).2) (fun e he => ((goodL_iff.1 HGS.out).1 e he).1)).mono ?_; rintro ex w5 ⟨v_, rfl, hn_, hb_⟩; refine ⟨_, rfl, ?_⟩; rw [HE1.out] at hn_; obtain ⟨A39, c39, e_⟩ := Kd.N_slice hn_; subst e_; have C39 := Aside0.mk ((Kd.N_reads' hn_).2.2); have L39 := Aside0.mk ((Kd.N_reads' hn_).2.1); have Bw5 := Aside0.mk (hb_); clear hn_ hb_)
    | ((with_reducible refine gate_dst (N := 41) rfl ?_); (try (refine gate_guard (by rfl) ?_; dsimp only)); refine goesL_ (some 41) rfl rfl Try.func12 (by kernel_rfl) rfl #[.slice A39 xs.length c39, .slice A xs.length c] rfl (by (try simp only [List.map_toArray, List.map_cons, List.map_nil]); first | done | rfl) ?_; refine (same_calls C39.out L39.out (Kd.C_below (Kd.C_below (Kd.C_below (Kd.C_below (Kd.C_below HC.out hb1.out) hb2.out) Bw3.out) HB.out) Bw5.out) HLC.out HGE.out (by have h := HL9.out; omega)).mono ?_; rintro ex w6 ⟨rfl, hb_⟩; refine ⟨_, rfl, ?_⟩; have Bw6 := Aside0.mk (hb_); clear hb_)
    | ((with_reducible refine gate_dst (N := 45) rfl ?_); (try (refine gate_guard (by rfl) ?_; dsimp only)); refine goesL_ (some 45) rfl rfl Try.func13 (by kernel_rfl) rfl #[.slice Av out.length cv] rfl (by (try simp only [List.map_toArray, List.map_cons, List.map_nil]); first | done | rfl) ?_; refine (merge_calls (c := cv) (xss := out) (rows_of_F (Kd.F_below (Kd.F_below (Kd.N_F HN.out) Bw5.out) Bw6.out)) (goodL_iff.1 HGR2.out).2 (by have h := HSL.out; have h2 := HOL.out; omega) (fun e he => ((goodL_iff.1 HGR2.out).1 e he).2) (fun e he => ((goodL_iff.1 HGR2.out).1 e he).1)).mono ?_; rintro ex w7 ⟨v_, rfl, hn_, hb_⟩; refine ⟨_, rfl, ?_⟩; rw [HE3.out] at hn_; obtain ⟨A45, c45, e_⟩ := Kd.N_slice hn_; subst e_; have C45 := Aside0.mk ((Kd.N_reads' hn_).2.2); have L45 := Aside0.mk ((Kd.N_reads' hn_).2.1); have Bw7 := Aside0.mk (hb_); clear hn_ hb_)
    | ((with_reducible refine gate_dst (N := 47) rfl ?_); (try (refine gate_guard (by rfl) ?_; dsimp only)); refine goesL_ (some 47) rfl rfl Try.func12 (by kernel_rfl) rfl #[.slice A45 xs.length c45, .slice A xs.length c] rfl (by (try simp only [List.map_toArray, List.map_cons, List.map_nil]); first | done | rfl) ?_; refine (same_calls C45.out L45.out (Kd.C_below (Kd.C_below (Kd.C_below (Kd.C_below (Kd.C_below (Kd.C_below (Kd.C_below HC.out hb1.out) hb2.out) Bw3.out) HB.out) Bw5.out) Bw6.out) Bw7.out) HLC.out HGE.out (by have h := HL9.out; omega)).mono ?_; rintro ex w8 ⟨rfl, hb_⟩; refine ⟨_, rfl, ?_⟩; have Bw8 := Aside0.mk (hb_); clear hb_))
   go_ret
   exact ⟨rfl, below_step (below_step (below_step (below_step (below_step (below_step (below_step hb1.out hb2.out) Bw3.out) HB.out) Bw5.out) Bw6.out) Bw7.out) Bw8.out⟩
  | succ k1 =>
   as_aux_lemma =>
   have hz : z = (k1 : Int) := by have h := HZ.out; omega
   subst hz
   have hkl : k1 < S.length := by have h := HK.out; omega
   have hlt : ((k1 : Int) < (S.length : Int)) = True := eq_true (by omega)
   obtain ⟨x, hx⟩ : ∃ x, S[k1]? = some x := ⟨_, List.getElem?_eq_getElem hkl⟩
   obtain ⟨as_, B, d, ea, hcx, hlx, hfx⟩ := rows_of_F (Kd.F_below (Kd.F_bound (Kd.N_F NS.out)) HB.out) k1 x hx
   subst ea
   have HXI := Aside0.mk hx
   have HLX := Aside0.mk hlx
   have HFX := Aside0.mk (Kd.F_mono hfx (fun k hk => (hk.2 : k < w3.heap.size)))
   have HOL := Aside0.mk (show out.length ≤ S.length by rw [HO.out]; simp)
   have HWK := Aside0.mk (show wrap64 ((k1 : Int) - 1) = (k1 : Int) - 1 from wrap_in (by omega) (by have h := HSL.out; omega))
   clear hx hlx hfx hkl
   go_wp2_with ((with_reducible refine gate_builtin (b := .append) (xs := #[.tmp 29, .tmp 34]) rfl ?_); at_builtin; refine Kd.N_append (Kd.slice 36 k36) (w0 := w3) w3.heap.size rfl (.tmp 29) (.tmp 34) 22 24 (.slice none 0 0) 24 rfl Try.underlying22 (show (Try.prog.info? 24).map (fun i => (i.zero, i.size, i.bytes)) = some (some (.slice none 0 0), 1, 24) by kernel_rfl) rfl (by decide) (by omega) (.slice Av out.length cv) out x [.slice B x.length d] (fun _ => True) (fun k => k < w3.heap.size) rfl rfl ?aP ?aH ?aF ?aO ?aB ?aS ?aL ?_; (case aP => exact Kd.FK_slice_mk HLX.out HFX.out); (case aH => exact fun k hk => ⟨trivial, fun he => by have h1 := Kd.N_base HN.out k he.symm; omega⟩); (case aF => exact fun _ _ => trivial); (case aO => exact HN.out); (case aB => exact HB.out); (case aS => exact HB.out.size); (case aL => have h1 := HOL.out; have h2 := HSL.out; omega); intro v4 w4 hn_ hb_ hgr_ hat_; obtain ⟨A4, c4, e_⟩ := Kd.N_slice hn_; subst e_; have N4 := Aside0.mk (hn_); have B4 := Aside0.mk (hb_); clear hn_ hb_ hgr_ hat_)
   go_roundg k1
   case measure => exact Nat.lt_succ_self _
   case rel =>
    refine ⟨(k1 : Int) - 1, out ++ [x], A4, c4, by first | rfl | (rw [List.length_append]; rfl), by first | rfl | rw [HWK.out], ⟨rfl⟩, ⟨by have h := HK.out; omega⟩, ⟨?_⟩, N4, B4⟩
    obtain ⟨h1, h2⟩ := List.getElem?_eq_some_iff.1 HXI.out
    rw [HO.out, List.drop_eq_getElem_cons h1, List.reverse_cons, h2]
end Go.Proofs.Ytobjkjmmkbhecaa.Sk
