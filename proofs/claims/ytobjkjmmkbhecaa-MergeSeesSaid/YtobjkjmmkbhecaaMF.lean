/- Several texts of ours laid together: Hix Hcl. Conditions: those of each theorem. -/
import Derived.Test.YtobjkjmmkbhecaaCore
import Derived.Test.YtobjkjmmkbhecaaME
import Derived.Test.YtobjkjmmkbhecaaPx0
import Derived.Test.YtobjkjmmkbhecaaHso
namespace Go.Proofs.Ytobjkjmmkbhecaa.Sk
open Go.RowKit Go.Proofs.YtobjkjmmkbhecaaW.PrintWords Go.Proofs.YtobjkjmmkbhecaaW.PrintLast Go.Proofs.YtobjkjmmkbhecaaW.PrintMore Go.Proofs.Ytobjkjmmkbhecaa.Px Go.Proofs.Ytobjkjmmkbhecaa.Sw
set_option linter.unusedVariables false
set_option linter.unusedSimpArgs false
def preN (q : S36 → Bool) (xs : List S36) : Nat := (xs.takeWhile (fun e => !q e)).length
def idxN (q : S36 → Bool) (xs : List S36) : Int := if preN q xs < xs.length then (preN q xs : Int) else -1
theorem preN_le (q : S36 → Bool) (xs : List S36) : preN q xs ≤ xs.length := by
 unfold preN
 induction xs with
 | nil => simp
 | cons a L ih =>
  rw [List.takeWhile_cons]
  split
  ·
   simp only [List.length_cons]; omega
  ·
   simp
theorem preN_at {q : S36 → Bool} : ∀ {xs : List S36} {n : Nat} {e : S36}, n ≤ preN q xs → xs[n]? = some e → (q e = true → preN q xs = n) ∧ (q e = false → n + 1 ≤ preN q xs)
 | [], n, e, _, he => by simp at he
 | a :: L, 0, e, _, he => by
  simp only [List.getElem?_cons_zero, Option.some.injEq] at he
  subst he
  unfold preN
  rw [List.takeWhile_cons]
  constructor
  ·
   intro h; rw [h]; simp
  ·
   intro h; rw [h]; simp
 | a :: L, n + 1, e, hn, he => by
  unfold preN at hn ⊢
  rw [List.takeWhile_cons] at hn ⊢
  split at hn
  ·
   rename_i ha
   rw [if_pos ha]
   simp only [List.getElem?_cons_succ] at he
   simp only [List.length_cons] at hn ⊢
   have ih := preN_at (q := q) (xs := L) (n := n) (e := e) (by unfold preN; omega) he
   unfold preN at ih
   exact ⟨fun h => by rw [ih.1 h], fun h => by have := ih.2 h; omega⟩
  ·
   simp at hn
set_option maxHeartbeats 4000000 in
set_option maxRecDepth 100000 in
theorem index_calls {w : World} {A : Option Addr} {c : Nat} {xs : List S36} (hC : Kd.C k36 w A xs.length xs) {S : Nat → Prop} {G : S36 → Prop} (hmx : xs.length ≤ 1000000000000) (hG : ∀ e, e ∈ xs → G e) {q : S36 → Bool} (fid : Nat) (fn : Func) (caps : Array Value) (hf : Try.prog.funcs[fid]? = some fn) (hfn : (fn.name == "runtime.NumGoroutine") = false) (hfb : fn.body.isSome = true) (hsay : Says1 w S G fid caps q) :
  Calls Try.prog 51 #[.slice A xs.length c, .func (.func fid) #[] caps] w fun ex w' => ex = .returned (.int .i64 (idxN q xs)) ∧ Below w.heap.size w w' := by
 have huE := Try.underlying36
 have HC := Aside0.mk hC
 have HG := Aside0.mk hG
 have HSAY := Aside0.mk hsay
 have HMAX := Aside0.mk (Kd.C_max hC)
 have HMX := Aside0.mk hmx
 clear hC hG hsay hmx
 go_enter Try.func51, Try.ntmps51
 go_wp2
 go_loopg [8] xs.length (fun kq v8 w' => ∃ n : Nat, v8 = .int .i64 (n : Int) ∧ Aside0 (kq + n = xs.length) ∧ Aside0 (n ≤ preN q xs) ∧ Aside0 (Below w.heap.size w w'))
 case atStart => exact ⟨0, rfl, ⟨rfl⟩, ⟨Nat.zero_le _⟩, ⟨Below.refl _ _⟩⟩
 case round =>
  obtain ⟨n, rfl, HK, HP, HB⟩ := hrel
  cases gk with
  | zero =>
   have HR := Aside0.mk (show -1 = idxN q xs from (if_neg (by have h1 := HK.out; have h2 := HP.out; omega)).symm)
   have hlt : (n < xs.length) = False := eq_false (by have h1 := HK.out; omega)
   go_wp2
   go_ret
   exact ⟨by rw [← HR.out] <;> rfl, HB.out⟩
  | succ k1 =>
   have hnl : n < xs.length := by have h1 := HK.out; omega
   have hlt : (n < xs.length) = True := eq_true hnl
   obtain ⟨z, hz⟩ : ∃ z, xs[n]? = some z := ⟨_, List.getElem?_eq_getElem hnl⟩
   have HZ := Aside0.mk hz
   have HPA := Aside0.mk (preN_at HP.out hz)
   have HW := Aside0.mk (wadd1 (x := n) (z := n + 1) rfl (by have h1 := HMX.out; omega))
   obtain ⟨ad2, B0, b0, B3, b3, hA2, hd0, hd1, hd2, hd3, hE_⟩ := at_CE (Kd.C_below HC.out HB.out) n z hz
   have HEC := Aside0.mk hE_
   clear hE_
   subst hA2
   clear hz hnl
   cases hqz : q z with
   | true =>
    have HR := Aside0.mk (show (n : Int) = idxN q xs by unfold idxN; rw [HPA.out.1 hqz, if_pos (by have h1 := HK.out; omega)])
    go_wp2_with ((with_reducible refine gate_dst (N := 16) rfl ?_); (try (refine gate_guard (by rfl) ?_; dsimp only)); refine goesF_ (some 16) rfl rfl hf hfn hfb #[] caps (#[.agg #[.slice B0 z.f0.length b0, .int .i64 z.f1, .bool z.f2, .slice B3 z.f3.length b3]] ++ caps) rfl rfl (by (try simp only [List.map_toArray, List.map_cons, List.map_nil]); first | done | rfl) ?_; refine (HSAY.out z B0 b0 B3 b3 wr (HG.out z (List.mem_of_getElem? HZ.out)) (Kept.of_below HB.out _) HEC.out.1 HEC.out.2.1 HEC.out.2.2.1 HEC.out.2.2.2).mono ?_; rintro ex w3 ⟨rfl, hb3⟩; refine ⟨_, rfl, ?_⟩; rw [hqz]; have n_ := Aside0.mk hb3; clear hb3; have hb3 := n_; clear n_)
    go_ret
    exact ⟨by rw [← HR.out] <;> rfl, below_step HB.out hb3.out⟩
   | false =>
    go_wp2_with ((with_reducible refine gate_dst (N := 16) rfl ?_); (try (refine gate_guard (by rfl) ?_; dsimp only)); refine goesF_ (some 16) rfl rfl hf hfn hfb #[] caps (#[.agg #[.slice B0 z.f0.length b0, .int .i64 z.f1, .bool z.f2, .slice B3 z.f3.length b3]] ++ caps) rfl rfl (by (try simp only [List.map_toArray, List.map_cons, List.map_nil]); first | done | rfl) ?_; refine (HSAY.out z B0 b0 B3 b3 wr (HG.out z (List.mem_of_getElem? HZ.out)) (Kept.of_below HB.out _) HEC.out.1 HEC.out.2.1 HEC.out.2.2.1 HEC.out.2.2.2).mono ?_; rintro ex w3 ⟨rfl, hb3⟩; refine ⟨_, rfl, ?_⟩; rw [hqz]; have n_ := Aside0.mk hb3; clear hb3; have hb3 := n_; clear n_)
    go_roundg k1
    case measure => exact Nat.lt_succ_self _
    case rel => exact ⟨n + 1, by first | rfl | rw [HW.out], ⟨by have h1 := HK.out; omega⟩, ⟨HPA.out.2 hqz⟩, ⟨below_step HB.out hb3.out⟩⟩
end Go.Proofs.Ytobjkjmmkbhecaa.Sk

namespace Go.Proofs.Ytobjkjmmkbhecaa.Sk
open Go.RowKit Go.Proofs.YtobjkjmmkbhecaaW.PrintWords Go.Proofs.YtobjkjmmkbhecaaW.PrintLast Go.Proofs.YtobjkjmmkbhecaaW.PrintMore Go.Proofs.Ytobjkjmmkbhecaa.Px Go.Proofs.Ytobjkjmmkbhecaa.Sw
set_option linter.unusedVariables false
set_option linter.unusedSimpArgs false
set_option maxHeartbeats 4000000 in
set_option maxRecDepth 100000 in
theorem grow_calls (w : World) (m : Int) (h0 : 0 ≤ m) (hm : m ≤ 1000000000) :
  Calls Try.prog 55 #[.slice none 0 0, .int .i64 m] w fun ex w' => ∃ v', ex = .returned v' ∧ Kd.N k36 36 w' w.heap.size (fun k => w.heap.size ≤ k) v' [] ∧ Below w.heap.size w w' := by
 have hn : ¬ (m : Int) < 0 := by omega
 by_cases hz : m = 0
 ·
  subst hz
  clear hm hn
  go_enter Try.func55, Try.ntmps55
  go_wp2
  go_ret
  exact ⟨_, rfl, Kd.N_nil _ _ _ _ _, Below.refl _ _⟩
 ·
  have hp : 0 < m := by omega
  have HM := Aside0.mk hm
  clear hz
  go_enter Try.func55, Try.ntmps55
  go_wp2_with ((with_reducible refine gate_builtin (b := .append) (xs := #[.tmp 20, .tmp 21]) rfl ?_); at_builtin; refine Kd.N_append_zeros k36 (w0 := w) w.heap.size rfl (.tmp 20) (.tmp 21) 24 3 36 (.agg #[.slice none 0 0, .int .i64 0, .bool false, .slice none 0 0]) 64 rfl Try.underlying24 Try.underlying3 info36 rfl (by decide) (by omega) (.slice none 0 0) [] z36 m (fun k => w.heap.size ≤ k) rfl rfl (k36_mkF _ _ z36 (Nat.le_refl 0) (Kd.F_nil _ _ _) (Nat.le_refl 0) (Kd.F_nil _ _ _)) (fun _ h => h) (Kd.N_nil _ _ _ _ _) h0 (Below.refl _ _) (Nat.le_refl _) (by have h := HM.out; simp; omega) ?_; intro v1 w1 ho hb hg hat; clear hg hat; obtain ⟨A1, c1, e1⟩ := Kd.N_slice ho; subst e1; have hr := Aside0.mk (Kd.N_take (m := 0) ho (Nat.zero_le _)); have hroom := (Kd.N_reads' ho).2.1; obtain ⟨i0, hi0, _, hsz, _⟩ := info_parts info36; have hcut := cut_to (P := Try.prog) 24 36 .i64 Try.underlying24 hi0 A1 _ c1 0 (by omega) (by omega) hroom; have HB := Aside0.mk hb; clear ho hroom hi0 hsz hb)
  go_ret
  exact ⟨_, rfl, hr.out, HB.out⟩
/-- Rows of rows, each slice read with what it leads to. -/
def Rows (w : World) (okF : Nat → Prop) (A : Option Addr) (xss : List (List S36)) : Prop := ∀ i xs, xss[i]? = some xs → ∃ ad A0 c0, A = some ad ∧ w.cell? (ad.add i) = some (.slice A0 xs.length c0) ∧ xs.length ≤ c0 ∧ Kd.F k36 w okF A0 xs.length xs
theorem Rows.below {w w1 : World} {okF : Nat → Prop} {A : Option Addr} {xss : List (List S36)} (h : Rows w okF A xss) (hb : Below w.heap.size w w1) : Rows w1 okF A xss := by
 intro i xs hi
 obtain ⟨ad, A0, c0, h1, h2, h3, h4⟩ := h i xs hi
 refine ⟨ad, A0, c0, h1, ?_, h3, Kd.F_below h4 hb⟩
 have hlt : (ad.add i).block < w.heap.size := by
  by_cases hh : (ad.add i).block < w.heap.size
  ·
   exact hh
  ·
   unfold World.cell? at h2
   rw [Array.getElem?_eq_none (by omega)] at h2
   cases h2
 exact (hb.cell hlt).trans h2
theorem Rows.bound {w : World} {okF : Nat → Prop} {A : Option Addr} {xss : List (List S36)} (h : Rows w okF A xss) : Rows w (fun k => okF k ∧ k < w.heap.size) A xss := by
 intro i xs hi
 obtain ⟨ad, A0, c0, h1, h2, h3, h4⟩ := h i xs hi
 exact ⟨ad, A0, c0, h1, h2, h3, Kd.F_bound h4⟩
set_option maxHeartbeats 4000000 in
set_option maxRecDepth 100000 in
theorem concat_calls {w : World} {A : Option Addr} {c : Nat} {xss : List (List S36)} {okF : Nat → Prop} (hR : Rows w okF A xss) (hl : xss.flatten.length ≤ 1000000000) (hl2 : xss.length ≤ 1000000000) :
  Calls Try.prog 41 #[.slice A xss.length c] w fun ex w' => ∃ v', ex = .returned v' ∧ Kd.N k36 36 w' w.heap.size (fun k => (okF k ∧ k < w.heap.size) ∨ w.heap.size ≤ k) v' xss.flatten ∧ Below w.heap.size w w' := by
 have HR := Aside0.mk (Rows.bound hR)
 have HL := Aside0.mk hl
 have HL2 := Aside0.mk hl2
 clear hR hl hl2
 go_enter Try.func41, Try.ntmps41
 go_wp2
 go_loopg [3, 11] xss.length (fun kq v3 v11 w' => ∃ (X1 X2 : List (List S36)) (s : Nat), v3 = .int .i64 (s : Int) ∧ v11 = .int .i64 (X1.length : Int) ∧ Aside0 (s = X1.flatten.length) ∧ Aside0 (kq = X2.length) ∧ Aside0 (xss = X1 ++ X2) ∧ Aside0 (Below w.heap.size w w'))
 case atStart => exact ⟨[], xss, 0, rfl, rfl, ⟨rfl⟩, ⟨rfl⟩, ⟨rfl⟩, ⟨Below.refl _ _⟩⟩
 case round =>
  obtain ⟨X1, X2, s, rfl, rfl, HSZ, HK, HX, HB⟩ := hrel
  cases gk with
  | zero =>
   have HX1 := Aside0.mk (show X1 = xss by rw [HX.out, List.length_eq_zero_iff.1 HK.out.symm, List.append_nil])
   have hlt : (X1.length < xss.length) = False := eq_false (by rw [HX1.out]; omega)
   go_wp2_with ((with_reducible refine gate_callee (f := 55) rfl ?_); (try (refine gate_guard (by rfl) ?_; dsimp only)); refine goesL_ (some 24) rfl rfl Try.func55 (by kernel_rfl) rfl #[.slice none 0 0, .int .i64 (s : Int)] rfl (by (try simp only [List.map_toArray, List.map_cons, List.map_nil]); first | done | rfl) ?_; refine (grow_calls _ _ (by omega) (by have h := HSZ.out; rw [HX1.out] at h; have h2 := HL.out; omega)).mono ?_; rintro ex w2 ⟨vg, rfl, hn2, hb2⟩; refine ⟨_, rfl, ?_⟩; have n_ := Aside0.mk hn2; clear hn2; have hn2 := n_; clear n_; have n_ := Aside0.mk hb2; clear hb2; have hb2 := n_; clear n_)
   go_loopg [6, 27] xss.length (fun kq v6 v27 w' => ∃ X1 X2 : List (List S36), v27 = .int .i64 (X1.length : Int) ∧ Aside0 (kq = X2.length) ∧ Aside0 (xss = X1 ++ X2) ∧ Aside0 (Kd.N k36 36 w' w.heap.size (fun k => (okF k ∧ k < w.heap.size) ∨ w.heap.size ≤ k) v6 X1.flatten) ∧ Aside0 (Below w.heap.size w w'))
   case atStart => exact ⟨[], xss, rfl, ⟨rfl⟩, ⟨rfl⟩, ⟨Kd.N_mono (Kd.N_lower hn2.out HB.out.size) (fun k hk => .inr (by have h := HB.out.size; omega))⟩, ⟨below_step HB.out hb2.out⟩⟩
   case round =>
    clear HX1 HX HK HB hn2 hb2 hlt
    obtain ⟨X1, X2, rfl, HK, HX, HN, HB⟩ := hrel
    cases gk with
    | zero =>
     have HX1 := Aside0.mk (show X1 = xss by rw [HX.out, List.length_eq_zero_iff.1 HK.out.symm, List.append_nil])
     have hlt : (X1.length < xss.length) = False := eq_false (by rw [HX1.out]; omega)
     go_wp2
     go_ret
     exact ⟨_, rfl, HX1.out ▸ HN.out, HB.out⟩
    | succ k1 =>
     obtain ⟨x, X2', rfl⟩ : ∃ x X', X2 = x :: X' := by
      cases X2 with
      | nil => exact absurd HK.out (by simp)
      | cons x X' => exact ⟨x, X', rfl⟩
     have hlt : (X1.length < xss.length) = True := eq_true (by rw [HX.out]; simp)
     have HI := Aside0.mk (show xss[X1.length]? = some x by rw [HX.out]; exact get_app _ _ _)
     have HFL := Aside0.mk (show (X1 ++ [x]).flatten = X1.flatten ++ x by simp)
     have HS := Aside0.mk (show (X1 ++ [x]).flatten.length ≤ xss.flatten.length ∧ X1.length + 1 ≤ xss.length ∧ X1.flatten.length + x.length = (X1 ++ [x]).flatten.length by rw [HX.out]; simp <;> omega)
     have HW := Aside0.mk (wadd1 (x := X1.length) (z := X1.length + 1) rfl (by have h1 := HS.out; have h2 := HL2.out; omega))
     obtain ⟨ad, A0, c0, hA, hcell, hlc, hF⟩ := (Rows.below HR.out HB.out) X1.length x HI.out
     subst hA
     have HF := Aside0.mk hF
     have HLC := Aside0.mk hlc
     clear hF hlc
     obtain ⟨Ao, co, rfl⟩ := Kd.N_slice HN.out
     go_wp2_with ((with_reducible refine gate_builtin (b := .append) (xs := #[.tmp 31, .tmp 32]) rfl ?_); at_builtin; refine Kd.N_append_rows k36 (w0 := w) w.heap.size rfl (.tmp 31) (.tmp 32) 24 36 (.agg #[.slice none 0 0, .int .i64 0, .bool false, .slice none 0 0]) 64 rfl Try.underlying24 info36 rfl (by decide) (by omega) (.slice Ao X1.flatten.length co) X1.flatten x _ _ _ (fun k => (okF k ∧ k < w.heap.size) ∨ w.heap.size ≤ k) (fun k => okF k ∧ k < w.heap.size) rfl rfl ?aO ?aR (fun k hk => ⟨.inl hk, fun he => by have h1 := Kd.N_base HN.out k he.symm; have h2 := hk.2; omega⟩) (fun k hk => .inr (by have h1 := HB.out.size; omega)) ?aB ?aS ?aL ?_; (case aR => exact HF.out); (case aB => exact HB.out); (case aO => exact HN.out); (case aS => exact HB.out.size); (case aL => have h1 := HS.out; have h2 := HL.out; omega); intro v12 w12 ho hb hg hat; have HO2 := Aside0.mk ho; have HB2 := Aside0.mk hb; clear ho hb hg hat)
     go_roundg k1
     case measure => exact Nat.lt_succ_self _
     case rel => exact ⟨X1 ++ [x], X2', by rw [HW.out, List.length_append]; rfl, ⟨by have h1 := HK.out; simp only [List.length_cons] at h1; omega⟩, ⟨by rw [HX.out]; simp⟩, ⟨by rw [HFL.out]; exact HO2.out⟩, HB2⟩
  | succ k1 =>
   obtain ⟨x, X2', rfl⟩ : ∃ x X', X2 = x :: X' := by
    cases X2 with
    | nil => exact absurd HK.out (by simp)
    | cons x X' => exact ⟨x, X', rfl⟩
   have hlt : (X1.length < xss.length) = True := eq_true (by rw [HX.out]; simp)
   have HI := Aside0.mk (show xss[X1.length]? = some x by rw [HX.out]; exact get_app _ _ _)
   have HFL := Aside0.mk (show (X1 ++ [x]).flatten = X1.flatten ++ x by simp)
   have HS := Aside0.mk (show (X1 ++ [x]).flatten.length ≤ xss.flatten.length ∧ X1.length + 1 ≤ xss.length ∧ X1.flatten.length + x.length = (X1 ++ [x]).flatten.length by rw [HX.out]; simp <;> omega)
   have HW := Aside0.mk (wadd1 (x := X1.length) (z := X1.length + 1) rfl (by have h1 := HS.out; have h2 := HL2.out; omega))
   obtain ⟨ad, A0, c0, hA, hcell, hlc, hF⟩ := (Rows.below HR.out HB.out) X1.length x HI.out
   subst hA
   have HF := Aside0.mk hF
   have HLC := Aside0.mk hlc
   clear hF hlc
   obtain ⟨s2, hs2⟩ : ∃ s2, s2 = (X1 ++ [x]).flatten.length := ⟨_, rfl⟩
   have HS2 := Aside0.mk hs2
   have HWS := Aside0.mk (wadd (x := s) (y := x.length) (z := s2) (by rw [hs2, HFL.out, List.length_append, HSZ.out]) (by have h1 := HS.out; have h2 := HL.out; omega))
   have hws := HWS.out
   have hneg : ¬ (s2 : Int) < 0 := by omega
   clear hs2
   go_wp2
   go_roundg k1
   case measure => exact Nat.lt_succ_self _
   case rel => exact ⟨X1 ++ [x], X2', s2, by first | rfl | rw [HWS.out], by rw [HW.out, List.length_append]; rfl, HS2, ⟨by have h1 := HK.out; simp only [List.length_cons] at h1; omega⟩, ⟨by rw [HX.out]; simp⟩, HB⟩
end Go.Proofs.Ytobjkjmmkbhecaa.Sk
