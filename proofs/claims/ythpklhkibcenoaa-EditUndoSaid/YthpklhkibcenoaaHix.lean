/- slices.IndexFunc and slices.ContainsFunc over a row. Conditions: those of each theorem. -/
import Derived.Test.YthpklhkibcenoaaCore
import Derived.Test.YthpklhkibcenoaaHe
import Derived.Test.YthpklhkibcenoaaHw
import Derived.Test.YthpklhkibcenoaaHz
import Derived.Test.YthpklhkibcenoaaPx0
namespace Go.Proofs.Ythpklhkibcenoaa.Sk
open Go.RowKit Go.Proofs.YthpklhkibcenoaaW.PrintWords Go.Proofs.YthpklhkibcenoaaW.PrintLast Go.Proofs.YthpklhkibcenoaaW.PrintMore Go.Proofs.Ythpklhkibcenoaa.Px Go.Proofs.Ythpklhkibcenoaa.Sw
set_option linter.unusedVariables false
set_option linter.unusedSimpArgs false
def preN (q : S57 → Bool) (xs : List S57) : Nat := (xs.takeWhile (fun e => !q e)).length
def idxN (q : S57 → Bool) (xs : List S57) : Int := if preN q xs < xs.length then (preN q xs : Int) else -1
theorem preN_le (q : S57 → Bool) (xs : List S57) : preN q xs ≤ xs.length := by
 unfold preN
 induction xs with
 | nil => simp
 | cons a L ih =>
  rw [List.takeWhile_cons]
  split
  ·
   simp only [List.length_cons]; omega
  ·
   simp
theorem preN_at {q : S57 → Bool} : ∀ {xs : List S57} {n : Nat} {e : S57}, n ≤ preN q xs → xs[n]? = some e → (q e = true → preN q xs = n) ∧ (q e = false → n + 1 ≤ preN q xs)
 | [], n, e, _, he => by simp at he
 | a :: L, 0, e, _, he => by
  simp only [List.getElem?_cons_zero, Option.some.injEq] at he
  subst he
  unfold preN
  rw [List.takeWhile_cons]
  constructor
  ·
   intro h; rw [h]; simp
  ·
   intro h; rw [h]; simp
 | a :: L, n + 1, e, hn, he => by
  unfold preN at hn ⊢
  rw [List.takeWhile_cons] at hn ⊢
  split at hn
  ·
   rename_i ha
   rw [if_pos ha]
   simp only [List.getElem?_cons_succ] at he
   simp only [List.length_cons] at hn ⊢
   have ih := preN_at (q := q) (xs := L) (n := n) (e := e) (by unfold preN; omega) he
   unfold preN at ih
   exact ⟨fun h => by rw [ih.1 h], fun h => by have := ih.2 h; omega⟩
  ·
   simp at hn
set_option maxHeartbeats 4000000 in
set_option maxRecDepth 100000 in
theorem index_calls {w : World} {A : Option Addr} {c : Nat} {xs : List S57} (hC : Kd.C k57 w A xs.length xs) {S : Nat → Prop} {G : S57 → Prop} (hmx : xs.length ≤ 1000000000000) (hG : ∀ e, e ∈ xs → G e) {q : S57 → Bool} (fid : Nat) (fn : Func) (caps : Array Value) (hf : Try.prog.funcs[fid]? = some fn) (hfn : (fn.name == "runtime.NumGoroutine") = false) (hfb : fn.body.isSome = true) (hsay : Says1 w S G fid caps q) :
  Calls Try.prog 50 #[.slice A xs.length c, .func (.func fid) #[] caps] w fun ex w' => ex = .returned (.int .i64 (idxN q xs)) ∧ Below w.heap.size w w' := by
 have huE := Try.underlying57
 have HC := Aside0.mk hC
 have HG := Aside0.mk hG
 have HSAY := Aside0.mk hsay
 have HMAX := Aside0.mk (Kd.C_max hC)
 have HMX := Aside0.mk hmx
 clear hC hG hsay hmx
 go_enter Try.func50, Try.ntmps50
 go_wp2
 go_loopg [8] xs.length (fun kq v8 w' => ∃ n : Nat, v8 = .int .i64 (n : Int) ∧ Aside0 (kq + n = xs.length) ∧ Aside0 (n ≤ preN q xs) ∧ Aside0 (Below w.heap.size w w'))
 case atStart => exact ⟨0, rfl, ⟨rfl⟩, ⟨Nat.zero_le _⟩, ⟨Below.refl _ _⟩⟩
 case round =>
  obtain ⟨n, rfl, HK, HP, HB⟩ := hrel
  cases gk with
  | zero =>
   have HR := Aside0.mk (show -1 = idxN q xs from (if_neg (by have h1 := HK.out; have h2 := HP.out; omega)).symm)
   have hlt : (n < xs.length) = False := eq_false (by have h1 := HK.out; omega)
   go_wp2
   go_ret
   exact ⟨by rw [← HR.out] <;> rfl, HB.out⟩
  | succ k1 =>
   have hnl : n < xs.length := by have h1 := HK.out; omega
   have hlt : (n < xs.length) = True := eq_true hnl
   obtain ⟨z, hz⟩ : ∃ z, xs[n]? = some z := ⟨_, List.getElem?_eq_getElem hnl⟩
   have HZ := Aside0.mk hz
   have HPA := Aside0.mk (preN_at HP.out hz)
   have HW := Aside0.mk (wadd1 (x := n) (z := n + 1) rfl (by have h1 := HMX.out; omega))
   obtain ⟨ad2, B3, b3, B4, b4, hA2, hd0, hd1, hd2, hd3, hd4, hE_⟩ := at_CE (Kd.C_below HC.out HB.out) n z hz
   have HEC := Aside0.mk hE_
   clear hE_
   subst hA2
   clear hz hnl
   cases hqz : q z with
   | true =>
    have HR := Aside0.mk (show (n : Int) = idxN q xs by unfold idxN; rw [HPA.out.1 hqz, if_pos (by have h1 := HK.out; omega)])
    go_wp2_with ((with_reducible refine gate_dst (N := 16) rfl ?_); (try (refine gate_guard (by rfl) ?_; dsimp only)); refine goesF_ (some 16) rfl rfl hf hfn hfb #[] caps (#[.agg #[.int .i64 z.f0, .int .i64 z.f1, .int .i64 z.f2, .slice B3 z.f3.length b3, .slice B4 z.f4.length b4]] ++ caps) rfl rfl (by (try simp only [List.map_toArray, List.map_cons, List.map_nil]); first | done | rfl) ?_; refine (HSAY.out z B3 b3 B4 b4 wr (HG.out z (List.mem_of_getElem? HZ.out)) (Kept.of_below HB.out _) HEC.out.1 HEC.out.2.1 HEC.out.2.2.1 HEC.out.2.2.2).mono ?_; rintro ex w3 ⟨rfl, hb3⟩; refine ⟨_, rfl, ?_⟩; rw [hqz]; have n_ := Aside0.mk hb3; clear hb3; have hb3 := n_; clear n_)
    go_ret
    exact ⟨by rw [← HR.out] <;> rfl, below_step HB.out hb3.out⟩
   | false =>
    go_wp2_with ((with_reducible refine gate_dst (N := 16) rfl ?_); (try (refine gate_guard (by rfl) ?_; dsimp only)); refine goesF_ (some 16) rfl rfl hf hfn hfb #[] caps (#[.agg #[.int .i64 z.f0, .int .i64 z.f1, .int .i64 z.f2, .slice B3 z.f3.length b3, .slice B4 z.f4.length b4]] ++ caps) rfl rfl (by (try simp only [List.map_toArray, List.map_cons, List.map_nil]); first | done | rfl) ?_; refine (HSAY.out z B3 b3 B4 b4 wr (HG.out z (List.mem_of_getElem? HZ.out)) (Kept.of_below HB.out _) HEC.out.1 HEC.out.2.1 HEC.out.2.2.1 HEC.out.2.2.2).mono ?_; rintro ex w3 ⟨rfl, hb3⟩; refine ⟨_, rfl, ?_⟩; rw [hqz]; have n_ := Aside0.mk hb3; clear hb3; have hb3 := n_; clear n_)
    go_roundg k1
    case measure => exact Nat.lt_succ_self _
    case rel => exact ⟨n + 1, by first | rfl | rw [HW.out], ⟨by have h1 := HK.out; omega⟩, ⟨HPA.out.2 hqz⟩, ⟨below_step HB.out hb3.out⟩⟩
theorem idx_any {q : S57 → Bool} {xs : List S57} : decide (0 ≤ idxN q xs) = xs.any q := by
 unfold idxN
 have h : ∀ l : List S57, decide (preN q l < l.length) = l.any q := by
  intro l
  induction l with
  | nil => rfl
  | cons a l ih =>
   unfold preN at ih ⊢
   rw [List.takeWhile_cons]
   cases hq : q a with
   | true => simp [hq]
   | false => simp only [Bool.not_false, if_true, List.length_cons, Nat.add_lt_add_iff_right, List.any_cons, hq, Bool.false_or]; exact ih
 by_cases hp : preN q xs < xs.length
 ·
  rw [if_pos hp, ← h xs, decide_eq_true hp]
  exact decide_eq_true (Int.natCast_nonneg _)
 ·
  rw [if_neg hp, ← h xs, decide_eq_false hp]
  rfl
set_option maxHeartbeats 4000000 in
set_option maxRecDepth 100000 in
theorem contains_calls {w : World} {A : Option Addr} {c : Nat} {xs : List S57} (hC : Kd.C k57 w A xs.length xs) {S : Nat → Prop} {G : S57 → Prop} (hmx : xs.length ≤ 1000000000000) (hG : ∀ e, e ∈ xs → G e) {q : S57 → Bool} (fid : Nat) (fn : Func) (caps : Array Value) (hf : Try.prog.funcs[fid]? = some fn) (hfn : (fn.name == "runtime.NumGoroutine") = false) (hfb : fn.body.isSome = true) (hsay : Says1 w S G fid caps q) :
  Calls Try.prog 28 #[.slice A xs.length c, .func (.func fid) #[] caps] w fun ex w' => ex = .returned (.bool (xs.any q)) ∧ Below w.heap.size w w' := by
 have HC := Aside0.mk hC
 have HG := Aside0.mk hG
 have HSAY := Aside0.mk hsay
 have HE := Aside0.mk (idx_any (q := q) (xs := xs))
 clear hC hG hsay
 go_enter Try.func28, Try.ntmps28
 go_wp2_with ((with_reducible refine gate_callee (f := 50) rfl ?_); (try (refine gate_guard (by rfl) ?_; dsimp only)); refine goesL_ (some 7) rfl rfl Try.func50 (by kernel_rfl) rfl #[.slice A xs.length c, .func (.func fid) #[] caps] rfl (by (try simp only [List.map_toArray, List.map_cons, List.map_nil]); first | done | rfl) ?_; refine (index_calls HC.out hmx HG.out fid fn caps hf hfn hfb HSAY.out).mono ?_; rintro ex w2 ⟨rfl, hb2⟩; refine ⟨_, rfl, ?_⟩; have n_ := Aside0.mk hb2; clear hb2; have hb2 := n_; clear n_)
 go_ret
 exact ⟨by rw [← HE.out] <;> rfl, hb2.out⟩
end Go.Proofs.Ythpklhkibcenoaa.Sk
