/- slices.IndexFunc over entries, walked. Conditions: those of each theorem. -/
import Derived.Test.YtjlkcidohabcfaaPx0
import Derived.Test.YtjlkcidohabcfaaH0
import Derived.Test.YtjlkcidohabcfaaHs
import Derived.Test.YtjlkcidohabcfaaHp
import Derived.Test.YtjlkcidohabcfaaHw
namespace Go.Proofs.Ytjlkcidohabcfaa.Sk
open Go.RowKit Go.Proofs.YtjlkcidohabcfaaW.PrintWords Go.Proofs.YtjlkcidohabcfaaW.PrintLast Go.Proofs.YtjlkcidohabcfaaW.PrintMore Go.Proofs.Ytjlkcidohabcfaa.Px
set_option linter.unusedVariables false
set_option linter.unusedSimpArgs false

open Go.Proofs.Ytjlkcidohabcfaa.Sw
section
variable {α : Type} {d : Kd α} {e base n cap g : Nat} {ok : Nat → Prop} {W : World} {xs : List α}
/-- Cells behind a row's length are written. -/
theorem N_beyond (h : Kd.N d e W base ok (.slice (some ⟨g, 0, none⟩) n cap) xs) (o : Nat) (seg : List Value) (ho : n * d.sz ≤ o) (hl : o + seg.length ≤ cap * d.sz) :
    Kd.N d e (W.setCells g o seg) base ok (.slice (some ⟨g, 0, none⟩) n cap) xs ∧ Kept W (W.setCells g o seg) (fun k => k = g) := by
  obtain ⟨s1, s2, s3, s4⟩ := setCells_same g seg o W
  have hfar : ∀ k, k ≠ g → (W.setCells g o seg).heap[k]? = W.heap[k]? := fun k hk => setCells_far seg _ k hk
  refine ⟨?_, by rw [Kept, s4]; exact ⟨Nat.le_refl _, fun i _ hn => hfar i hn⟩⟩
  obtain ⟨h0, rows, hl2, ⟨hR0, inner, ho2, hr⟩, hf⟩ := h
  obtain ⟨ho3, ho4⟩ := ho2
  rcases ho4 with ⟨hv, _⟩ | ⟨g', cap', cur, hv, hb, hh, hnc', hcm, hcs, ht⟩
  · cases hv
  injection hv with ha hn hc
  injection ha with ha
  injection ha with hg
  subst hg; subst hc
  obtain ⟨cur', h3, h4, h5⟩ := setCells_row seg o W cur hh (by show o + seg.length ≤ cur.size; rw [hcs]; exact hl)
  refine ⟨h0, rows, hl2, ⟨hR0, inner, ⟨ho3, .inr ⟨g, cap, cur', by rw [hn], hb, h3, hnc', hcm, by rw [h4]; exact hcs, ?_⟩⟩, hr⟩, fun j x c hx hc => ?_⟩
  · have hno : rows.length * (Kd.raw d.sz).sz ≤ o := by rw [← hn]; exact ho
    have hco : o ≤ cur.size := by show o ≤ cur.size; rw [hcs]; exact Nat.le_trans (Nat.le_add_right _ _) hl
    rw [h5, List.append_assoc, List.take_append_of_le_length (by rw [List.length_take, Array.length_toList]; exact Nat.le_min.2 ⟨hno, Nat.le_trans hno hco⟩), List.take_take, Nat.min_eq_left hno, ht]
  · exact Kd.FK_step (hf j x c hx hc) (fun k hk _ => hfar k (fun he => hk.2 (by rw [he]; rfl)))
end
theorem K34_C {W : World} {e : S34} {A0 A3 : Option Addr} {c0 c3 : Nat} (h : k34.K W e [.slice A0 e.f0.length c0, .int .i64 e.f1, .bool e.f2, .slice A3 e.f3.length c3]) : e.f0.length ≤ c0 ∧ Kd.C (Kd.int .u8) W A0 e.f0.length e.f0 ∧ e.f3.length ≤ c3 ∧ Kd.C (Kd.int .u8) W A3 e.f3.length e.f3 := by
  obtain ⟨B0, d0, B3, d3, he, l0, g0, l3, g3⟩ := k34_open h
  simp only [List.cons.injEq, Value.slice.injEq, true_and, and_true] at he
  obtain ⟨⟨rfl, rfl⟩, rfl, rfl⟩ := he
  exact ⟨l0, g0, l3, g3⟩
/-- Element i of a row of entries of the call's own. -/
theorem at_N34 {W : World} {base n cap : Nat} {ok : Nat → Prop} {ad : Addr} {xs : List S34} (h : Kd.N k34 34 W base ok (.slice (some ad) n cap) xs) (i : Nat) (e : S34) (he : xs[i]? = some e) :
    ∃ A0 c0 A3 c3, W.cell? (ad.add (i * 4)) = some (.slice A0 e.f0.length c0) ∧ W.cell? ⟨(ad.add (i * 4)).block, (ad.add (i * 4)).off + 1, none⟩ = some (.int .i64 e.f1) ∧ W.cell? ⟨(ad.add (i * 4)).block, (ad.add (i * 4)).off + 2, none⟩ = some (.bool e.f2) ∧ W.cell? ⟨(ad.add (i * 4)).block, (ad.add (i * 4)).off + 3, none⟩ = some (.slice A3 e.f3.length c3) ∧
      Kd.FK k34 W (fun k => ok k ∧ k ≠ ad.block) e [.slice A0 e.f0.length c0, .int .i64 e.f1, .bool e.f2, .slice A3 e.f3.length c3] := by
  have hn := (Kd.N_reads' h).1
  have hi : i < xs.length := (List.getElem?_eq_some_iff.1 he).1
  obtain ⟨c, _, hFK, hcc⟩ := Kd.N_get h e (i : Int) (by omega) (by omega)
  rw [Int.toNat_natCast, List.getD_eq_getElem?_getD, he] at hFK
  replace hFK : Kd.FK k34 W _ e c := hFK
  obtain ⟨A0, c0, A3, c3, rfl, l0, g0, l3, g3⟩ := k34_open (Kd.FK_now hFK)
  have hc : ∀ j u, ([.slice A0 e.f0.length c0, .int .i64 e.f1, .bool e.f2, .slice A3 e.f3.length c3] : List Value)[j]? = some u → W.cell? (ad.add (i * 4 + j)) = some u := by
    intro j u hu
    have := hcc j u hu
    rwa [Int.toNat_natCast] at this
  refine ⟨A0, c0, A3, c3, hc 0 _ rfl, by rw [← add_field _ _ 1 (by omega)]; exact hc 1 _ rfl, by rw [← add_field _ _ 2 (by omega)]; exact hc 2 _ rfl, by rw [← add_field _ _ 3 (by omega)]; exact hc 3 _ rfl, Kd.FK_mono hFK (fun k hk => ⟨hk.1, fun he => hk.2 (by rw [he]; rfl)⟩)⟩
/-- A function value that says of each entry of G whether it is so, wherever all but S is kept. -/
def Says1 (w : World) (S : Nat → Prop) (G : S34 → Prop) (fid : Nat) (caps : Array Value) (q : S34 → Bool) : Prop :=
  ∀ (e : S34) (A0 : Option Addr) (c0 : Nat) (A3 : Option Addr) (c3 : Nat) (w1 : World), G e → Kept w w1 S → e.f0.length ≤ c0 → Kd.C (Kd.int .u8) w1 A0 e.f0.length e.f0 → e.f3.length ≤ c3 → Kd.C (Kd.int .u8) w1 A3 e.f3.length e.f3 →
    Calls Try.prog fid (#[.agg #[.slice A0 e.f0.length c0, .int .i64 e.f1, .bool e.f2, .slice A3 e.f3.length c3]] ++ caps) w1 fun ex w' => ex = .returned (.bool (q e)) ∧ Below w1.heap.size w1 w'
def preN (q : S34 → Bool) (xs : List S34) : Nat := (xs.takeWhile (fun e => !q e)).length
def idxN (q : S34 → Bool) (xs : List S34) : Int := if preN q xs < xs.length then (preN q xs : Int) else -1
theorem preN_le (q : S34 → Bool) (xs : List S34) : preN q xs ≤ xs.length := by
  unfold preN
  induction xs with
  | nil => simp
  | cons a L ih =>
    rw [List.takeWhile_cons]
    split
    · simp only [List.length_cons]; omega
    · simp
theorem preN_at {q : S34 → Bool} : ∀ {xs : List S34} {n : Nat} {e : S34}, n ≤ preN q xs → xs[n]? = some e → (q e = true → preN q xs = n) ∧ (q e = false → n + 1 ≤ preN q xs)
  | [], n, e, _, he => by simp at he
  | a :: L, 0, e, _, he => by
    simp only [List.getElem?_cons_zero, Option.some.injEq] at he
    subst he
    unfold preN
    rw [List.takeWhile_cons]
    constructor
    · intro h; rw [h]; simp
    · intro h; rw [h]; simp
  | a :: L, n + 1, e, hn, he => by
    unfold preN at hn ⊢
    rw [List.takeWhile_cons] at hn ⊢
    split at hn
    · rename_i ha
      rw [if_pos ha]
      simp only [List.getElem?_cons_succ] at he
      simp only [List.length_cons] at hn ⊢
      have ih := preN_at (q := q) (xs := L) (n := n) (e := e) (by unfold preN; omega) he
      unfold preN at ih
      exact ⟨fun h => by rw [ih.1 h], fun h => by have := ih.2 h; omega⟩
    · simp at hn
set_option maxHeartbeats 4000000 in
set_option maxRecDepth 100000 in
theorem index_calls {w : World} {base : Nat} {ok S : Nat → Prop} {v : Value} {xs : List S34} (hn : Kd.N k34 34 w base ok v xs) {G : S34 → Prop} (hG : ∀ e, e ∈ xs → G e) {q : S34 → Bool} (fid : Nat) (fn : Func) (caps : Array Value) (hf : Try.prog.funcs[fid]? = some fn) (hfn : (fn.name == "runtime.NumGoroutine") = false) (hfb : fn.body.isSome = true) (hsay : Says1 w S G fid caps q) :
    Calls Try.prog 51 #[v, .func (.func fid) #[] caps] w fun ex w' => ex = .returned (.int .i64 (idxN q xs)) ∧ Below w.heap.size w w' := by
  have hu34 := Try.underlying34
  obtain ⟨A, c, rfl⟩ := Kd.N_slice hn
  have HN := Aside0.mk hn
  have HG := Aside0.mk hG
  have HSAY := Aside0.mk hsay
  have HMAX := Aside0.mk (Kd.C_max (Kd.N_reads' hn).2.2)
  clear hn hG hsay
  go_enter Try.func51, Try.ntmps51
  go_wp2
  go_loopg [8] xs.length (fun kq v8 w' => ∃ n : Nat, v8 = .int .i64 (n : Int) ∧ Aside0 (kq + n = xs.length) ∧ Aside0 (n ≤ preN q xs) ∧ Aside0 (Below w.heap.size w w'))
  case atStart => exact ⟨0, rfl, ⟨rfl⟩, ⟨Nat.zero_le _⟩, ⟨Below.refl _ _⟩⟩
  case round =>
    obtain ⟨n, rfl, HK, HP, HB⟩ := hrel
    cases gk with
    | zero =>
      have HR := Aside0.mk (show -1 = idxN q xs from (if_neg (by have h1 := HK.out; have h2 := HP.out; omega)).symm)
      have hlt : (n < xs.length) = False := eq_false (by have h1 := HK.out; omega)
      go_wp2
      go_ret
      exact ⟨by rw [← HR.out] <;> rfl, HB.out⟩
    | succ k1 =>
      have hnl : n < xs.length := by have h1 := HK.out; omega
      have hlt : (n < xs.length) = True := eq_true hnl
      obtain ⟨z, hz⟩ : ∃ z, xs[n]? = some z := ⟨_, List.getElem?_eq_getElem hnl⟩
      have HZ := Aside0.mk hz
      have HPA := Aside0.mk (preN_at HP.out hz)
      have HW := Aside0.mk (show wrap64 ((n : Int) + 1) = ((n + 1 : Nat) : Int) by rw [wrap_in (by omega) (by have := HMAX.out; omega)]; rfl)
      obtain ⟨ad, hA⟩ : ∃ ad, A = some ad := by
        obtain ⟨ad, _, _, _, _, h1, _⟩ := at_T34 (Kd.N_reads' HN.out).2.2 (n : Int) (by omega) (by omega)
        exact ⟨ad, h1⟩
      subst hA
      obtain ⟨B0, b0, B3, b3, hd0, hd1, hd2, hd3, hFK⟩ := at_N34 (Kd.N_below HN.out HB.out) n z hz
      have HFK := Aside0.mk hFK
      clear hFK
      clear hz hnl
      cases hqz : q z with
      | true =>
        have HR := Aside0.mk (show (n : Int) = idxN q xs by unfold idxN; rw [HPA.out.1 hqz, if_pos (by have h1 := HK.out; omega)])
        go_wp2_with ((with_reducible refine gate_dst (N := 16) rfl ?_); (try (refine gate_guard (by rfl) ?_; dsimp only)); refine goesF_ (some 16) rfl rfl hf hfn hfb #[] caps (#[.agg #[.slice B0 z.f0.length b0, .int .i64 z.f1, .bool z.f2, .slice B3 z.f3.length b3]] ++ caps) rfl rfl (by (try simp only [List.map_toArray, List.map_cons, List.map_nil]); first | done | rfl) ?_; refine (HSAY.out z B0 b0 B3 b3 wr (HG.out z (List.mem_of_getElem? HZ.out)) (Kept.of_below HB.out _) (K34_C (Kd.FK_now HFK.out)).1 (K34_C (Kd.FK_now HFK.out)).2.1 (K34_C (Kd.FK_now HFK.out)).2.2.1 (K34_C (Kd.FK_now HFK.out)).2.2.2).mono ?_; rintro ex w3 ⟨rfl, hb3⟩; refine ⟨_, rfl, ?_⟩; rw [hqz]; have n_ := Aside0.mk hb3; clear hb3; have hb3 := n_; clear n_)
        go_ret
        exact ⟨by rw [← HR.out] <;> rfl, below_step HB.out hb3.out⟩
      | false =>
        go_wp2_with ((with_reducible refine gate_dst (N := 16) rfl ?_); (try (refine gate_guard (by rfl) ?_; dsimp only)); refine goesF_ (some 16) rfl rfl hf hfn hfb #[] caps (#[.agg #[.slice B0 z.f0.length b0, .int .i64 z.f1, .bool z.f2, .slice B3 z.f3.length b3]] ++ caps) rfl rfl (by (try simp only [List.map_toArray, List.map_cons, List.map_nil]); first | done | rfl) ?_; refine (HSAY.out z B0 b0 B3 b3 wr (HG.out z (List.mem_of_getElem? HZ.out)) (Kept.of_below HB.out _) (K34_C (Kd.FK_now HFK.out)).1 (K34_C (Kd.FK_now HFK.out)).2.1 (K34_C (Kd.FK_now HFK.out)).2.2.1 (K34_C (Kd.FK_now HFK.out)).2.2.2).mono ?_; rintro ex w3 ⟨rfl, hb3⟩; refine ⟨_, rfl, ?_⟩; rw [hqz]; have n_ := Aside0.mk hb3; clear hb3; have hb3 := n_; clear n_)
        go_roundg k1
        case measure => exact Nat.lt_succ_self _
        case rel => exact ⟨n + 1, by first | rfl | rw [HW.out], ⟨by have h1 := HK.out; omega⟩, ⟨HPA.out.2 hqz⟩, ⟨below_step HB.out hb3.out⟩⟩
end Go.Proofs.Ytjlkcidohabcfaa.Sk
