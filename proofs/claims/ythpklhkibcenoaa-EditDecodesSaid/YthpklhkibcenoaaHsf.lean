/- A row of few is put in order. Conditions: those of each theorem. -/
import Derived.Test.YthpklhkibcenoaaCore
import Derived.Test.YthpklhkibcenoaaME
import Derived.Test.YthpklhkibcenoaaHis
import Derived.Test.YthpklhkibcenoaaHso
import Derived.Test.YthpklhkibcenoaaPx0
import Derived.Test.YthpklhkibcenoaaSpecA
namespace Go.Proofs.Ythpklhkibcenoaa.Sk
open Go.RowKit Go.Proofs.YthpklhkibcenoaaW.PrintWords Go.Proofs.YthpklhkibcenoaaW.PrintLast Go.Proofs.YthpklhkibcenoaaW.PrintMore Go.Proofs.Ythpklhkibcenoaa.Px Go.Proofs.Ythpklhkibcenoaa.Sw
set_option linter.unusedVariables false
set_option linter.unusedSimpArgs false
set_option maxHeartbeats 4000000 in
set_option maxRecDepth 100000 in
theorem insert0_calls (w : World) (v fv : Value) : Calls Try.prog 67 #[v, .int .i64 0, .int .i64 0, fv] w fun ex w' => ex = .returned (.tuple #[]) ∧ Below w.heap.size w w' := by
 go_enter Try.func67, Try.ntmps67
 go_wp2
 go_loopg [8] 0 (fun kq v8 w' => v8 = .int .i64 1 ∧ Aside0 (Below w.heap.size w w'))
 case atStart => exact ⟨rfl, ⟨Below.refl _ _⟩⟩
 case round =>
  obtain ⟨rfl, HB⟩ := hrel
  go_wp2
  go_end0
  exact ⟨rfl, HB.out⟩
set_option maxHeartbeats 4000000 in
set_option maxRecDepth 100000 in
theorem stable0_calls (w : World) (v fv : Value) : Calls Try.prog 53 #[v, .int .i64 0, fv] w fun ex w' => ex = .returned (.tuple #[]) ∧ Below w.heap.size w w' := by
 go_enter Try.func53, Try.ntmps53
 go_wp2
 go_loopg [7, 8] 0 (fun kq v7 v8 w' => v7 = .int .i64 0 ∧ v8 = .int .i64 20 ∧ Aside0 (Below w.heap.size w w'))
 case atStart => exact ⟨rfl, rfl, ⟨Below.refl _ _⟩⟩
 case round =>
  obtain ⟨rfl, rfl, HB⟩ := hrel
  go_wp2_with ((with_reducible refine gate_callee (f := 67) rfl ?_); (try (refine gate_guard (by rfl) ?_; dsimp only)); refine goesL_ (some 27) rfl rfl Try.func67 (by kernel_rfl) rfl #[v, .int .i64 0, .int .i64 0, fv] rfl (by (try simp only [List.map_toArray, List.map_cons, List.map_nil]); first | done | rfl) ?_; refine (insert0_calls _ v fv).mono ?_; rintro ex w2 ⟨rfl, hb2⟩; refine ⟨_, rfl, ?_⟩; have n_ := Aside0.mk hb2; clear hb2; have hb2 := n_; clear n_)
  simp only [Act.put, List.setIfInBounds_toArray, List.set_cons_succ, List.set_cons_zero]
  go_loopg [6] 0 (fun kq v6 w' => v6 = .int .i64 20 ∧ Aside0 (Below w.heap.size w w'))
  case atStart => exact ⟨rfl, ⟨below_step HB.out hb2.out⟩⟩
  case round =>
   clear HB hb2
   obtain ⟨rfl, HB⟩ := hrel
   go_wp2
   go_end0
   exact ⟨rfl, HB.out⟩
set_option maxHeartbeats 4000000 in
set_option maxRecDepth 100000 in
theorem stable_few {w : World} {base n cap : Nat} {ok : Nat → Prop} {ad : Addr} {xs : List S57} (hn : Kd.N k57 57 w base ok (.slice (some ad) n cap) xs) (hsz : n < 20) {G : S57 → Prop} {q : S57 → S57 → Int} (hq : POrd G q) (hG : ∀ z ∈ xs, G z) (fid : Nat) (fn : Func) (caps : Array Value) (hf : Try.prog.funcs[fid]? = some fn) (hfn : (fn.name == "runtime.NumGoroutine") = false) (hfb : fn.body.isSome = true) (hsay : Says2 w (fun k => some k = (Value.slice (some ad) n cap).ownBlock) G fid caps q) :
  Calls Try.prog 53 #[.slice (some ad) n cap, .int .i64 (n : Int), .func (.func fid) #[] caps] w fun ex w' => ex = .returned (.tuple #[]) ∧ (∃ ys, ys.Perm xs ∧ Srt q ys ∧ Kd.N k57 57 w' base ok (.slice (some ad) n cap) ys) ∧ Chg w w' (fun k => some k = (Value.slice (some ad) n cap).ownBlock) := by
 have HN := Aside0.mk hn
 have HMAX := Aside0.mk hsz
 have HLEN := Aside0.mk (show n = xs.length from (Kd.N_reads' hn).1)
 have HQ := Aside0.mk hq
 have HG := Aside0.mk hG
 have HSAY := Aside0.mk hsay
 clear hn hsz hq hG hsay
 have hge : ((20 : Int) ≤ (n : Int)) = False := eq_false (by have h := HMAX.out; omega)
 have hgt : ((20 : Int) < (n : Int)) = False := eq_false (by have h := HMAX.out; omega)
 go_enter Try.func53, Try.ntmps53
 go_wp2
 go_loopg [7, 8] 0 (fun kq v7 v8 w' => v7 = .int .i64 0 ∧ v8 = .int .i64 20 ∧ Aside0 (Kd.N k57 57 w' base ok (.slice (some ad) n cap) xs ∧ Chg w w' (fun k => some k = (Value.slice (some ad) n cap).ownBlock)))
 case atStart => exact ⟨rfl, rfl, ⟨HN.out, Chg.refl _ _⟩⟩
 case round =>
  obtain ⟨rfl, rfl, HI⟩ := hrel
  have HS2 := Aside0.mk (HSAY.out.kept HI.out.2.kept)
  have HN := Aside0.mk HI.out.1
  go_wp2_with ((with_reducible refine gate_callee (f := 67) rfl ?_); (try (refine gate_guard (by rfl) ?_; dsimp only)); refine goesL_ (some 27) rfl rfl Try.func67 (by kernel_rfl) rfl #[.slice (some ad) n cap, .int .i64 0, .int .i64 (n : Int), .func (.func fid) #[] caps] rfl (by (try simp only [List.map_toArray, List.map_cons, List.map_nil]); first | done | rfl) ?_; refine (insert_calls (P := []) (M := xs) (S := []) (a := 0) (b := n) (by rw [List.append_nil]; exact HN.out) rfl (by rw [HLEN.out]; simp) (by have h := HMAX.out; omega) HQ.out HG.out fid fn caps hf hfn hfb HS2.out).mono ?_; rintro ex w2 ⟨rfl, ⟨M2, hp2, hs2, hn2⟩, hc2⟩; refine ⟨_, rfl, ?_⟩; have n_ := Aside0.mk hp2; clear hp2; have hp2 := n_; clear n_; have n_ := Aside0.mk hs2; clear hs2; have hs2 := n_; clear n_; have n_ := Aside0.mk hn2; clear hn2; have hn2 := n_; clear n_; have n_ := Aside0.mk hc2; clear hc2; have hc2 := n_; clear n_)
  simp only [Act.put, List.setIfInBounds_toArray, List.set_cons_succ, List.set_cons_zero]
  have HJ := Aside0.mk (show Kd.N k57 57 w2 base ok (.slice (some ad) n cap) M2 ∧ Chg w w2 (fun k => some k = (Value.slice (some ad) n cap).ownBlock) from ⟨by have h := hn2.out; rw [List.append_nil] at h; exact h, HI.out.2.trans hc2.out (fun k hk => .inl hk)⟩)
  go_loopg [6] 0 (fun kq v6 w' => v6 = .int .i64 20 ∧ Aside0 (Kd.N k57 57 w' base ok (.slice (some ad) n cap) M2 ∧ Chg w w' (fun k => some k = (Value.slice (some ad) n cap).ownBlock)))
  case atStart => exact ⟨rfl, HJ⟩
  case round =>
   clear HJ HI HN
   obtain ⟨rfl, HK⟩ := hrel
   go_wp2
   go_end0
   exact ⟨rfl, ⟨M2, hp2.out, hs2.out, HK.out.1⟩, HK.out.2⟩
set_option maxHeartbeats 4000000 in
set_option maxRecDepth 100000 in
theorem sort_few {w : World} {base : Nat} {ok : Nat → Prop} {v : Value} {xs : List S57} (hn : Kd.N k57 57 w base ok v xs) (hsz : xs.length < 20) {G : S57 → Prop} {q : S57 → S57 → Int} (hq : POrd G q) (hG : ∀ z ∈ xs, G z) (fid : Nat) (fn : Func) (caps : Array Value) (hf : Try.prog.funcs[fid]? = some fn) (hfn : (fn.name == "runtime.NumGoroutine") = false) (hfb : fn.body.isSome = true) (hsay : Says2 w (fun k => some k = v.ownBlock) G fid caps q) :
  Calls Try.prog 35 #[v, .func (.func fid) #[] caps] w fun ex w' => ex = .returned (.tuple #[]) ∧ (∃ ys, ys.Perm xs ∧ Srt q ys ∧ Kd.N k57 57 w' base ok v ys) ∧ Chg w w' (fun k => some k = v.ownBlock) := by
 obtain ⟨A, c, rfl⟩ := Kd.N_slice hn
 cases A with
 | none =>
  have he : xs = [] := by
   have h2 := (Kd.N_reads' hn).2.2
   rcases Nat.eq_zero_or_pos xs.length with h3 | h3
   ·
    exact List.eq_nil_of_length_eq_zero h3
   ·
    obtain ⟨a, ha, _⟩ := h2.2.2 h3
    cases ha
  subst he
  have HN := Aside0.mk hn
  clear hn hG hsay
  go_enter Try.func35, Try.ntmps35
  go_wp2_with ((with_reducible refine gate_callee (f := 53) rfl ?_); (try (refine gate_guard (by rfl) ?_; dsimp only)); refine goesL_ (some 8) rfl rfl Try.func53 (by kernel_rfl) rfl #[.slice none ([] : List S57).length c, .int .i64 0, .func (.func fid) #[] caps] rfl (by (try simp only [List.map_toArray, List.map_cons, List.map_nil]); first | done | rfl) ?_; refine (stable0_calls _ _ _).mono ?_; rintro ex w2 ⟨rfl, hb2⟩; refine ⟨_, rfl, ?_⟩; have n_ := Aside0.mk hb2; clear hb2; have hb2 := n_; clear n_)
  go_end0
  exact ⟨rfl, ⟨[], List.Perm.refl _, Srt.nil, Kd.N_below HN.out hb2.out⟩, Chg.of_below hb2.out _⟩
 | some ad =>
  have HN := Aside0.mk hn
  have HG := Aside0.mk hG
  have HSAY := Aside0.mk hsay
  have HQ := Aside0.mk hq
  clear hn hG hsay hq
  go_enter Try.func35, Try.ntmps35
  go_wp2_with ((with_reducible refine gate_callee (f := 53) rfl ?_); (try (refine gate_guard (by rfl) ?_; dsimp only)); refine goesL_ (some 8) rfl rfl Try.func53 (by kernel_rfl) rfl #[.slice (some ad) xs.length c, .int .i64 (xs.length : Int), .func (.func fid) #[] caps] rfl (by (try simp only [List.map_toArray, List.map_cons, List.map_nil]); first | done | rfl) ?_; refine (stable_few HN.out hsz HQ.out HG.out fid fn caps hf hfn hfb HSAY.out).mono ?_; rintro ex w2 ⟨rfl, hy2, hc2⟩; refine ⟨_, rfl, ?_⟩; have n_ := Aside0.mk hy2; clear hy2; have hy2 := n_; clear n_; have n_ := Aside0.mk hc2; clear hc2; have hc2 := n_; clear n_)
  go_end0
  exact ⟨rfl, hy2.out, hc2.out⟩
end Go.Proofs.Ythpklhkibcenoaa.Sk
