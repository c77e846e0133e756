/- The skip list's first functions, walked. Conditions: those of each theorem. -/
import Derived.Test.YtjlkcidohabcfaaPx4
import Derived.Test.YtjlkcidohabcfaaPx5
import Derived.Test.YtjlkcidohabcfaaH0
import Derived.Test.YtjlkcidohabcfaaHp
import Derived.Test.YtjlkcidohabcfaaHq
import Derived.Test.YtjlkcidohabcfaaHr
namespace Go.Proofs.Ytjlkcidohabcfaa.Sk
open Go.RowKit Go.Proofs.YtjlkcidohabcfaaW.PrintWords Go.Proofs.YtjlkcidohabcfaaW.PrintLast Go.Proofs.YtjlkcidohabcfaaW.PrintMore Go.Proofs.Ytjlkcidohabcfaa.Px
set_option linter.unusedVariables false
set_option linter.unusedSimpArgs false

open Go.Proofs.Ytjlkcidohabcfaa.Sw
theorem k34_mkF (W : World) (ok : Nat → Prop) (x : S34) {A0 : Option Addr} {c0 : Nat} (l0 : x.f0.length ≤ c0) (g0 : Kd.F (Kd.int .u8) W ok A0 x.f0.length x.f0) {A3 : Option Addr} {c3 : Nat} (l3 : x.f3.length ≤ c3) (g3 : Kd.F (Kd.int .u8) W ok A3 x.f3.length x.f3) : Kd.FK k34 W ok x [.slice A0 x.f0.length c0, .int .i64 x.f1, .bool x.f2, .slice A3 x.f3.length c3] := fun W2 hW => k34_mk W2 x l0 (g0 W2 hW) l3 (g3 W2 hW)
def Row (nx : Nat → Nat → Option Nat) (j : Nat) : List (Nat × Tw) → Prop
  | [] => True
  | z :: Z => Chain (fun b => nx b j) z.1 (Z.map Prod.fst)
theorem Row.next {nx : Nat → Nat → Option Nat} {j : Nat} {z : Nat × Tw} {Z : List (Nat × Tw)} (h : Row nx j (z :: Z)) : nx z.1 j = Z.head?.map Prod.fst := (Chain.head (f := fun b => nx b j) h).trans List.head?_map
theorem Row.tail {nx : Nat → Nat → Option Nat} {j : Nat} {z : Nat × Tw} {Z : List (Nat × Tw)} (h : Row nx j (z :: Z)) : Row nx j Z := by
  cases Z with
  | nil => trivial
  | cons y Z => exact h.2
theorem Row.of_way {w : World} {K : Nat → Prop} {g : Nat} {N : List (Nat × Tw)} {nx : Nat → Nat → Option Nat} {cnt sz : Int} {q : S34 → Bool} (hS : SLat w K g N nx cnt sz) {j b : Nat} {Y : List (Nat × Tw)} (hj : j < 12) (h : OnWay N g q j b Y) : Row nx j Y := by
  obtain ⟨X, h1, h2, _⟩ := h
  have hc := hS.chain j hj
  unfold lev at hc
  rw [h1, List.map_append] at hc
  have h3 := Chain.split hc
  cases Y with
  | nil => trivial
  | cons y Y => exact h3.2
theorem OnWay.sub {N : List (Nat × Tw)} {g : Nat} {q : S34 → Bool} {j b : Nat} {Y : List (Nat × Tw)} (h : OnWay N g q j b Y) : ∀ p, p ∈ Y → p ∈ N := by
  obtain ⟨X, h1, _, _⟩ := h
  intro p hp
  have : p ∈ N.filter (tall j) := by rw [h1]; exact List.mem_append_right _ hp
  exact (List.mem_filter.1 this).1
/-- The entries that along tells. -/
def outs (q : S34 → Bool) (Z : List (Nat × Tw)) : List S34 := (Z.takeWhile (fun p => q p.2.e)).map (fun p => p.2.e)
set_option maxHeartbeats 4000000 in
set_option maxRecDepth 100000 in
theorem along_calls {w : World} {K : Nat → Prop} {g : Nat} {N : List (Nat × Tw)} {nx : Nat → Nat → Option Nat} {cnt sz : Int} (hS : SLat w K g N nx cnt sz) (hT : FitT (N.map Prod.snd)) (hlen : N.length ≤ 1000000) (j : Nat) (hj : j < 12) (Z0 : List (Nat × Tw)) (hZN : ∀ p, p ∈ Z0 → p ∈ N) (hZl : Z0.length ≤ N.length) (hZ : Row nx j Z0) (q : S34 → Bool)
    (fid : Nat) (fn : Func) (caps : Array Value) (hf : Try.prog.funcs[fid]? = some fn) (hfn : (fn.name == "runtime.NumGoroutine") = false) (hfb : fn.body.isSome = true) (hso : SoAt w N fid caps q) :
    Calls Try.prog 38 #[pv (Z0.head?.map Prod.fst), .int .i64 (j : Int), .func (.func fid) #[] caps] w fun ex w' => ∃ v, ex = .returned v ∧ Kd.N k34 34 w' w.heap.size (fun k => w.heap.size ≤ k) v (outs q Z0) ∧ Below w.heap.size w w' := by
  have hu59 := Try.underlying59
  have hu57 := Try.underlying57
  have hu34 := Try.underlying34
  have HS := Aside0.mk hS
  have HT := Aside0.mk hT
  have HSO := Aside0.mk hso
  have HLEN := Aside0.mk hlen
  have HZN := Aside0.mk hZN
  have HZL := Aside0.mk hZl
  have HZ := Aside0.mk hZ
  have HJ := Aside0.mk hj
  have hj1 : (j : Int) < 12 := by omega
  clear hS hT hso hlen hZN hZl hZ hj
  go_enter Try.func38, Try.ntmps38
  go_wp2
  go_loopg [0, 7] Z0.length (fun kq v0 v7 w' => ∃ (Z : List (Nat × Tw)) (xs : List S34), v0 = pv (Z.head?.map Prod.fst) ∧ Aside0 (kq = Z.length) ∧ Aside0 (∀ p, p ∈ Z → p ∈ N) ∧ Aside0 (Row nx j Z) ∧ Aside0 (xs ++ outs q Z = outs q Z0) ∧ Aside0 (xs.length + Z.length ≤ 1000000) ∧ Aside0 (Kd.N k34 34 w' w.heap.size (fun k => w.heap.size ≤ k) v7 xs) ∧ Aside0 (Below w.heap.size w w'))
  case atStart => exact ⟨Z0, [], rfl, ⟨rfl⟩, HZN, HZ, ⟨rfl⟩, ⟨by have h1 := HLEN.out; have h2 := HZL.out; simp; omega⟩, ⟨Kd.N_nil _ _ _ _ _⟩, ⟨Below.refl _ _⟩⟩
  case round =>
    clear HZN HZL HZ
    obtain ⟨Z, xs, rfl, HK, HZN, HZ, HR, HL, HN, HB⟩ := hrel
    obtain ⟨Ao, co, rfl⟩ := Kd.N_slice HN.out
    cases Z with
    | nil =>
      have e1 : pv (([] : List (Nat × Tw)).head?.map Prod.fst) = .pointer none := rfl
      rw [e1]
      go_wp2
      go_ret
      exact ⟨_, rfl, (show xs = outs q Z0 by have h1 := HR.out; simpa [outs] using h1) ▸ HN.out, HB.out⟩
    | cons z Z =>
      have e1 : pv ((z :: Z).head?.map Prod.fst) = .pointer (some ⟨z.1, 0, none⟩) := rfl
      rw [e1]
      have hSr := Aside0.mk (HS.out.below HB.out)
      have HZI := Aside0.mk (HZN.out z (by simp))
      obtain ⟨A0, c0, A3, c3, hy0, hy1, hy2, hy3, hy4⟩ := hSr.out.node z HZI.out
      have hcd0 : wr.cell? ⟨z.1, 0, none⟩ = some (.slice A0 z.2.e.f0.length c0) := (blk_cell hy0 0).trans rfl
      have hcd1 : wr.cell? ⟨z.1, 1, none⟩ = some (.int .i64 z.2.e.f1) := (blk_cell hy0 1).trans rfl
      have hcd2 : wr.cell? ⟨z.1, 2, none⟩ = some (.bool z.2.e.f2) := (blk_cell hy0 2).trans rfl
      have hcd3 : wr.cell? ⟨z.1, 3, none⟩ = some (.slice A3 z.2.e.f3.length c3) := (blk_cell hy0 3).trans rfl
      have n_ := Aside0.mk hy0
      clear hy0
      have hy0 := n_
      clear n_
      have n_ := Aside0.mk hy1
      clear hy1
      have hy1 := n_
      clear n_
      have n_ := Aside0.mk hy2
      clear hy2
      have hy2 := n_
      clear n_
      have n_ := Aside0.mk hy3
      clear hy3
      have hy3 := n_
      clear n_
      have n_ := Aside0.mk hy4
      clear hy4
      have hy4 := n_
      clear n_
      have HOK := Aside0.mk (HT.out.at_ HZI.out)
      cases hqz : q z.2.e with
      | true =>
        have HRN := Aside0.mk (show (xs ++ [z.2.e]) ++ outs q Z = outs q Z0 by
          have h1 := HR.out
          unfold outs at h1 ⊢
          rw [List.takeWhile_cons_of_pos (by exact hqz)] at h1
          rw [← h1]
          simp)
        have HLT := Aside0.mk (Kd.N_lt HN.out)
        go_wp2_with (first
          | ((with_reducible refine gate_dst (N := 16) rfl ?_); (try (refine gate_guard (by rfl) ?_; dsimp only)); refine goesF_ (some 16) rfl rfl hf hfn hfb #[] caps (#[.agg #[.slice A0 z.2.e.f0.length c0, .int .i64 z.2.e.f1, .bool z.2.e.f2, .slice A3 z.2.e.f3.length c3]] ++ caps) rfl rfl (by (try simp only [List.map_toArray, List.map_cons, List.map_nil]); first | done | rfl) ?_; refine (HSO.out z A0 c0 A3 c3 wr HZI.out HB.out hy1.out (Kd.F_now hy2.out)).mono ?_; rintro ex w3 ⟨rfl, hb3⟩; refine ⟨_, rfl, ?_⟩; rw [hqz]; have n_ := Aside0.mk hb3; clear hb3; have hb3 := n_; clear n_; have D3 := Aside0.mk (blk_below hy0.out hb3.out); have hce0 : w3.cell? ⟨z.1, 0, none⟩ = some (.slice A0 z.2.e.f0.length c0) := (blk_cell D3.out 0).trans rfl; have hce1 : w3.cell? ⟨z.1, 1, none⟩ = some (.int .i64 z.2.e.f1) := (blk_cell D3.out 1).trans rfl; have hce2 : w3.cell? ⟨z.1, 2, none⟩ = some (.bool z.2.e.f2) := (blk_cell D3.out 2).trans rfl; have hce3 : w3.cell? ⟨z.1, 3, none⟩ = some (.slice A3 z.2.e.f3.length c3) := (blk_cell D3.out 3).trans rfl)
          | ((with_reducible refine gate_callee (f := 35) rfl ?_); (try (refine gate_guard (by rfl) ?_; dsimp only)); refine goesL_ (some 29) rfl rfl Try.func35 (by kernel_rfl) rfl #[.agg #[.slice A0 z.2.e.f0.length c0, .int .i64 z.2.e.f1, .bool z.2.e.f2, .slice A3 z.2.e.f3.length c3]] rfl (by (try simp only [List.map_toArray, List.map_cons, List.map_nil]); first | done | rfl) ?_; refine (copiedC (Kd.C_below (Kd.F_now hy2.out) hb3.out) hy1.out (Kd.C_below (Kd.F_now hy4.out) hb3.out) hy3.out (okE_len HOK.out.1).1 (okE_len HOK.out.1).2).mono ?_; rintro ex w5 ⟨v0, v3, rfl, hv5, hb5⟩; refine ⟨_, rfl, ?_⟩; obtain ⟨⟨P0, d0, rfl, hl0, hF0⟩, ⟨P3, d3, rfl, hl3, hF3⟩⟩ := hv5; have n_ := Aside0.mk hl0; clear hl0; have hl0 := n_; clear n_; have n_ := Aside0.mk hF0; clear hF0; have hF0 := n_; clear n_; have n_ := Aside0.mk hl3; clear hl3; have hl3 := n_; clear n_; have n_ := Aside0.mk hF3; clear hF3; have hF3 := n_; clear n_; have n_ := Aside0.mk hb5; clear hb5; have hb5 := n_; clear n_; have B5 := Aside0.mk (below_step (below_step HB.out hb3.out) hb5.out); have SZ := Aside0.mk (show wr.heap.size ≤ w3.heap.size ∧ w.heap.size ≤ wr.heap.size from ⟨hb3.out.size, HB.out.size⟩))
          | ((with_reducible refine gate_builtin (b := .append) (xs := #[.tmp 24, .tmp 30]) rfl ?_); at_builtin; refine Kd.N_append k34 (w0 := w) w.heap.size rfl (.tmp 24) (.tmp 30) 27 34 (.agg #[(.slice none 0 0), (.int .i64 0), (.bool false), (.slice none 0 0)]) 64 rfl Try.underlying27 info34 rfl (by decide) (by omega) (.slice Ao xs.length co) xs z.2.e [.slice P0 z.2.e.f0.length d0, .int .i64 z.2.e.f1, .bool z.2.e.f2, .slice P3 z.2.e.f3.length d3] (fun k_ => w.heap.size ≤ k_) (fun k_ => w3.heap.size ≤ k_) rfl (by first | rfl | (go_simp; done) | (go_simp; rfl)) ?aP ?aH ?aF ?aO ?aB ?aS ?aL ?_; (case aP => exact k34_mkF _ _ z.2.e hl0.out hF0.out hl3.out hF3.out); (case aH => exact fun k_ hk => ⟨by have h1 := SZ.out; omega, fun he => by have h1 := HLT.out k_ he.symm; have h2 := SZ.out; omega⟩); (case aF => exact fun k_ hk => by have h1 := B5.out.size; omega); (case aO => exact Kd.N_below HN.out (below_step hb3.out hb5.out)); (case aB => exact B5.out); (case aS => exact B5.out.size); (case aL => have h1 := HL.out; simp only [List.length_cons] at h1; omega); intro v10 w10 hn10 hb10 hgr10 hat10; have HN10 := Aside0.mk hn10; have HB10 := Aside0.mk hb10; clear hn10 hb10 hgr10 hat10; have S10 := Aside0.mk (HS.out.below HB10.out); have hcn : w10.cell? ⟨z.1, 5 + j, none⟩ = some (pv (Z.head?.map Prod.fst)) := (S10.out.cell (List.mem_cons_of_mem _ (List.mem_map_of_mem HZI.out)) HJ.out).trans (congrArg (fun x => some (pv x)) HZ.out.next)))
        go_roundg Z.length
        case measure => have h1 := HK.out; simp only [List.length_cons] at h1; omega
        case rel => exact ⟨Z, xs ++ [z.2.e], rfl, ⟨rfl⟩, ⟨fun p hp => HZN.out p (List.mem_cons_of_mem _ hp)⟩, ⟨HZ.out.tail⟩, HRN, ⟨by have h1 := HL.out; simp only [List.length_cons, List.length_append, List.length_nil] at h1 ⊢; omega⟩, HN10, HB10⟩
      | false =>
        have HRN := Aside0.mk (show xs = outs q Z0 by
          have h1 := HR.out
          unfold outs at h1 ⊢
          rw [List.takeWhile_cons_of_neg (by simp [hqz])] at h1
          simpa using h1)
        go_wp2_with ((with_reducible refine gate_dst (N := 16) rfl ?_); (try (refine gate_guard (by rfl) ?_; dsimp only)); refine goesF_ (some 16) rfl rfl hf hfn hfb #[] caps (#[.agg #[.slice A0 z.2.e.f0.length c0, .int .i64 z.2.e.f1, .bool z.2.e.f2, .slice A3 z.2.e.f3.length c3]] ++ caps) rfl rfl (by (try simp only [List.map_toArray, List.map_cons, List.map_nil]); first | done | rfl) ?_; refine (HSO.out z A0 c0 A3 c3 wr HZI.out HB.out hy1.out (Kd.F_now hy2.out)).mono ?_; rintro ex w3 ⟨rfl, hb3⟩; refine ⟨_, rfl, ?_⟩; rw [hqz]; have n_ := Aside0.mk hb3; clear hb3; have hb3 := n_; clear n_; have D3 := Aside0.mk (blk_below hy0.out hb3.out); have hce0 : w3.cell? ⟨z.1, 0, none⟩ = some (.slice A0 z.2.e.f0.length c0) := (blk_cell D3.out 0).trans rfl; have hce1 : w3.cell? ⟨z.1, 1, none⟩ = some (.int .i64 z.2.e.f1) := (blk_cell D3.out 1).trans rfl; have hce2 : w3.cell? ⟨z.1, 2, none⟩ = some (.bool z.2.e.f2) := (blk_cell D3.out 2).trans rfl; have hce3 : w3.cell? ⟨z.1, 3, none⟩ = some (.slice A3 z.2.e.f3.length c3) := (blk_cell D3.out 3).trans rfl)
        go_ret
        exact ⟨_, rfl, HRN.out ▸ Kd.N_below HN.out hb3.out, below_step HB.out hb3.out⟩
end Go.Proofs.Ytjlkcidohabcfaa.Sk
