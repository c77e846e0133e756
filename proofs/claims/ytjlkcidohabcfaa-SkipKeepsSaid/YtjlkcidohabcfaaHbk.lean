/- The list's entries told anew, each with bytes that may be changed. Conditions: those of each theorem. -/
import Derived.HandedShaped
import Derived.Test.YtjlkcidohabcfaaPx4
import Derived.Test.YtjlkcidohabcfaaPx5
import Derived.Test.YtjlkcidohabcfaaPx23
import Derived.Test.YtjlkcidohabcfaaH0
import Derived.Test.YtjlkcidohabcfaaHp
import Derived.Test.YtjlkcidohabcfaaHq
import Derived.Test.YtjlkcidohabcfaaHr
import Derived.Test.YtjlkcidohabcfaaHu
import Derived.Test.YtjlkcidohabcfaaHv
import Derived.Test.YtjlkcidohabcfaaHl
namespace Go.Proofs.Ytjlkcidohabcfaa.Sk
open Go.RowKit Go.Proofs.YtjlkcidohabcfaaW.PrintWords Go.Proofs.YtjlkcidohabcfaaW.PrintLast Go.Proofs.YtjlkcidohabcfaaW.PrintMore Go.Proofs.Ytjlkcidohabcfaa.Px
set_option linter.unusedVariables false
set_option linter.unusedSimpArgs false

open Go.Proofs.Ytjlkcidohabcfaa.Sw
/-- A row's block lies behind lo, is one of bytes, and no cell of it is frozen. -/
def Th (lo : Nat) (w : World) (A : Option Addr) (n : Nat) : Prop := ∀ ad, A = some ad → 0 < n → lo ≤ ad.block ∧ ∃ cells, w.heap[ad.block]? = some (.cells cells 5 (0, 0))
theorem Th.below {lo : Nat} {w w1 : World} {A : Option Addr} {n : Nat} (h : Th lo w A n) (hb : Below w.heap.size w w1) : Th lo w1 A n := by
  intro ad ha hn
  obtain ⟨h1, cells, hc⟩ := h ad ha hn
  exact ⟨h1, cells, blk_below hc hb⟩
/-- Entries whose bytes may be changed. -/
def kw (lo : Nat) : Kd S34 where
  sz := 4
  E := []
  K := fun w x cs => k34.K w x cs ∧ ∀ A n c, Value.slice A n c ∈ cs → Th lo w A n
  M := fun _ _ _ _ _ => False
  K_len := fun h => k34.K_len h.1
  K_one := fun h => k34.K_one h.1
  K_below := fun hb h => ⟨k34.K_below hb h.1, fun A n c hm => (h.2 A n c hm).below hb⟩
  K_of_M := fun h => h.elim
  M_mono := fun _ h => h
  M_bound := fun h => h.elim
  M_move := fun _ h => h
  M_lower := fun _ h => h
theorem th_R {lo : Nat} {w : World} {base : Nat} {ok : Nat → Prop} {v : Value} {xs : List Int} (hlo : lo ≤ base) (h : Kd.R (Kd.int .u8) 5 w base ok v xs) : ∃ A c, v = .slice A xs.length c ∧ xs.length ≤ c ∧ Kd.F (Kd.int .u8) w (fun k => base ≤ k) A xs.length xs ∧ ∀ W' : World, (∀ k, base ≤ k → k < w.heap.size → W'.heap[k]? = w.heap[k]?) → Th lo W' A xs.length := by
  obtain ⟨A, c, rfl, hl, hF⟩ := Kd.V_of_R (Kd.R_mono (Kd.R_bound h) (ok' := fun k => base ≤ k) (fun k hk => hk.2.1))
  refine ⟨A, c, rfl, hl, hF, fun W' hW ad ha hn => ?_⟩
  subst ha
  obtain ⟨_, h4, h5, q, hq, cells, h6⟩ := (Kd.R_bound h).1 ad.block (by simp [Value.ownBlock])
  have hq5 : q = 5 := by
    rcases List.mem_cons.1 hq with hq | hq
    · exact hq
    · exact (List.not_mem_nil hq).elim
  subst hq5
  exact ⟨Nat.le_trans hlo h4, cells, (hW _ h4 h5).trans h6⟩
theorem copiedR (lo : Nat) {w : World} (hlo : lo ≤ w.heap.size) {A0 A3 : Option Addr} {c0 c3 : Nat} {e : S34} (h0 : Kd.C (Kd.int .u8) w A0 e.f0.length e.f0) (g0 : e.f0.length ≤ c0) (h3 : Kd.C (Kd.int .u8) w A3 e.f3.length e.f3) (g3 : e.f3.length ≤ c3) (l0 : e.f0.length ≤ 140737488351232) (l3 : e.f3.length ≤ 140737488351232) :
    Calls Try.prog 35 #[.agg #[.slice A0 e.f0.length c0, .int .i64 e.f1, .bool e.f2, .slice A3 e.f3.length c3]] w fun ex w' => ∃ P0 d0 P3 d3, ex = .returned (.agg #[.slice P0 e.f0.length d0, .int .i64 e.f1, .bool e.f2, .slice P3 e.f3.length d3]) ∧ Kd.FK (kw lo) w' (fun k => w.heap.size ≤ k) e [.slice P0 e.f0.length d0, .int .i64 e.f1, .bool e.f2, .slice P3 e.f3.length d3] ∧ Below w.heap.size w w' :=
  (skip_copied.calls A0 c0 e.f0 e.f1 e.f2 A3 c3 e.f3 _ _ _ _ w h0 g0 h3 g3 (copied_f l0 l3)).mono (by
    rintro ex w' ⟨v0, v3, rfl, hr0, hr3, hb⟩
    obtain ⟨P0, d0, rfl, hl0, hF0, ht0⟩ := th_R hlo hr0
    obtain ⟨P3, d3, rfl, hl3, hF3, ht3⟩ := th_R hlo hr3
    refine ⟨P0, d0, P3, d3, rfl, fun W' hW => ⟨k34_mkF _ _ e hl0 hF0 hl3 hF3 W' hW, fun A n c hm => ?_⟩, hb⟩
    simp only [List.mem_cons, List.not_mem_nil, or_false, Value.slice.injEq, reduceCtorEq, false_or] at hm
    rcases hm with ⟨rfl, rfl, rfl⟩ | ⟨rfl, rfl, rfl⟩
    · exact ht0 W' hW
    · exact ht3 W' hW)
theorem copyR (lo : Nat) {w : World} (hlo : lo ≤ w.heap.size) {A0 A3 : Option Addr} {c0 c3 : Nat} {e : S34} (h0 : Kd.C (Kd.int .u8) w A0 e.f0.length e.f0) (g0 : e.f0.length ≤ c0) (h3 : Kd.C (Kd.int .u8) w A3 e.f3.length e.f3) (g3 : e.f3.length ≤ c3) (l0 : e.f0.length ≤ 140737488351232) (l3 : e.f3.length ≤ 140737488351232) :
    Calls Try.prog 26 #[.agg #[.slice A0 e.f0.length c0, .int .i64 e.f1, .bool e.f2, .slice A3 e.f3.length c3]] w fun ex w' => ∃ P0 d0 P3 d3, ex = .returned (.agg #[.slice P0 e.f0.length d0, .int .i64 e.f1, .bool e.f2, .slice P3 e.f3.length d3]) ∧ Kd.FK (kw lo) w' (fun k => w.heap.size ≤ k) e [.slice P0 e.f0.length d0, .int .i64 e.f1, .bool e.f2, .slice P3 e.f3.length d3] ∧ Below w.heap.size w w' :=
  (sawyerref06_Copy.calls A0 c0 e.f0 e.f1 e.f2 A3 c3 e.f3 _ _ _ _ w h0 g0 h3 g3 (copy_f l0 l3)).mono (by
    rintro ex w' ⟨v0, v3, rfl, hr0, hr3, hb⟩
    obtain ⟨P0, d0, rfl, hl0, hF0, ht0⟩ := th_R hlo hr0
    obtain ⟨P3, d3, rfl, hl3, hF3, ht3⟩ := th_R hlo hr3
    refine ⟨P0, d0, P3, d3, rfl, fun W' hW => ⟨k34_mkF _ _ e hl0 hF0 hl3 hF3 W' hW, fun A n c hm => ?_⟩, hb⟩
    simp only [List.mem_cons, List.not_mem_nil, or_false, Value.slice.injEq, reduceCtorEq, false_or] at hm
    rcases hm with ⟨rfl, rfl, rfl⟩ | ⟨rfl, rfl, rfl⟩
    · exact ht0 W' hW
    · exact ht3 W' hW)
/-- A cell that holds a byte and may be changed. -/
def isB (w : World) (p : Addr) : Prop := (∃ b, w.cell? p = some (.int .u8 b)) ∧ w.frozen? p = false
/-- Bytes of the blocks S may have changed, and nothing else. -/
structure Mut (w w' : World) (S : Nat → Prop) : Prop where
  size : w'.heap.size = w.heap.size
  far : ∀ k, ¬ S k → w'.heap[k]? = w.heap[k]?
  byte : ∀ p, isB w p → isB w' p
theorem Mut.refl (w : World) (S : Nat → Prop) : Mut w w S := ⟨rfl, fun _ _ => rfl, fun _ h => h⟩
theorem Mut.set {w w' : World} {S : Nat → Prop} (h : Mut w w' S) {p : Addr} (hp : S p.block) (x : Int) : Mut w (w'.setCell p (.int .u8 x)) S :=
  ⟨(by simpa [World.setCell] using h.size), fun k hk => (Below.heap_setCell w' p _ k (fun he => hk (he ▸ hp))).trans (h.far k hk), fun q hq => ⟨someInt_setCell (h.byte q hq).1 p x, (World.frozen?_setCell _ _ _ _).trans (h.byte q hq).2⟩⟩
theorem Mut.drew {w w' : World} {S : Nat → Prop} (h : Mut w w' S) : Mut w w'.drew S := ⟨h.size, h.far, h.byte⟩
theorem row_isB {lo : Nat} {w : World} {A : Option Addr} {xs : List Int} (h : Kd.C (Kd.int .u8) w A xs.length xs) (ht : Th lo w A xs.length) (j : Nat) (hj : j < xs.length) : ∃ ad, A = some ad ∧ isB w (ad.add j) ∧ lo ≤ ad.block ∧ ad.block < w.heap.size ∧ ∃ cells, w.heap[ad.block]? = some (.cells cells 5 (0, 0)) := by
  obtain ⟨ad, c, hA, hl, hK, hc⟩ := Kd.C_get h 0 (j : Int) (by omega) (by omega)
  obtain ⟨h1, cells, h2⟩ := ht ad hA (by omega)
  refine ⟨ad, hA, ⟨⟨xs.getD (j : Int).toNat 0, ?_⟩, ?_⟩, h1, blk_lt h2, cells, h2⟩
  · obtain ⟨_, _⟩ := hK
    have h4 := hc 0 (.int .u8 (xs.getD (j : Int).toNat 0)) rfl
    have h5 : (j : Int).toNat * (Kd.int .u8).sz + 0 = j := by
      show (j : Int).toNat * 1 + 0 = j
      omega
    rw [h5] at h4
    exact h4
  · have h3 : (ad.add j).block = ad.block := by
      unfold Addr.add
      split <;> rfl
    unfold World.frozen?
    rw [h3, h2]
    simp
set_option maxHeartbeats 4000000 in
set_option maxRecDepth 100000 in
theorem along_own {w : World} {K : Nat → Prop} {g : Nat} {N : List (Nat × Tw)} {nx : Nat → Nat → Option Nat} {cnt sz : Int} (hS : SLat w K g N nx cnt sz) (hT : FitT (N.map Prod.snd)) (hlen : N.length ≤ 1000000) (j : Nat) (hj : j < 12) (Z0 : List (Nat × Tw)) (hZN : ∀ p, p ∈ Z0 → p ∈ N) (hZl : Z0.length ≤ N.length) (hZ : Row nx j Z0) (q : S34 → Bool)
    (fid : Nat) (fn : Func) (caps : Array Value) (hf : Try.prog.funcs[fid]? = some fn) (hfn : (fn.name == "runtime.NumGoroutine") = false) (hfb : fn.body.isSome = true) (hso : SoAt w N fid caps q) :
    Calls Try.prog 38 #[pv (Z0.head?.map Prod.fst), .int .i64 (j : Int), .func (.func fid) #[] caps] w fun ex w' => ∃ v, ex = .returned v ∧ Kd.N (kw w.heap.size) 34 w' w.heap.size (fun k => w.heap.size ≤ k) v (outs q Z0) ∧ Below w.heap.size w w' := by
  have hu59 := Try.underlying59
  have hu57 := Try.underlying57
  have hu34 := Try.underlying34
  have HS := Aside0.mk hS
  have HT := Aside0.mk hT
  have HSO := Aside0.mk hso
  have HLEN := Aside0.mk hlen
  have HZN := Aside0.mk hZN
  have HZL := Aside0.mk hZl
  have HZ := Aside0.mk hZ
  have HJ := Aside0.mk hj
  have hj1 : (j : Int) < 12 := by omega
  clear hS hT hso hlen hZN hZl hZ hj
  go_enter Try.func38, Try.ntmps38
  go_wp2
  go_loopg [0, 7] Z0.length (fun kq v0 v7 w' => ∃ (Z : List (Nat × Tw)) (xs : List S34), v0 = pv (Z.head?.map Prod.fst) ∧ Aside0 (kq = Z.length) ∧ Aside0 (∀ p, p ∈ Z → p ∈ N) ∧ Aside0 (Row nx j Z) ∧ Aside0 (xs ++ outs q Z = outs q Z0) ∧ Aside0 (xs.length + Z.length ≤ 1000000) ∧ Aside0 (Kd.N (kw w.heap.size) 34 w' w.heap.size (fun k => w.heap.size ≤ k) v7 xs) ∧ Aside0 (Below w.heap.size w w'))
  case atStart => exact ⟨Z0, [], rfl, ⟨rfl⟩, HZN, HZ, ⟨rfl⟩, ⟨by have h1 := HLEN.out; have h2 := HZL.out; simp; omega⟩, ⟨Kd.N_nil _ _ _ _ _⟩, ⟨Below.refl _ _⟩⟩
  case round =>
    clear HZN HZL HZ
    obtain ⟨Z, xs, rfl, HK, HZN, HZ, HR, HL, HN, HB⟩ := hrel
    obtain ⟨Ao, co, rfl⟩ := Kd.N_slice HN.out
    cases Z with
    | nil =>
      have e1 : pv (([] : List (Nat × Tw)).head?.map Prod.fst) = .pointer none := rfl
      rw [e1]
      go_wp2
      go_ret
      exact ⟨_, rfl, (show xs = outs q Z0 by have h1 := HR.out; simpa [outs] using h1) ▸ HN.out, HB.out⟩
    | cons z Z =>
      have e1 : pv ((z :: Z).head?.map Prod.fst) = .pointer (some ⟨z.1, 0, none⟩) := rfl
      rw [e1]
      have hSr := Aside0.mk (HS.out.below HB.out)
      have HZI := Aside0.mk (HZN.out z (by simp))
      obtain ⟨A0, c0, A3, c3, hy0, hy1, hy2, hy3, hy4⟩ := hSr.out.node z HZI.out
      have hcd0 : wr.cell? ⟨z.1, 0, none⟩ = some (.slice A0 z.2.e.f0.length c0) := (blk_cell hy0 0).trans rfl
      have hcd1 : wr.cell? ⟨z.1, 1, none⟩ = some (.int .i64 z.2.e.f1) := (blk_cell hy0 1).trans rfl
      have hcd2 : wr.cell? ⟨z.1, 2, none⟩ = some (.bool z.2.e.f2) := (blk_cell hy0 2).trans rfl
      have hcd3 : wr.cell? ⟨z.1, 3, none⟩ = some (.slice A3 z.2.e.f3.length c3) := (blk_cell hy0 3).trans rfl
      have n_ := Aside0.mk hy0
      clear hy0
      have hy0 := n_
      clear n_
      have n_ := Aside0.mk hy1
      clear hy1
      have hy1 := n_
      clear n_
      have n_ := Aside0.mk hy2
      clear hy2
      have hy2 := n_
      clear n_
      have n_ := Aside0.mk hy3
      clear hy3
      have hy3 := n_
      clear n_
      have n_ := Aside0.mk hy4
      clear hy4
      have hy4 := n_
      clear n_
      have HOK := Aside0.mk (HT.out.at_ HZI.out)
      cases hqz : q z.2.e with
      | true =>
        have HRN := Aside0.mk (show (xs ++ [z.2.e]) ++ outs q Z = outs q Z0 by
          have h1 := HR.out
          unfold outs at h1 ⊢
          rw [List.takeWhile_cons_of_pos (by exact hqz)] at h1
          rw [← h1]
          simp)
        have HLT := Aside0.mk (Kd.N_lt HN.out)
        go_wp2_with (first
          | ((with_reducible refine gate_dst (N := 16) rfl ?_); (try (refine gate_guard (by rfl) ?_; dsimp only)); refine goesF_ (some 16) rfl rfl hf hfn hfb #[] caps (#[.agg #[.slice A0 z.2.e.f0.length c0, .int .i64 z.2.e.f1, .bool z.2.e.f2, .slice A3 z.2.e.f3.length c3]] ++ caps) rfl rfl (by (try simp only [List.map_toArray, List.map_cons, List.map_nil]); first | done | rfl) ?_; refine (HSO.out z A0 c0 A3 c3 wr HZI.out HB.out hy1.out (Kd.F_now hy2.out)).mono ?_; rintro ex w3 ⟨rfl, hb3⟩; refine ⟨_, rfl, ?_⟩; rw [hqz]; have n_ := Aside0.mk hb3; clear hb3; have hb3 := n_; clear n_; have D3 := Aside0.mk (blk_below hy0.out hb3.out); have hce0 : w3.cell? ⟨z.1, 0, none⟩ = some (.slice A0 z.2.e.f0.length c0) := (blk_cell D3.out 0).trans rfl; have hce1 : w3.cell? ⟨z.1, 1, none⟩ = some (.int .i64 z.2.e.f1) := (blk_cell D3.out 1).trans rfl; have hce2 : w3.cell? ⟨z.1, 2, none⟩ = some (.bool z.2.e.f2) := (blk_cell D3.out 2).trans rfl; have hce3 : w3.cell? ⟨z.1, 3, none⟩ = some (.slice A3 z.2.e.f3.length c3) := (blk_cell D3.out 3).trans rfl)
          | ((with_reducible refine gate_callee (f := 35) rfl ?_); (try (refine gate_guard (by rfl) ?_; dsimp only)); refine goesL_ (some 29) rfl rfl Try.func35 (by kernel_rfl) rfl #[.agg #[.slice A0 z.2.e.f0.length c0, .int .i64 z.2.e.f1, .bool z.2.e.f2, .slice A3 z.2.e.f3.length c3]] rfl (by (try simp only [List.map_toArray, List.map_cons, List.map_nil]); first | done | rfl) ?_; refine (copiedR w.heap.size (Nat.le_trans HB.out.size hb3.out.size) (Kd.C_below (Kd.F_now hy2.out) hb3.out) hy1.out (Kd.C_below (Kd.F_now hy4.out) hb3.out) hy3.out (okE_len HOK.out.1).1 (okE_len HOK.out.1).2).mono ?_; rintro ex w5 ⟨P0, d0, P3, d3, rfl, hkf, hb5⟩; refine ⟨_, rfl, ?_⟩; have n_ := Aside0.mk hkf; clear hkf; have hkf := n_; clear n_; have n_ := Aside0.mk hb5; clear hb5; have hb5 := n_; clear n_; have B5 := Aside0.mk (below_step (below_step HB.out hb3.out) hb5.out); have SZ := Aside0.mk (show wr.heap.size ≤ w3.heap.size ∧ w.heap.size ≤ wr.heap.size from ⟨hb3.out.size, HB.out.size⟩))
          | ((with_reducible refine gate_builtin (b := .append) (xs := #[.tmp 24, .tmp 30]) rfl ?_); at_builtin; refine Kd.N_append (kw w.heap.size) (w0 := w) w.heap.size rfl (.tmp 24) (.tmp 30) 27 34 (.agg #[(.slice none 0 0), (.int .i64 0), (.bool false), (.slice none 0 0)]) 64 rfl Try.underlying27 info34 rfl (by show 0 < 4; decide) (by omega) (.slice Ao xs.length co) xs z.2.e [.slice P0 z.2.e.f0.length d0, .int .i64 z.2.e.f1, .bool z.2.e.f2, .slice P3 z.2.e.f3.length d3] (fun k_ => w.heap.size ≤ k_) (fun k_ => w3.heap.size ≤ k_) rfl (by first | rfl | (go_simp; done) | (go_simp; rfl)) ?aP ?aH ?aF ?aO ?aB ?aS ?aL ?_; (case aP => exact hkf.out); (case aH => exact fun k_ hk => ⟨by have h1 := SZ.out; omega, fun he => by have h1 := HLT.out k_ he.symm; have h2 := SZ.out; omega⟩); (case aF => exact fun k_ hk => by have h1 := B5.out.size; omega); (case aO => exact Kd.N_below HN.out (below_step hb3.out hb5.out)); (case aB => exact B5.out); (case aS => exact B5.out.size); (case aL => have h1 := HL.out; simp only [List.length_cons] at h1; omega); intro v10 w10 hn10 hb10 hgr10 hat10; have HN10 := Aside0.mk hn10; have HB10 := Aside0.mk hb10; clear hn10 hb10 hgr10 hat10; have S10 := Aside0.mk (HS.out.below HB10.out); have hcn : w10.cell? ⟨z.1, 5 + j, none⟩ = some (pv (Z.head?.map Prod.fst)) := (S10.out.cell (List.mem_cons_of_mem _ (List.mem_map_of_mem HZI.out)) HJ.out).trans (congrArg (fun x => some (pv x)) HZ.out.next)))
        go_roundg Z.length
        case measure => have h1 := HK.out; simp only [List.length_cons] at h1; omega
        case rel => exact ⟨Z, xs ++ [z.2.e], rfl, ⟨rfl⟩, ⟨fun p hp => HZN.out p (List.mem_cons_of_mem _ hp)⟩, ⟨HZ.out.tail⟩, HRN, ⟨by have h1 := HL.out; simp only [List.length_cons, List.length_append, List.length_nil] at h1 ⊢; omega⟩, HN10, HB10⟩
      | false =>
        have HRN := Aside0.mk (show xs = outs q Z0 by
          have h1 := HR.out
          unfold outs at h1 ⊢
          rw [List.takeWhile_cons_of_neg (by simp [hqz])] at h1
          simpa using h1)
        go_wp2_with ((with_reducible refine gate_dst (N := 16) rfl ?_); (try (refine gate_guard (by rfl) ?_; dsimp only)); refine goesF_ (some 16) rfl rfl hf hfn hfb #[] caps (#[.agg #[.slice A0 z.2.e.f0.length c0, .int .i64 z.2.e.f1, .bool z.2.e.f2, .slice A3 z.2.e.f3.length c3]] ++ caps) rfl rfl (by (try simp only [List.map_toArray, List.map_cons, List.map_nil]); first | done | rfl) ?_; refine (HSO.out z A0 c0 A3 c3 wr HZI.out HB.out hy1.out (Kd.F_now hy2.out)).mono ?_; rintro ex w3 ⟨rfl, hb3⟩; refine ⟨_, rfl, ?_⟩; rw [hqz]; have n_ := Aside0.mk hb3; clear hb3; have hb3 := n_; clear n_; have D3 := Aside0.mk (blk_below hy0.out hb3.out); have hce0 : w3.cell? ⟨z.1, 0, none⟩ = some (.slice A0 z.2.e.f0.length c0) := (blk_cell D3.out 0).trans rfl; have hce1 : w3.cell? ⟨z.1, 1, none⟩ = some (.int .i64 z.2.e.f1) := (blk_cell D3.out 1).trans rfl; have hce2 : w3.cell? ⟨z.1, 2, none⟩ = some (.bool z.2.e.f2) := (blk_cell D3.out 2).trans rfl; have hce3 : w3.cell? ⟨z.1, 3, none⟩ = some (.slice A3 z.2.e.f3.length c3) := (blk_cell D3.out 3).trans rfl)
        go_ret
        exact ⟨_, rfl, HRN.out ▸ Kd.N_below HN.out hb3.out, below_step HB.out hb3.out⟩
attribute [local go_sem] max2_int min2_int max_two min_two max_three min_three max_four min_four
set_option maxHeartbeats 4000000 in
set_option maxRecDepth 100000 in
theorem level_own {w : World} {K : Nat → Prop} {g : Nat} {N : List (Nat × Tw)} {nx : Nat → Nat → Option Nat} {cnt sz : Int} (hS : SLat w K g N nx cnt sz) (hT : FitT (N.map Prod.snd)) (hlen : N.length ≤ 1000000) (height : Int) (hh : height ≤ 9223372036854775807) :
    Calls Try.prog 23 #[.pointer (some ⟨g, 0, none⟩), .int .i64 height] w fun ex w' => ∃ v, ex = .returned v ∧ Kd.N (kw w.heap.size) 34 w' w.heap.size (fun k => w.heap.size ≤ k) v (levT (N.map Prod.snd) height) ∧ Below w.heap.size w w' := by
  have hu61 := Try.underlying61
  have hu59 := Try.underlying59
  have hu57 := Try.underlying57
  by_cases h1 : height < 1
  · have hlt := eq_true h1
    have hw0 : wrap64 0 = 0 := wrap_in (by omega) (by omega)
    have HLV := Aside0.mk (levT_of (height := height) (j := 0) hT (by omega))
    obtain ⟨o, ho⟩ : ∃ o, o = nx g 0 := ⟨_, rfl⟩
    have hcg : w.cell? ⟨g, 5, none⟩ = some (pv o) := (hS.cell (j := 0) (by simp) (by omega)).trans (by rw [ho])
    have HO := Aside0.mk (ho.trans (hS.first (by omega)))
    clear ho
    have HS := Aside0.mk hS
    have HT := Aside0.mk hT
    have HLEN := Aside0.mk hlen
    clear hS hT hlen hh h1
    go_enter Try.func23, Try.ntmps23
    go_wp2_with ((with_reducible refine gate_callee (f := 38) rfl ?_); (try (refine gate_guard (by rfl) ?_; dsimp only)); refine goesL_ (some 23) rfl rfl Try.func38 (by kernel_rfl) rfl #[pv o, .int .i64 0, .func (.func 44) #[] #[]] rfl (by (try simp only [List.map_toArray, List.map_cons, List.map_nil]); first | done | rfl) ?_; refine (calls_of_args (by first | (rw [HO.out, hwr]; done) | (rw [HO.out] <;> rfl)) (along_own HS.out HT.out HLEN.out 0 (by omega) (N.filter (tall 0)) (fun p hp => (List.mem_filter.1 hp).1) (List.length_filter_le _ _) (HS.out.row (by omega)) qA 44 _ #[] Try.func44 (by kernel_rfl) rfl (so_all w N))).mono ?_; rintro ex w2 ⟨v, rfl, hn2, hb2⟩; refine ⟨_, rfl, ?_⟩; rw [HLV.out] at hn2; have n_ := Aside0.mk hn2; clear hn2; have hn2 := n_; clear n_; have n_ := Aside0.mk hb2; clear hb2; have hb2 := n_; clear n_)
    go_ret
    exact ⟨v, rfl, hn2.out, hb2.out⟩
  · have hlt := eq_false h1
    obtain ⟨j, hj⟩ : ∃ j : Nat, (j : Int) = height - 1 := ⟨(height - 1).toNat, by omega⟩
    have hwr : wrap64 (height - 1) = (j : Int) := by rw [hj]; exact wrap_in (by omega) (by omega)
    by_cases h12 : j < 12
    · have hd : decide (12 ≤ (j : Int)) = false := decide_eq_false (by omega)
      have hj1 : (j : Int) < 12 := by omega
      have HLV := Aside0.mk (levT_of (height := height) (j := j) hT (by omega))
      obtain ⟨o, ho⟩ : ∃ o, o = nx g j := ⟨_, rfl⟩
      have hcg : w.cell? ⟨g, 5 + j, none⟩ = some (pv o) := (hS.cell (by simp) h12).trans (by rw [ho])
      have HO := Aside0.mk (ho.trans (hS.first h12))
      clear ho
      have HS := Aside0.mk hS
      have HT := Aside0.mk hT
      have HLEN := Aside0.mk hlen
      have HJ := Aside0.mk h12
      clear hS hT hlen h12 hj hh h1
      go_enter Try.func23, Try.ntmps23
      go_wp2_with ((with_reducible refine gate_callee (f := 38) rfl ?_); (try (refine gate_guard (by rfl) ?_; dsimp only)); refine goesL_ (some 23) rfl rfl Try.func38 (by kernel_rfl) rfl #[pv o, .int .i64 (wrap64 (height - 1)), .func (.func 44) #[] #[]] rfl (by (try simp only [List.map_toArray, List.map_cons, List.map_nil]); first | done | rfl) ?_; refine (calls_of_args (by first | (rw [HO.out, hwr]; done) | (rw [HO.out] <;> rfl)) (along_own HS.out HT.out HLEN.out j HJ.out (N.filter (tall j)) (fun p hp => (List.mem_filter.1 hp).1) (List.length_filter_le _ _) (HS.out.row HJ.out) qA 44 _ #[] Try.func44 (by kernel_rfl) rfl (so_all w N))).mono ?_; rintro ex w2 ⟨v, rfl, hn2, hb2⟩; refine ⟨_, rfl, ?_⟩; rw [HLV.out] at hn2; have n_ := Aside0.mk hn2; clear hn2; have hn2 := n_; clear n_; have n_ := Aside0.mk hb2; clear hb2; have hb2 := n_; clear n_)
      go_ret
      exact ⟨v, rfl, hn2.out, hb2.out⟩
    · have hd : decide (12 ≤ (j : Int)) = true := decide_eq_true (by omega)
      have HLV := Aside0.mk (levT_none (height := height) hT (by omega))
      clear h12 hj hh h1
      go_enter Try.func23, Try.ntmps23
      go_wp2
      go_ret
      exact ⟨_, rfl, HLV.out ▸ Kd.N_nil _ _ _ _ _, Below.refl _ _⟩

set_option maxHeartbeats 4000000 in
set_option maxRecDepth 100000 in
theorem all_own {w : World} {K : Nat → Prop} {g : Nat} {N : List (Nat × Tw)} {nx : Nat → Nat → Option Nat} {cnt sz : Int} (hS : SLat w K g N nx cnt sz) (hT : FitT (N.map Prod.snd)) (hlen : N.length ≤ 1000000) :
    Calls Try.prog 19 #[.pointer (some ⟨g, 0, none⟩)] w fun ex w' => ∃ v, ex = .returned v ∧ Kd.N (kw w.heap.size) 34 w' w.heap.size (fun k => w.heap.size ≤ k) v ((N.map Prod.snd).map (fun t => t.e)) ∧ Below w.heap.size w w' := by
  have HLV := Aside0.mk (show levT (N.map Prod.snd) 1 = (N.map Prod.snd).map (fun t => t.e) by
    unfold levT
    rw [List.filter_eq_self.2 (fun t ht => decide_eq_true (hT.ok t ht).2.2.1)])
  have HS := Aside0.mk hS
  have HT := Aside0.mk hT
  have HLEN := Aside0.mk hlen
  clear hS hT hlen
  go_enter Try.func19, Try.ntmps19
  go_wp2_with ((with_reducible refine gate_callee (f := 23) rfl ?_); (try (refine gate_guard (by rfl) ?_; dsimp only)); refine goesL_ (some 4) rfl rfl Try.func23 (by kernel_rfl) rfl #[.pointer (some ⟨g, 0, none⟩), .int .i64 1] rfl (by (try simp only [List.map_toArray, List.map_cons, List.map_nil]); first | done | rfl) ?_; refine (level_own HS.out HT.out HLEN.out 1 (by omega)).mono ?_; rintro ex w2 ⟨v, rfl, hn2, hb2⟩; refine ⟨_, rfl, ?_⟩; rw [HLV.out] at hn2; have n_ := Aside0.mk hn2; clear hn2; have hn2 := n_; clear n_; have n_ := Aside0.mk hb2; clear hb2; have hb2 := n_; clear n_)
  go_ret
  exact ⟨v, rfl, hn2.out, hb2.out⟩
end Go.Proofs.Ytjlkcidohabcfaa.Sk
