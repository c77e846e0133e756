/- The skip list's insertion, walked. Conditions: those of each theorem. -/
import Derived.Test.YtjlkcidohabcfaaPx4
import Derived.Test.YtjlkcidohabcfaaPx5
import Derived.Test.YtjlkcidohabcfaaPx13
import Derived.Test.YtjlkcidohabcfaaH0
import Derived.Test.YtjlkcidohabcfaaHp
import Derived.Test.YtjlkcidohabcfaaHq
import Derived.Test.YtjlkcidohabcfaaHr
import Derived.Test.YtjlkcidohabcfaaHm
import Derived.Test.YtjlkcidohabcfaaHv
import Derived.Test.YtjlkcidohabcfaaHw
namespace Go.Proofs.Ytjlkcidohabcfaa.Sk
open Go.RowKit Go.Proofs.YtjlkcidohabcfaaW.PrintWords Go.Proofs.YtjlkcidohabcfaaW.PrintLast Go.Proofs.YtjlkcidohabcfaaW.PrintMore Go.Proofs.Ytjlkcidohabcfaa.Px
set_option linter.unusedVariables false
set_option linter.unusedSimpArgs false
open Go.Proofs.Ytjlkcidohabcfaa.Sw
set_option maxHeartbeats 4000000 in
set_option maxRecDepth 100000 in
theorem put_new_key {w : World} {K : Nat → Prop} {g : Nat} {N : List (Nat × Tw)} {nx : Nat → Nat → Option Nat} {cnt sz : Int} (hS : SLat w K g N nx cnt sz) (hT : FitT (N.map Prod.snd)) (hKl : ∀ k, K k → k < w.heap.size) (A0 : Option Addr) (c0 : Nat) (e : S34) (A3 : Option Addr) (c3 : Nat) (hr0 : Kd.C (Kd.int .u8) w A0 e.f0.length e.f0) (hc0 : e.f0.length ≤ c0) (hr3 : Kd.C (Kd.int .u8) w A3 e.f3.length e.f3) (hc3 : e.f3.length ≤ c3) (hok : okE e = true) (hgd : Sw.Good e) (n : Nat) (hn1 : 1 ≤ n) (hn12 : n ≤ 12) (hcnt : 0 ≤ cnt ∧ cnt ≤ 1000000000) (hsz : 0 ≤ sz ∧ sz ≤ 1000000000000)
    (y : Nat × Tw) (Y : List (Nat × Tw)) (hY : N.filter (fun p => !qB e.f0 e.f1 p.2.e) = y :: Y) (hkd : decide (y.2.e.f0 = e.f0) = false) :
    Calls Try.prog 21 #[.pointer (some ⟨g, 0, none⟩), .agg #[.slice A0 e.f0.length c0, .int .i64 e.f1, .bool e.f2, .slice A3 e.f3.length c3], .int .i64 (n : Int)] w fun ex w' => ex = .returned (.int .i64 0) ∧ ∃ b K' nx', SLat w' K' g (N.filter (fun p => qB e.f0 e.f1 p.2.e) ++ (b, ⟨e, (n : Int)⟩) :: N.filter (fun p => !qB e.f0 e.f1 p.2.e)) nx' (cnt + 1) (sz + (e.f0.length + e.f3.length + 8)) ∧ (∀ k, K' k → (K k ∨ w.heap.size ≤ k) ∧ k < w'.heap.size) ∧ w.heap.size ≤ b ∧ Chg w w' (fun k => k ∈ g :: N.map Prod.fst) := by
  have hu34 := Try.underlying34
  have hu57 := Try.underlying57
  have hu59 := Try.underlying59
  have hu61 := Try.underlying61
  have HP := Aside0.mk (hT.down (q := qB e.f0 e.f1) (fun a b h h2 => qB_down h h2))
  have HPD := Aside0.mk (OnWay.pd (g := g) HP.out 0)
  have HNX := Aside0.mk (HPD.out.next hS (by omega))
  rw [hT.low, hY] at HPD HNX
  have HS := Aside0.mk hS
  have HT := Aside0.mk hT
  have HKL := Aside0.mk hKl
  have HGE := Aside0.mk hgd
  have HOE := Aside0.mk (okE_len hok)
  have HOK := Aside0.mk (show (if okE e = true then (0 : Int) else 1) = 0 from if_pos hok)
  have hh1 : decide ((n : Int) < 1) = false := decide_eq_false (by omega)
  have hh2 : decide (12 < (n : Int)) = false := decide_eq_false (by omega)
  have HN12 := Aside0.mk hn12
  have HWR := Aside0.mk (put_wraps hok hcnt hsz)
  clear hcnt hsz
  have HYE := Aside0.mk hY
  have HR0 := Aside0.mk hr0
  clear hr0
  have HC0 := Aside0.mk hc0
  clear hc0
  have HR3 := Aside0.mk hr3
  clear hr3
  have HC3 := Aside0.mk hc3
  clear hc3
  clear hS hT hKl hgd hok hn1 hn12 hY
  have HKD := Aside0.mk hkd
  clear hkd
  have HYN := Aside0.mk HPD.out.in_
  have HYO := Aside0.mk (HT.out.at_ HYN.out)
  go_enter Try.func21, Try.ntmps21
  go_wp2_with (first
    | ((with_reducible refine gate_dst (N := 4) rfl ?_); (try (refine gate_guard (by rfl) ?_; dsimp only)); refine box_event ?hg (N := 4) ?hd (cs := #[.slice A0 e.f0.length c0, .int .i64 e.f1, .bool e.f2, .slice A3 e.f3.length c3]) (t := 34) ?hr ?_; (case hd => rfl); (case hg => rfl); (case hr => first | (go_simp; done) | (go_simp; rfl)); intro g4 hqg4 w1 hxg4 hbg4; have n_ := Aside0.mk hqg4; clear hqg4; have hqg4 := n_; clear n_; have n_ := Aside0.mk hxg4; clear hxg4; have hxg4 := n_; clear n_; have n_ := Aside0.mk hbg4; clear hbg4; have hbg4 := n_; clear n_; have hca0 : w1.cell? ⟨g4, 0, none⟩ = some (.slice A0 e.f0.length c0) := (blk_cell hxg4.out 0).trans rfl; have hca1 : w1.cell? ⟨g4, 1, none⟩ = some (.int .i64 e.f1) := (blk_cell hxg4.out 1).trans rfl; have hca2 : w1.cell? ⟨g4, 2, none⟩ = some (.bool e.f2) := (blk_cell hxg4.out 2).trans rfl; have hca3 : w1.cell? ⟨g4, 3, none⟩ = some (.slice A3 e.f3.length c3) := (blk_cell hxg4.out 3).trans rfl)
    | ((with_reducible refine gate_callee (f := 13) rfl ?_); (try (refine gate_guard (by rfl) ?_; dsimp only)); refine goesL_ (some 15) rfl rfl Try.func13 (by kernel_rfl) rfl #[.agg #[.slice A0 e.f0.length c0, .int .i64 e.f1, .bool e.f2, .slice A3 e.f3.length c3]] rfl (by (try simp only [List.map_toArray, List.map_cons, List.map_nil]); first | done | rfl) ?_; refine (checkC (Kd.C_below HR0.out hbg4.out) HC0.out (Kd.C_below HR3.out hbg4.out) HC3.out).mono ?_; rintro ex w2 ⟨rfl, hb2⟩; refine ⟨_, rfl, ?_⟩; rw [HOK.out]; have n_ := Aside0.mk hb2; clear hb2; have hb2 := n_; clear n_; have X2 := Aside0.mk (blk_below hxg4.out hb2.out); have hcb0 : w2.cell? ⟨g4, 0, none⟩ = some (.slice A0 e.f0.length c0) := (blk_cell X2.out 0).trans rfl; have hcb1 : w2.cell? ⟨g4, 1, none⟩ = some (.int .i64 e.f1) := (blk_cell X2.out 1).trans rfl; have hcb2 : w2.cell? ⟨g4, 2, none⟩ = some (.bool e.f2) := (blk_cell X2.out 2).trans rfl; have hcb3 : w2.cell? ⟨g4, 3, none⟩ = some (.slice A3 e.f3.length c3) := (blk_cell X2.out 3).trans rfl)
    | ((with_reducible refine gate_callee (f := 33) rfl ?_); (try (refine gate_guard (by rfl) ?_; dsimp only)); refine goesL_ (some 31) rfl rfl Try.func33 (by kernel_rfl) rfl #[.slice A0 e.f0.length c0, .int .i64 e.f1] rfl (by (try simp only [List.map_toArray, List.map_cons, List.map_nil]); first | done | rfl) ?_; refine (before_calls A0 c0 e.f0 e.f1 w2).mono ?_; rintro ex w3 ⟨ga, gb, rfl, hga, hgb, hla, hlb, hb3⟩; refine ⟨_, rfl, ?_⟩; have n_ := Aside0.mk hga; clear hga; have hga := n_; clear n_; have n_ := Aside0.mk hgb; clear hgb; have hgb := n_; clear n_; have n_ := Aside0.mk hb3; clear hb3; have hb3 := n_; clear n_; clear hla hlb; have B13 := Aside0.mk (below_step (below_step hbg4.out hb2.out) hb3.out); have S3 := Aside0.mk (HS.out.below B13.out))
    | ((with_reducible refine gate_callee (f := 32) rfl ?_); (try (refine gate_guard (by rfl) ?_; dsimp only)); refine goesL_ (some 32) rfl rfl Try.func32 (by kernel_rfl) rfl #[.pointer (some ⟨g, 0, none⟩), .func (.func 48) #[] #[.pointer (some ⟨ga, 0, none⟩), .pointer (some ⟨gb, 0, none⟩)]] rfl (by (try simp only [List.map_toArray, List.map_cons, List.map_nil]); first | done | rfl) ?_; refine (path_calls S3.out (qB e.f0 e.f1) HP.out 48 _ _ Try.func48 (by kernel_rfl) rfl (so_before HT.out hga.out hgb.out (Kd.C_below HR0.out B13.out) HC0.out HGE.out.1)).mono ?_; rintro ex w4 ⟨rfl, hb4⟩; refine ⟨_, rfl, ?_⟩; have n_ := Aside0.mk hb4; clear hb4; have hb4 := n_; clear n_; have B14 := Aside0.mk (below_step B13.out hb4.out))
    | ((with_reducible refine gate_dst (N := 7) rfl ?_); (try (refine gate_guard (by rfl) ?_; dsimp only)); refine box_event ?hg (N := 7) ?hd (cs := #[.pointer none, .pointer none, .pointer none, .pointer none, .pointer none, .pointer none, .pointer none, .pointer none, .pointer none, .pointer none, .pointer none, .pointer none]) (t := 57) ?hr ?_; (case hd => rfl); (case hg => rfl); (case hr => first | (go_simp; done) | (go_simp; rfl)); intro g7 hqg7 w5 hxg7 hbg7; have n_ := Aside0.mk hqg7; clear hqg7; have hqg7 := n_; clear n_; have n_ := Aside0.mk hxg7; clear hxg7; have hxg7 := n_; clear n_; have n_ := Aside0.mk hbg7; clear hbg7; have hbg7 := n_; clear n_; have B15 := Aside0.mk (below_step B14.out hbg7.out); obtain ⟨w6, hst6, h76, hB6⟩ := store57 hxg7.out N g (qB e.f0 e.f1); have n_ := Aside0.mk h76; clear h76; have h76 := n_; clear n_; have G7 := Aside0.mk (show w.heap.size ≤ g7 ∧ w4.heap.size ≤ g7 ∧ g4 < w4.heap.size from ⟨by have h1 := hqg7.out; have h2 := B14.out.size; omega, by have h1 := hqg7.out; omega, by have h1 := blk_lt X2.out; have h2 := hb3.out.size; have h3 := hb4.out.size; omega⟩); have B16 := Aside0.mk (hB6 w.heap.size G7.out.1 w B15.out); have B46 := Aside0.mk (hB6 w4.heap.size G7.out.2.1 w4 hbg7.out); clear hB6; have S6 := Aside0.mk (HS.out.below B16.out); have X6 := Aside0.mk (blk_below (blk_below (blk_below X2.out hb3.out) hb4.out) B46.out); have hcc0 : w6.cell? ⟨g4, 0, none⟩ = some (.slice A0 e.f0.length c0) := (blk_cell X6.out 0).trans rfl; have hcc1 : w6.cell? ⟨g4, 1, none⟩ = some (.int .i64 e.f1) := (blk_cell X6.out 1).trans rfl; have hcc2 : w6.cell? ⟨g4, 2, none⟩ = some (.bool e.f2) := (blk_cell X6.out 2).trans rfl; have hcc3 : w6.cell? ⟨g4, 3, none⟩ = some (.slice A3 e.f3.length c3) := (blk_cell X6.out 3).trans rfl; have hp6 : w6.cell? ⟨g7, 0, none⟩ = some (.pointer (some ⟨pd N g (qB e.f0 e.f1) 0, 0, none⟩)) := (blk_cell h76.out 0).trans (pcells_at N g (qB e.f0 e.f1) 0 (by omega)); have hcn : w6.cell? ⟨pd N g (qB e.f0 e.f1) 0, 5, none⟩ = some (.pointer (some ⟨y.1, 0, none⟩)) := (S6.out.cell (j := 0) HPD.out.mem (by omega)).trans (congrArg (fun x => some (pv x)) HNX.out); obtain ⟨Y0, yc0, Y3, yc3, hy0, hy1, hy2, hy3, hy4⟩ := S6.out.node y HYN.out; have n_ := Aside0.mk hy0; clear hy0; have hy0 := n_; clear n_; have n_ := Aside0.mk hy1; clear hy1; have hy1 := n_; clear n_; have n_ := Aside0.mk hy2; clear hy2; have hy2 := n_; clear n_; have n_ := Aside0.mk hy3; clear hy3; have hy3 := n_; clear n_; have n_ := Aside0.mk hy4; clear hy4; have hy4 := n_; clear n_))
  refine s_ 22 [] (fun w' => w'.cell? ⟨y.1, 0, none⟩ = some (.slice Y0 y.2.e.f0.length yc0) ∧ w'.cell? ⟨g4, 0, none⟩ = some (.slice A0 e.f0.length c0) ∧ w'.cell? ⟨y.1, 1, none⟩ = some (.int .i64 y.2.e.f1) ∧ w'.cell? ⟨g4, 1, none⟩ = some (.int .i64 e.f1)) (hS := ⟨(blk_cell (blk_drew hy0.out) 0).trans rfl, (blk_cell (blk_drew X6.out) 0).trans rfl, (blk_cell (blk_drew hy0.out) 1).trans rfl, (blk_cell (blk_drew X6.out) 1).trans rfl⟩) (h := fun hHeld => ?_)
  refine p_ 0 39 (bb 22 1) (h := ?_)
  refine p_ 1 40 (bb 22 3) (h := ?_)
  refine p_ 2 41 (bb 22 7) (h := ?_)
  refine p_ 3 42 (bb 22 15) (h := ?_)
  refine p_ 4 43 (bb 22 31) (h := ?_)
  refine p_ 5 44 (bb 22 63) (h := ?_)
  refine p_ 6 45 (bb 22 127) (h := ?_)
  refine t_ 7 46 (bb 22 255) hHeld (h := ?_)
  refine p_ 8 47 (bb 22 511) (h := ?_)
  refine t_ 9 48 (bb 22 1023) hHeld (h := ?_)
  refine n_ 10 49 (bb 22 2047) (h := fun K hK => ?_)
  refine goes_ Try.func34 (by kernel_rfl) rfl #[.slice Y0 y.2.e.f0.length yc0, .slice A0 e.f0.length c0] (by rfl) rfl rfl (by (try simp only [List.map_toArray, List.map_cons, List.map_nil]); first | done | rfl) ?_
  refine (equalC (Kd.C_drew (Kd.F_now hy2.out)) hy1.out HYO.out.2.1.1 (Kd.C_below HR0.out (below_drew B16.out)) HC0.out HGE.out.1).mono ?_
  rintro ex w7 ⟨rfl, hbq⟩
  refine ⟨_, rfl, ?_⟩
  rw [HKD.out]
  have n_ := Aside0.mk hbq
  clear hbq
  have hbq := n_
  clear n_
  refine hK.out _ _ ⟨pw_cell_below hbq.out hHeld.1, pw_cell_below hbq.out hHeld.2.1, pw_cell_below hbq.out hHeld.2.2.1, pw_cell_below hbq.out hHeld.2.2.2⟩ (fun hHeld => ?_)
  clear hK K
  refine m_ 49 (h := ?_)
  refine p_ 11 50 (bb 22 4095) (h := ?_)
  refine p_ 12 51 (bb 22 8191) (h := ?_)
  refine o_ 13 52 (bb 22 16383) (h := ?_)
  refine o_ 14 53 (bb 22 32767) (h := ?_)
  refine o_ 15 54 (bb 22 65535) (h := ?_)
  refine o_ 16 55 (bb 22 131071) (h := ?_)
  refine o_ 17 56 (bb 22 262143) (h := ?_)
  refine o_ 18 57 (bb 22 524287) (h := ?_)
  refine o_ 19 58 (bb 22 1048575) (h := ?_)
  refine o_ 20 59 (bb 22 2097151) (h := ?_)
  refine p_ 21 60 (bb 22 4194303) (h := ?_)
  refine d_ (h := ?_)
  have B17 := Aside0.mk (below_step (below_drew B16.out) hbq.out)
  have X7 := Aside0.mk (blk_below (blk_drew X6.out) hbq.out)
  have h77 := Aside0.mk (blk_below (blk_drew h76.out) hbq.out)
  clear hHeld
  have hcf0 : w7.cell? ⟨g4, 0, none⟩ = some (.slice A0 e.f0.length c0) := (blk_cell X7.out 0).trans rfl
  have hcf1 : w7.cell? ⟨g4, 1, none⟩ = some (.int .i64 e.f1) := (blk_cell X7.out 1).trans rfl
  have hcf2 : w7.cell? ⟨g4, 2, none⟩ = some (.bool e.f2) := (blk_cell X7.out 2).trans rfl
  have hcf3 : w7.cell? ⟨g4, 3, none⟩ = some (.slice A3 e.f3.length c3) := (blk_cell X7.out 3).trans rfl
  go_wp2_with (first
    | ((with_reducible refine gate_callee (f := 35) rfl ?_); (try (refine gate_guard (by rfl) ?_; dsimp only)); refine goesL_ (some 62) rfl rfl Try.func35 (by kernel_rfl) rfl #[.agg #[.slice A0 e.f0.length c0, .int .i64 e.f1, .bool e.f2, .slice A3 e.f3.length c3]] rfl (by (try simp only [List.map_toArray, List.map_cons, List.map_nil]); first | done | rfl) ?_; refine (copiedC (Kd.C_below HR0.out B17.out) HC0.out (Kd.C_below HR3.out B17.out) HC3.out HOE.out.1 HOE.out.2).mono ?_; rintro ex w8 ⟨v0, v3, rfl, hv8, hb8⟩; refine ⟨_, rfl, ?_⟩; obtain ⟨⟨P0, d0, rfl, hl0, hF0⟩, ⟨P3, d3, rfl, hl3, hF3⟩⟩ := hv8; have n_ := Aside0.mk hl0; clear hl0; have hl0 := n_; clear n_; have n_ := Aside0.mk hF0; clear hF0; have hF0 := n_; clear n_; have n_ := Aside0.mk hl3; clear hl3; have hl3 := n_; clear n_; have n_ := Aside0.mk hF3; clear hF3; have hF3 := n_; clear n_; have n_ := Aside0.mk hb8; clear hb8; have hb8 := n_; clear n_; have B18 := Aside0.mk (below_step B17.out hb8.out))
    | ((with_reducible refine gate_dst (N := 65) rfl ?_); (try (refine gate_guard (by rfl) ?_; dsimp only)); refine box_event ?hg (N := 65) ?hd (cs := #[.slice P0 e.f0.length d0, .int .i64 e.f1, .bool e.f2, .slice P3 e.f3.length d3, .int .i64 (n : Int), .pointer none, .pointer none, .pointer none, .pointer none, .pointer none, .pointer none, .pointer none, .pointer none, .pointer none, .pointer none, .pointer none, .pointer none]) (t := 59) ?hr ?_; (case hd => rfl); (case hg => rfl); (case hr => first | (go_simp; done) | (go_simp; rfl)); intro gt hqgt w9 hxgt hbgt; have n_ := Aside0.mk hqgt; clear hqgt; have hqgt := n_; clear n_; have n_ := Aside0.mk hxgt; clear hxgt; have hxgt := n_; clear n_; have n_ := Aside0.mk hbgt; clear hbgt; have hbgt := n_; clear n_; have B19 := Aside0.mk (below_step B18.out hbgt.out); have Z9 := Aside0.mk (show gt = w8.heap.size ∧ w.heap.size ≤ w7.heap.size ∧ w7.heap.size ≤ w8.heap.size ∧ g4 < w7.heap.size ∧ g7 < w7.heap.size ∧ w.heap.size ≤ g4 ∧ w.heap.size ≤ g7 ∧ gt < w9.heap.size from ⟨hqgt.out, B17.out.size, hb8.out.size, blk_lt X7.out, blk_lt h77.out, by have h1 := hqg4.out; omega, G7.out.1, blk_lt hxgt.out⟩); have HM0 := Aside0.mk (show Mem w9 (fun k => K k ∨ (w7.heap.size ≤ k ∧ k < w8.heap.size)) g (N ++ [(gt, (⟨e, (n : Int)⟩ : Tw))]) (nxN nx (pd N g (qB e.f0 e.f1)) gt 0) cnt sz from (HS.out.below B19.out).mem.add (fun hm => by have h1 := HS.out.lt gt hm; have h2 := Z9.out; omega) (fun k hk => .inl hk) (fun k hk => hk.elim (fun hk => ⟨HS.out.far k hk, by have h1 := HKL.out k hk; have h2 := Z9.out; omega⟩) (fun hk => ⟨fun hm => by have h1 := HS.out.lt k hm; have h2 := Z9.out; omega, by have h2 := Z9.out; omega⟩)) (nil_row w9 _ hxgt.out hl0.out (Kd.F_mono (Kd.F_below (Kd.F_bound hF0.out) hbgt.out) (fun k hk => .inr hk)) hl3.out (Kd.F_mono (Kd.F_below (Kd.F_bound hF3.out) hbgt.out) (fun k hk => .inr hk)))); have X9 := Aside0.mk (blk_below (blk_below X7.out hb8.out) hbgt.out); have h79 := Aside0.mk (blk_below (blk_below h77.out hb8.out) hbgt.out); have CH9 := Aside0.mk (Chg.of_below B19.out (fun k => k ∈ g :: N.map Prod.fst))))
  go_loopg [67] n (fun kq v67 w' => ∃ m : Nat, v67 = .int .i64 (m : Int) ∧ Aside0 (kq + m = n) ∧ Aside0 (Mem w' (fun k => K k ∨ (w7.heap.size ≤ k ∧ k < w8.heap.size)) g (N ++ [(gt, (⟨e, (n : Int)⟩ : Tw))]) (nxN nx (pd N g (qB e.f0 e.f1)) gt m) cnt sz) ∧ Aside0 (w'.heap[g7]? = some (.cells (pcells N g (qB e.f0 e.f1)) 57 (0, 0))) ∧ Aside0 (w'.heap[g4]? = some (.cells #[.slice A0 e.f0.length c0, .int .i64 e.f1, .bool e.f2, .slice A3 e.f3.length c3] 34 (0, 0))) ∧ Aside0 (Chg w w' (fun k => k ∈ g :: N.map Prod.fst)) ∧ Aside0 (w9.heap.size ≤ w'.heap.size))
  case atStart => exact ⟨0, rfl, ⟨rfl⟩, HM0, h79, X9, CH9, ⟨Nat.le_refl _⟩⟩
  case round =>
    clear HM0 h79 X9 CH9
    obtain ⟨m, rfl, HK, HM, H7, H4, HCH, HSI⟩ := hrel
    cases gk with
    | zero =>
      have hmn : m = n := by have h1 := HK.out; omega
      subst hmn
      have hdm : decide ((m : Int) < (m : Int)) = false := decide_eq_false (by omega)
      have hcc : wr.cell? ⟨g, 17, none⟩ = some (.int .i64 cnt) := (blk_cell HM.out.head 17).trans rfl
      have hcf := blk_frozen HM.out.head 17
      have hwc := HWR.out.1
      go_wp2
      clear hwc
      have MC := Aside0.mk (HM.out.count (cnt + 1))
      have H41 := Aside0.mk (blk_far (p := ⟨g, 17, none⟩) H4.out (by have h1 := Z9.out; have h2 := HS.out.lt g (by simp); show g4 ≠ g; omega) (.int .i64 (cnt + 1)))
      have CH1 := Aside0.mk (HCH.out.set (p := ⟨g, 17, none⟩) (.inl (by simp)) (.int .i64 (cnt + 1)))
      have HS1 := Aside0.mk (show wr.heap.size ≤ (wr.setCell ⟨g, 17, none⟩ (.int .i64 (cnt + 1))).heap.size by simp [World.setCell])
      clear hcc hcf
      generalize wr.setCell ⟨g, 17, none⟩ (.int .i64 (cnt + 1)) = w1' at MC H41 CH1 HS1 ⊢
      have hcz : w1'.cell? ⟨g, 18, none⟩ = some (.int .i64 sz) := (blk_cell MC.out.head 18).trans rfl
      have hfz := blk_frozen MC.out.head 18
      obtain ⟨hl0, hl1, hl2, hl3⟩ := HWR.out
      refine s_ 16 [15] (fun w' => w'.cell? ⟨g, 18, none⟩ = some (.int .i64 sz) ∧ w'.cell? ⟨g4, 0, none⟩ = some (.slice A0 e.f0.length c0) ∧ w'.cell? ⟨g4, 3, none⟩ = some (.slice A3 e.f3.length c3)) (hS := ⟨(blk_cell MC.out.drew.head 18).trans rfl, (blk_cell (blk_drew H41.out) 0).trans rfl, (blk_cell (blk_drew H41.out) 3).trans rfl⟩) (h := fun hHeld => ?_)
      refine p_ 0 99 (bb 16 1) (h := ?_)
      refine p_ 1 100 (bb 16 3) (h := ?_)
      refine p_ 2 101 (bb 16 7) (h := ?_)
      refine t_ 3 102 (bb 16 15) hHeld (h := ?_)
      refine p_ 4 103 (bb 16 31) (h := ?_)
      refine t_ 5 104 (bb 16 63) hHeld (h := ?_)
      refine p_ 6 105 (bb 16 127) (h := ?_)
      refine p_ 7 106 (bb 16 255) (h := ?_)
      refine t_ 8 107 (bb 16 511) hHeld (h := ?_)
      refine p_ 9 108 (bb 16 1023) (h := ?_)
      refine p_ 10 109 (bb 16 2047) (h := ?_)
      refine p_ 11 110 (bb 16 4095) (h := ?_)
      refine p_ 12 111 (bb 16 8191) (h := ?_)
      refine p_ 13 112 (bb 16 16383) (h := ?_)
      refine p_ 14 113 (bb 16 32767) (h := ?_)
      refine l_ 15 (bb 16 65535) (h := ?_)
      refine d_ (h := ?_)

      go_wp2
      go_ret
      clear hl0 hl1 hl2 hl3 hcz hfz
      have MS := Aside0.mk ((MC.out.size (sz + ((e.f0.length : Int) + (e.f3.length : Int) + 8))).drew)
      exact ⟨rfl, gt, _, _, SLat.insert (t := (⟨e, (m : Int)⟩ : Tw)) HS.out HT.out rfl HN12.out MS.out, fun k hk => hk.elim (fun hk => ⟨.inl hk, by have h1 := HKL.out k hk; have h2 := Z9.out; have h3 := HSI.out; have h4 := HS1.out; simp [World.setCell, World.drew]; omega⟩) (fun hk => ⟨.inr (by have h2 := Z9.out; omega), by have h2 := Z9.out; have h3 := HSI.out; have h4 := HS1.out; simp [World.setCell, World.drew]; omega⟩), by have h2 := Z9.out; omega, (CH1.out.set (p := ⟨g, 18, none⟩) (.inl (by simp)) _).drew⟩
    | succ k1 =>
      have HM12 := Aside0.mk (show m < 12 by have h1 := HK.out; have h2 := HN12.out; omega)
      have hm12 : (m : Int) < 12 := by have h1 := HM12.out; omega
      have hdm : (m < n) = True := eq_true (by have h1 := HK.out; omega)
      have HWM := Aside0.mk (show wrap64 ((m : Int) + 1) = ((m + 1 : Nat) : Int) by rw [wrap_in (by omega) (by omega)]; rfl)
      have HPM0 := Aside0.mk (show (pd N g (qB e.f0 e.f1) m) ∈ g :: N.map Prod.fst from (OnWay.pd HP.out m).mem)
      have HPM := Aside0.mk (show (pd N g (qB e.f0 e.f1) m) ∈ g :: (N ++ [(gt, (⟨e, (n : Int)⟩ : Tw))]).map Prod.fst by have h1 := HPM0.out; rw [List.map_append, ← List.cons_append]; exact List.mem_append_left _ h1)
      have HGM := Aside0.mk (show gt ∈ g :: (N ++ [(gt, (⟨e, (n : Int)⟩ : Tw))]).map Prod.fst by simp)
      have HPN := Aside0.mk (show (pd N g (qB e.f0 e.f1) m) ≠ gt from fun he => by have h1 := HS.out.lt _ HPM0.out; have h2 := Z9.out; omega)
      obtain ⟨o, ho⟩ : ∃ o, o = nxN nx (pd N g (qB e.f0 e.f1)) gt m (pd N g (qB e.f0 e.f1) m) m := ⟨_, rfl⟩
      have HO := Aside0.mk ho
      obtain ⟨oa, hoa⟩ : ∃ oa : Option Addr, pv o = .pointer oa := ⟨_, rfl⟩
      have HOA := Aside0.mk hoa
      clear ho hoa
      have hcs : wr.cell? ⟨gt, 5 + m, none⟩ = some (pv (nxN nx (pd N g (qB e.f0 e.f1)) gt m gt m)) := HM.out.cell HGM.out HM12.out
      have hfs := HM.out.froz HGM.out (5 + m)
      go_wp2
      refine s_ 14 [13] (fun w' => w'.cell? ⟨g7, m, none⟩ = some (.pointer (some ⟨pd N g (qB e.f0 e.f1) m, 0, none⟩)) ∧ w'.cell? ⟨pd N g (qB e.f0 e.f1) m, 5 + m, none⟩ = some (.pointer oa)) (hS := ⟨(blk_cell (blk_drew H7.out) m).trans (pcells_at N g (qB e.f0 e.f1) m HM12.out), (HM.out.drew.cell HPM.out HM12.out).trans (by rw [← HO.out, HOA.out])⟩) (h := fun hHeld => ?_)
      refine p_ 0 70 (bb 14 1) (h := ?_)
      refine p_ 1 71 (bb 14 3) (h := ?_)
      refine p_ 2 72 (bb 14 7) (h := ?_)
      refine p_ 3 73 (bb 14 15) (h := ?_)
      refine t_ 4 74 (bb 14 31) hHeld (h := ?_)
      refine p_ 5 75 (bb 14 63) (h := ?_)
      refine p_ 6 76 (bb 14 127) (h := ?_)
      refine p_ 7 77 (bb 14 255) (h := ?_)
      refine p_ 8 78 (bb 14 511) (h := ?_)
      refine t_ 9 79 (bb 14 1023) hHeld (h := ?_)
      refine p_ 10 80 (bb 14 2047) (h := ?_)
      refine p_ 11 81 (bb 14 4095) (h := ?_)
      refine p_ 12 82 (bb 14 8191) (h := ?_)
      refine l_ 13 (bb 14 16383) (h := ?_)
      refine d_ (h := ?_)

      have M1 := Aside0.mk (HOA.out ▸ (HM.out.put HGM.out HM12.out o).drew)
      have H71 := Aside0.mk (blk_drew (blk_far (p := ⟨gt, 5 + m, none⟩) H7.out (by have h1 := Z9.out; show g7 ≠ gt; omega) (.pointer oa)))
      have H41 := Aside0.mk (blk_drew (blk_far (p := ⟨gt, 5 + m, none⟩) H4.out (by have h1 := Z9.out; show g4 ≠ gt; omega) (.pointer oa)))
      have CH1 := Aside0.mk ((HCH.out.set (p := ⟨gt, 5 + m, none⟩) (.inr (by have h1 := Z9.out; show w.heap.size ≤ gt; omega)) (.pointer oa)).drew)
      have HS1 := Aside0.mk (show wr.heap.size ≤ (wr.setCell ⟨gt, 5 + m, none⟩ (.pointer oa)).drew.heap.size by simp [World.setCell, World.drew])
      clear hcs hfs
      generalize (wr.setCell ⟨gt, 5 + m, none⟩ (.pointer oa)).drew = w1' at M1 H71 H41 CH1 HS1 ⊢
      have hc7 : w1'.cell? ⟨g7, m, none⟩ = some (.pointer (some ⟨(pd N g (qB e.f0 e.f1) m), 0, none⟩)) := (blk_cell H71.out m).trans (pcells_at N g (qB e.f0 e.f1) m HM12.out)
      have hcp := M1.out.cell HPM.out HM12.out
      have hfp := M1.out.froz HPM.out (5 + m)
      go_wp2
      go_roundg k1
      case measure => exact Nat.lt_succ_self _
      case rel => exact ⟨m + 1, by first | rfl | rw [HWM.out], ⟨by have h1 := HK.out; omega⟩, ⟨by have h1 := M1.out.put HPM.out HM12.out (some gt); rw [HO.out, nxN_step HPN.out] at h1; exact h1⟩, ⟨blk_far (p := ⟨(pd N g (qB e.f0 e.f1) m), 5 + m, none⟩) H71.out (by have h1 := Z9.out; have h2 := HS.out.lt _ HPM0.out; show g7 ≠ (pd N g (qB e.f0 e.f1) m); omega) _⟩, ⟨blk_far (p := ⟨(pd N g (qB e.f0 e.f1) m), 5 + m, none⟩) H41.out (by have h1 := Z9.out; have h2 := HS.out.lt _ HPM0.out; show g4 ≠ (pd N g (qB e.f0 e.f1) m); omega) _⟩, ⟨CH1.out.set (.inl HPM0.out) _⟩, ⟨by have h1 := HSI.out; have h2 := HS1.out; simp [World.setCell]; omega⟩⟩
set_option maxHeartbeats 4000000 in
set_option maxRecDepth 100000 in
theorem put_new_seq {w : World} {K : Nat → Prop} {g : Nat} {N : List (Nat × Tw)} {nx : Nat → Nat → Option Nat} {cnt sz : Int} (hS : SLat w K g N nx cnt sz) (hT : FitT (N.map Prod.snd)) (hKl : ∀ k, K k → k < w.heap.size) (A0 : Option Addr) (c0 : Nat) (e : S34) (A3 : Option Addr) (c3 : Nat) (hr0 : Kd.C (Kd.int .u8) w A0 e.f0.length e.f0) (hc0 : e.f0.length ≤ c0) (hr3 : Kd.C (Kd.int .u8) w A3 e.f3.length e.f3) (hc3 : e.f3.length ≤ c3) (hok : okE e = true) (hgd : Sw.Good e) (n : Nat) (hn1 : 1 ≤ n) (hn12 : n ≤ 12) (hcnt : 0 ≤ cnt ∧ cnt ≤ 1000000000) (hsz : 0 ≤ sz ∧ sz ≤ 1000000000000)
    (y : Nat × Tw) (Y : List (Nat × Tw)) (hY : N.filter (fun p => !qB e.f0 e.f1 p.2.e) = y :: Y) (hkd : decide (y.2.e.f0 = e.f0) = true) (hsq : y.2.e.f1 ≠ e.f1) :
    Calls Try.prog 21 #[.pointer (some ⟨g, 0, none⟩), .agg #[.slice A0 e.f0.length c0, .int .i64 e.f1, .bool e.f2, .slice A3 e.f3.length c3], .int .i64 (n : Int)] w fun ex w' => ex = .returned (.int .i64 0) ∧ ∃ b K' nx', SLat w' K' g (N.filter (fun p => qB e.f0 e.f1 p.2.e) ++ (b, ⟨e, (n : Int)⟩) :: N.filter (fun p => !qB e.f0 e.f1 p.2.e)) nx' (cnt + 1) (sz + (e.f0.length + e.f3.length + 8)) ∧ (∀ k, K' k → (K k ∨ w.heap.size ≤ k) ∧ k < w'.heap.size) ∧ w.heap.size ≤ b ∧ Chg w w' (fun k => k ∈ g :: N.map Prod.fst) := by
  have hu34 := Try.underlying34
  have hu57 := Try.underlying57
  have hu59 := Try.underlying59
  have hu61 := Try.underlying61
  have HP := Aside0.mk (hT.down (q := qB e.f0 e.f1) (fun a b h h2 => qB_down h h2))
  have HPD := Aside0.mk (OnWay.pd (g := g) HP.out 0)
  have HNX := Aside0.mk (HPD.out.next hS (by omega))
  rw [hT.low, hY] at HPD HNX
  have HS := Aside0.mk hS
  have HT := Aside0.mk hT
  have HKL := Aside0.mk hKl
  have HGE := Aside0.mk hgd
  have HOE := Aside0.mk (okE_len hok)
  have HOK := Aside0.mk (show (if okE e = true then (0 : Int) else 1) = 0 from if_pos hok)
  have hh1 : decide ((n : Int) < 1) = false := decide_eq_false (by omega)
  have hh2 : decide (12 < (n : Int)) = false := decide_eq_false (by omega)
  have HN12 := Aside0.mk hn12
  have HWR := Aside0.mk (put_wraps hok hcnt hsz)
  clear hcnt hsz
  have HYE := Aside0.mk hY
  have HR0 := Aside0.mk hr0
  clear hr0
  have HC0 := Aside0.mk hc0
  clear hc0
  have HR3 := Aside0.mk hr3
  clear hr3
  have HC3 := Aside0.mk hc3
  clear hc3
  clear hS hT hKl hgd hok hn1 hn12 hY
  have HKD := Aside0.mk hkd
  have hsd : decide (y.2.e.f1 = e.f1) = false := decide_eq_false hsq
  have hsb : (y.2.e.f1 == e.f1) = false := beq_eq_false_iff_ne.2 hsq
  clear hkd hsq
  have HYN := Aside0.mk HPD.out.in_
  have HYO := Aside0.mk (HT.out.at_ HYN.out)
  go_enter Try.func21, Try.ntmps21
  go_wp2_with (first
    | ((with_reducible refine gate_dst (N := 4) rfl ?_); (try (refine gate_guard (by rfl) ?_; dsimp only)); refine box_event ?hg (N := 4) ?hd (cs := #[.slice A0 e.f0.length c0, .int .i64 e.f1, .bool e.f2, .slice A3 e.f3.length c3]) (t := 34) ?hr ?_; (case hd => rfl); (case hg => rfl); (case hr => first | (go_simp; done) | (go_simp; rfl)); intro g4 hqg4 w1 hxg4 hbg4; have n_ := Aside0.mk hqg4; clear hqg4; have hqg4 := n_; clear n_; have n_ := Aside0.mk hxg4; clear hxg4; have hxg4 := n_; clear n_; have n_ := Aside0.mk hbg4; clear hbg4; have hbg4 := n_; clear n_; have hca0 : w1.cell? ⟨g4, 0, none⟩ = some (.slice A0 e.f0.length c0) := (blk_cell hxg4.out 0).trans rfl; have hca1 : w1.cell? ⟨g4, 1, none⟩ = some (.int .i64 e.f1) := (blk_cell hxg4.out 1).trans rfl; have hca2 : w1.cell? ⟨g4, 2, none⟩ = some (.bool e.f2) := (blk_cell hxg4.out 2).trans rfl; have hca3 : w1.cell? ⟨g4, 3, none⟩ = some (.slice A3 e.f3.length c3) := (blk_cell hxg4.out 3).trans rfl)
    | ((with_reducible refine gate_callee (f := 13) rfl ?_); (try (refine gate_guard (by rfl) ?_; dsimp only)); refine goesL_ (some 15) rfl rfl Try.func13 (by kernel_rfl) rfl #[.agg #[.slice A0 e.f0.length c0, .int .i64 e.f1, .bool e.f2, .slice A3 e.f3.length c3]] rfl (by (try simp only [List.map_toArray, List.map_cons, List.map_nil]); first | done | rfl) ?_; refine (checkC (Kd.C_below HR0.out hbg4.out) HC0.out (Kd.C_below HR3.out hbg4.out) HC3.out).mono ?_; rintro ex w2 ⟨rfl, hb2⟩; refine ⟨_, rfl, ?_⟩; rw [HOK.out]; have n_ := Aside0.mk hb2; clear hb2; have hb2 := n_; clear n_; have X2 := Aside0.mk (blk_below hxg4.out hb2.out); have hcb0 : w2.cell? ⟨g4, 0, none⟩ = some (.slice A0 e.f0.length c0) := (blk_cell X2.out 0).trans rfl; have hcb1 : w2.cell? ⟨g4, 1, none⟩ = some (.int .i64 e.f1) := (blk_cell X2.out 1).trans rfl; have hcb2 : w2.cell? ⟨g4, 2, none⟩ = some (.bool e.f2) := (blk_cell X2.out 2).trans rfl; have hcb3 : w2.cell? ⟨g4, 3, none⟩ = some (.slice A3 e.f3.length c3) := (blk_cell X2.out 3).trans rfl)
    | ((with_reducible refine gate_callee (f := 33) rfl ?_); (try (refine gate_guard (by rfl) ?_; dsimp only)); refine goesL_ (some 31) rfl rfl Try.func33 (by kernel_rfl) rfl #[.slice A0 e.f0.length c0, .int .i64 e.f1] rfl (by (try simp only [List.map_toArray, List.map_cons, List.map_nil]); first | done | rfl) ?_; refine (before_calls A0 c0 e.f0 e.f1 w2).mono ?_; rintro ex w3 ⟨ga, gb, rfl, hga, hgb, hla, hlb, hb3⟩; refine ⟨_, rfl, ?_⟩; have n_ := Aside0.mk hga; clear hga; have hga := n_; clear n_; have n_ := Aside0.mk hgb; clear hgb; have hgb := n_; clear n_; have n_ := Aside0.mk hb3; clear hb3; have hb3 := n_; clear n_; clear hla hlb; have B13 := Aside0.mk (below_step (below_step hbg4.out hb2.out) hb3.out); have S3 := Aside0.mk (HS.out.below B13.out))
    | ((with_reducible refine gate_callee (f := 32) rfl ?_); (try (refine gate_guard (by rfl) ?_; dsimp only)); refine goesL_ (some 32) rfl rfl Try.func32 (by kernel_rfl) rfl #[.pointer (some ⟨g, 0, none⟩), .func (.func 48) #[] #[.pointer (some ⟨ga, 0, none⟩), .pointer (some ⟨gb, 0, none⟩)]] rfl (by (try simp only [List.map_toArray, List.map_cons, List.map_nil]); first | done | rfl) ?_; refine (path_calls S3.out (qB e.f0 e.f1) HP.out 48 _ _ Try.func48 (by kernel_rfl) rfl (so_before HT.out hga.out hgb.out (Kd.C_below HR0.out B13.out) HC0.out HGE.out.1)).mono ?_; rintro ex w4 ⟨rfl, hb4⟩; refine ⟨_, rfl, ?_⟩; have n_ := Aside0.mk hb4; clear hb4; have hb4 := n_; clear n_; have B14 := Aside0.mk (below_step B13.out hb4.out))
    | ((with_reducible refine gate_dst (N := 7) rfl ?_); (try (refine gate_guard (by rfl) ?_; dsimp only)); refine box_event ?hg (N := 7) ?hd (cs := #[.pointer none, .pointer none, .pointer none, .pointer none, .pointer none, .pointer none, .pointer none, .pointer none, .pointer none, .pointer none, .pointer none, .pointer none]) (t := 57) ?hr ?_; (case hd => rfl); (case hg => rfl); (case hr => first | (go_simp; done) | (go_simp; rfl)); intro g7 hqg7 w5 hxg7 hbg7; have n_ := Aside0.mk hqg7; clear hqg7; have hqg7 := n_; clear n_; have n_ := Aside0.mk hxg7; clear hxg7; have hxg7 := n_; clear n_; have n_ := Aside0.mk hbg7; clear hbg7; have hbg7 := n_; clear n_; have B15 := Aside0.mk (below_step B14.out hbg7.out); obtain ⟨w6, hst6, h76, hB6⟩ := store57 hxg7.out N g (qB e.f0 e.f1); have n_ := Aside0.mk h76; clear h76; have h76 := n_; clear n_; have G7 := Aside0.mk (show w.heap.size ≤ g7 ∧ w4.heap.size ≤ g7 ∧ g4 < w4.heap.size from ⟨by have h1 := hqg7.out; have h2 := B14.out.size; omega, by have h1 := hqg7.out; omega, by have h1 := blk_lt X2.out; have h2 := hb3.out.size; have h3 := hb4.out.size; omega⟩); have B16 := Aside0.mk (hB6 w.heap.size G7.out.1 w B15.out); have B46 := Aside0.mk (hB6 w4.heap.size G7.out.2.1 w4 hbg7.out); clear hB6; have S6 := Aside0.mk (HS.out.below B16.out); have X6 := Aside0.mk (blk_below (blk_below (blk_below X2.out hb3.out) hb4.out) B46.out); have hcc0 : w6.cell? ⟨g4, 0, none⟩ = some (.slice A0 e.f0.length c0) := (blk_cell X6.out 0).trans rfl; have hcc1 : w6.cell? ⟨g4, 1, none⟩ = some (.int .i64 e.f1) := (blk_cell X6.out 1).trans rfl; have hcc2 : w6.cell? ⟨g4, 2, none⟩ = some (.bool e.f2) := (blk_cell X6.out 2).trans rfl; have hcc3 : w6.cell? ⟨g4, 3, none⟩ = some (.slice A3 e.f3.length c3) := (blk_cell X6.out 3).trans rfl; have hp6 : w6.cell? ⟨g7, 0, none⟩ = some (.pointer (some ⟨pd N g (qB e.f0 e.f1) 0, 0, none⟩)) := (blk_cell h76.out 0).trans (pcells_at N g (qB e.f0 e.f1) 0 (by omega)); have hcn : w6.cell? ⟨pd N g (qB e.f0 e.f1) 0, 5, none⟩ = some (.pointer (some ⟨y.1, 0, none⟩)) := (S6.out.cell (j := 0) HPD.out.mem (by omega)).trans (congrArg (fun x => some (pv x)) HNX.out); obtain ⟨Y0, yc0, Y3, yc3, hy0, hy1, hy2, hy3, hy4⟩ := S6.out.node y HYN.out; have n_ := Aside0.mk hy0; clear hy0; have hy0 := n_; clear n_; have n_ := Aside0.mk hy1; clear hy1; have hy1 := n_; clear n_; have n_ := Aside0.mk hy2; clear hy2; have hy2 := n_; clear n_; have n_ := Aside0.mk hy3; clear hy3; have hy3 := n_; clear n_; have n_ := Aside0.mk hy4; clear hy4; have hy4 := n_; clear n_))
  refine s_ 22 [] (fun w' => w'.cell? ⟨y.1, 0, none⟩ = some (.slice Y0 y.2.e.f0.length yc0) ∧ w'.cell? ⟨g4, 0, none⟩ = some (.slice A0 e.f0.length c0) ∧ w'.cell? ⟨y.1, 1, none⟩ = some (.int .i64 y.2.e.f1) ∧ w'.cell? ⟨g4, 1, none⟩ = some (.int .i64 e.f1)) (hS := ⟨(blk_cell (blk_drew hy0.out) 0).trans rfl, (blk_cell (blk_drew X6.out) 0).trans rfl, (blk_cell (blk_drew hy0.out) 1).trans rfl, (blk_cell (blk_drew X6.out) 1).trans rfl⟩) (h := fun hHeld => ?_)
  refine p_ 0 39 (bb 22 1) (h := ?_)
  refine p_ 1 40 (bb 22 3) (h := ?_)
  refine p_ 2 41 (bb 22 7) (h := ?_)
  refine p_ 3 42 (bb 22 15) (h := ?_)
  refine p_ 4 43 (bb 22 31) (h := ?_)
  refine p_ 5 44 (bb 22 63) (h := ?_)
  refine p_ 6 45 (bb 22 127) (h := ?_)
  refine t_ 7 46 (bb 22 255) hHeld (h := ?_)
  refine p_ 8 47 (bb 22 511) (h := ?_)
  refine t_ 9 48 (bb 22 1023) hHeld (h := ?_)
  refine n_ 10 49 (bb 22 2047) (h := fun K hK => ?_)
  refine goes_ Try.func34 (by kernel_rfl) rfl #[.slice Y0 y.2.e.f0.length yc0, .slice A0 e.f0.length c0] (by rfl) rfl rfl (by (try simp only [List.map_toArray, List.map_cons, List.map_nil]); first | done | rfl) ?_
  refine (equalC (Kd.C_drew (Kd.F_now hy2.out)) hy1.out HYO.out.2.1.1 (Kd.C_below HR0.out (below_drew B16.out)) HC0.out HGE.out.1).mono ?_
  rintro ex w7 ⟨rfl, hbq⟩
  refine ⟨_, rfl, ?_⟩
  rw [HKD.out]
  have n_ := Aside0.mk hbq
  clear hbq
  have hbq := n_
  clear n_
  refine hK.out _ _ ⟨pw_cell_below hbq.out hHeld.1, pw_cell_below hbq.out hHeld.2.1, pw_cell_below hbq.out hHeld.2.2.1, pw_cell_below hbq.out hHeld.2.2.2⟩ (fun hHeld => ?_)
  clear hK K
  refine m_ 49 (h := ?_)
  refine p_ 11 50 (bb 22 4095) (h := ?_)
  refine p_ 12 51 (bb 22 8191) (h := ?_)
  refine p_ 13 52 (bb 22 16383) (h := ?_)
  refine p_ 14 53 (bb 22 32767) (h := ?_)
  refine p_ 15 54 (bb 22 65535) (h := ?_)
  refine p_ 16 55 (bb 22 131071) (h := ?_)
  refine t_ 17 56 (bb 22 262143) hHeld (h := ?_)
  refine p_ 18 57 (bb 22 524287) (h := ?_)
  refine t_ 19 58 (bb 22 1048575) hHeld (h := ?_)
  refine p_ 20 59 (bb 22 2097151) (h := ?_)
  refine p_ 21 60 (bb 22 4194303) (h := ?_)
  refine d_ (h := ?_)
  have B17 := Aside0.mk (below_step (below_drew B16.out) hbq.out)
  have X7 := Aside0.mk (blk_below (blk_drew X6.out) hbq.out)
  have h77 := Aside0.mk (blk_below (blk_drew h76.out) hbq.out)
  clear hHeld
  clear hsd hsb
  have hcf0 : w7.cell? ⟨g4, 0, none⟩ = some (.slice A0 e.f0.length c0) := (blk_cell X7.out 0).trans rfl
  have hcf1 : w7.cell? ⟨g4, 1, none⟩ = some (.int .i64 e.f1) := (blk_cell X7.out 1).trans rfl
  have hcf2 : w7.cell? ⟨g4, 2, none⟩ = some (.bool e.f2) := (blk_cell X7.out 2).trans rfl
  have hcf3 : w7.cell? ⟨g4, 3, none⟩ = some (.slice A3 e.f3.length c3) := (blk_cell X7.out 3).trans rfl
  go_wp2_with (first
    | ((with_reducible refine gate_callee (f := 35) rfl ?_); (try (refine gate_guard (by rfl) ?_; dsimp only)); refine goesL_ (some 62) rfl rfl Try.func35 (by kernel_rfl) rfl #[.agg #[.slice A0 e.f0.length c0, .int .i64 e.f1, .bool e.f2, .slice A3 e.f3.length c3]] rfl (by (try simp only [List.map_toArray, List.map_cons, List.map_nil]); first | done | rfl) ?_; refine (copiedC (Kd.C_below HR0.out B17.out) HC0.out (Kd.C_below HR3.out B17.out) HC3.out HOE.out.1 HOE.out.2).mono ?_; rintro ex w8 ⟨v0, v3, rfl, hv8, hb8⟩; refine ⟨_, rfl, ?_⟩; obtain ⟨⟨P0, d0, rfl, hl0, hF0⟩, ⟨P3, d3, rfl, hl3, hF3⟩⟩ := hv8; have n_ := Aside0.mk hl0; clear hl0; have hl0 := n_; clear n_; have n_ := Aside0.mk hF0; clear hF0; have hF0 := n_; clear n_; have n_ := Aside0.mk hl3; clear hl3; have hl3 := n_; clear n_; have n_ := Aside0.mk hF3; clear hF3; have hF3 := n_; clear n_; have n_ := Aside0.mk hb8; clear hb8; have hb8 := n_; clear n_; have B18 := Aside0.mk (below_step B17.out hb8.out))
    | ((with_reducible refine gate_dst (N := 65) rfl ?_); (try (refine gate_guard (by rfl) ?_; dsimp only)); refine box_event ?hg (N := 65) ?hd (cs := #[.slice P0 e.f0.length d0, .int .i64 e.f1, .bool e.f2, .slice P3 e.f3.length d3, .int .i64 (n : Int), .pointer none, .pointer none, .pointer none, .pointer none, .pointer none, .pointer none, .pointer none, .pointer none, .pointer none, .pointer none, .pointer none, .pointer none]) (t := 59) ?hr ?_; (case hd => rfl); (case hg => rfl); (case hr => first | (go_simp; done) | (go_simp; rfl)); intro gt hqgt w9 hxgt hbgt; have n_ := Aside0.mk hqgt; clear hqgt; have hqgt := n_; clear n_; have n_ := Aside0.mk hxgt; clear hxgt; have hxgt := n_; clear n_; have n_ := Aside0.mk hbgt; clear hbgt; have hbgt := n_; clear n_; have B19 := Aside0.mk (below_step B18.out hbgt.out); have Z9 := Aside0.mk (show gt = w8.heap.size ∧ w.heap.size ≤ w7.heap.size ∧ w7.heap.size ≤ w8.heap.size ∧ g4 < w7.heap.size ∧ g7 < w7.heap.size ∧ w.heap.size ≤ g4 ∧ w.heap.size ≤ g7 ∧ gt < w9.heap.size from ⟨hqgt.out, B17.out.size, hb8.out.size, blk_lt X7.out, blk_lt h77.out, by have h1 := hqg4.out; omega, G7.out.1, blk_lt hxgt.out⟩); have HM0 := Aside0.mk (show Mem w9 (fun k => K k ∨ (w7.heap.size ≤ k ∧ k < w8.heap.size)) g (N ++ [(gt, (⟨e, (n : Int)⟩ : Tw))]) (nxN nx (pd N g (qB e.f0 e.f1)) gt 0) cnt sz from (HS.out.below B19.out).mem.add (fun hm => by have h1 := HS.out.lt gt hm; have h2 := Z9.out; omega) (fun k hk => .inl hk) (fun k hk => hk.elim (fun hk => ⟨HS.out.far k hk, by have h1 := HKL.out k hk; have h2 := Z9.out; omega⟩) (fun hk => ⟨fun hm => by have h1 := HS.out.lt k hm; have h2 := Z9.out; omega, by have h2 := Z9.out; omega⟩)) (nil_row w9 _ hxgt.out hl0.out (Kd.F_mono (Kd.F_below (Kd.F_bound hF0.out) hbgt.out) (fun k hk => .inr hk)) hl3.out (Kd.F_mono (Kd.F_below (Kd.F_bound hF3.out) hbgt.out) (fun k hk => .inr hk)))); have X9 := Aside0.mk (blk_below (blk_below X7.out hb8.out) hbgt.out); have h79 := Aside0.mk (blk_below (blk_below h77.out hb8.out) hbgt.out); have CH9 := Aside0.mk (Chg.of_below B19.out (fun k => k ∈ g :: N.map Prod.fst))))
  go_loopg [67] n (fun kq v67 w' => ∃ m : Nat, v67 = .int .i64 (m : Int) ∧ Aside0 (kq + m = n) ∧ Aside0 (Mem w' (fun k => K k ∨ (w7.heap.size ≤ k ∧ k < w8.heap.size)) g (N ++ [(gt, (⟨e, (n : Int)⟩ : Tw))]) (nxN nx (pd N g (qB e.f0 e.f1)) gt m) cnt sz) ∧ Aside0 (w'.heap[g7]? = some (.cells (pcells N g (qB e.f0 e.f1)) 57 (0, 0))) ∧ Aside0 (w'.heap[g4]? = some (.cells #[.slice A0 e.f0.length c0, .int .i64 e.f1, .bool e.f2, .slice A3 e.f3.length c3] 34 (0, 0))) ∧ Aside0 (Chg w w' (fun k => k ∈ g :: N.map Prod.fst)) ∧ Aside0 (w9.heap.size ≤ w'.heap.size))
  case atStart => exact ⟨0, rfl, ⟨rfl⟩, HM0, h79, X9, CH9, ⟨Nat.le_refl _⟩⟩
  case round =>
    clear HM0 h79 X9 CH9
    obtain ⟨m, rfl, HK, HM, H7, H4, HCH, HSI⟩ := hrel
    cases gk with
    | zero =>
      have hmn : m = n := by have h1 := HK.out; omega
      subst hmn
      have hdm : decide ((m : Int) < (m : Int)) = false := decide_eq_false (by omega)
      have hcc : wr.cell? ⟨g, 17, none⟩ = some (.int .i64 cnt) := (blk_cell HM.out.head 17).trans rfl
      have hcf := blk_frozen HM.out.head 17
      have hwc := HWR.out.1
      go_wp2
      clear hwc
      have MC := Aside0.mk (HM.out.count (cnt + 1))
      have H41 := Aside0.mk (blk_far (p := ⟨g, 17, none⟩) H4.out (by have h1 := Z9.out; have h2 := HS.out.lt g (by simp); show g4 ≠ g; omega) (.int .i64 (cnt + 1)))
      have CH1 := Aside0.mk (HCH.out.set (p := ⟨g, 17, none⟩) (.inl (by simp)) (.int .i64 (cnt + 1)))
      have HS1 := Aside0.mk (show wr.heap.size ≤ (wr.setCell ⟨g, 17, none⟩ (.int .i64 (cnt + 1))).heap.size by simp [World.setCell])
      clear hcc hcf
      generalize wr.setCell ⟨g, 17, none⟩ (.int .i64 (cnt + 1)) = w1' at MC H41 CH1 HS1 ⊢
      have hcz : w1'.cell? ⟨g, 18, none⟩ = some (.int .i64 sz) := (blk_cell MC.out.head 18).trans rfl
      have hfz := blk_frozen MC.out.head 18
      obtain ⟨hl0, hl1, hl2, hl3⟩ := HWR.out
      refine s_ 16 [15] (fun w' => w'.cell? ⟨g, 18, none⟩ = some (.int .i64 sz) ∧ w'.cell? ⟨g4, 0, none⟩ = some (.slice A0 e.f0.length c0) ∧ w'.cell? ⟨g4, 3, none⟩ = some (.slice A3 e.f3.length c3)) (hS := ⟨(blk_cell MC.out.drew.head 18).trans rfl, (blk_cell (blk_drew H41.out) 0).trans rfl, (blk_cell (blk_drew H41.out) 3).trans rfl⟩) (h := fun hHeld => ?_)
      refine p_ 0 99 (bb 16 1) (h := ?_)
      refine p_ 1 100 (bb 16 3) (h := ?_)
      refine p_ 2 101 (bb 16 7) (h := ?_)
      refine t_ 3 102 (bb 16 15) hHeld (h := ?_)
      refine p_ 4 103 (bb 16 31) (h := ?_)
      refine t_ 5 104 (bb 16 63) hHeld (h := ?_)
      refine p_ 6 105 (bb 16 127) (h := ?_)
      refine p_ 7 106 (bb 16 255) (h := ?_)
      refine t_ 8 107 (bb 16 511) hHeld (h := ?_)
      refine p_ 9 108 (bb 16 1023) (h := ?_)
      refine p_ 10 109 (bb 16 2047) (h := ?_)
      refine p_ 11 110 (bb 16 4095) (h := ?_)
      refine p_ 12 111 (bb 16 8191) (h := ?_)
      refine p_ 13 112 (bb 16 16383) (h := ?_)
      refine p_ 14 113 (bb 16 32767) (h := ?_)
      refine l_ 15 (bb 16 65535) (h := ?_)
      refine d_ (h := ?_)

      go_wp2
      go_ret
      clear hl0 hl1 hl2 hl3 hcz hfz
      have MS := Aside0.mk ((MC.out.size (sz + ((e.f0.length : Int) + (e.f3.length : Int) + 8))).drew)
      exact ⟨rfl, gt, _, _, SLat.insert (t := (⟨e, (m : Int)⟩ : Tw)) HS.out HT.out rfl HN12.out MS.out, fun k hk => hk.elim (fun hk => ⟨.inl hk, by have h1 := HKL.out k hk; have h2 := Z9.out; have h3 := HSI.out; have h4 := HS1.out; simp [World.setCell, World.drew]; omega⟩) (fun hk => ⟨.inr (by have h2 := Z9.out; omega), by have h2 := Z9.out; have h3 := HSI.out; have h4 := HS1.out; simp [World.setCell, World.drew]; omega⟩), by have h2 := Z9.out; omega, (CH1.out.set (p := ⟨g, 18, none⟩) (.inl (by simp)) _).drew⟩
    | succ k1 =>
      have HM12 := Aside0.mk (show m < 12 by have h1 := HK.out; have h2 := HN12.out; omega)
      have hm12 : (m : Int) < 12 := by have h1 := HM12.out; omega
      have hdm : (m < n) = True := eq_true (by have h1 := HK.out; omega)
      have HWM := Aside0.mk (show wrap64 ((m : Int) + 1) = ((m + 1 : Nat) : Int) by rw [wrap_in (by omega) (by omega)]; rfl)
      have HPM0 := Aside0.mk (show (pd N g (qB e.f0 e.f1) m) ∈ g :: N.map Prod.fst from (OnWay.pd HP.out m).mem)
      have HPM := Aside0.mk (show (pd N g (qB e.f0 e.f1) m) ∈ g :: (N ++ [(gt, (⟨e, (n : Int)⟩ : Tw))]).map Prod.fst by have h1 := HPM0.out; rw [List.map_append, ← List.cons_append]; exact List.mem_append_left _ h1)
      have HGM := Aside0.mk (show gt ∈ g :: (N ++ [(gt, (⟨e, (n : Int)⟩ : Tw))]).map Prod.fst by simp)
      have HPN := Aside0.mk (show (pd N g (qB e.f0 e.f1) m) ≠ gt from fun he => by have h1 := HS.out.lt _ HPM0.out; have h2 := Z9.out; omega)
      obtain ⟨o, ho⟩ : ∃ o, o = nxN nx (pd N g (qB e.f0 e.f1)) gt m (pd N g (qB e.f0 e.f1) m) m := ⟨_, rfl⟩
      have HO := Aside0.mk ho
      obtain ⟨oa, hoa⟩ : ∃ oa : Option Addr, pv o = .pointer oa := ⟨_, rfl⟩
      have HOA := Aside0.mk hoa
      clear ho hoa
      have hcs : wr.cell? ⟨gt, 5 + m, none⟩ = some (pv (nxN nx (pd N g (qB e.f0 e.f1)) gt m gt m)) := HM.out.cell HGM.out HM12.out
      have hfs := HM.out.froz HGM.out (5 + m)
      go_wp2
      refine s_ 14 [13] (fun w' => w'.cell? ⟨g7, m, none⟩ = some (.pointer (some ⟨pd N g (qB e.f0 e.f1) m, 0, none⟩)) ∧ w'.cell? ⟨pd N g (qB e.f0 e.f1) m, 5 + m, none⟩ = some (.pointer oa)) (hS := ⟨(blk_cell (blk_drew H7.out) m).trans (pcells_at N g (qB e.f0 e.f1) m HM12.out), (HM.out.drew.cell HPM.out HM12.out).trans (by rw [← HO.out, HOA.out])⟩) (h := fun hHeld => ?_)
      refine p_ 0 70 (bb 14 1) (h := ?_)
      refine p_ 1 71 (bb 14 3) (h := ?_)
      refine p_ 2 72 (bb 14 7) (h := ?_)
      refine p_ 3 73 (bb 14 15) (h := ?_)
      refine t_ 4 74 (bb 14 31) hHeld (h := ?_)
      refine p_ 5 75 (bb 14 63) (h := ?_)
      refine p_ 6 76 (bb 14 127) (h := ?_)
      refine p_ 7 77 (bb 14 255) (h := ?_)
      refine p_ 8 78 (bb 14 511) (h := ?_)
      refine t_ 9 79 (bb 14 1023) hHeld (h := ?_)
      refine p_ 10 80 (bb 14 2047) (h := ?_)
      refine p_ 11 81 (bb 14 4095) (h := ?_)
      refine p_ 12 82 (bb 14 8191) (h := ?_)
      refine l_ 13 (bb 14 16383) (h := ?_)
      refine d_ (h := ?_)

      have M1 := Aside0.mk (HOA.out ▸ (HM.out.put HGM.out HM12.out o).drew)
      have H71 := Aside0.mk (blk_drew (blk_far (p := ⟨gt, 5 + m, none⟩) H7.out (by have h1 := Z9.out; show g7 ≠ gt; omega) (.pointer oa)))
      have H41 := Aside0.mk (blk_drew (blk_far (p := ⟨gt, 5 + m, none⟩) H4.out (by have h1 := Z9.out; show g4 ≠ gt; omega) (.pointer oa)))
      have CH1 := Aside0.mk ((HCH.out.set (p := ⟨gt, 5 + m, none⟩) (.inr (by have h1 := Z9.out; show w.heap.size ≤ gt; omega)) (.pointer oa)).drew)
      have HS1 := Aside0.mk (show wr.heap.size ≤ (wr.setCell ⟨gt, 5 + m, none⟩ (.pointer oa)).drew.heap.size by simp [World.setCell, World.drew])
      clear hcs hfs
      generalize (wr.setCell ⟨gt, 5 + m, none⟩ (.pointer oa)).drew = w1' at M1 H71 H41 CH1 HS1 ⊢
      have hc7 : w1'.cell? ⟨g7, m, none⟩ = some (.pointer (some ⟨(pd N g (qB e.f0 e.f1) m), 0, none⟩)) := (blk_cell H71.out m).trans (pcells_at N g (qB e.f0 e.f1) m HM12.out)
      have hcp := M1.out.cell HPM.out HM12.out
      have hfp := M1.out.froz HPM.out (5 + m)
      go_wp2
      go_roundg k1
      case measure => exact Nat.lt_succ_self _
      case rel => exact ⟨m + 1, by first | rfl | rw [HWM.out], ⟨by have h1 := HK.out; omega⟩, ⟨by have h1 := M1.out.put HPM.out HM12.out (some gt); rw [HO.out, nxN_step HPN.out] at h1; exact h1⟩, ⟨blk_far (p := ⟨(pd N g (qB e.f0 e.f1) m), 5 + m, none⟩) H71.out (by have h1 := Z9.out; have h2 := HS.out.lt _ HPM0.out; show g7 ≠ (pd N g (qB e.f0 e.f1) m); omega) _⟩, ⟨blk_far (p := ⟨(pd N g (qB e.f0 e.f1) m), 5 + m, none⟩) H41.out (by have h1 := Z9.out; have h2 := HS.out.lt _ HPM0.out; show g4 ≠ (pd N g (qB e.f0 e.f1) m); omega) _⟩, ⟨CH1.out.set (.inl HPM0.out) _⟩, ⟨by have h1 := HSI.out; have h2 := HS1.out; simp [World.setCell]; omega⟩⟩
set_option maxHeartbeats 4000000 in
set_option maxRecDepth 100000 in
theorem put_dup {w : World} {K : Nat → Prop} {g : Nat} {N : List (Nat × Tw)} {nx : Nat → Nat → Option Nat} {cnt sz : Int} (hS : SLat w K g N nx cnt sz) (hT : FitT (N.map Prod.snd)) (hKl : ∀ k, K k → k < w.heap.size) (A0 : Option Addr) (c0 : Nat) (e : S34) (A3 : Option Addr) (c3 : Nat) (hr0 : Kd.C (Kd.int .u8) w A0 e.f0.length e.f0) (hc0 : e.f0.length ≤ c0) (hr3 : Kd.C (Kd.int .u8) w A3 e.f3.length e.f3) (hc3 : e.f3.length ≤ c3) (hok : okE e = true) (hgd : Sw.Good e) (n : Nat) (hn1 : 1 ≤ n) (hn12 : n ≤ 12) (hcnt : 0 ≤ cnt ∧ cnt ≤ 1000000000) (hsz : 0 ≤ sz ∧ sz ≤ 1000000000000)
    (y : Nat × Tw) (Y : List (Nat × Tw)) (hY : N.filter (fun p => !qB e.f0 e.f1 p.2.e) = y :: Y) (hkd : decide (y.2.e.f0 = e.f0) = true) (hsq : y.2.e.f1 = e.f1) :
    Calls Try.prog 21 #[.pointer (some ⟨g, 0, none⟩), .agg #[.slice A0 e.f0.length c0, .int .i64 e.f1, .bool e.f2, .slice A3 e.f3.length c3], .int .i64 (n : Int)] w fun ex w' => ex = .returned (.int .i64 1) ∧ Below w.heap.size w w' := by
  have hu34 := Try.underlying34
  have hu57 := Try.underlying57
  have hu59 := Try.underlying59
  have hu61 := Try.underlying61
  have HP := Aside0.mk (hT.down (q := qB e.f0 e.f1) (fun a b h h2 => qB_down h h2))
  have HPD := Aside0.mk (OnWay.pd (g := g) HP.out 0)
  have HNX := Aside0.mk (HPD.out.next hS (by omega))
  rw [hT.low, hY] at HPD HNX
  have HS := Aside0.mk hS
  have HT := Aside0.mk hT
  have HKL := Aside0.mk hKl
  have HGE := Aside0.mk hgd
  have HOE := Aside0.mk (okE_len hok)
  have HOK := Aside0.mk (show (if okE e = true then (0 : Int) else 1) = 0 from if_pos hok)
  have hh1 : decide ((n : Int) < 1) = false := decide_eq_false (by omega)
  have hh2 : decide (12 < (n : Int)) = false := decide_eq_false (by omega)
  have HN12 := Aside0.mk hn12
  clear hcnt hsz
  have HYE := Aside0.mk hY
  have HR0 := Aside0.mk hr0
  clear hr0
  have HC0 := Aside0.mk hc0
  clear hc0
  have HR3 := Aside0.mk hr3
  clear hr3
  have HC3 := Aside0.mk hc3
  clear hc3
  clear hS hT hKl hgd hok hn1 hn12 hY
  have HKD := Aside0.mk hkd
  have hsd : decide (y.2.e.f1 = e.f1) = true := decide_eq_true hsq
  have hsb : (y.2.e.f1 == e.f1) = true := beq_iff_eq.2 hsq
  clear hkd hsq
  have HYN := Aside0.mk HPD.out.in_
  have HYO := Aside0.mk (HT.out.at_ HYN.out)
  go_enter Try.func21, Try.ntmps21
  go_wp2_with (first
    | ((with_reducible refine gate_dst (N := 4) rfl ?_); (try (refine gate_guard (by rfl) ?_; dsimp only)); refine box_event ?hg (N := 4) ?hd (cs := #[.slice A0 e.f0.length c0, .int .i64 e.f1, .bool e.f2, .slice A3 e.f3.length c3]) (t := 34) ?hr ?_; (case hd => rfl); (case hg => rfl); (case hr => first | (go_simp; done) | (go_simp; rfl)); intro g4 hqg4 w1 hxg4 hbg4; have n_ := Aside0.mk hqg4; clear hqg4; have hqg4 := n_; clear n_; have n_ := Aside0.mk hxg4; clear hxg4; have hxg4 := n_; clear n_; have n_ := Aside0.mk hbg4; clear hbg4; have hbg4 := n_; clear n_; have hca0 : w1.cell? ⟨g4, 0, none⟩ = some (.slice A0 e.f0.length c0) := (blk_cell hxg4.out 0).trans rfl; have hca1 : w1.cell? ⟨g4, 1, none⟩ = some (.int .i64 e.f1) := (blk_cell hxg4.out 1).trans rfl; have hca2 : w1.cell? ⟨g4, 2, none⟩ = some (.bool e.f2) := (blk_cell hxg4.out 2).trans rfl; have hca3 : w1.cell? ⟨g4, 3, none⟩ = some (.slice A3 e.f3.length c3) := (blk_cell hxg4.out 3).trans rfl)
    | ((with_reducible refine gate_callee (f := 13) rfl ?_); (try (refine gate_guard (by rfl) ?_; dsimp only)); refine goesL_ (some 15) rfl rfl Try.func13 (by kernel_rfl) rfl #[.agg #[.slice A0 e.f0.length c0, .int .i64 e.f1, .bool e.f2, .slice A3 e.f3.length c3]] rfl (by (try simp only [List.map_toArray, List.map_cons, List.map_nil]); first | done | rfl) ?_; refine (checkC (Kd.C_below HR0.out hbg4.out) HC0.out (Kd.C_below HR3.out hbg4.out) HC3.out).mono ?_; rintro ex w2 ⟨rfl, hb2⟩; refine ⟨_, rfl, ?_⟩; rw [HOK.out]; have n_ := Aside0.mk hb2; clear hb2; have hb2 := n_; clear n_; have X2 := Aside0.mk (blk_below hxg4.out hb2.out); have hcb0 : w2.cell? ⟨g4, 0, none⟩ = some (.slice A0 e.f0.length c0) := (blk_cell X2.out 0).trans rfl; have hcb1 : w2.cell? ⟨g4, 1, none⟩ = some (.int .i64 e.f1) := (blk_cell X2.out 1).trans rfl; have hcb2 : w2.cell? ⟨g4, 2, none⟩ = some (.bool e.f2) := (blk_cell X2.out 2).trans rfl; have hcb3 : w2.cell? ⟨g4, 3, none⟩ = some (.slice A3 e.f3.length c3) := (blk_cell X2.out 3).trans rfl)
    | ((with_reducible refine gate_callee (f := 33) rfl ?_); (try (refine gate_guard (by rfl) ?_; dsimp only)); refine goesL_ (some 31) rfl rfl Try.func33 (by kernel_rfl) rfl #[.slice A0 e.f0.length c0, .int .i64 e.f1] rfl (by (try simp only [List.map_toArray, List.map_cons, List.map_nil]); first | done | rfl) ?_; refine (before_calls A0 c0 e.f0 e.f1 w2).mono ?_; rintro ex w3 ⟨ga, gb, rfl, hga, hgb, hla, hlb, hb3⟩; refine ⟨_, rfl, ?_⟩; have n_ := Aside0.mk hga; clear hga; have hga := n_; clear n_; have n_ := Aside0.mk hgb; clear hgb; have hgb := n_; clear n_; have n_ := Aside0.mk hb3; clear hb3; have hb3 := n_; clear n_; clear hla hlb; have B13 := Aside0.mk (below_step (below_step hbg4.out hb2.out) hb3.out); have S3 := Aside0.mk (HS.out.below B13.out))
    | ((with_reducible refine gate_callee (f := 32) rfl ?_); (try (refine gate_guard (by rfl) ?_; dsimp only)); refine goesL_ (some 32) rfl rfl Try.func32 (by kernel_rfl) rfl #[.pointer (some ⟨g, 0, none⟩), .func (.func 48) #[] #[.pointer (some ⟨ga, 0, none⟩), .pointer (some ⟨gb, 0, none⟩)]] rfl (by (try simp only [List.map_toArray, List.map_cons, List.map_nil]); first | done | rfl) ?_; refine (path_calls S3.out (qB e.f0 e.f1) HP.out 48 _ _ Try.func48 (by kernel_rfl) rfl (so_before HT.out hga.out hgb.out (Kd.C_below HR0.out B13.out) HC0.out HGE.out.1)).mono ?_; rintro ex w4 ⟨rfl, hb4⟩; refine ⟨_, rfl, ?_⟩; have n_ := Aside0.mk hb4; clear hb4; have hb4 := n_; clear n_; have B14 := Aside0.mk (below_step B13.out hb4.out))
    | ((with_reducible refine gate_dst (N := 7) rfl ?_); (try (refine gate_guard (by rfl) ?_; dsimp only)); refine box_event ?hg (N := 7) ?hd (cs := #[.pointer none, .pointer none, .pointer none, .pointer none, .pointer none, .pointer none, .pointer none, .pointer none, .pointer none, .pointer none, .pointer none, .pointer none]) (t := 57) ?hr ?_; (case hd => rfl); (case hg => rfl); (case hr => first | (go_simp; done) | (go_simp; rfl)); intro g7 hqg7 w5 hxg7 hbg7; have n_ := Aside0.mk hqg7; clear hqg7; have hqg7 := n_; clear n_; have n_ := Aside0.mk hxg7; clear hxg7; have hxg7 := n_; clear n_; have n_ := Aside0.mk hbg7; clear hbg7; have hbg7 := n_; clear n_; have B15 := Aside0.mk (below_step B14.out hbg7.out); obtain ⟨w6, hst6, h76, hB6⟩ := store57 hxg7.out N g (qB e.f0 e.f1); have n_ := Aside0.mk h76; clear h76; have h76 := n_; clear n_; have G7 := Aside0.mk (show w.heap.size ≤ g7 ∧ w4.heap.size ≤ g7 ∧ g4 < w4.heap.size from ⟨by have h1 := hqg7.out; have h2 := B14.out.size; omega, by have h1 := hqg7.out; omega, by have h1 := blk_lt X2.out; have h2 := hb3.out.size; have h3 := hb4.out.size; omega⟩); have B16 := Aside0.mk (hB6 w.heap.size G7.out.1 w B15.out); have B46 := Aside0.mk (hB6 w4.heap.size G7.out.2.1 w4 hbg7.out); clear hB6; have S6 := Aside0.mk (HS.out.below B16.out); have X6 := Aside0.mk (blk_below (blk_below (blk_below X2.out hb3.out) hb4.out) B46.out); have hcc0 : w6.cell? ⟨g4, 0, none⟩ = some (.slice A0 e.f0.length c0) := (blk_cell X6.out 0).trans rfl; have hcc1 : w6.cell? ⟨g4, 1, none⟩ = some (.int .i64 e.f1) := (blk_cell X6.out 1).trans rfl; have hcc2 : w6.cell? ⟨g4, 2, none⟩ = some (.bool e.f2) := (blk_cell X6.out 2).trans rfl; have hcc3 : w6.cell? ⟨g4, 3, none⟩ = some (.slice A3 e.f3.length c3) := (blk_cell X6.out 3).trans rfl; have hp6 : w6.cell? ⟨g7, 0, none⟩ = some (.pointer (some ⟨pd N g (qB e.f0 e.f1) 0, 0, none⟩)) := (blk_cell h76.out 0).trans (pcells_at N g (qB e.f0 e.f1) 0 (by omega)); have hcn : w6.cell? ⟨pd N g (qB e.f0 e.f1) 0, 5, none⟩ = some (.pointer (some ⟨y.1, 0, none⟩)) := (S6.out.cell (j := 0) HPD.out.mem (by omega)).trans (congrArg (fun x => some (pv x)) HNX.out); obtain ⟨Y0, yc0, Y3, yc3, hy0, hy1, hy2, hy3, hy4⟩ := S6.out.node y HYN.out; have n_ := Aside0.mk hy0; clear hy0; have hy0 := n_; clear n_; have n_ := Aside0.mk hy1; clear hy1; have hy1 := n_; clear n_; have n_ := Aside0.mk hy2; clear hy2; have hy2 := n_; clear n_; have n_ := Aside0.mk hy3; clear hy3; have hy3 := n_; clear n_; have n_ := Aside0.mk hy4; clear hy4; have hy4 := n_; clear n_))
  refine s_ 22 [] (fun w' => w'.cell? ⟨y.1, 0, none⟩ = some (.slice Y0 y.2.e.f0.length yc0) ∧ w'.cell? ⟨g4, 0, none⟩ = some (.slice A0 e.f0.length c0) ∧ w'.cell? ⟨y.1, 1, none⟩ = some (.int .i64 y.2.e.f1) ∧ w'.cell? ⟨g4, 1, none⟩ = some (.int .i64 e.f1)) (hS := ⟨(blk_cell (blk_drew hy0.out) 0).trans rfl, (blk_cell (blk_drew X6.out) 0).trans rfl, (blk_cell (blk_drew hy0.out) 1).trans rfl, (blk_cell (blk_drew X6.out) 1).trans rfl⟩) (h := fun hHeld => ?_)
  refine p_ 0 39 (bb 22 1) (h := ?_)
  refine p_ 1 40 (bb 22 3) (h := ?_)
  refine p_ 2 41 (bb 22 7) (h := ?_)
  refine p_ 3 42 (bb 22 15) (h := ?_)
  refine p_ 4 43 (bb 22 31) (h := ?_)
  refine p_ 5 44 (bb 22 63) (h := ?_)
  refine p_ 6 45 (bb 22 127) (h := ?_)
  refine t_ 7 46 (bb 22 255) hHeld (h := ?_)
  refine p_ 8 47 (bb 22 511) (h := ?_)
  refine t_ 9 48 (bb 22 1023) hHeld (h := ?_)
  refine n_ 10 49 (bb 22 2047) (h := fun K hK => ?_)
  refine goes_ Try.func34 (by kernel_rfl) rfl #[.slice Y0 y.2.e.f0.length yc0, .slice A0 e.f0.length c0] (by rfl) rfl rfl (by (try simp only [List.map_toArray, List.map_cons, List.map_nil]); first | done | rfl) ?_
  refine (equalC (Kd.C_drew (Kd.F_now hy2.out)) hy1.out HYO.out.2.1.1 (Kd.C_below HR0.out (below_drew B16.out)) HC0.out HGE.out.1).mono ?_
  rintro ex w7 ⟨rfl, hbq⟩
  refine ⟨_, rfl, ?_⟩
  rw [HKD.out]
  have n_ := Aside0.mk hbq
  clear hbq
  have hbq := n_
  clear n_
  refine hK.out _ _ ⟨pw_cell_below hbq.out hHeld.1, pw_cell_below hbq.out hHeld.2.1, pw_cell_below hbq.out hHeld.2.2.1, pw_cell_below hbq.out hHeld.2.2.2⟩ (fun hHeld => ?_)
  clear hK K
  refine m_ 49 (h := ?_)
  refine p_ 11 50 (bb 22 4095) (h := ?_)
  refine p_ 12 51 (bb 22 8191) (h := ?_)
  refine p_ 13 52 (bb 22 16383) (h := ?_)
  refine p_ 14 53 (bb 22 32767) (h := ?_)
  refine p_ 15 54 (bb 22 65535) (h := ?_)
  refine p_ 16 55 (bb 22 131071) (h := ?_)
  refine t_ 17 56 (bb 22 262143) hHeld (h := ?_)
  refine p_ 18 57 (bb 22 524287) (h := ?_)
  refine t_ 19 58 (bb 22 1048575) hHeld (h := ?_)
  refine p_ 20 59 (bb 22 2097151) (h := ?_)
  refine p_ 21 60 (bb 22 4194303) (h := ?_)
  refine d_ (h := ?_)
  have B17 := Aside0.mk (below_step (below_drew B16.out) hbq.out)
  have X7 := Aside0.mk (blk_below (blk_drew X6.out) hbq.out)
  have h77 := Aside0.mk (blk_below (blk_drew h76.out) hbq.out)
  clear hHeld
  go_wp2
  go_ret
  exact ⟨rfl, B17.out⟩
end Go.Proofs.Ytjlkcidohabcfaa.Sk
