/- The document's small functions of entries, each with what it returns. Conditions: those of each theorem. -/
import Derived.Test.YtjlkcidohabcfaaPx0
import Derived.Test.YtjlkcidohabcfaaH0
import Derived.Test.YtjlkcidohabcfaaHs
import Derived.Test.YtjlkcidohabcfaaHk
namespace Go.Proofs.Ytjlkcidohabcfaa.Sk
open Go.RowKit Go.Proofs.YtjlkcidohabcfaaW.PrintWords Go.Proofs.YtjlkcidohabcfaaW.PrintLast Go.Proofs.YtjlkcidohabcfaaW.PrintMore Go.Proofs.Ytjlkcidohabcfaa.Px
set_option linter.unusedVariables false
set_option linter.unusedSimpArgs false

open Go.Proofs.Ytjlkcidohabcfaa.Sw
def qB (k : List Int) (s : Int) (e : S34) : Bool := less e.f0 k || (decide (e.f0 = k) && decide (s < e.f1))
def qF (k : List Int) (e : S34) : Bool := less e.f0 k
def qT (k : List Int) (e : S34) : Bool := decide (k.length = 0) || less e.f0 k
def qS (s : Int) (e : S34) : Bool := decide (s < e.f1)
def qA (_ : S34) : Bool := true
def eqK (a b : S34) : Bool := decide (a.f0 = b.f0)
section
variable {A0 A1 A3 : Option Addr} {c0 c1 c3 : Nat} {l0 l1 : List Int} {w : World}
theorem lessC (hr0 : Kd.C (Kd.int .u8) w A0 l0.length l0) (hc0 : l0.length ≤ c0) (h0 : Byts l0) (hr1 : Kd.C (Kd.int .u8) w A1 l1.length l1) (hc1 : l1.length ≤ c1) (h1 : Byts l1) :
    Calls Try.prog 37 #[.slice A0 l0.length c0, .slice A1 l1.length c1] w fun ex w' => ex = .returned (.bool (less l0 l1)) ∧ Below w.heap.size w w' :=
  (key_Less.calls A0 c0 l0 A1 c1 l1 _ w hr0 hc0 hr1 hc1 (less_f h0 h1)).mono (by
    rintro ex w' ⟨rfl, ⟨nd, rfl⟩⟩
    exact ⟨rfl, pw_below_drewN (Below.refl _ _) nd⟩)
theorem equalC (hr0 : Kd.C (Kd.int .u8) w A0 l0.length l0) (hc0 : l0.length ≤ c0) (h0 : Byts l0) (hr1 : Kd.C (Kd.int .u8) w A1 l1.length l1) (hc1 : l1.length ≤ c1) (h1 : Byts l1) :
    Calls Try.prog 34 #[.slice A0 l0.length c0, .slice A1 l1.length c1] w fun ex w' => ex = .returned (.bool (decide (l0 = l1))) ∧ Below w.heap.size w w' :=
  (bytes_Equal.calls A0 c0 l0 A1 c1 l1 _ w hr0 hc0 hr1 hc1 (equal_f h0 h1)).mono (by
    rintro ex w' ⟨rfl, ⟨nd, rfl⟩⟩
    exact ⟨rfl, pw_below_drewN (Below.refl _ _) nd⟩)
end
set_option maxHeartbeats 4000000 in
set_option maxRecDepth 100000 in
theorem before_one (ga gb : Nat) (A0 : Option Addr) (c0 : Nat) (e : S34) (A3 : Option Addr) (c3 : Nat) (A1 : Option Addr) (c1 : Nat) (kk : List Int) (sq : Int) (w : World) (hga : w.heap[ga]? = some (.cells #[.slice A1 kk.length c1] 32 (0, 0))) (hgb : w.heap[gb]? = some (.cells #[.int .i64 sq] 3 (0, 0))) (hr0 : Kd.C (Kd.int .u8) w A0 e.f0.length e.f0) (hc0 : e.f0.length ≤ c0) (he : Byts e.f0) (hr1 : Kd.C (Kd.int .u8) w A1 kk.length kk) (hc1 : kk.length ≤ c1) (hk : Byts kk) :
    Calls Try.prog 48 (#[.agg #[.slice A0 e.f0.length c0, .int .i64 e.f1, .bool e.f2, .slice A3 e.f3.length c3]] ++ #[.pointer (some ⟨ga, 0, none⟩), .pointer (some ⟨gb, 0, none⟩)]) w fun ex w' => ex = .returned (.bool (qB kk sq e)) ∧ Below w.heap.size w w' := by
  have hu34 := Try.underlying34
  have HGA := Aside0.mk hga
  clear hga
  have HR0 := Aside0.mk hr0
  clear hr0
  have HC0 := Aside0.mk hc0
  clear hc0
  have HE := Aside0.mk he
  clear he
  have HR1 := Aside0.mk hr1
  clear hr1
  have HC1 := Aside0.mk hc1
  clear hc1
  have HK := Aside0.mk hk
  clear hk
  have HGB := Aside0.mk hgb
  clear hgb
  obtain ⟨b1, hb1⟩ : ∃ b : Bool, b = less e.f0 kk := ⟨_, rfl⟩
  obtain ⟨b2, hb2⟩ : ∃ b : Bool, b = decide (e.f0 = kk) := ⟨_, rfl⟩
  unfold qB
  rw [← hb1, ← hb2]
  have B1 := Aside0.mk hb1.symm
  have B2 := Aside0.mk hb2.symm
  clear hb1 hb2
  cases b1 with
  | true =>
    go_enter Try.func48, Try.ntmps48
    go_wp2_with (first
      | ((with_reducible refine gate_dst (N := 3) rfl ?_); (try (refine gate_guard (by rfl) ?_; dsimp only)); refine box_event ?hg (N := 3) ?hd (cs := #[.slice A0 e.f0.length c0, .int .i64 e.f1, .bool e.f2, .slice A3 e.f3.length c3]) (t := 34) ?hr ?_; (case hd => rfl); (case hg => rfl); (case hr => first | (go_simp; done) | (go_simp; rfl)); intro g3 hqg3 w1 hxg3 hbg3; have n_ := Aside0.mk hqg3; clear hqg3; have hqg3 := n_; clear n_; have n_ := Aside0.mk hxg3; clear hxg3; have hxg3 := n_; clear n_; have n_ := Aside0.mk hbg3; clear hbg3; have hbg3 := n_; clear n_; have GA1 := Aside0.mk (blk_below HGA.out hbg3.out); have GB1 := Aside0.mk (blk_below HGB.out hbg3.out); have hca0 : w1.cell? ⟨ga, 0, none⟩ = some (.slice A1 kk.length c1) := (blk_cell GA1.out 0).trans rfl; have hcb0 : w1.cell? ⟨gb, 0, none⟩ = some (.int .i64 sq) := (blk_cell GB1.out 0).trans rfl; have hce0 : w1.cell? ⟨g3, 0, none⟩ = some (.slice A0 e.f0.length c0) := (blk_cell hxg3.out 0).trans rfl; have hce1 : w1.cell? ⟨g3, 1, none⟩ = some (.int .i64 e.f1) := (blk_cell hxg3.out 1).trans rfl)
      | ((with_reducible refine gate_callee (f := 37) rfl ?_); (try (refine gate_guard (by rfl) ?_; dsimp only)); refine goesL_ (some 8) rfl rfl Try.func37 (by kernel_rfl) rfl #[.slice A0 e.f0.length c0, .slice A1 kk.length c1] rfl (by (try simp only [List.map_toArray, List.map_cons, List.map_nil]); first | done | rfl) ?_; refine (lessC (Kd.C_below HR0.out hbg3.out) HC0.out HE.out (Kd.C_below HR1.out hbg3.out) HC1.out HK.out).mono ?_; rintro ex w2 ⟨rfl, hb2⟩; refine ⟨_, rfl, ?_⟩; rw [B1.out]; have n_ := Aside0.mk hb2; clear hb2; have hb2 := n_; clear n_; have X2 := Aside0.mk (blk_below hxg3.out hb2.out); have GA2 := Aside0.mk (blk_below GA1.out hb2.out); have GB2 := Aside0.mk (blk_below GB1.out hb2.out); have hca20 : w2.cell? ⟨ga, 0, none⟩ = some (.slice A1 kk.length c1) := (blk_cell GA2.out 0).trans rfl; have hcb20 : w2.cell? ⟨gb, 0, none⟩ = some (.int .i64 sq) := (blk_cell GB2.out 0).trans rfl; have hce20 : w2.cell? ⟨g3, 0, none⟩ = some (.slice A0 e.f0.length c0) := (blk_cell X2.out 0).trans rfl; have hce21 : w2.cell? ⟨g3, 1, none⟩ = some (.int .i64 e.f1) := (blk_cell X2.out 1).trans rfl))
    go_ret
    exact ⟨by simp, below_step hbg3.out hb2.out⟩
  | false =>
    cases b2 with
    | true =>
      go_enter Try.func48, Try.ntmps48
      go_wp2_with (first
        | ((with_reducible refine gate_dst (N := 3) rfl ?_); (try (refine gate_guard (by rfl) ?_; dsimp only)); refine box_event ?hg (N := 3) ?hd (cs := #[.slice A0 e.f0.length c0, .int .i64 e.f1, .bool e.f2, .slice A3 e.f3.length c3]) (t := 34) ?hr ?_; (case hd => rfl); (case hg => rfl); (case hr => first | (go_simp; done) | (go_simp; rfl)); intro g3 hqg3 w1 hxg3 hbg3; have n_ := Aside0.mk hqg3; clear hqg3; have hqg3 := n_; clear n_; have n_ := Aside0.mk hxg3; clear hxg3; have hxg3 := n_; clear n_; have n_ := Aside0.mk hbg3; clear hbg3; have hbg3 := n_; clear n_; have GA1 := Aside0.mk (blk_below HGA.out hbg3.out); have GB1 := Aside0.mk (blk_below HGB.out hbg3.out); have hca0 : w1.cell? ⟨ga, 0, none⟩ = some (.slice A1 kk.length c1) := (blk_cell GA1.out 0).trans rfl; have hcb0 : w1.cell? ⟨gb, 0, none⟩ = some (.int .i64 sq) := (blk_cell GB1.out 0).trans rfl; have hce0 : w1.cell? ⟨g3, 0, none⟩ = some (.slice A0 e.f0.length c0) := (blk_cell hxg3.out 0).trans rfl; have hce1 : w1.cell? ⟨g3, 1, none⟩ = some (.int .i64 e.f1) := (blk_cell hxg3.out 1).trans rfl)
        | ((with_reducible refine gate_callee (f := 37) rfl ?_); (try (refine gate_guard (by rfl) ?_; dsimp only)); refine goesL_ (some 8) rfl rfl Try.func37 (by kernel_rfl) rfl #[.slice A0 e.f0.length c0, .slice A1 kk.length c1] rfl (by (try simp only [List.map_toArray, List.map_cons, List.map_nil]); first | done | rfl) ?_; refine (lessC (Kd.C_below HR0.out hbg3.out) HC0.out HE.out (Kd.C_below HR1.out hbg3.out) HC1.out HK.out).mono ?_; rintro ex w2 ⟨rfl, hb2⟩; refine ⟨_, rfl, ?_⟩; rw [B1.out]; have n_ := Aside0.mk hb2; clear hb2; have hb2 := n_; clear n_; have X2 := Aside0.mk (blk_below hxg3.out hb2.out); have GA2 := Aside0.mk (blk_below GA1.out hb2.out); have GB2 := Aside0.mk (blk_below GB1.out hb2.out); have hca20 : w2.cell? ⟨ga, 0, none⟩ = some (.slice A1 kk.length c1) := (blk_cell GA2.out 0).trans rfl; have hcb20 : w2.cell? ⟨gb, 0, none⟩ = some (.int .i64 sq) := (blk_cell GB2.out 0).trans rfl; have hce20 : w2.cell? ⟨g3, 0, none⟩ = some (.slice A0 e.f0.length c0) := (blk_cell X2.out 0).trans rfl; have hce21 : w2.cell? ⟨g3, 1, none⟩ = some (.int .i64 e.f1) := (blk_cell X2.out 1).trans rfl)
        | ((with_reducible refine gate_callee (f := 34) rfl ?_); (try (refine gate_guard (by rfl) ?_; dsimp only)); refine goesL_ (some 13) rfl rfl Try.func34 (by kernel_rfl) rfl #[.slice A0 e.f0.length c0, .slice A1 kk.length c1] rfl (by (try simp only [List.map_toArray, List.map_cons, List.map_nil]); first | done | rfl) ?_; refine (equalC (Kd.C_below HR0.out (below_step hbg3.out hb2.out)) HC0.out HE.out (Kd.C_below HR1.out (below_step hbg3.out hb2.out)) HC1.out HK.out).mono ?_; rintro ex w3 ⟨rfl, hb3⟩; refine ⟨_, rfl, ?_⟩; rw [B2.out]; have n_ := Aside0.mk hb3; clear hb3; have hb3 := n_; clear n_; have X3 := Aside0.mk (blk_below X2.out hb3.out); have GA3 := Aside0.mk (blk_below GA2.out hb3.out); have GB3 := Aside0.mk (blk_below GB2.out hb3.out); have hca30 : w3.cell? ⟨ga, 0, none⟩ = some (.slice A1 kk.length c1) := (blk_cell GA3.out 0).trans rfl; have hcb30 : w3.cell? ⟨gb, 0, none⟩ = some (.int .i64 sq) := (blk_cell GB3.out 0).trans rfl; have hce30 : w3.cell? ⟨g3, 0, none⟩ = some (.slice A0 e.f0.length c0) := (blk_cell X3.out 0).trans rfl; have hce31 : w3.cell? ⟨g3, 1, none⟩ = some (.int .i64 e.f1) := (blk_cell X3.out 1).trans rfl))
      go_ret
      exact ⟨by simp, below_step (below_step hbg3.out hb2.out) hb3.out⟩
    | false =>
      go_enter Try.func48, Try.ntmps48
      go_wp2_with (first
        | ((with_reducible refine gate_dst (N := 3) rfl ?_); (try (refine gate_guard (by rfl) ?_; dsimp only)); refine box_event ?hg (N := 3) ?hd (cs := #[.slice A0 e.f0.length c0, .int .i64 e.f1, .bool e.f2, .slice A3 e.f3.length c3]) (t := 34) ?hr ?_; (case hd => rfl); (case hg => rfl); (case hr => first | (go_simp; done) | (go_simp; rfl)); intro g3 hqg3 w1 hxg3 hbg3; have n_ := Aside0.mk hqg3; clear hqg3; have hqg3 := n_; clear n_; have n_ := Aside0.mk hxg3; clear hxg3; have hxg3 := n_; clear n_; have n_ := Aside0.mk hbg3; clear hbg3; have hbg3 := n_; clear n_; have GA1 := Aside0.mk (blk_below HGA.out hbg3.out); have GB1 := Aside0.mk (blk_below HGB.out hbg3.out); have hca0 : w1.cell? ⟨ga, 0, none⟩ = some (.slice A1 kk.length c1) := (blk_cell GA1.out 0).trans rfl; have hcb0 : w1.cell? ⟨gb, 0, none⟩ = some (.int .i64 sq) := (blk_cell GB1.out 0).trans rfl; have hce0 : w1.cell? ⟨g3, 0, none⟩ = some (.slice A0 e.f0.length c0) := (blk_cell hxg3.out 0).trans rfl; have hce1 : w1.cell? ⟨g3, 1, none⟩ = some (.int .i64 e.f1) := (blk_cell hxg3.out 1).trans rfl)
        | ((with_reducible refine gate_callee (f := 37) rfl ?_); (try (refine gate_guard (by rfl) ?_; dsimp only)); refine goesL_ (some 8) rfl rfl Try.func37 (by kernel_rfl) rfl #[.slice A0 e.f0.length c0, .slice A1 kk.length c1] rfl (by (try simp only [List.map_toArray, List.map_cons, List.map_nil]); first | done | rfl) ?_; refine (lessC (Kd.C_below HR0.out hbg3.out) HC0.out HE.out (Kd.C_below HR1.out hbg3.out) HC1.out HK.out).mono ?_; rintro ex w2 ⟨rfl, hb2⟩; refine ⟨_, rfl, ?_⟩; rw [B1.out]; have n_ := Aside0.mk hb2; clear hb2; have hb2 := n_; clear n_; have X2 := Aside0.mk (blk_below hxg3.out hb2.out); have GA2 := Aside0.mk (blk_below GA1.out hb2.out); have GB2 := Aside0.mk (blk_below GB1.out hb2.out); have hca20 : w2.cell? ⟨ga, 0, none⟩ = some (.slice A1 kk.length c1) := (blk_cell GA2.out 0).trans rfl; have hcb20 : w2.cell? ⟨gb, 0, none⟩ = some (.int .i64 sq) := (blk_cell GB2.out 0).trans rfl; have hce20 : w2.cell? ⟨g3, 0, none⟩ = some (.slice A0 e.f0.length c0) := (blk_cell X2.out 0).trans rfl; have hce21 : w2.cell? ⟨g3, 1, none⟩ = some (.int .i64 e.f1) := (blk_cell X2.out 1).trans rfl)
        | ((with_reducible refine gate_callee (f := 34) rfl ?_); (try (refine gate_guard (by rfl) ?_; dsimp only)); refine goesL_ (some 13) rfl rfl Try.func34 (by kernel_rfl) rfl #[.slice A0 e.f0.length c0, .slice A1 kk.length c1] rfl (by (try simp only [List.map_toArray, List.map_cons, List.map_nil]); first | done | rfl) ?_; refine (equalC (Kd.C_below HR0.out (below_step hbg3.out hb2.out)) HC0.out HE.out (Kd.C_below HR1.out (below_step hbg3.out hb2.out)) HC1.out HK.out).mono ?_; rintro ex w3 ⟨rfl, hb3⟩; refine ⟨_, rfl, ?_⟩; rw [B2.out]; have n_ := Aside0.mk hb3; clear hb3; have hb3 := n_; clear n_; have X3 := Aside0.mk (blk_below X2.out hb3.out); have GA3 := Aside0.mk (blk_below GA2.out hb3.out); have GB3 := Aside0.mk (blk_below GB2.out hb3.out); have hca30 : w3.cell? ⟨ga, 0, none⟩ = some (.slice A1 kk.length c1) := (blk_cell GA3.out 0).trans rfl; have hcb30 : w3.cell? ⟨gb, 0, none⟩ = some (.int .i64 sq) := (blk_cell GB3.out 0).trans rfl; have hce30 : w3.cell? ⟨g3, 0, none⟩ = some (.slice A0 e.f0.length c0) := (blk_cell X3.out 0).trans rfl; have hce31 : w3.cell? ⟨g3, 1, none⟩ = some (.int .i64 e.f1) := (blk_cell X3.out 1).trans rfl))
      go_ret
      exact ⟨by simp, below_step (below_step hbg3.out hb2.out) hb3.out⟩

set_option maxHeartbeats 4000000 in
set_option maxRecDepth 100000 in
theorem scan_one (ga : Nat) (A0 : Option Addr) (c0 : Nat) (e : S34) (A3 : Option Addr) (c3 : Nat) (A1 : Option Addr) (c1 : Nat) (kk : List Int) (w : World) (hga : w.heap[ga]? = some (.cells #[.slice A1 kk.length c1] 32 (0, 0))) (hr0 : Kd.C (Kd.int .u8) w A0 e.f0.length e.f0) (hc0 : e.f0.length ≤ c0) (he : Byts e.f0) (hr1 : Kd.C (Kd.int .u8) w A1 kk.length kk) (hc1 : kk.length ≤ c1) (hk : Byts kk) :
    Calls Try.prog 36 (#[.agg #[.slice A0 e.f0.length c0, .int .i64 e.f1, .bool e.f2, .slice A3 e.f3.length c3]] ++ #[.pointer (some ⟨ga, 0, none⟩)]) w fun ex w' => ex = .returned (.bool (qF kk e)) ∧ Below w.heap.size w w' := by
  have hu34 := Try.underlying34
  have HGA := Aside0.mk hga
  clear hga
  have HR0 := Aside0.mk hr0
  clear hr0
  have HC0 := Aside0.mk hc0
  clear hc0
  have HE := Aside0.mk he
  clear he
  have HR1 := Aside0.mk hr1
  clear hr1
  have HC1 := Aside0.mk hc1
  clear hc1
  have HK := Aside0.mk hk
  clear hk
  go_enter Try.func36, Try.ntmps36
  go_wp2_with (first
    | ((with_reducible refine gate_dst (N := 2) rfl ?_); (try (refine gate_guard (by rfl) ?_; dsimp only)); refine box_event ?hg (N := 2) ?hd (cs := #[.slice A0 e.f0.length c0, .int .i64 e.f1, .bool e.f2, .slice A3 e.f3.length c3]) (t := 34) ?hr ?_; (case hd => rfl); (case hg => rfl); (case hr => first | (go_simp; done) | (go_simp; rfl)); intro g3 hqg3 w1 hxg3 hbg3; have n_ := Aside0.mk hqg3; clear hqg3; have hqg3 := n_; clear n_; have n_ := Aside0.mk hxg3; clear hxg3; have hxg3 := n_; clear n_; have n_ := Aside0.mk hbg3; clear hbg3; have hbg3 := n_; clear n_; have GA1 := Aside0.mk (blk_below HGA.out hbg3.out); have hca0 : w1.cell? ⟨ga, 0, none⟩ = some (.slice A1 kk.length c1) := (blk_cell GA1.out 0).trans rfl; have hce0 : w1.cell? ⟨g3, 0, none⟩ = some (.slice A0 e.f0.length c0) := (blk_cell hxg3.out 0).trans rfl; have hce1 : w1.cell? ⟨g3, 1, none⟩ = some (.int .i64 e.f1) := (blk_cell hxg3.out 1).trans rfl)
    | ((with_reducible refine gate_callee (f := 37) rfl ?_); (try (refine gate_guard (by rfl) ?_; dsimp only)); refine goesL_ (some 7) rfl rfl Try.func37 (by kernel_rfl) rfl #[.slice A0 e.f0.length c0, .slice A1 kk.length c1] rfl (by (try simp only [List.map_toArray, List.map_cons, List.map_nil]); first | done | rfl) ?_; refine (lessC (Kd.C_below HR0.out hbg3.out) HC0.out HE.out (Kd.C_below HR1.out hbg3.out) HC1.out HK.out).mono ?_; rintro ex w2 ⟨rfl, hb2⟩; refine ⟨_, rfl, ?_⟩; have n_ := Aside0.mk hb2; clear hb2; have hb2 := n_; clear n_))
  go_ret
  exact ⟨rfl, below_step hbg3.out hb2.out⟩

set_option maxHeartbeats 4000000 in
set_option maxRecDepth 100000 in
theorem scan_two (ga : Nat) (A0 : Option Addr) (c0 : Nat) (e : S34) (A3 : Option Addr) (c3 : Nat) (A1 : Option Addr) (c1 : Nat) (kk : List Int) (w : World) (hga : w.heap[ga]? = some (.cells #[.slice A1 kk.length c1] 32 (0, 0))) (hr0 : Kd.C (Kd.int .u8) w A0 e.f0.length e.f0) (hc0 : e.f0.length ≤ c0) (he : Byts e.f0) (hr1 : Kd.C (Kd.int .u8) w A1 kk.length kk) (hc1 : kk.length ≤ c1) (hk : Byts kk) :
    Calls Try.prog 39 (#[.agg #[.slice A0 e.f0.length c0, .int .i64 e.f1, .bool e.f2, .slice A3 e.f3.length c3]] ++ #[.pointer (some ⟨ga, 0, none⟩)]) w fun ex w' => ex = .returned (.bool (qT kk e)) ∧ Below w.heap.size w w' := by
  have hu34 := Try.underlying34
  have HGA := Aside0.mk hga
  clear hga
  have HR0 := Aside0.mk hr0
  clear hr0
  have HC0 := Aside0.mk hc0
  clear hc0
  have HE := Aside0.mk he
  clear he
  have HR1 := Aside0.mk hr1
  clear hr1
  have HC1 := Aside0.mk hc1
  clear hc1
  have HK := Aside0.mk hk
  clear hk
  unfold qT
  by_cases hz : kk.length = 0
  · have hz1 : (((kk.length : Nat) : Int) == 0) = true := by rw [hz]; rfl
    have hz2 : decide (kk.length = 0) = true := decide_eq_true hz
    rw [hz2]
    have HZ := Aside0.mk hz2
    clear hz hz2
    go_enter Try.func39, Try.ntmps39
    go_wp2_with (first
      | ((with_reducible refine gate_dst (N := 2) rfl ?_); (try (refine gate_guard (by rfl) ?_; dsimp only)); refine box_event ?hg (N := 2) ?hd (cs := #[.slice A0 e.f0.length c0, .int .i64 e.f1, .bool e.f2, .slice A3 e.f3.length c3]) (t := 34) ?hr ?_; (case hd => rfl); (case hg => rfl); (case hr => first | (go_simp; done) | (go_simp; rfl)); intro g3 hqg3 w1 hxg3 hbg3; have n_ := Aside0.mk hqg3; clear hqg3; have hqg3 := n_; clear n_; have n_ := Aside0.mk hxg3; clear hxg3; have hxg3 := n_; clear n_; have n_ := Aside0.mk hbg3; clear hbg3; have hbg3 := n_; clear n_; have GA1 := Aside0.mk (blk_below HGA.out hbg3.out); have hca0 : w1.cell? ⟨ga, 0, none⟩ = some (.slice A1 kk.length c1) := (blk_cell GA1.out 0).trans rfl; have hce0 : w1.cell? ⟨g3, 0, none⟩ = some (.slice A0 e.f0.length c0) := (blk_cell hxg3.out 0).trans rfl; have hce1 : w1.cell? ⟨g3, 1, none⟩ = some (.int .i64 e.f1) := (blk_cell hxg3.out 1).trans rfl))
    go_ret
    exact ⟨by simp, hbg3.out⟩
  · have hz1 : (((kk.length : Nat) : Int) == 0) = false := by rw [beq_eq_false_iff_ne]; omega
    have hz2 : decide (kk.length = 0) = false := decide_eq_false hz
    rw [hz2]
    clear hz hz2
    go_enter Try.func39, Try.ntmps39
    go_wp2_with (first
      | ((with_reducible refine gate_dst (N := 2) rfl ?_); (try (refine gate_guard (by rfl) ?_; dsimp only)); refine box_event ?hg (N := 2) ?hd (cs := #[.slice A0 e.f0.length c0, .int .i64 e.f1, .bool e.f2, .slice A3 e.f3.length c3]) (t := 34) ?hr ?_; (case hd => rfl); (case hg => rfl); (case hr => first | (go_simp; done) | (go_simp; rfl)); intro g3 hqg3 w1 hxg3 hbg3; have n_ := Aside0.mk hqg3; clear hqg3; have hqg3 := n_; clear n_; have n_ := Aside0.mk hxg3; clear hxg3; have hxg3 := n_; clear n_; have n_ := Aside0.mk hbg3; clear hbg3; have hbg3 := n_; clear n_; have GA1 := Aside0.mk (blk_below HGA.out hbg3.out); have hca0 : w1.cell? ⟨ga, 0, none⟩ = some (.slice A1 kk.length c1) := (blk_cell GA1.out 0).trans rfl; have hce0 : w1.cell? ⟨g3, 0, none⟩ = some (.slice A0 e.f0.length c0) := (blk_cell hxg3.out 0).trans rfl; have hce1 : w1.cell? ⟨g3, 1, none⟩ = some (.int .i64 e.f1) := (blk_cell hxg3.out 1).trans rfl)
      | ((with_reducible refine gate_callee (f := 37) rfl ?_); (try (refine gate_guard (by rfl) ?_; dsimp only)); refine goesL_ (some 11) rfl rfl Try.func37 (by kernel_rfl) rfl #[.slice A0 e.f0.length c0, .slice A1 kk.length c1] rfl (by (try simp only [List.map_toArray, List.map_cons, List.map_nil]); first | done | rfl) ?_; refine (lessC (Kd.C_below HR0.out hbg3.out) HC0.out HE.out (Kd.C_below HR1.out hbg3.out) HC1.out HK.out).mono ?_; rintro ex w2 ⟨rfl, hb2⟩; refine ⟨_, rfl, ?_⟩; have n_ := Aside0.mk hb2; clear hb2; have hb2 := n_; clear n_))
    go_ret
    exact ⟨by simp, below_step hbg3.out hb2.out⟩

set_option maxHeartbeats 4000000 in
set_option maxRecDepth 100000 in
theorem scan_three (gb : Nat) (A0 : Option Addr) (c0 : Nat) (e : S34) (A3 : Option Addr) (c3 : Nat) (sq : Int) (w : World) (hgb : w.heap[gb]? = some (.cells #[.int .i64 sq] 3 (0, 0))) :
    Calls Try.prog 41 (#[.agg #[.slice A0 e.f0.length c0, .int .i64 e.f1, .bool e.f2, .slice A3 e.f3.length c3]] ++ #[.pointer (some ⟨gb, 0, none⟩)]) w fun ex w' => ex = .returned (.bool (qS sq e)) ∧ Below w.heap.size w w' := by
  have hu34 := Try.underlying34
  have HGB := Aside0.mk hgb
  clear hgb
  go_enter Try.func41, Try.ntmps41
  go_wp2_with (first
    | ((with_reducible refine gate_dst (N := 2) rfl ?_); (try (refine gate_guard (by rfl) ?_; dsimp only)); refine box_event ?hg (N := 2) ?hd (cs := #[.slice A0 e.f0.length c0, .int .i64 e.f1, .bool e.f2, .slice A3 e.f3.length c3]) (t := 34) ?hr ?_; (case hd => rfl); (case hg => rfl); (case hr => first | (go_simp; done) | (go_simp; rfl)); intro g3 hqg3 w1 hxg3 hbg3; have n_ := Aside0.mk hqg3; clear hqg3; have hqg3 := n_; clear n_; have n_ := Aside0.mk hxg3; clear hxg3; have hxg3 := n_; clear n_; have n_ := Aside0.mk hbg3; clear hbg3; have hbg3 := n_; clear n_; have GB1 := Aside0.mk (blk_below HGB.out hbg3.out); have hcb0 : w1.cell? ⟨gb, 0, none⟩ = some (.int .i64 sq) := (blk_cell GB1.out 0).trans rfl; have hce0 : w1.cell? ⟨g3, 0, none⟩ = some (.slice A0 e.f0.length c0) := (blk_cell hxg3.out 0).trans rfl; have hce1 : w1.cell? ⟨g3, 1, none⟩ = some (.int .i64 e.f1) := (blk_cell hxg3.out 1).trans rfl))
  go_ret
  exact ⟨rfl, hbg3.out⟩

set_option maxHeartbeats 4000000 in
set_option maxRecDepth 100000 in
theorem scan_four (A0 : Option Addr) (c0 : Nat) (e : S34) (A3 : Option Addr) (c3 : Nat) (B0 : Option Addr) (d0 : Nat) (u : S34) (B3 : Option Addr) (d3 : Nat) (w : World) (hr0 : Kd.C (Kd.int .u8) w A0 e.f0.length e.f0) (hc0 : e.f0.length ≤ c0) (he : Byts e.f0) (hr1 : Kd.C (Kd.int .u8) w B0 u.f0.length u.f0) (hc1 : u.f0.length ≤ d0) (hk : Byts u.f0) :
    Calls Try.prog 43 (#[.agg #[.slice A0 e.f0.length c0, .int .i64 e.f1, .bool e.f2, .slice A3 e.f3.length c3], .agg #[.slice B0 u.f0.length d0, .int .i64 u.f1, .bool u.f2, .slice B3 u.f3.length d3]] ++ #[]) w fun ex w' => ex = .returned (.bool (eqK e u)) ∧ Below w.heap.size w w' := by
  have hu34 := Try.underlying34
  have HR0 := Aside0.mk hr0
  clear hr0
  have HC0 := Aside0.mk hc0
  clear hc0
  have HE := Aside0.mk he
  clear he
  have HR1 := Aside0.mk hr1
  clear hr1
  have HC1 := Aside0.mk hc1
  clear hc1
  have HK := Aside0.mk hk
  clear hk
  go_enter Try.func43, Try.ntmps43
  go_wp2_with (first
    | ((with_reducible refine gate_dst (N := 2) rfl ?_); (try (refine gate_guard (by rfl) ?_; dsimp only)); refine box_event ?hg (N := 2) ?hd (cs := #[.slice A0 e.f0.length c0, .int .i64 e.f1, .bool e.f2, .slice A3 e.f3.length c3]) (t := 34) ?hr ?_; (case hd => rfl); (case hg => rfl); (case hr => first | (go_simp; done) | (go_simp; rfl)); intro g2 hqg2 w1 hxg2 hbg2; have n_ := Aside0.mk hqg2; clear hqg2; have hqg2 := n_; clear n_; have n_ := Aside0.mk hxg2; clear hxg2; have hxg2 := n_; clear n_; have n_ := Aside0.mk hbg2; clear hbg2; have hbg2 := n_; clear n_)
    | ((with_reducible refine gate_dst (N := 3) rfl ?_); (try (refine gate_guard (by rfl) ?_; dsimp only)); refine box_event ?hg (N := 3) ?hd (cs := #[.slice B0 u.f0.length d0, .int .i64 u.f1, .bool u.f2, .slice B3 u.f3.length d3]) (t := 34) ?hr ?_; (case hd => rfl); (case hg => rfl); (case hr => first | (go_simp; done) | (go_simp; rfl)); intro g3 hqg3 w2 hxg3 hbg3; have n_ := Aside0.mk hqg3; clear hqg3; have hqg3 := n_; clear n_; have n_ := Aside0.mk hxg3; clear hxg3; have hxg3 := n_; clear n_; have n_ := Aside0.mk hbg3; clear hbg3; have hbg3 := n_; clear n_; have X2 := Aside0.mk (blk_below hxg2.out hbg3.out); have hce0 : w2.cell? ⟨g2, 0, none⟩ = some (.slice A0 e.f0.length c0) := (blk_cell X2.out 0).trans rfl; have hcu0 : w2.cell? ⟨g3, 0, none⟩ = some (.slice B0 u.f0.length d0) := (blk_cell hxg3.out 0).trans rfl)
    | ((with_reducible refine gate_callee (f := 34) rfl ?_); (try (refine gate_guard (by rfl) ?_; dsimp only)); refine goesL_ (some 9) rfl rfl Try.func34 (by kernel_rfl) rfl #[.slice A0 e.f0.length c0, .slice B0 u.f0.length d0] rfl (by (try simp only [List.map_toArray, List.map_cons, List.map_nil]); first | done | rfl) ?_; refine (equalC (Kd.C_below HR0.out (below_step hbg2.out hbg3.out)) HC0.out HE.out (Kd.C_below HR1.out (below_step hbg2.out hbg3.out)) HC1.out HK.out).mono ?_; rintro ex w3 ⟨rfl, hb3⟩; refine ⟨_, rfl, ?_⟩; have n_ := Aside0.mk hb3; clear hb3; have hb3 := n_; clear n_))
  go_ret
  exact ⟨rfl, below_step (below_step hbg2.out hbg3.out) hb3.out⟩

set_option maxHeartbeats 4000000 in
set_option maxRecDepth 100000 in
theorem level_one (A0 : Option Addr) (c0 : Nat) (e : S34) (A3 : Option Addr) (c3 : Nat) (w : World) :
    Calls Try.prog 44 (#[.agg #[.slice A0 e.f0.length c0, .int .i64 e.f1, .bool e.f2, .slice A3 e.f3.length c3]] ++ #[]) w fun ex w' => ex = .returned (.bool (qA e)) ∧ Below w.heap.size w w' := by
  have hu34 := Try.underlying34
  go_enter Try.func44, Try.ntmps44
  go_wp2_with (first
    | ((with_reducible refine gate_dst (N := 1) rfl ?_); (try (refine gate_guard (by rfl) ?_; dsimp only)); refine box_event ?hg (N := 1) ?hd (cs := #[.slice A0 e.f0.length c0, .int .i64 e.f1, .bool e.f2, .slice A3 e.f3.length c3]) (t := 34) ?hr ?_; (case hd => rfl); (case hg => rfl); (case hr => first | (go_simp; done) | (go_simp; rfl)); intro g3 hqg3 w1 hxg3 hbg3; have n_ := Aside0.mk hqg3; clear hqg3; have hqg3 := n_; clear n_; have n_ := Aside0.mk hxg3; clear hxg3; have hxg3 := n_; clear n_; have n_ := Aside0.mk hbg3; clear hbg3; have hbg3 := n_; clear n_))
  go_ret
  exact ⟨rfl, hbg3.out⟩

set_option maxHeartbeats 4000000 in
set_option maxRecDepth 100000 in
theorem before_calls (A1 : Option Addr) (c1 : Nat) (kk : List Int) (sq : Int) (w : World) :
    Calls Try.prog 33 #[.slice A1 kk.length c1, .int .i64 sq] w fun ex w' => ∃ ga gb, ex = .returned (.func (.func 48) #[] #[.pointer (some ⟨ga, 0, none⟩), .pointer (some ⟨gb, 0, none⟩)]) ∧ w'.heap[ga]? = some (.cells #[.slice A1 kk.length c1] 32 (0, 0)) ∧ w'.heap[gb]? = some (.cells #[.int .i64 sq] 3 (0, 0)) ∧ w.heap.size ≤ ga ∧ w.heap.size ≤ gb ∧ Below w.heap.size w w' := by
  go_enter Try.func33, Try.ntmps33
  go_wp2_with (first
    | ((with_reducible refine gate_dst (N := 2) rfl ?_); (try (refine gate_guard (by rfl) ?_; dsimp only)); refine box_event ?hg (N := 2) ?hd (cs := #[.slice A1 kk.length c1]) (t := 32) ?hr ?_; (case hd => rfl); (case hg => rfl); (case hr => first | (go_simp; done) | (go_simp; rfl)); intro ga hqga w1 hxga hbga; have n_ := Aside0.mk hqga; clear hqga; have hqga := n_; clear n_; have n_ := Aside0.mk hxga; clear hxga; have hxga := n_; clear n_; have n_ := Aside0.mk hbga; clear hbga; have hbga := n_; clear n_)
    | ((with_reducible refine gate_dst (N := 3) rfl ?_); (try (refine gate_guard (by rfl) ?_; dsimp only)); refine box_event ?hg (N := 3) ?hd (cs := #[.int .i64 sq]) (t := 3) ?hr ?_; (case hd => rfl); (case hg => rfl); (case hr => first | (go_simp; done) | (go_simp; rfl)); intro gb hqgb w2 hxgb hbgb; have n_ := Aside0.mk hqgb; clear hqgb; have hqgb := n_; clear n_; have n_ := Aside0.mk hxgb; clear hxgb; have hxgb := n_; clear n_; have n_ := Aside0.mk hbgb; clear hbgb; have hbgb := n_; clear n_; have GA1 := Aside0.mk (blk_below hxga.out hbgb.out)))
  go_ret
  exact ⟨ga, gb, rfl, GA1.out, hxgb.out, by have h1 := hqga.out; omega, by have h1 := hqgb.out; have h2 := hbga.out.size; omega, below_step hbga.out hbgb.out⟩
end Go.Proofs.Ytjlkcidohabcfaa.Sk
