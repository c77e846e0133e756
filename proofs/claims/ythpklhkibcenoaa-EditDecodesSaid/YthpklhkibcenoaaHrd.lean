/- edit's reader and the document's, walked. Conditions: those of each theorem. -/
import Derived.Test.YthpklhkibcenoaaPx0
import Derived.Test.YthpklhkibcenoaaCore
import Derived.Test.YthpklhkibcenoaaPx53
import Derived.Test.YthpklhkibcenoaaPx55
import Derived.Test.YthpklhkibcenoaaPx59
import Derived.Test.YthpklhkibcenoaaPx61
import Derived.Test.YthpklhkibcenoaaME
namespace Go.Proofs.Ythpklhkibcenoaa.Sk
open Go.RowKit Go.Proofs.YthpklhkibcenoaaW.PrintWords Go.Proofs.YthpklhkibcenoaaW.PrintLast Go.Proofs.YthpklhkibcenoaaW.PrintMore Go.Proofs.Ythpklhkibcenoaa.Px Go.Proofs.Ythpklhkibcenoaa.Sw
set_option linter.unusedVariables false
set_option linter.unusedSimpArgs false
theorem rdr_sets {w0 w w1 : World} {g : Nat} {c0 c1 : Value} {v u : Value} {A : Option Addr} {n : Nat} {xs : List Int} (hB : Below w0.heap.size w0 w) (hg0 : w0.heap.size ≤ g) (hgl : g < w.heap.size) (hb : Below w.heap.size w w1)
  (BK : w1.heap[g]? = some (.cells #[c0, c1] 76 (0, 0))) (hf : Kd.F (Kd.int .u8) w1 (fun k_ => w.heap.size ≤ k_) A n xs) :
  ((w1.setCell ⟨g, 0, none⟩ v).setCell ⟨g, 1, none⟩ u).heap[g]? = some (.cells #[v, u] 76 (0, 0)) ∧ Kd.F (Kd.int .u8) ((w1.setCell ⟨g, 0, none⟩ v).setCell ⟨g, 1, none⟩ u) (fun k_ => w.heap.size ≤ k_) A n xs ∧ Below w0.heap.size w0 ((w1.setCell ⟨g, 0, none⟩ v).setCell ⟨g, 1, none⟩ u) ∧ KeepBut w ((w1.setCell ⟨g, 0, none⟩ v).setCell ⟨g, 1, none⟩ u) g none := by
 refine ⟨?_, ?_, ?_, ?_⟩
 ·
  exact blk_put (blk_set BK 0 v) 1 u rfl
 ·
  exact Kd.F_far (p := ⟨g, 1, none⟩) (Kd.F_far (p := ⟨g, 0, none⟩) hf (fun k hk => by show k ≠ g; have := hk; omega) v) (fun k hk => by show k ≠ g; have := hk; omega) u
 ·
  exact below_set (below_set (below_step hB hb) hg0) hg0
 ·
  exact KeepBut.set_ (KeepBut.set_ (KeepBut.of_below hb g none) 0 v) 1 u
set_option maxHeartbeats 4000000 in
set_option maxRecDepth 100000 in
theorem rdr_num (k : Nat) (g : Nat) (A : Option Addr) (c : Nat) (bs : List Int) (bad : Bool) (n : Int) (rest : List Int) (e : Int) (w0 w : World)
  (hB : Below w0.heap.size w0 w) (hg0 : w0.heap.size ≤ g)
  (hg : w.heap[g]? = some (.cells #[.slice A bs.length c, .bool bad] 76 (0, 0)))
  (hr : Kd.C (Kd.int .u8) w A bs.length bs) (hc : bs.length ≤ c) (h : code_TakeNum.f k bs = some (n, rest, e)) :
  Calls Try.prog 45 #[.pointer (some ⟨g, 0, none⟩)] w fun ex w' => ∃ (A' : Option Addr) (c' : Nat), ex = .returned (.int .i64 n) ∧ w'.heap[g]? = some (.cells #[.slice A' rest.length c', .bool (bad || e != 0)] 76 (0, 0)) ∧ rest.length ≤ c' ∧ Kd.F (Kd.int .u8) w' (fun k_ => w.heap.size ≤ k_) A' rest.length rest ∧ Below w0.heap.size w0 w' ∧ KeepBut w w' g none := by
 have huR := Try.underlying76
 have hcell0 : w.cell? ⟨g, 0, none⟩ = some (.slice A bs.length c) := (blk_cell hg 0).trans rfl
 have hgl := blk_lt hg
 have HG := Aside0.mk hg
 have HB := Aside0.mk hB
 have HR := Aside0.mk hr
 have HC := Aside0.mk hc
 clear hg hB hr hc
 cases bad with
 | true =>
  have HV := Aside0.mk (show (true || e != 0) = true from rfl)
  go_enter Try.func45, Try.ntmps45
  go_wp2_with ((with_reducible refine gate_callee (f := 63) rfl ?_); (try (refine gate_guard (by rfl) ?_; dsimp only)); refine goesL_ (some 11) rfl rfl Try.func63 (by kernel_rfl) rfl #[.slice A bs.length c] rfl (by (try simp only [List.map_toArray, List.map_cons, List.map_nil]); first | done | rfl) ?_; refine (code_TakeNum.calls k _ _ bs n rest e _ HR.out HC.out h).mono ?_; rintro ex w1 ⟨v1, rfl, ho, hb⟩; refine ⟨_, rfl, ?_⟩; obtain ⟨A1, c1, rfl⟩ := Kd.R_slice ho; have BK := Aside0.mk (blk_below HG.out hb); have HB1 := Aside0.mk hb; have HF1 := Aside0.mk (Kd.F_mono (Kd.R_F (Kd.R_bound ho)) (fun _ hk => hk.2.1)); have HL1 := Aside0.mk (Kd.R_reads' ho).2.1; clear ho hb; have hcz0 : w1.cell? ⟨g, 0, none⟩ = some (.slice A bs.length c) := (blk_cell BK.out 0).trans rfl; have hcz1 : w1.cell? ⟨g, 1, none⟩ = some (.bool true) := (blk_cell BK.out 1).trans rfl; have hfz0 := blk_frozen BK.out 0; have hfz1 := blk_frozen BK.out 1)
  go_ret
  have hz := rdr_sets (v := .slice A1 rest.length c1) (u := .bool true) HB.out hg0 hgl HB1.out BK.out HF1.out
  exact ⟨A1, c1, rfl, by rw [HV.out]; exact hz.1, HL1.out, hz.2.1, hz.2.2.1, hz.2.2.2⟩
 | false =>
  by_cases he : e = 0
  ·
   have he1 : (e == 0) = true := by simp [he]
   have he2 : (e != 0) = false := by simp [he]
   have HV := Aside0.mk (show (false || e != 0) = false by rw [he2]; rfl)
   clear he
   go_enter Try.func45, Try.ntmps45
   go_wp2_with ((with_reducible refine gate_callee (f := 63) rfl ?_); (try (refine gate_guard (by rfl) ?_; dsimp only)); refine goesL_ (some 11) rfl rfl Try.func63 (by kernel_rfl) rfl #[.slice A bs.length c] rfl (by (try simp only [List.map_toArray, List.map_cons, List.map_nil]); first | done | rfl) ?_; refine (code_TakeNum.calls k _ _ bs n rest e _ HR.out HC.out h).mono ?_; rintro ex w1 ⟨v1, rfl, ho, hb⟩; refine ⟨_, rfl, ?_⟩; obtain ⟨A1, c1, rfl⟩ := Kd.R_slice ho; have BK := Aside0.mk (blk_below HG.out hb); have HB1 := Aside0.mk hb; have HF1 := Aside0.mk (Kd.F_mono (Kd.R_F (Kd.R_bound ho)) (fun _ hk => hk.2.1)); have HL1 := Aside0.mk (Kd.R_reads' ho).2.1; clear ho hb; have hcz0 : w1.cell? ⟨g, 0, none⟩ = some (.slice A bs.length c) := (blk_cell BK.out 0).trans rfl; have hcz1 : w1.cell? ⟨g, 1, none⟩ = some (.bool false) := (blk_cell BK.out 1).trans rfl; have hfz0 := blk_frozen BK.out 0; have hfz1 := blk_frozen BK.out 1)
   go_ret
   have hz := rdr_sets (v := .slice A1 rest.length c1) (u := .bool false) HB.out hg0 hgl HB1.out BK.out HF1.out
   exact ⟨A1, c1, rfl, by rw [HV.out]; exact hz.1, HL1.out, hz.2.1, hz.2.2.1, hz.2.2.2⟩
  ·
   have he1 : (e == 0) = false := by simp [he]
   have he2 : (e != 0) = true := by simp [he]
   have HV := Aside0.mk (show (false || e != 0) = true by rw [he2]; rfl)
   clear he
   go_enter Try.func45, Try.ntmps45
   go_wp2_with ((with_reducible refine gate_callee (f := 63) rfl ?_); (try (refine gate_guard (by rfl) ?_; dsimp only)); refine goesL_ (some 11) rfl rfl Try.func63 (by kernel_rfl) rfl #[.slice A bs.length c] rfl (by (try simp only [List.map_toArray, List.map_cons, List.map_nil]); first | done | rfl) ?_; refine (code_TakeNum.calls k _ _ bs n rest e _ HR.out HC.out h).mono ?_; rintro ex w1 ⟨v1, rfl, ho, hb⟩; refine ⟨_, rfl, ?_⟩; obtain ⟨A1, c1, rfl⟩ := Kd.R_slice ho; have BK := Aside0.mk (blk_below HG.out hb); have HB1 := Aside0.mk hb; have HF1 := Aside0.mk (Kd.F_mono (Kd.R_F (Kd.R_bound ho)) (fun _ hk => hk.2.1)); have HL1 := Aside0.mk (Kd.R_reads' ho).2.1; clear ho hb; have hcz0 : w1.cell? ⟨g, 0, none⟩ = some (.slice A bs.length c) := (blk_cell BK.out 0).trans rfl; have hcz1 : w1.cell? ⟨g, 1, none⟩ = some (.bool false) := (blk_cell BK.out 1).trans rfl; have hfz0 := blk_frozen BK.out 0; have hfz1 := blk_frozen BK.out 1)
   go_ret
   have hz := rdr_sets (v := .slice A1 rest.length c1) (u := .bool true) HB.out hg0 hgl HB1.out BK.out HF1.out
   exact ⟨A1, c1, rfl, by rw [HV.out]; exact hz.1, HL1.out, hz.2.1, hz.2.2.1, hz.2.2.2⟩
set_option maxHeartbeats 4000000 in
set_option maxRecDepth 100000 in
theorem rdr_text (k : Nat) (g : Nat) (A : Option Addr) (c : Nat) (bs : List Int) (bad : Bool) (s : ByteArray) (rest : List Int) (e : Int) (w0 w : World)
  (hB : Below w0.heap.size w0 w) (hg0 : w0.heap.size ≤ g)
  (hg : w.heap[g]? = some (.cells #[.slice A bs.length c, .bool bad] 76 (0, 0)))
  (hr : Kd.C (Kd.int .u8) w A bs.length bs) (hc : bs.length ≤ c) (h : code_TakeText.f k bs 64 = some (s, rest, e)) (hs : s.size ≤ 140737488355328) :
  Calls Try.prog 46 #[.pointer (some ⟨g, 0, none⟩)] w fun ex w' => ∃ (v0 : Value) (A' : Option Addr) (c' : Nat), ex = .returned v0 ∧ Kd.V (Kd.int .u8) 5 w' w.heap.size (fun k_ => w.heap.size ≤ k_) v0 (bytesOf s) ∧ w'.heap[g]? = some (.cells #[.slice A' rest.length c', .bool (bad || e != 0)] 76 (0, 0)) ∧ rest.length ≤ c' ∧ Kd.F (Kd.int .u8) w' (fun k_ => w.heap.size ≤ k_) A' rest.length rest ∧ Below w0.heap.size w0 w' ∧ KeepBut w w' g none := by
 have huR := Try.underlying76
 have hcell0 : w.cell? ⟨g, 0, none⟩ = some (.slice A bs.length c) := (blk_cell hg 0).trans rfl
 have hgl := blk_lt hg
 have HG := Aside0.mk hg
 have HB := Aside0.mk hB
 have HR := Aside0.mk hr
 have HC := Aside0.mk hc
 clear hg hB hr hc
 cases bad with
 | true =>
  have HV := Aside0.mk (show (true || e != 0) = true from rfl)
  go_enter Try.func46, Try.ntmps46
  go_wp2_with (first
   | ((with_reducible refine gate_callee (f := 64) rfl ?_); (try (refine gate_guard (by rfl) ?_; dsimp only)); refine goesL_ (some 11) rfl rfl Try.func64 (by kernel_rfl) rfl #[.slice A bs.length c, .int .i64 64] rfl (by (try simp only [List.map_toArray, List.map_cons, List.map_nil]); first | done | rfl) ?_; refine (code_TakeText.calls k _ _ bs 64 s rest e _ HR.out HC.out h).mono ?_; rintro ex w1 ⟨v1, rfl, ho, hb⟩; refine ⟨_, rfl, ?_⟩; obtain ⟨A1, c1, rfl, hl1⟩ := Kd.Q_slice ho; have BK := Aside0.mk (blk_below HG.out hb); have HB1 := Aside0.mk hb; have HF1 := Aside0.mk (Kd.F_mono (Kd.Q_F (Kd.Q_bound ho)) (fun _ hk => hk.2.1)); have HL1 := Aside0.mk hl1; clear ho hb hl1; have hcz0 : w1.cell? ⟨g, 0, none⟩ = some (.slice A bs.length c) := (blk_cell BK.out 0).trans rfl; have hcz1 : w1.cell? ⟨g, 1, none⟩ = some (.bool true) := (blk_cell BK.out 1).trans rfl; have hfz0 := blk_frozen BK.out 0; have hfz1 := blk_frozen BK.out 1)
   | ((with_reducible refine gate_dst (N := 31) rfl ?_); have hz := rdr_sets (v := .slice A1 rest.length c1) (u := .bool true) HB.out hg0 hgl HB1.out BK.out HF1.out; have HZ := Aside0.mk hz; clear hz; refine Kd.V_bytes _ 5 ?hg (N := 31) ?hd s (ok := fun k_ => w.heap.size ≤ k_) hs ?hr ?hw (Below.refl _ _) (Nat.le_refl _) ?_; (case hd => rfl); (case hg => rfl); (case hr => show Sem.run Try.prog (do let v_ ← convert 9 35 (.string s); pure (Next.value v_)) _ = _; rw [Sem.run_bind, print_bytes 9 35 5 Try.underlying9 Try.underlying35 Try.underlying5]; rfl); (case hw => intro k_ h_; exact Nat.le_trans HZ.out.2.2.2.1 h_); intro v2 w2 hv2 hb2 hgr2 hown2; clear hgr2 hown2))
  go_ret
  exact ⟨v2, A1, c1, rfl, hv2, blk_below (by rw [HV.out]; exact HZ.out.1) hb2, HL1.out, Kd.F_below HZ.out.2.1 hb2, below_step HZ.out.2.2.1 hb2, KeepBut.trans HZ.out.2.2.2 (KeepBut.of_below hb2 g none) (.inl rfl)⟩
 | false =>
  by_cases he : e = 0
  ·
   have he1 : (e == 0) = true := by simp [he]
   have he2 : (e != 0) = false := by simp [he]
   have HV := Aside0.mk (show (false || e != 0) = false by rw [he2]; rfl)
   clear he
   go_enter Try.func46, Try.ntmps46
   go_wp2_with (first
    | ((with_reducible refine gate_callee (f := 64) rfl ?_); (try (refine gate_guard (by rfl) ?_; dsimp only)); refine goesL_ (some 11) rfl rfl Try.func64 (by kernel_rfl) rfl #[.slice A bs.length c, .int .i64 64] rfl (by (try simp only [List.map_toArray, List.map_cons, List.map_nil]); first | done | rfl) ?_; refine (code_TakeText.calls k _ _ bs 64 s rest e _ HR.out HC.out h).mono ?_; rintro ex w1 ⟨v1, rfl, ho, hb⟩; refine ⟨_, rfl, ?_⟩; obtain ⟨A1, c1, rfl, hl1⟩ := Kd.Q_slice ho; have BK := Aside0.mk (blk_below HG.out hb); have HB1 := Aside0.mk hb; have HF1 := Aside0.mk (Kd.F_mono (Kd.Q_F (Kd.Q_bound ho)) (fun _ hk => hk.2.1)); have HL1 := Aside0.mk hl1; clear ho hb hl1; have hcz0 : w1.cell? ⟨g, 0, none⟩ = some (.slice A bs.length c) := (blk_cell BK.out 0).trans rfl; have hcz1 : w1.cell? ⟨g, 1, none⟩ = some (.bool false) := (blk_cell BK.out 1).trans rfl; have hfz0 := blk_frozen BK.out 0; have hfz1 := blk_frozen BK.out 1)
    | ((with_reducible refine gate_dst (N := 31) rfl ?_); have hz := rdr_sets (v := .slice A1 rest.length c1) (u := .bool false) HB.out hg0 hgl HB1.out BK.out HF1.out; have HZ := Aside0.mk hz; clear hz; refine Kd.V_bytes _ 5 ?hg (N := 31) ?hd s (ok := fun k_ => w.heap.size ≤ k_) hs ?hr ?hw (Below.refl _ _) (Nat.le_refl _) ?_; (case hd => rfl); (case hg => rfl); (case hr => show Sem.run Try.prog (do let v_ ← convert 9 35 (.string s); pure (Next.value v_)) _ = _; rw [Sem.run_bind, print_bytes 9 35 5 Try.underlying9 Try.underlying35 Try.underlying5]; rfl); (case hw => intro k_ h_; exact Nat.le_trans HZ.out.2.2.2.1 h_); intro v2 w2 hv2 hb2 hgr2 hown2; clear hgr2 hown2))
   go_ret
   exact ⟨v2, A1, c1, rfl, hv2, blk_below (by rw [HV.out]; exact HZ.out.1) hb2, HL1.out, Kd.F_below HZ.out.2.1 hb2, below_step HZ.out.2.2.1 hb2, KeepBut.trans HZ.out.2.2.2 (KeepBut.of_below hb2 g none) (.inl rfl)⟩
  ·
   have he1 : (e == 0) = false := by simp [he]
   have he2 : (e != 0) = true := by simp [he]
   have HV := Aside0.mk (show (false || e != 0) = true by rw [he2]; rfl)
   clear he
   go_enter Try.func46, Try.ntmps46
   go_wp2_with (first
    | ((with_reducible refine gate_callee (f := 64) rfl ?_); (try (refine gate_guard (by rfl) ?_; dsimp only)); refine goesL_ (some 11) rfl rfl Try.func64 (by kernel_rfl) rfl #[.slice A bs.length c, .int .i64 64] rfl (by (try simp only [List.map_toArray, List.map_cons, List.map_nil]); first | done | rfl) ?_; refine (code_TakeText.calls k _ _ bs 64 s rest e _ HR.out HC.out h).mono ?_; rintro ex w1 ⟨v1, rfl, ho, hb⟩; refine ⟨_, rfl, ?_⟩; obtain ⟨A1, c1, rfl, hl1⟩ := Kd.Q_slice ho; have BK := Aside0.mk (blk_below HG.out hb); have HB1 := Aside0.mk hb; have HF1 := Aside0.mk (Kd.F_mono (Kd.Q_F (Kd.Q_bound ho)) (fun _ hk => hk.2.1)); have HL1 := Aside0.mk hl1; clear ho hb hl1; have hcz0 : w1.cell? ⟨g, 0, none⟩ = some (.slice A bs.length c) := (blk_cell BK.out 0).trans rfl; have hcz1 : w1.cell? ⟨g, 1, none⟩ = some (.bool false) := (blk_cell BK.out 1).trans rfl; have hfz0 := blk_frozen BK.out 0; have hfz1 := blk_frozen BK.out 1)
    | ((with_reducible refine gate_dst (N := 31) rfl ?_); have hz := rdr_sets (v := .slice A1 rest.length c1) (u := .bool true) HB.out hg0 hgl HB1.out BK.out HF1.out; have HZ := Aside0.mk hz; clear hz; refine Kd.V_bytes _ 5 ?hg (N := 31) ?hd s (ok := fun k_ => w.heap.size ≤ k_) hs ?hr ?hw (Below.refl _ _) (Nat.le_refl _) ?_; (case hd => rfl); (case hg => rfl); (case hr => show Sem.run Try.prog (do let v_ ← convert 9 35 (.string s); pure (Next.value v_)) _ = _; rw [Sem.run_bind, print_bytes 9 35 5 Try.underlying9 Try.underlying35 Try.underlying5]; rfl); (case hw => intro k_ h_; exact Nat.le_trans HZ.out.2.2.2.1 h_); intro v2 w2 hv2 hb2 hgr2 hown2; clear hgr2 hown2))
   go_ret
   exact ⟨v2, A1, c1, rfl, hv2, blk_below (by rw [HV.out]; exact HZ.out.1) hb2, HL1.out, Kd.F_below HZ.out.2.1 hb2, below_step HZ.out.2.2.1 hb2, KeepBut.trans HZ.out.2.2.2 (KeepBut.of_below hb2 g none) (.inl rfl)⟩
theorem ref_sets {w0 w w1 : World} {g : Nat} {c0 c1 : Value} {v u : Value} {A : Option Addr} {n : Nat} {xs : List Int} (hB : Below w0.heap.size w0 w) (hg0 : w0.heap.size ≤ g) (hgl : g < w.heap.size) (hb : Below w.heap.size w w1)
  (BK : w1.heap[g]? = some (.cells #[c0, c1] 81 (0, 0))) (hf : Kd.F (Kd.int .u8) w1 (fun k_ => w.heap.size ≤ k_) A n xs) :
  ((w1.setCell ⟨g, 1, none⟩ u).setCell ⟨g, 0, none⟩ v).heap[g]? = some (.cells #[v, u] 81 (0, 0)) ∧ Kd.F (Kd.int .u8) ((w1.setCell ⟨g, 1, none⟩ u).setCell ⟨g, 0, none⟩ v) (fun k_ => w.heap.size ≤ k_) A n xs ∧ Below w0.heap.size w0 ((w1.setCell ⟨g, 1, none⟩ u).setCell ⟨g, 0, none⟩ v) ∧ KeepBut w ((w1.setCell ⟨g, 1, none⟩ u).setCell ⟨g, 0, none⟩ v) g none := by
 refine ⟨?_, ?_, ?_, ?_⟩
 ·
  exact blk_put (blk_set BK 1 u) 0 v rfl
 ·
  exact Kd.F_far (p := ⟨g, 0, none⟩) (Kd.F_far (p := ⟨g, 1, none⟩) hf (fun k hk => by show k ≠ g; have := hk; omega) u) (fun k hk => by show k ≠ g; have := hk; omega) v
 ·
  exact below_set (below_set (below_step hB hb) hg0) hg0
 ·
  exact KeepBut.set_ (KeepBut.set_ (KeepBut.of_below hb g none) 1 u) 0 v
set_option maxHeartbeats 4000000 in
set_option maxRecDepth 100000 in
theorem ref_num (k : Nat) (g : Nat) (A : Option Addr) (c : Nat) (bs : List Int) (bad : Bool) (n : Int) (rest : List Int) (e : Int) (w0 w : World)
  (hB : Below w0.heap.size w0 w) (hg0 : w0.heap.size ≤ g)
  (hg : w.heap[g]? = some (.cells #[.slice A bs.length c, .bool bad] 81 (0, 0)))
  (hr : Kd.C (Kd.int .u8) w A bs.length bs) (hc : bs.length ≤ c) (h : sawyerref02_TakeNum.f k bs = some (n, rest, e)) :
  Calls Try.prog 48 #[.pointer (some ⟨g, 0, none⟩)] w fun ex w' => ∃ (A' : Option Addr) (c' : Nat), ex = .returned (.int .i64 n) ∧ w'.heap[g]? = some (.cells #[.slice A' rest.length c', .bool (bad || e != 0)] 81 (0, 0)) ∧ rest.length ≤ c' ∧ Kd.F (Kd.int .u8) w' (fun k_ => w.heap.size ≤ k_) A' rest.length rest ∧ Below w0.heap.size w0 w' ∧ KeepBut w w' g none := by
 have huR := Try.underlying81
 have hcell0 : w.cell? ⟨g, 0, none⟩ = some (.slice A bs.length c) := (blk_cell hg 0).trans rfl
 have hgl := blk_lt hg
 have HG := Aside0.mk hg
 have HB := Aside0.mk hB
 have HR := Aside0.mk hr
 have HC := Aside0.mk hc
 clear hg hB hr hc
 cases bad with
 | true =>
  have HV := Aside0.mk (show (true || e != 0) = true from rfl)
  go_enter Try.func48, Try.ntmps48
  go_wp2_with ((with_reducible refine gate_callee (f := 65) rfl ?_); (try (refine gate_guard (by rfl) ?_; dsimp only)); refine goesL_ (some 11) rfl rfl Try.func65 (by kernel_rfl) rfl #[.slice A bs.length c] rfl (by (try simp only [List.map_toArray, List.map_cons, List.map_nil]); first | done | rfl) ?_; refine (sawyerref02_TakeNum.calls k _ _ bs n rest e _ HR.out HC.out h).mono ?_; rintro ex w1 ⟨v1, rfl, ho, hb⟩; refine ⟨_, rfl, ?_⟩; obtain ⟨A1, c1, rfl⟩ := Kd.R_slice ho; have BK := Aside0.mk (blk_below HG.out hb); have HB1 := Aside0.mk hb; have HF1 := Aside0.mk (Kd.F_mono (Kd.R_F (Kd.R_bound ho)) (fun _ hk => hk.2.1)); have HL1 := Aside0.mk (Kd.R_reads' ho).2.1; clear ho hb; have hcz0 : w1.cell? ⟨g, 0, none⟩ = some (.slice A bs.length c) := (blk_cell BK.out 0).trans rfl; have hcz1 : w1.cell? ⟨g, 1, none⟩ = some (.bool true) := (blk_cell BK.out 1).trans rfl; have hfz0 := blk_frozen BK.out 0; have hfz1 := blk_frozen BK.out 1)
  go_ret
  have hz := ref_sets (v := .slice A1 rest.length c1) (u := .bool true) HB.out hg0 hgl HB1.out BK.out HF1.out
  exact ⟨A1, c1, rfl, by rw [HV.out]; exact hz.1, HL1.out, hz.2.1, hz.2.2.1, hz.2.2.2⟩
 | false =>
  by_cases he : e = 0
  ·
   have he1 : (e == 0) = true := by simp [he]
   have he2 : (e != 0) = false := by simp [he]
   have HV := Aside0.mk (show (false || e != 0) = false by rw [he2]; rfl)
   clear he
   go_enter Try.func48, Try.ntmps48
   go_wp2_with ((with_reducible refine gate_callee (f := 65) rfl ?_); (try (refine gate_guard (by rfl) ?_; dsimp only)); refine goesL_ (some 11) rfl rfl Try.func65 (by kernel_rfl) rfl #[.slice A bs.length c] rfl (by (try simp only [List.map_toArray, List.map_cons, List.map_nil]); first | done | rfl) ?_; refine (sawyerref02_TakeNum.calls k _ _ bs n rest e _ HR.out HC.out h).mono ?_; rintro ex w1 ⟨v1, rfl, ho, hb⟩; refine ⟨_, rfl, ?_⟩; obtain ⟨A1, c1, rfl⟩ := Kd.R_slice ho; have BK := Aside0.mk (blk_below HG.out hb); have HB1 := Aside0.mk hb; have HF1 := Aside0.mk (Kd.F_mono (Kd.R_F (Kd.R_bound ho)) (fun _ hk => hk.2.1)); have HL1 := Aside0.mk (Kd.R_reads' ho).2.1; clear ho hb; have hcz0 : w1.cell? ⟨g, 0, none⟩ = some (.slice A bs.length c) := (blk_cell BK.out 0).trans rfl; have hcz1 : w1.cell? ⟨g, 1, none⟩ = some (.bool false) := (blk_cell BK.out 1).trans rfl; have hfz0 := blk_frozen BK.out 0; have hfz1 := blk_frozen BK.out 1)
   go_ret
   have hz := ref_sets (v := .slice A1 rest.length c1) (u := .bool false) HB.out hg0 hgl HB1.out BK.out HF1.out
   exact ⟨A1, c1, rfl, by rw [HV.out]; exact hz.1, HL1.out, hz.2.1, hz.2.2.1, hz.2.2.2⟩
  ·
   have he1 : (e == 0) = false := by simp [he]
   have he2 : (e != 0) = true := by simp [he]
   have HV := Aside0.mk (show (false || e != 0) = true by rw [he2]; rfl)
   clear he
   go_enter Try.func48, Try.ntmps48
   go_wp2_with ((with_reducible refine gate_callee (f := 65) rfl ?_); (try (refine gate_guard (by rfl) ?_; dsimp only)); refine goesL_ (some 11) rfl rfl Try.func65 (by kernel_rfl) rfl #[.slice A bs.length c] rfl (by (try simp only [List.map_toArray, List.map_cons, List.map_nil]); first | done | rfl) ?_; refine (sawyerref02_TakeNum.calls k _ _ bs n rest e _ HR.out HC.out h).mono ?_; rintro ex w1 ⟨v1, rfl, ho, hb⟩; refine ⟨_, rfl, ?_⟩; obtain ⟨A1, c1, rfl⟩ := Kd.R_slice ho; have BK := Aside0.mk (blk_below HG.out hb); have HB1 := Aside0.mk hb; have HF1 := Aside0.mk (Kd.F_mono (Kd.R_F (Kd.R_bound ho)) (fun _ hk => hk.2.1)); have HL1 := Aside0.mk (Kd.R_reads' ho).2.1; clear ho hb; have hcz0 : w1.cell? ⟨g, 0, none⟩ = some (.slice A bs.length c) := (blk_cell BK.out 0).trans rfl; have hcz1 : w1.cell? ⟨g, 1, none⟩ = some (.bool false) := (blk_cell BK.out 1).trans rfl; have hfz0 := blk_frozen BK.out 0; have hfz1 := blk_frozen BK.out 1)
   go_ret
   have hz := ref_sets (v := .slice A1 rest.length c1) (u := .bool true) HB.out hg0 hgl HB1.out BK.out HF1.out
   exact ⟨A1, c1, rfl, by rw [HV.out]; exact hz.1, HL1.out, hz.2.1, hz.2.2.1, hz.2.2.2⟩
set_option maxHeartbeats 4000000 in
set_option maxRecDepth 100000 in
theorem ref_text (k : Nat) (g : Nat) (A : Option Addr) (c : Nat) (bs : List Int) (bad : Bool) (s : ByteArray) (rest : List Int) (e : Int) (w0 w : World)
  (hB : Below w0.heap.size w0 w) (hg0 : w0.heap.size ≤ g)
  (hg : w.heap[g]? = some (.cells #[.slice A bs.length c, .bool bad] 81 (0, 0)))
  (hr : Kd.C (Kd.int .u8) w A bs.length bs) (hc : bs.length ≤ c) (h : sawyerref02_TakeText.f k bs 64 = some (s, rest, e)) (hs : s.size ≤ 140737488355328) :
  Calls Try.prog 49 #[.pointer (some ⟨g, 0, none⟩)] w fun ex w' => ∃ (v0 : Value) (A' : Option Addr) (c' : Nat), ex = .returned v0 ∧ Kd.V (Kd.int .u8) 5 w' w.heap.size (fun k_ => w.heap.size ≤ k_) v0 (bytesOf s) ∧ w'.heap[g]? = some (.cells #[.slice A' rest.length c', .bool (bad || e != 0)] 81 (0, 0)) ∧ rest.length ≤ c' ∧ Kd.F (Kd.int .u8) w' (fun k_ => w.heap.size ≤ k_) A' rest.length rest ∧ Below w0.heap.size w0 w' ∧ KeepBut w w' g none := by
 have huR := Try.underlying81
 have hcell0 : w.cell? ⟨g, 0, none⟩ = some (.slice A bs.length c) := (blk_cell hg 0).trans rfl
 have hgl := blk_lt hg
 have HG := Aside0.mk hg
 have HB := Aside0.mk hB
 have HR := Aside0.mk hr
 have HC := Aside0.mk hc
 clear hg hB hr hc
 cases bad with
 | true =>
  have HV := Aside0.mk (show (true || e != 0) = true from rfl)
  go_enter Try.func49, Try.ntmps49
  go_wp2_with (first
   | ((with_reducible refine gate_callee (f := 66) rfl ?_); (try (refine gate_guard (by rfl) ?_; dsimp only)); refine goesL_ (some 11) rfl rfl Try.func66 (by kernel_rfl) rfl #[.slice A bs.length c, .int .i64 64] rfl (by (try simp only [List.map_toArray, List.map_cons, List.map_nil]); first | done | rfl) ?_; refine (sawyerref02_TakeText.calls k _ _ bs 64 s rest e _ HR.out HC.out h).mono ?_; rintro ex w1 ⟨v1, rfl, ho, hb⟩; refine ⟨_, rfl, ?_⟩; obtain ⟨A1, c1, rfl, hl1⟩ := Kd.Q_slice ho; have BK := Aside0.mk (blk_below HG.out hb); have HB1 := Aside0.mk hb; have HF1 := Aside0.mk (Kd.F_mono (Kd.Q_F (Kd.Q_bound ho)) (fun _ hk => hk.2.1)); have HL1 := Aside0.mk hl1; clear ho hb hl1; have hcz0 : w1.cell? ⟨g, 0, none⟩ = some (.slice A bs.length c) := (blk_cell BK.out 0).trans rfl; have hcz1 : w1.cell? ⟨g, 1, none⟩ = some (.bool true) := (blk_cell BK.out 1).trans rfl; have hfz0 := blk_frozen BK.out 0; have hfz1 := blk_frozen BK.out 1)
   | ((with_reducible refine gate_dst (N := 31) rfl ?_); have hz := ref_sets (v := .slice A1 rest.length c1) (u := .bool true) HB.out hg0 hgl HB1.out BK.out HF1.out; have HZ := Aside0.mk hz; clear hz; refine Kd.V_bytes _ 5 ?hg (N := 31) ?hd s (ok := fun k_ => w.heap.size ≤ k_) hs ?hr ?hw (Below.refl _ _) (Nat.le_refl _) ?_; (case hd => rfl); (case hg => rfl); (case hr => show Sem.run Try.prog (do let v_ ← convert 9 35 (.string s); pure (Next.value v_)) _ = _; rw [Sem.run_bind, print_bytes 9 35 5 Try.underlying9 Try.underlying35 Try.underlying5]; rfl); (case hw => intro k_ h_; exact Nat.le_trans HZ.out.2.2.2.1 h_); intro v2 w2 hv2 hb2 hgr2 hown2; clear hgr2 hown2))
  go_ret
  exact ⟨v2, A1, c1, rfl, hv2, blk_below (by rw [HV.out]; exact HZ.out.1) hb2, HL1.out, Kd.F_below HZ.out.2.1 hb2, below_step HZ.out.2.2.1 hb2, KeepBut.trans HZ.out.2.2.2 (KeepBut.of_below hb2 g none) (.inl rfl)⟩
 | false =>
  by_cases he : e = 0
  ·
   have he1 : (e == 0) = true := by simp [he]
   have he2 : (e != 0) = false := by simp [he]
   have HV := Aside0.mk (show (false || e != 0) = false by rw [he2]; rfl)
   clear he
   go_enter Try.func49, Try.ntmps49
   go_wp2_with (first
    | ((with_reducible refine gate_callee (f := 66) rfl ?_); (try (refine gate_guard (by rfl) ?_; dsimp only)); refine goesL_ (some 11) rfl rfl Try.func66 (by kernel_rfl) rfl #[.slice A bs.length c, .int .i64 64] rfl (by (try simp only [List.map_toArray, List.map_cons, List.map_nil]); first | done | rfl) ?_; refine (sawyerref02_TakeText.calls k _ _ bs 64 s rest e _ HR.out HC.out h).mono ?_; rintro ex w1 ⟨v1, rfl, ho, hb⟩; refine ⟨_, rfl, ?_⟩; obtain ⟨A1, c1, rfl, hl1⟩ := Kd.Q_slice ho; have BK := Aside0.mk (blk_below HG.out hb); have HB1 := Aside0.mk hb; have HF1 := Aside0.mk (Kd.F_mono (Kd.Q_F (Kd.Q_bound ho)) (fun _ hk => hk.2.1)); have HL1 := Aside0.mk hl1; clear ho hb hl1; have hcz0 : w1.cell? ⟨g, 0, none⟩ = some (.slice A bs.length c) := (blk_cell BK.out 0).trans rfl; have hcz1 : w1.cell? ⟨g, 1, none⟩ = some (.bool false) := (blk_cell BK.out 1).trans rfl; have hfz0 := blk_frozen BK.out 0; have hfz1 := blk_frozen BK.out 1)
    | ((with_reducible refine gate_dst (N := 31) rfl ?_); have hz := ref_sets (v := .slice A1 rest.length c1) (u := .bool false) HB.out hg0 hgl HB1.out BK.out HF1.out; have HZ := Aside0.mk hz; clear hz; refine Kd.V_bytes _ 5 ?hg (N := 31) ?hd s (ok := fun k_ => w.heap.size ≤ k_) hs ?hr ?hw (Below.refl _ _) (Nat.le_refl _) ?_; (case hd => rfl); (case hg => rfl); (case hr => show Sem.run Try.prog (do let v_ ← convert 9 35 (.string s); pure (Next.value v_)) _ = _; rw [Sem.run_bind, print_bytes 9 35 5 Try.underlying9 Try.underlying35 Try.underlying5]; rfl); (case hw => intro k_ h_; exact Nat.le_trans HZ.out.2.2.2.1 h_); intro v2 w2 hv2 hb2 hgr2 hown2; clear hgr2 hown2))
   go_ret
   exact ⟨v2, A1, c1, rfl, hv2, blk_below (by rw [HV.out]; exact HZ.out.1) hb2, HL1.out, Kd.F_below HZ.out.2.1 hb2, below_step HZ.out.2.2.1 hb2, KeepBut.trans HZ.out.2.2.2 (KeepBut.of_below hb2 g none) (.inl rfl)⟩
  ·
   have he1 : (e == 0) = false := by simp [he]
   have he2 : (e != 0) = true := by simp [he]
   have HV := Aside0.mk (show (false || e != 0) = true by rw [he2]; rfl)
   clear he
   go_enter Try.func49, Try.ntmps49
   go_wp2_with (first
    | ((with_reducible refine gate_callee (f := 66) rfl ?_); (try (refine gate_guard (by rfl) ?_; dsimp only)); refine goesL_ (some 11) rfl rfl Try.func66 (by kernel_rfl) rfl #[.slice A bs.length c, .int .i64 64] rfl (by (try simp only [List.map_toArray, List.map_cons, List.map_nil]); first | done | rfl) ?_; refine (sawyerref02_TakeText.calls k _ _ bs 64 s rest e _ HR.out HC.out h).mono ?_; rintro ex w1 ⟨v1, rfl, ho, hb⟩; refine ⟨_, rfl, ?_⟩; obtain ⟨A1, c1, rfl, hl1⟩ := Kd.Q_slice ho; have BK := Aside0.mk (blk_below HG.out hb); have HB1 := Aside0.mk hb; have HF1 := Aside0.mk (Kd.F_mono (Kd.Q_F (Kd.Q_bound ho)) (fun _ hk => hk.2.1)); have HL1 := Aside0.mk hl1; clear ho hb hl1; have hcz0 : w1.cell? ⟨g, 0, none⟩ = some (.slice A bs.length c) := (blk_cell BK.out 0).trans rfl; have hcz1 : w1.cell? ⟨g, 1, none⟩ = some (.bool false) := (blk_cell BK.out 1).trans rfl; have hfz0 := blk_frozen BK.out 0; have hfz1 := blk_frozen BK.out 1)
    | ((with_reducible refine gate_dst (N := 31) rfl ?_); have hz := ref_sets (v := .slice A1 rest.length c1) (u := .bool true) HB.out hg0 hgl HB1.out BK.out HF1.out; have HZ := Aside0.mk hz; clear hz; refine Kd.V_bytes _ 5 ?hg (N := 31) ?hd s (ok := fun k_ => w.heap.size ≤ k_) hs ?hr ?hw (Below.refl _ _) (Nat.le_refl _) ?_; (case hd => rfl); (case hg => rfl); (case hr => show Sem.run Try.prog (do let v_ ← convert 9 35 (.string s); pure (Next.value v_)) _ = _; rw [Sem.run_bind, print_bytes 9 35 5 Try.underlying9 Try.underlying35 Try.underlying5]; rfl); (case hw => intro k_ h_; exact Nat.le_trans HZ.out.2.2.2.1 h_); intro v2 w2 hv2 hb2 hgr2 hown2; clear hgr2 hown2))
   go_ret
   exact ⟨v2, A1, c1, rfl, hv2, blk_below (by rw [HV.out]; exact HZ.out.1) hb2, HL1.out, Kd.F_below HZ.out.2.1 hb2, below_step HZ.out.2.2.1 hb2, KeepBut.trans HZ.out.2.2.2 (KeepBut.of_below hb2 g none) (.inl rfl)⟩
end Go.Proofs.Ythpklhkibcenoaa.Sk
