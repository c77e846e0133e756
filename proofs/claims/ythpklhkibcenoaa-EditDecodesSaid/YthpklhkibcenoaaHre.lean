/- The document's Encode, walked. Conditions: those of each theorem. -/
import Derived.Test.YthpklhkibcenoaaCore
import Derived.Test.YthpklhkibcenoaaHap
import Derived.Test.YthpklhkibcenoaaHde
import Derived.Test.YthpklhkibcenoaaHee
import Derived.Test.YthpklhkibcenoaaHen
import Derived.Test.YthpklhkibcenoaaHpl
import Derived.Test.YthpklhkibcenoaaHrb
import Derived.Test.YthpklhkibcenoaaHrc
import Derived.Test.YthpklhkibcenoaaHso
import Derived.Test.YthpklhkibcenoaaHto
import Derived.Test.YthpklhkibcenoaaME
import Derived.Test.YthpklhkibcenoaaPx0
import Derived.Test.YthpklhkibcenoaaPx48
import Derived.Test.YthpklhkibcenoaaPx49
import Derived.Test.YthpklhkibcenoaaSpecA
import Derived.Test.YthpklhkibcenoaaSpecB
import Derived.Test.YthpklhkibcenoaaHspa
namespace Go.Proofs.Ythpklhkibcenoaa.Sk
open Go.RowKit Go.Proofs.YthpklhkibcenoaaW.PrintWords Go.Proofs.YthpklhkibcenoaaW.PrintLast Go.Proofs.YthpklhkibcenoaaW.PrintMore Go.Proofs.Ythpklhkibcenoaa.Px Go.Proofs.Ythpklhkibcenoaa.Sw
set_option linter.unusedVariables false
set_option linter.unusedSimpArgs false
section
variable {B : Nat} {w : World} {v : Value} {acc : List Int}

theorem rnum_callsC (h : RowC B w v acc) (n : Int) (hb : acc.length + 9 < 140737488355328) :
  Calls Try.prog 43 #[v, .int .i64 n] w fun ex w' => ∃ v', ex = .returned v' ∧ RowC B w' v' (acc ++ grp (cap n)) ∧ Below w.heap.size w w' := by
 obtain ⟨hB, A, c, rfl, hle, hC⟩ := h
 obtain ⟨k, hk⟩ := (refNum_f acc n hb).rounds
 refine (sawyerref02_PutNum.calls k A c acc _ _ w (Kd.F_now hC) hle hk).mono ?_
 rintro ex w' ⟨v', rfl, hR, hb'⟩
 obtain ⟨A', c', rfl⟩ := Kd.R_slice hR
 exact ⟨_, rfl, ⟨Nat.le_trans hB hb'.size, A', c', rfl, (Kd.R_reads' hR).2.1, Kd.F_mono (Kd.R_F (Kd.R_bound hR)) (fun k hk => Nat.le_trans hB hk.2.1)⟩, hb'⟩
theorem rtext_callsC (h : RowC B w v acc) (x : List Int) (hx : Byts x) (hb : acc.length + x.length + 18 < 140737488355328) :
  Calls Try.prog 44 #[v, .string (strOfNums x)] w fun ex w' => ∃ v', ex = .returned v' ∧ RowC B w' v' (acc ++ (grp x.length ++ x)) ∧ Below w.heap.size w w' := by
 obtain ⟨hB, A, c, rfl, hle, hC⟩ := h
 obtain ⟨k, hk⟩ := (refPutText_f acc (strOfNums x) (by rw [str_size]; exact hb)).rounds
 rw [str_size, str_bytes hx, List.append_assoc] at hk
 refine (sawyerref02_PutText.calls k A c acc _ _ w (Kd.F_now hC) hle hk).mono ?_
 rintro ex w' ⟨v', rfl, hR, hb'⟩
 obtain ⟨A', c', rfl⟩ := Kd.R_slice hR
 exact ⟨_, rfl, ⟨Nat.le_trans hB hb'.size, A', c', rfl, (Kd.R_reads' hR).2.1, Kd.F_mono (Kd.R_F (Kd.R_bound hR)) (fun k hk => Nat.le_trans hB hk.2.1)⟩, hb'⟩
end
theorem rcheck_yes {w : World} (a0 a1 a2 a3 : Int) {A : Option Addr} {c : Nat} {l : List S37} (hC : Kd.C k37 w A l.length l) (hlc : l.length ≤ c) (hM : ∀ m ∈ l.map toM, MB m) (h : checkB a0 a1 a2 a3 (l.map toM) = true) :
  Calls Try.prog 42 #[.agg #[.int .i64 a0, .int .i64 a1, .int .i64 a2, .int .i64 a3, .slice A l.length c]] w fun ex w' => ex = .returned (.int .i64 0) ∧ Below w.heap.size w w' :=
 (refcheck_calls a0 a1 a2 a3 hC hlc hM).mono (fun ex w' hh => ⟨by rw [hh.1, h]; rfl, hh.2⟩)
theorem rcheck_no {w : World} (a0 a1 a2 a3 : Int) {A : Option Addr} {c : Nat} {l : List S37} (hC : Kd.C k37 w A l.length l) (hlc : l.length ≤ c) (hM : ∀ m ∈ l.map toM, MB m) (h : checkB a0 a1 a2 a3 (l.map toM) = false) :
  Calls Try.prog 42 #[.agg #[.int .i64 a0, .int .i64 a1, .int .i64 a2, .int .i64 a3, .slice A l.length c]] w fun ex w' => ex = .returned (.int .i64 1) ∧ Below w.heap.size w w' :=
 (refcheck_calls a0 a1 a2 a3 hC hlc hM).mono (fun ex w' hh => ⟨by rw [hh.1, h]; rfl, hh.2⟩)
set_option maxHeartbeats 40000000 in
set_option maxRecDepth 100000 in
theorem rencode_calls {w : World} (g n s q : Int) {A : Option Addr} {c : Nat} {l : List S37} (hC : Kd.C k37 w A l.length l) (hlc : l.length ≤ c) (hM : ∀ m ∈ (l.map toM), MB m) :
  Calls Try.prog 21 #[.agg #[.int .i64 g, .int .i64 n, .int .i64 s, .int .i64 q, .slice A l.length c]] w fun ex w' => ∃ v', ex = .returned (.tuple #[v', .int .i64 (if checkB g n s q (l.map toM) = true then (0 : Int) else 1)]) ∧ RowC w.heap.size w' v' (if checkB g n s q (l.map toM) = true then encM g n s q (l.map toM) else []) ∧ Below w.heap.size w w' := by
 have huV := Try.underlying24
 have huE := Try.underlying37
 have HC := Aside0.mk hC
 have HLC := Aside0.mk hlc
 have HM := Aside0.mk hM
 have HMAX := Aside0.mk (Kd.C_max hC)
 clear hC hlc hM
 cases hck : checkB g n s q (l.map toM) with
 | false =>
  as_aux_lemma =>
  have HCK := Aside0.mk hck
  have HIF := Aside0.mk (show (¬ (false = true)) from by decide)
  clear hck
  go_enter Try.func21, Try.ntmps21
  go_wp2_with (first
   | ((with_reducible refine gate_dst (N := 1) rfl ?_); (try (refine gate_guard (by rfl) ?_; dsimp only)); refine box_event ?hg (N := 1) ?hd (cs := #[.int .i64 g, .int .i64 n, .int .i64 s, .int .i64 q, .slice A l.length c]) (t := 24) ?hr ?_; (case hd => rfl); (case hg => rfl); (case hr => first | (go_simp; done) | (go_simp; rfl)); intro g1 hqg1 w1 hxg1 hbg1; have n_ := Aside0.mk hqg1; clear hqg1; have hqg1 := n_; clear n_; have n_ := Aside0.mk hxg1; clear hxg1; have hxg1 := n_; clear n_; have n_ := Aside0.mk hbg1; clear hbg1; have hbg1 := n_; clear n_; have hca0 : w1.cell? ⟨g1, 0, none⟩ = some (.int .i64 g) := (blk_cell hxg1.out 0).trans rfl; have hca1 : w1.cell? ⟨g1, 1, none⟩ = some (.int .i64 n) := (blk_cell hxg1.out 1).trans rfl; have hca2 : w1.cell? ⟨g1, 2, none⟩ = some (.int .i64 s) := (blk_cell hxg1.out 2).trans rfl; have hca3 : w1.cell? ⟨g1, 3, none⟩ = some (.int .i64 q) := (blk_cell hxg1.out 3).trans rfl; have hca4 : w1.cell? ⟨g1, 4, none⟩ = some (.slice A l.length c) := (blk_cell hxg1.out 4).trans rfl)
   | ((with_reducible refine gate_dst (N := 8) rfl ?_); (try (refine gate_guard (by rfl) ?_; dsimp only)); refine goesL_ (some 8) rfl rfl Try.func42 (by kernel_rfl) rfl #[.agg #[.int .i64 g, .int .i64 n, .int .i64 s, .int .i64 q, .slice A l.length c]] rfl (by (try simp only [List.map_toArray, List.map_cons, List.map_nil]); first | done | rfl) ?_; refine (rcheck_no g n s q (Kd.C_below HC.out hbg1.out) HLC.out HM.out HCK.out).mono ?_; rintro ex w2 ⟨rfl, hb2⟩; refine ⟨_, rfl, ?_⟩; have B2 := Aside0.mk (below_step hbg1.out hb2); have X2 := Aside0.mk (blk_below hxg1.out hb2); clear hb2; have hcb0 : w2.cell? ⟨g1, 0, none⟩ = some (.int .i64 g) := (blk_cell X2.out 0).trans rfl; have hcb1 : w2.cell? ⟨g1, 1, none⟩ = some (.int .i64 n) := (blk_cell X2.out 1).trans rfl; have hcb2 : w2.cell? ⟨g1, 2, none⟩ = some (.int .i64 s) := (blk_cell X2.out 2).trans rfl; have hcb3 : w2.cell? ⟨g1, 3, none⟩ = some (.int .i64 q) := (blk_cell X2.out 3).trans rfl; have hcb4 : w2.cell? ⟨g1, 4, none⟩ = some (.slice A l.length c) := (blk_cell X2.out 4).trans rfl))
  go_ret2
  exact ⟨_, rfl, RowC.nil B2.out.size, B2.out⟩
 | true =>
  as_aux_lemma =>
  have HLN := Aside0.mk (show l.length ≤ 4096 by have h := (checkB_len hck).1; rw [List.length_map] at h; exact h)
  have HRT := Aside0.mk (checkB_right hck)
  have HCK := Aside0.mk hck
  clear hck
  go_enter Try.func21, Try.ntmps21
  go_upto_region 3 with (first
   | ((with_reducible refine gate_dst (N := 1) rfl ?_); (try (refine gate_guard (by rfl) ?_; dsimp only)); refine box_event ?hg (N := 1) ?hd (cs := #[.int .i64 g, .int .i64 n, .int .i64 s, .int .i64 q, .slice A l.length c]) (t := 24) ?hr ?_; (case hd => rfl); (case hg => rfl); (case hr => first | (go_simp; done) | (go_simp; rfl)); intro g1 hqg1 w1 hxg1 hbg1; have n_ := Aside0.mk hqg1; clear hqg1; have hqg1 := n_; clear n_; have n_ := Aside0.mk hxg1; clear hxg1; have hxg1 := n_; clear n_; have n_ := Aside0.mk hbg1; clear hbg1; have hbg1 := n_; clear n_; have hca0 : w1.cell? ⟨g1, 0, none⟩ = some (.int .i64 g) := (blk_cell hxg1.out 0).trans rfl; have hca1 : w1.cell? ⟨g1, 1, none⟩ = some (.int .i64 n) := (blk_cell hxg1.out 1).trans rfl; have hca2 : w1.cell? ⟨g1, 2, none⟩ = some (.int .i64 s) := (blk_cell hxg1.out 2).trans rfl; have hca3 : w1.cell? ⟨g1, 3, none⟩ = some (.int .i64 q) := (blk_cell hxg1.out 3).trans rfl; have hca4 : w1.cell? ⟨g1, 4, none⟩ = some (.slice A l.length c) := (blk_cell hxg1.out 4).trans rfl)
   | ((with_reducible refine gate_dst (N := 8) rfl ?_); (try (refine gate_guard (by rfl) ?_; dsimp only)); refine goesL_ (some 8) rfl rfl Try.func42 (by kernel_rfl) rfl #[.agg #[.int .i64 g, .int .i64 n, .int .i64 s, .int .i64 q, .slice A l.length c]] rfl (by (try simp only [List.map_toArray, List.map_cons, List.map_nil]); first | done | rfl) ?_; refine (rcheck_yes g n s q (Kd.C_below HC.out hbg1.out) HLC.out HM.out HCK.out).mono ?_; rintro ex w2 ⟨rfl, hb2⟩; refine ⟨_, rfl, ?_⟩; have B2 := Aside0.mk (below_step hbg1.out hb2); have X2 := Aside0.mk (blk_below hxg1.out hb2); clear hb2; have hcb0 : w2.cell? ⟨g1, 0, none⟩ = some (.int .i64 g) := (blk_cell X2.out 0).trans rfl; have hcb1 : w2.cell? ⟨g1, 1, none⟩ = some (.int .i64 n) := (blk_cell X2.out 1).trans rfl; have hcb2 : w2.cell? ⟨g1, 2, none⟩ = some (.int .i64 s) := (blk_cell X2.out 2).trans rfl; have hcb3 : w2.cell? ⟨g1, 3, none⟩ = some (.int .i64 q) := (blk_cell X2.out 3).trans rfl; have hcb4 : w2.cell? ⟨g1, 4, none⟩ = some (.slice A l.length c) := (blk_cell X2.out 4).trans rfl))
  refine s_ 7 [] (fun w' => w'.cell? ⟨g1, 0, none⟩ = some (.int .i64 g) ∧ w'.cell? ⟨g1, 1, none⟩ = some (.int .i64 n)) (hS := ⟨(blk_cell (blk_below X2.out (below_drew (Below.refl _ _))) 0).trans rfl, (blk_cell (blk_below X2.out (below_drew (Below.refl _ _))) 1).trans rfl⟩) (h := fun hHeld => ?_)
  have R3a := Aside0.mk (RowC.nil (B := w.heap.size) (w := w2.drew) (below_drew B2.out).size)
  have B3a := Aside0.mk (below_drew (Below.refl w2.heap.size w2))
  generalize w2.drew = w3a at R3a B3a hHeld ⊢
  refine p_ 0 10 (bb 7 1) (h := ?_)
  refine t_ 1 11 (bb 7 3) hHeld (h := ?_)
  refine p_ 3 13 (bb 7 11) (h := ?_)
  refine t_ 4 14 (bb 7 27) hHeld (h := ?_)
  refine n_ 2 12 (bb 7 31) (h := fun K hK => ?_)
  refine goes_ Try.func43 (by kernel_rfl) rfl #[.slice none 0 0, .int .i64 g] (by rfl) rfl rfl (by (try simp only [List.map_toArray, List.map_cons, List.map_nil]); first | done | rfl) ?_
  refine (rnum_callsC (by exact R3a.out) g (by simp)).mono ?_
  rintro ex w3b ⟨v3b, rfl, hr3b, hb3b⟩
  refine ⟨_, rfl, ?_⟩
  obtain ⟨y3b, hy3b⟩ : ∃ y, y = [] ++ grp (cap (g)) := ⟨_, rfl⟩
  rw [← hy3b] at hr3b
  have Ny3b := Aside0.mk hy3b
  clear hy3b
  have R3b := Aside0.mk hr3b
  have B3b := Aside0.mk (below_step B3a.out hb3b)
  clear hr3b hb3b
  obtain ⟨hB3b, A3b, c3b, rfl, hl3b, hC3b⟩ := R3b.out
  clear hB3b hl3b hC3b
  refine hK.out _ _ ⟨(blk_cell (blk_below X2.out B3b.out) 0).trans rfl, (blk_cell (blk_below X2.out B3b.out) 1).trans rfl⟩ (fun hHeld => ?_)
  clear hK K
  refine m_ 12 (h := ?_)
  refine n_ 5 15 (bb 7 63) (h := fun K hK => ?_)
  refine goes_ Try.func43 (by kernel_rfl) rfl #[.slice A3b y3b.length c3b, .int .i64 n] (by rfl) rfl rfl (by (try simp only [List.map_toArray, List.map_cons, List.map_nil]); first | done | rfl) ?_
  refine (rnum_callsC (by exact R3b.out) n (by rw [Ny3b.out]; have a0 := grp9 (cap_le g); have a1 := grp9 (cap_le n); have a2 := grp9 (cap_le s); have a3 := grp9 (cap_le q); simp only [List.length_append, List.length_nil]; omega)).mono ?_
  rintro ex w3c ⟨v3c, rfl, hr3c, hb3c⟩
  refine ⟨_, rfl, ?_⟩
  obtain ⟨y3c, hy3c⟩ : ∃ y, y = y3b ++ grp (cap (n)) := ⟨_, rfl⟩
  rw [← hy3c] at hr3c
  have Ny3c := Aside0.mk hy3c
  clear hy3c
  have R3c := Aside0.mk hr3c
  have B3c := Aside0.mk (below_step B3b.out hb3c)
  clear hr3c hb3c
  obtain ⟨hB3c, A3c, c3c, rfl, hl3c, hC3c⟩ := R3c.out
  clear hB3c hl3c hC3c
  refine hK.out _ _ ⟨(blk_cell (blk_below X2.out B3c.out) 0).trans rfl, (blk_cell (blk_below X2.out B3c.out) 1).trans rfl⟩ (fun hHeld => ?_)
  clear hK K
  refine m_ 15 (h := ?_)
  refine p_ 6 4 (bb 7 127) (h := ?_)
  refine d_ (h := ?_)
  clear hHeld
  go_upto_region 4 with (fail)
  refine s_ 8 [] (fun w' => w'.cell? ⟨g1, 2, none⟩ = some (.int .i64 s) ∧ w'.cell? ⟨g1, 3, none⟩ = some (.int .i64 q)) (hS := ⟨(blk_cell (blk_below X2.out (below_drew B3c.out)) 2).trans rfl, (blk_cell (blk_below X2.out (below_drew B3c.out)) 3).trans rfl⟩) (h := fun hHeld => ?_)
  have R4a := Aside0.mk (R3c.out.below (below_drew (Below.refl w3c.heap.size w3c)))
  have B4a := Aside0.mk (below_drew B3c.out)
  generalize w3c.drew = w4a at R4a B4a hHeld ⊢
  refine p_ 0 16 (bb 8 1) (h := ?_)
  refine p_ 1 17 (bb 8 3) (h := ?_)
  refine t_ 2 18 (bb 8 7) hHeld (h := ?_)
  refine p_ 4 20 (bb 8 23) (h := ?_)
  refine t_ 5 21 (bb 8 55) hHeld (h := ?_)
  refine n_ 3 19 (bb 8 63) (h := fun K hK => ?_)
  refine goes_ Try.func43 (by kernel_rfl) rfl #[.slice A3c y3c.length c3c, .int .i64 s] (by rfl) rfl rfl (by (try simp only [List.map_toArray, List.map_cons, List.map_nil]); first | done | rfl) ?_
  refine (rnum_callsC (by exact R4a.out) s (by rw [Ny3c.out, Ny3b.out]; have a0 := grp9 (cap_le g); have a1 := grp9 (cap_le n); have a2 := grp9 (cap_le s); have a3 := grp9 (cap_le q); simp only [List.length_append, List.length_nil]; omega)).mono ?_
  rintro ex w4b ⟨v4b, rfl, hr4b, hb4b⟩
  refine ⟨_, rfl, ?_⟩
  obtain ⟨y4b, hy4b⟩ : ∃ y, y = y3c ++ grp (cap (s)) := ⟨_, rfl⟩
  rw [← hy4b] at hr4b
  have Ny4b := Aside0.mk hy4b
  clear hy4b
  have R4b := Aside0.mk hr4b
  have B4b := Aside0.mk (below_step B4a.out hb4b)
  clear hr4b hb4b
  obtain ⟨hB4b, A4b, c4b, rfl, hl4b, hC4b⟩ := R4b.out
  clear hB4b hl4b hC4b
  refine hK.out _ _ ⟨(blk_cell (blk_below X2.out B4b.out) 2).trans rfl, (blk_cell (blk_below X2.out B4b.out) 3).trans rfl⟩ (fun hHeld => ?_)
  clear hK K
  refine m_ 19 (h := ?_)
  refine n_ 6 22 (bb 8 127) (h := fun K hK => ?_)
  refine goes_ Try.func43 (by kernel_rfl) rfl #[.slice A4b y4b.length c4b, .int .i64 q] (by rfl) rfl rfl (by (try simp only [List.map_toArray, List.map_cons, List.map_nil]); first | done | rfl) ?_
  refine (rnum_callsC (by exact R4b.out) q (by rw [Ny4b.out, Ny3c.out, Ny3b.out]; have a0 := grp9 (cap_le g); have a1 := grp9 (cap_le n); have a2 := grp9 (cap_le s); have a3 := grp9 (cap_le q); simp only [List.length_append, List.length_nil]; omega)).mono ?_
  rintro ex w4c ⟨v4c, rfl, hr4c, hb4c⟩
  refine ⟨_, rfl, ?_⟩
  obtain ⟨y4c, hy4c⟩ : ∃ y, y = y4b ++ grp (cap (q)) := ⟨_, rfl⟩
  rw [← hy4c] at hr4c
  have Ny4c := Aside0.mk hy4c
  clear hy4c
  have R4c := Aside0.mk hr4c
  have B4c := Aside0.mk (below_step B4b.out hb4c)
  clear hr4c hb4c
  obtain ⟨hB4c, A4c, c4c, rfl, hl4c, hC4c⟩ := R4c.out
  clear hB4c hl4c hC4c
  refine hK.out _ _ ⟨(blk_cell (blk_below X2.out B4c.out) 2).trans rfl, (blk_cell (blk_below X2.out B4c.out) 3).trans rfl⟩ (fun hHeld => ?_)
  clear hK K
  refine m_ 22 (h := ?_)
  refine p_ 7 4 (bb 8 255) (h := ?_)
  refine d_ (h := ?_)
  clear hHeld
  have X4 := Aside0.mk (blk_below X2.out B4c.out); have B4z := Aside0.mk (below_step B2.out B4c.out); have hcc0 : w4c.cell? ⟨g1, 0, none⟩ = some (.int .i64 g) := (blk_cell X4.out 0).trans rfl; have hcc1 : w4c.cell? ⟨g1, 1, none⟩ = some (.int .i64 n) := (blk_cell X4.out 1).trans rfl; have hcc2 : w4c.cell? ⟨g1, 2, none⟩ = some (.int .i64 s) := (blk_cell X4.out 2).trans rfl; have hcc3 : w4c.cell? ⟨g1, 3, none⟩ = some (.int .i64 q) := (blk_cell X4.out 3).trans rfl; have hcc4 : w4c.cell? ⟨g1, 4, none⟩ = some (.slice A l.length c) := (blk_cell X4.out 4).trans rfl
  go_wp2_with (first
   | ((with_reducible refine gate_dst (N := 27) rfl ?_); (try (refine gate_guard (by rfl) ?_; dsimp only)); refine goesL_ (some 27) rfl rfl Try.func43 (by kernel_rfl) rfl #[.slice A4c y4c.length c4c, .int .i64 (l.length : Int)] rfl (by (try simp only [List.map_toArray, List.map_cons, List.map_nil]); first | done | rfl) ?_; refine (rnum_callsC (by exact R4c.out) (l.length : Int) (by rw [Ny4c.out, Ny4b.out, Ny3c.out, Ny3b.out]; have a0 := grp9 (cap_le g); have a1 := grp9 (cap_le n); have a2 := grp9 (cap_le s); have a3 := grp9 (cap_le q); simp only [List.length_append, List.length_nil]; omega)).mono ?_; rintro ex w4 ⟨v5, rfl, hr5, hb4⟩; refine ⟨_, rfl, ?_⟩; obtain ⟨y5, hy5⟩ : ∃ y, y = y4c ++ grp (cap (l.length : Int)) := ⟨_, rfl⟩; rw [← hy5] at hr5; have Ny5 := Aside0.mk hy5; clear hy5; have HY5 := Aside0.mk (show y5 = ((((([] ++ grp (cap g)) ++ grp (cap n)) ++ grp (cap s)) ++ grp (cap q)) ++ grp (cap (l.length : Int))) by rw [Ny5.out, Ny4c.out, Ny4b.out, Ny3c.out, Ny3b.out]); have B4 := Aside0.mk (below_step B4z.out hb4); have X5 := Aside0.mk (blk_below X4.out hb4); have R5 := Aside0.mk hr5; clear hr5 hb4; obtain ⟨hB5, A5, c5, rfl, hl5, hC5⟩ := R5.out; clear hB5 hl5 hC5))
  go_loopg [4, 5] l.length (fun kq v4 v5 w' => ∃ (pre post : List S37) (acc : List Int) (Ao : Option Addr) (co : Nat), v4 = .slice Ao acc.length co ∧ v5 = .int .i64 (pre.length : Int) ∧ Aside0 (kq = post.length) ∧ Aside0 (l = pre ++ post) ∧ Aside0 (acc = ((((([] ++ grp (cap g)) ++ grp (cap n)) ++ grp (cap s)) ++ grp (cap q)) ++ grp (cap (l.length : Int))) ++ (pre.map toM).flatMap noteB) ∧ Aside0 (acc.length ≤ 1000 + 200 * pre.length) ∧ Aside0 (RowC w.heap.size w' (.slice Ao acc.length co) acc) ∧ Aside0 (w'.heap[g1]? = some (.cells #[.int .i64 g, .int .i64 n, .int .i64 s, .int .i64 q, .slice A l.length c] 24 (0, 0))) ∧ Aside0 (Below w.heap.size w w'))
  case atStart => exact ⟨[], l, y5, A5, c5, rfl, rfl, ⟨rfl⟩, ⟨rfl⟩, ⟨HY5.out.trans (List.append_nil _).symm⟩, ⟨by rw [HY5.out]; simp only [List.nil_append, List.flatMap_cons, List.flatMap_nil, List.length_append, List.length_nil]; have a0 := grp9 (cap_le g); have a1 := grp9 (cap_le n); have a2 := grp9 (cap_le s); have a3 := grp9 (cap_le q); have a4 := grp9 (cap_le (l.length : Int)); omega⟩, R5, X5, B4⟩
  case round =>
   clear hxg1 hqg1 hbg1 B2 X2 B4 X4 R5 X5 hcc0 hcc1 hcc2 hcc3 hcc4
   obtain ⟨pre, post, acc, Ao, co, rfl, rfl, HK, HP, HA, HACC, HO, HX, HB⟩ := hrel
   cases gk with
   | zero =>
    as_aux_lemma =>
    have HPE := Aside0.mk (show l = pre by rw [HP.out, List.length_eq_zero_iff.1 HK.out.symm, List.append_nil])
    have hlt : (pre.length < l.length) = False := eq_false (by rw [HPE.out]; omega)
    have HEN := Aside0.mk (show acc = encM g n s q (l.map toM) by
     rw [HA.out, ← HPE.out]
     unfold encM
     have hcp := cap_of (n := l.length) (by have h := HLN.out; omega)
     simp only [List.nil_append, List.flatMap_cons, List.flatMap_nil, List.append_nil, List.append_assoc, List.length_map, hcp])
    have hcq : wr.cell? ⟨g1, 4, none⟩ = some (.slice A l.length c) := (blk_cell HX.out 4).trans rfl
    go_wp2
    go_ret2
    exact ⟨_, rfl, HEN.out ▸ HO.out, HB.out⟩
   | succ k1 =>
    as_aux_lemma =>
    obtain ⟨m, post', rfl⟩ : ∃ m p, post = m :: p := by
     cases post with
     | nil => exact absurd HK.out (by simp)
     | cons m p => exact ⟨m, p, rfl⟩
    have hlt : (pre.length < l.length) = True := eq_true (by rw [HP.out]; simp)
    have HPL := Aside0.mk (show pre.length < 4096 by have h1 := HLN.out; have h2 := congrArg List.length HP.out; simp only [List.length_append, List.length_cons] at h2; omega)
    have HMB := Aside0.mk (HM.out (toM m) (by rw [HP.out]; simp))
    have HMR := Aside0.mk (rightM_len (HRT.out (toM m) (by rw [HP.out]; simp)))
    have HNL := Aside0.mk (noteB_len (HRT.out (toM m) (by rw [HP.out]; simp)))
    have HWK := Aside0.mk (wadd1 (x := pre.length) (z := pre.length + 1) rfl (by have h1 := HPL.out; omega))
    have HPX := Aside0.mk (show l = pre ++ [m] ++ post' by rw [HP.out]; simp)
    have HBN := Aside0.mk (show (acc ++ grp (cap m.f0) ++ grp (cap m.f1) ++ grp (cap m.f2)) ++ (grp m.f3.length ++ m.f3) ++ (grp m.f4.length ++ m.f4) = acc ++ noteB (toM m) by unfold noteB toM; simp [List.append_assoc])
    obtain ⟨ad, M3, e3, M4, e4, hA, hd0, hd1, hd2, hd3, hd4, hE_⟩ := at_CR HC.out pre.length m (by rw [HP.out]; exact get_app _ _ _)
    subst hA
    have HEC := Aside0.mk hE_
    clear hE_
    have hm0 := pw_cell_below HB.out hd0
    have hm1 := pw_cell_below HB.out hd1
    have hm2 := pw_cell_below HB.out hd2
    have hm3 := pw_cell_below HB.out hd3
    have hm4 := pw_cell_below HB.out hd4
    clear hd0 hd1 hd2 hd3 hd4
    have hcq : wr.cell? ⟨g1, 4, none⟩ = some (.slice (some ad) l.length c) := (blk_cell HX.out 4).trans rfl
    go_upto_region 10 with (first
     | ((with_reducible refine gate_dst (N := 6) rfl ?_); (try (refine gate_guard (by rfl) ?_; dsimp only)); refine box_event ?hg (N := 6) ?hd (cs := #[.int .i64 0, .int .i64 0, .int .i64 0, .slice none 0 0, .slice none 0 0]) (t := 37) ?hr ?_; (case hd => rfl); (case hg => rfl); (case hr => first | (go_simp; done) | (go_simp; rfl)); intro g7 hqg7 w5 hxg7 hbg7; have n_ := Aside0.mk hqg7; clear hqg7; have hqg7 := n_; clear n_; have n_ := Aside0.mk hxg7; clear hxg7; have hxg7 := n_; clear n_; have n_ := Aside0.mk hbg7; clear hbg7; have hbg7 := n_; clear n_; have hcz0 : w5.cell? ⟨g7, 0, none⟩ = some (.int .i64 0) := (blk_cell hxg7.out 0).trans rfl; have hcz1 : w5.cell? ⟨g7, 1, none⟩ = some (.int .i64 0) := (blk_cell hxg7.out 1).trans rfl; have hcz2 : w5.cell? ⟨g7, 2, none⟩ = some (.int .i64 0) := (blk_cell hxg7.out 2).trans rfl; have hcz3 : w5.cell? ⟨g7, 3, none⟩ = some (.slice none 0 0) := (blk_cell hxg7.out 3).trans rfl; have hcz4 : w5.cell? ⟨g7, 4, none⟩ = some (.slice none 0 0) := (blk_cell hxg7.out 4).trans rfl; have hfz0 : w5.frozen? ⟨g7, 0, none⟩ = false := blk_frozen hxg7.out 0; have hfz1 : w5.frozen? ⟨g7, 1, none⟩ = false := blk_frozen hxg7.out 1; have hfz2 : w5.frozen? ⟨g7, 2, none⟩ = false := blk_frozen hxg7.out 2; have hfz3 : w5.frozen? ⟨g7, 3, none⟩ = false := blk_frozen hxg7.out 3; have hfz4 : w5.frozen? ⟨g7, 4, none⟩ = false := blk_frozen hxg7.out 4))
    have X7 := Aside0.mk (setsE (v0 := .int .i64 m.f0) (v1 := .int .i64 m.f1) (v2 := .int .i64 m.f2) (v3 := .slice M3 m.f3.length e3) (v4 := .slice M4 m.f4.length e4) hxg7.out)
    have BW := Aside0.mk (show Below w.heap.size w (((((w5.setCell ⟨g7, 0, none⟩ (.int .i64 m.f0)).setCell ⟨g7, 1, none⟩ (.int .i64 m.f1)).setCell ⟨g7, 2, none⟩ (.int .i64 m.f2)).setCell ⟨g7, 3, none⟩ (.slice M3 m.f3.length e3)).setCell ⟨g7, 4, none⟩ (.slice M4 m.f4.length e4)) from below5 _ _ _ _ _ (below_step HB.out hbg7.out) (by have h1 := hqg7.out; have h2 := HB.out.size; omega))
    have BR := Aside0.mk (show Below wr.heap.size wr (((((w5.setCell ⟨g7, 0, none⟩ (.int .i64 m.f0)).setCell ⟨g7, 1, none⟩ (.int .i64 m.f1)).setCell ⟨g7, 2, none⟩ (.int .i64 m.f2)).setCell ⟨g7, 3, none⟩ (.slice M3 m.f3.length e3)).setCell ⟨g7, 4, none⟩ (.slice M4 m.f4.length e4)) from below5 _ _ _ _ _ hbg7.out (Nat.le_of_eq hqg7.out.symm))
    have HX6 := Aside0.mk (blk_keep (blk_below HX.out hbg7.out) (keep5 w5 g7 (.int .i64 m.f0) (.int .i64 m.f1) (.int .i64 m.f2) (.slice M3 m.f3.length e3) (.slice M4 m.f4.length e4)) (fun he => by have h1 := blk_lt HX.out; have h2 := hqg7.out; omega))
    clear hlt hcq HX hm0 hm1 hm2 hm3 hm4 hcz0 hfz0 hcz1 hfz1 hcz2 hfz2 hcz3 hfz3 hcz4 hfz4 hqg7 hxg7 hbg7
    generalize (((((w5.setCell ⟨g7, 0, none⟩ (.int .i64 m.f0)).setCell ⟨g7, 1, none⟩ (.int .i64 m.f1)).setCell ⟨g7, 2, none⟩ (.int .i64 m.f2)).setCell ⟨g7, 3, none⟩ (.slice M3 m.f3.length e3)).setCell ⟨g7, 4, none⟩ (.slice M4 m.f4.length e4)) = w6 at X7 BW BR HX6 ⊢
    have R6 := Aside0.mk (HO.out.below BR.out)
    have HE6 := Aside0.mk (show m.f3.length ≤ e3 ∧ Kd.C (Kd.int .u8) w6 M3 m.f3.length m.f3 ∧ m.f4.length ≤ e4 ∧ Kd.C (Kd.int .u8) w6 M4 m.f4.length m.f4 from ⟨HEC.out.1, Kd.C_below HEC.out.2.1 BW.out, HEC.out.2.2.1, Kd.C_below HEC.out.2.2.2 BW.out⟩)
    clear HO BR HEC
    as_aux_lemma =>
    have hcx0 : w6.cell? ⟨g7, 0, none⟩ = some (.int .i64 m.f0) := (blk_cell X7.out 0).trans rfl
    have hcx1 : w6.cell? ⟨g7, 1, none⟩ = some (.int .i64 m.f1) := (blk_cell X7.out 1).trans rfl
    have hcx2 : w6.cell? ⟨g7, 2, none⟩ = some (.int .i64 m.f2) := (blk_cell X7.out 2).trans rfl
    have hcx3 : w6.cell? ⟨g7, 3, none⟩ = some (.slice M3 m.f3.length e3) := (blk_cell X7.out 3).trans rfl
    have hcx4 : w6.cell? ⟨g7, 4, none⟩ = some (.slice M4 m.f4.length e4) := (blk_cell X7.out 4).trans rfl
    go_upto_region 10 with (fail)
    clear hcx3 hcx4
    refine s_ 11 [] (fun w' => w'.cell? ⟨g7, 0, none⟩ = some (.int .i64 m.f0) ∧ w'.cell? ⟨g7, 1, none⟩ = some (.int .i64 m.f1) ∧ w'.cell? ⟨g7, 2, none⟩ = some (.int .i64 m.f2)) (hS := ⟨(blk_cell (blk_below X7.out (below_drew (Below.refl _ _))) 0).trans rfl, (blk_cell (blk_below X7.out (below_drew (Below.refl _ _))) 1).trans rfl, (blk_cell (blk_below X7.out (below_drew (Below.refl _ _))) 2).trans rfl⟩) (h := fun hHeld => ?_)
    have R10a := Aside0.mk (R6.out.below (below_drew (Below.refl w6.heap.size w6)))
    have B10a := Aside0.mk (below_drew (Below.refl w6.heap.size w6))
    generalize w6.drew = w10a at R10a B10a hHeld ⊢
    refine p_ 0 40 (bb 11 1) (h := ?_)
    refine p_ 1 41 (bb 11 3) (h := ?_)
    refine t_ 2 42 (bb 11 7) hHeld (h := ?_)
    refine p_ 4 44 (bb 11 23) (h := ?_)
    refine t_ 5 45 (bb 11 55) hHeld (h := ?_)
    refine p_ 7 47 (bb 11 183) (h := ?_)
    refine t_ 8 48 (bb 11 439) hHeld (h := ?_)
    refine n_ 3 43 (bb 11 447) (h := fun K hK => ?_)
    refine goes_ Try.func43 (by kernel_rfl) rfl #[.slice Ao acc.length co, .int .i64 m.f0] (by rfl) rfl rfl (by (try simp only [List.map_toArray, List.map_cons, List.map_nil]); first | done | rfl) ?_
    refine (rnum_callsC (by exact R10a.out) m.f0 (by have h := HACC.out; have h2 := HPL.out; have a0 := grp9 (cap_le m.f0); have a1 := grp9 (cap_le m.f1); have a2 := grp9 (cap_le m.f2); have h3 : m.f3.length ≤ 64 ∧ m.f4.length ≤ 64 := HMR.out; (try simp only [List.length_append]); omega)).mono ?_
    rintro ex w10b ⟨v10b, rfl, hr10b, hb10b⟩
    refine ⟨_, rfl, ?_⟩
    obtain ⟨y10b, hy10b⟩ : ∃ y, y = acc ++ grp (cap m.f0) := ⟨_, rfl⟩
    rw [← hy10b] at hr10b
    have Ny10b := Aside0.mk hy10b
    clear hy10b
    have R10b := Aside0.mk hr10b
    have B10b := Aside0.mk (below_step B10a.out hb10b)
    clear hr10b hb10b
    obtain ⟨hB10b, A10b, c10b, rfl, hl10b, hC10b⟩ := R10b.out
    clear hB10b hl10b hC10b
    refine hK.out _ _ ⟨(blk_cell (blk_below X7.out B10b.out) 0).trans rfl, (blk_cell (blk_below X7.out B10b.out) 1).trans rfl, (blk_cell (blk_below X7.out B10b.out) 2).trans rfl⟩ (fun hHeld => ?_)
    clear hK K
    refine m_ 43 (h := ?_)
    refine n_ 6 46 (bb 11 511) (h := fun K hK => ?_)
    refine goes_ Try.func43 (by kernel_rfl) rfl #[.slice A10b y10b.length c10b, .int .i64 m.f1] (by rfl) rfl rfl (by (try simp only [List.map_toArray, List.map_cons, List.map_nil]); first | done | rfl) ?_
    refine (rnum_callsC (by exact R10b.out) m.f1 (by rw [Ny10b.out]; have h := HACC.out; have h2 := HPL.out; have a0 := grp9 (cap_le m.f0); have a1 := grp9 (cap_le m.f1); have a2 := grp9 (cap_le m.f2); have h3 : m.f3.length ≤ 64 ∧ m.f4.length ≤ 64 := HMR.out; (try simp only [List.length_append]); omega)).mono ?_
    rintro ex w10c ⟨v10c, rfl, hr10c, hb10c⟩
    refine ⟨_, rfl, ?_⟩
    obtain ⟨y10c, hy10c⟩ : ∃ y, y = y10b ++ grp (cap m.f1) := ⟨_, rfl⟩
    rw [← hy10c] at hr10c
    have Ny10c := Aside0.mk hy10c
    clear hy10c
    have R10c := Aside0.mk hr10c
    have B10c := Aside0.mk (below_step B10b.out hb10c)
    clear hr10c hb10c
    obtain ⟨hB10c, A10c, c10c, rfl, hl10c, hC10c⟩ := R10c.out
    clear hB10c hl10c hC10c
    refine hK.out _ _ ⟨(blk_cell (blk_below X7.out B10c.out) 0).trans rfl, (blk_cell (blk_below X7.out B10c.out) 1).trans rfl, (blk_cell (blk_below X7.out B10c.out) 2).trans rfl⟩ (fun hHeld => ?_)
    clear hK K
    refine m_ 46 (h := ?_)
    refine n_ 9 49 (bb 11 1023) (h := fun K hK => ?_)
    refine goes_ Try.func43 (by kernel_rfl) rfl #[.slice A10c y10c.length c10c, .int .i64 m.f2] (by rfl) rfl rfl (by (try simp only [List.map_toArray, List.map_cons, List.map_nil]); first | done | rfl) ?_
    refine (rnum_callsC (by exact R10c.out) m.f2 (by rw [Ny10c.out, Ny10b.out]; have h := HACC.out; have h2 := HPL.out; have a0 := grp9 (cap_le m.f0); have a1 := grp9 (cap_le m.f1); have a2 := grp9 (cap_le m.f2); have h3 : m.f3.length ≤ 64 ∧ m.f4.length ≤ 64 := HMR.out; (try simp only [List.length_append]); omega)).mono ?_
    rintro ex w10d ⟨v10d, rfl, hr10d, hb10d⟩
    refine ⟨_, rfl, ?_⟩
    obtain ⟨y10d, hy10d⟩ : ∃ y, y = y10c ++ grp (cap m.f2) := ⟨_, rfl⟩
    rw [← hy10d] at hr10d
    have Ny10d := Aside0.mk hy10d
    clear hy10d
    have R10d := Aside0.mk hr10d
    have B10d := Aside0.mk (below_step B10c.out hb10d)
    clear hr10d hb10d
    obtain ⟨hB10d, A10d, c10d, rfl, hl10d, hC10d⟩ := R10d.out
    clear hB10d hl10d hC10d
    refine hK.out _ _ ⟨(blk_cell (blk_below X7.out B10d.out) 0).trans rfl, (blk_cell (blk_below X7.out B10d.out) 1).trans rfl, (blk_cell (blk_below X7.out B10d.out) 2).trans rfl⟩ (fun hHeld => ?_)
    clear hK K
    refine m_ 49 (h := ?_)
    refine p_ 10 4 (bb 11 2047) (h := ?_)
    refine d_ (h := ?_)
    clear hHeld
    go_upto_region 11 with (fail)
    clear hcx0 hcx1 hcx2
    refine s_ 10 [] (fun w' => w'.cell? ⟨g7, 3, none⟩ = some (.slice M3 m.f3.length e3) ∧ w'.cell? ⟨g7, 4, none⟩ = some (.slice M4 m.f4.length e4) ∧ Kd.C (Kd.int .u8) w' M3 m.f3.length m.f3 ∧ Kd.C (Kd.int .u8) w' M4 m.f4.length m.f4) (hS := ⟨(blk_cell (blk_below X7.out (below_drew B10d.out)) 3).trans rfl, (blk_cell (blk_below X7.out (below_drew B10d.out)) 4).trans rfl, Kd.C_below HE6.out.2.1 (below_drew B10d.out), Kd.C_below HE6.out.2.2.2 (below_drew B10d.out)⟩) (h := fun hHeld => ?_)
    have R11a := Aside0.mk (R10d.out.below (below_drew (Below.refl w10d.heap.size w10d)))
    have B11a := Aside0.mk (below_drew B10d.out)
    generalize w10d.drew = w11a at R11a B11a hHeld ⊢
    refine p_ 0 50 (bb 10 1) (h := ?_)
    refine p_ 1 51 (bb 10 3) (h := ?_)
    refine t_ 2 52 (bb 10 7) hHeld (h := ?_)
    refine t_ 3 53 (bb 10 15) hHeld (hy := by (rintro w' ⟨s0, s1, s2, s3⟩; have hcv := Kd.C_string (P := Try.prog) (A := M3) (c := e3) Try.underlying35 Try.underlying5 Try.underlying9 s2; go_simp; with_reducible rfl)) (h := ?_)
    refine p_ 5 55 (bb 10 47) (h := ?_)
    refine t_ 6 56 (bb 10 111) hHeld (h := ?_)
    refine t_ 7 57 (bb 10 239) hHeld (hy := by (rintro w' ⟨s0, s1, s2, s3⟩; have hcv := Kd.C_string (P := Try.prog) (A := M4) (c := e4) Try.underlying35 Try.underlying5 Try.underlying9 s3; go_simp; with_reducible rfl)) (h := ?_)
    refine n_ 4 54 (bb 10 255) (h := fun K hK => ?_)
    refine goes_ Try.func44 (by kernel_rfl) rfl #[.slice A10d y10d.length c10d, .string (strOfNums m.f3)] (by rfl) rfl rfl (by (try simp only [List.map_toArray, List.map_cons, List.map_nil]); first | done | rfl) ?_
    refine (rtext_callsC (by exact R11a.out) m.f3 HMB.out.1 (by rw [Ny10d.out, Ny10c.out, Ny10b.out]; have h := HACC.out; have h2 := HPL.out; have a0 := grp9 (cap_le m.f0); have a1 := grp9 (cap_le m.f1); have a2 := grp9 (cap_le m.f2); have h3 : m.f3.length ≤ 64 ∧ m.f4.length ≤ 64 := HMR.out; (try simp only [List.length_append]); omega)).mono ?_
    rintro ex w11b ⟨v11b, rfl, hr11b, hb11b⟩
    refine ⟨_, rfl, ?_⟩
    obtain ⟨y11b, hy11b⟩ : ∃ y, y = y10d ++ (grp m.f3.length ++ m.f3) := ⟨_, rfl⟩
    rw [← hy11b] at hr11b
    have Ny11b := Aside0.mk hy11b
    clear hy11b
    have R11b := Aside0.mk hr11b
    have B11b := Aside0.mk (below_step B11a.out hb11b)
    clear hr11b hb11b
    obtain ⟨hB11b, A11b, c11b, rfl, hl11b, hC11b⟩ := R11b.out
    clear hB11b hl11b hC11b
    refine hK.out _ _ ⟨(blk_cell (blk_below X7.out B11b.out) 3).trans rfl, (blk_cell (blk_below X7.out B11b.out) 4).trans rfl, Kd.C_below HE6.out.2.1 B11b.out, Kd.C_below HE6.out.2.2.2 B11b.out⟩ (fun hHeld => ?_)
    clear hK K
    refine m_ 54 (h := ?_)
    refine n_ 8 58 (bb 10 511) (h := fun K hK => ?_)
    refine goes_ Try.func44 (by kernel_rfl) rfl #[.slice A11b y11b.length c11b, .string (strOfNums m.f4)] (by rfl) rfl rfl (by (try simp only [List.map_toArray, List.map_cons, List.map_nil]); first | done | rfl) ?_
    refine (rtext_callsC (by exact R11b.out) m.f4 HMB.out.2.1 (by have h5 := grp9 (n := m.f3.length) (by have h3 : m.f3.length ≤ 64 ∧ m.f4.length ≤ 64 := HMR.out; omega); rw [Ny11b.out, Ny10d.out, Ny10c.out, Ny10b.out]; have h := HACC.out; have h2 := HPL.out; have a0 := grp9 (cap_le m.f0); have a1 := grp9 (cap_le m.f1); have a2 := grp9 (cap_le m.f2); have h3 : m.f3.length ≤ 64 ∧ m.f4.length ≤ 64 := HMR.out; (try simp only [List.length_append]); omega)).mono ?_
    rintro ex w11c ⟨v11c, rfl, hr11c, hb11c⟩
    refine ⟨_, rfl, ?_⟩
    obtain ⟨y11c, hy11c⟩ : ∃ y, y = y11b ++ (grp m.f4.length ++ m.f4) := ⟨_, rfl⟩
    rw [← hy11c] at hr11c
    have Ny11c := Aside0.mk hy11c
    clear hy11c
    have R11c := Aside0.mk hr11c
    have B11c := Aside0.mk (below_step B11b.out hb11c)
    clear hr11c hb11c
    obtain ⟨hB11c, A11c, c11c, rfl, hl11c, hC11c⟩ := R11c.out
    clear hB11c hl11c hC11c
    refine hK.out _ _ ⟨(blk_cell (blk_below X7.out B11c.out) 3).trans rfl, (blk_cell (blk_below X7.out B11c.out) 4).trans rfl, Kd.C_below HE6.out.2.1 B11c.out, Kd.C_below HE6.out.2.2.2 B11c.out⟩ (fun hHeld => ?_)
    clear hK K
    refine m_ 58 (h := ?_)
    refine p_ 9 4 (bb 10 1023) (h := ?_)
    refine d_ (h := ?_)
    have HYE := Aside0.mk (show y11c = acc ++ noteB (toM m) by rw [Ny11c.out, Ny11b.out, Ny10d.out, Ny10c.out, Ny10b.out]; exact HBN.out)
    clear hHeld
    go_wp2
    go_roundg k1
    case measure => exact Nat.lt_succ_self _
    case rel => exact ⟨pre ++ [m], post', y11c, A11c, c11c, rfl, by first | rfl | (rw [HWK.out, List.length_append]; rfl) | (rw [List.length_append]; rfl), ⟨by have h1 := HK.out; simp only [List.length_cons] at h1; omega⟩, ⟨HPX.out⟩, ⟨by rw [HYE.out, HA.out]; simp [List.append_assoc]⟩, ⟨by have h1 := HACC.out; have h2 := HNL.out; rw [HYE.out]; simp only [List.length_append, List.length_cons, List.length_nil]; omega⟩, R11c, ⟨blk_below HX6.out B11c.out⟩, ⟨below_step BW.out B11c.out⟩⟩
end Go.Proofs.Ythpklhkibcenoaa.Sk
