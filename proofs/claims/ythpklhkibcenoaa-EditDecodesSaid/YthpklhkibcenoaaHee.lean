/- Encode, walked. Conditions: those of each theorem. -/
import Derived.Test.YthpklhkibcenoaaCore
import Derived.Test.YthpklhkibcenoaaHap
import Derived.Test.YthpklhkibcenoaaHde
import Derived.Test.YthpklhkibcenoaaME
import Derived.Test.YthpklhkibcenoaaHen
import Derived.Test.YthpklhkibcenoaaHpl
import Derived.Test.YthpklhkibcenoaaHrb
import Derived.Test.YthpklhkibcenoaaHso
import Derived.Test.YthpklhkibcenoaaPx0
import Derived.Test.YthpklhkibcenoaaMB
import Derived.Test.YthpklhkibcenoaaSpecA
import Derived.Test.YthpklhkibcenoaaHto
import Derived.Test.YthpklhkibcenoaaHspa
namespace Go.Proofs.Ythpklhkibcenoaa.Sk
open Go.RowKit Go.Proofs.YthpklhkibcenoaaW.PrintWords Go.Proofs.YthpklhkibcenoaaW.PrintLast Go.Proofs.YthpklhkibcenoaaW.PrintMore Go.Proofs.Ythpklhkibcenoaa.Px Go.Proofs.Ythpklhkibcenoaa.Sw
set_option linter.unusedVariables false
set_option linter.unusedSimpArgs false

def RowC (B : Nat) (w : World) (v : Value) (xs : List Int) : Prop := B ≤ w.heap.size ∧ ∃ A c, v = .slice A xs.length c ∧ xs.length ≤ c ∧ Kd.F (Kd.int .u8) w (fun k => B ≤ k) A xs.length xs
theorem RowC.below {B : Nat} {w w1 : World} {v : Value} {xs : List Int} (h : RowC B w v xs) (hb : Below w.heap.size w w1) : RowC B w1 v xs := by
 obtain ⟨hB, A, c, h1, h2, h3⟩ := h
 exact ⟨Nat.le_trans hB hb.size, A, c, h1, h2, Kd.F_below h3 hb⟩
theorem build3I_run {f : Operand → Value} {o : Oper} {x0 x1 x2 : Operand} {W : World} {n0 n1 n2 : Int} (ho : o.op = .buildSlice 34 3 #[(0, x0), (1, x1), (2, x2)])
  (h0 : f x0 = .int .i64 n0) (h1 : f x1 = .int .i64 n1) (h2 : f x2 = .int .i64 n2) :
  (execOp f o).run Try.prog W = .ok (.value (.slice (some ⟨W.heap.size, 0, none⟩) 3 3)) (W.alloc (.cells #[.int .i64 n0, .int .i64 n1, .int .i64 n2] 3 (0, 0))) := by
 have hu := Try.underlying34
 unfold execOp
 simp only [ho]
 go_simp
theorem build5I_run {f : Operand → Value} {o : Oper} {x0 x1 x2 x3 x4 : Operand} {W : World} {n0 n1 n2 n3 n4 : Int} (ho : o.op = .buildSlice 34 5 #[(0, x0), (1, x1), (2, x2), (3, x3), (4, x4)])
  (h0 : f x0 = .int .i64 n0) (h1 : f x1 = .int .i64 n1) (h2 : f x2 = .int .i64 n2) (h3 : f x3 = .int .i64 n3) (h4 : f x4 = .int .i64 n4) :
  (execOp f o).run Try.prog W = .ok (.value (.slice (some ⟨W.heap.size, 0, none⟩) 5 5)) (W.alloc (.cells #[.int .i64 n0, .int .i64 n1, .int .i64 n2, .int .i64 n3, .int .i64 n4] 3 (0, 0))) := by
 have hu := Try.underlying34
 unfold execOp
 simp only [ho]
 go_simp
theorem RowC.nil {B : Nat} {w : World} (h : B ≤ w.heap.size) : RowC B w (.slice none 0 0) [] := ⟨h, none, 0, rfl, Nat.le_refl _, Kd.F_nil _ _ _⟩
section
variable {B : Nat} {w : World} {v : Value} {acc : List Int}
theorem nums_callsC (h : RowC B w v acc) {A1 : Option Addr} {c1 : Nat} {l : List Int} (hl : Kd.C (Kd.int .i64) w A1 l.length l) (hc : l.length ≤ c1) (hb : acc.length + 9 * l.length + 18 < 140737488355328) (h5 : l.length ≤ 1000) :
  Calls Try.prog 40 #[v, .slice A1 l.length c1] w fun ex w' => ∃ v', ex = .returned v' ∧ RowC B w' v' (acc ++ l.flatMap (fun x => grp (cap x))) ∧ Below w.heap.size w w' := by
 obtain ⟨hB, A, c, rfl, hle, hC⟩ := h
 obtain ⟨k, hk⟩ := (nums_f acc l hb h5).rounds
 refine (edit_nums.calls k _ A c acc A1 c1 l _ w (Kd.V_mk hle hC) hl hc hk).mono ?_
 rintro ex w' ⟨v', rfl, ⟨A', c', rfl, hle', hF⟩, hb'⟩
 exact ⟨_, rfl, ⟨Nat.le_trans hB hb'.size, A', c', rfl, hle', Kd.F_mono hF (fun k hk => hk.elim id (Nat.le_trans hB))⟩, hb'⟩
theorem text_callsC (h : RowC B w v acc) (x : List Int) (hx : Byts x) (hb : acc.length + x.length + 18 < 140737488355328) :
  Calls Try.prog 41 #[v, .string (strOfNums x)] w fun ex w' => ∃ v', ex = .returned v' ∧ RowC B w' v' (acc ++ (grp x.length ++ x)) ∧ Below w.heap.size w w' := by
 obtain ⟨hB, A, c, rfl, hle, hC⟩ := h
 obtain ⟨k, hk⟩ := (putText_f acc (strOfNums x) (by rw [str_size]; exact hb)).rounds
 rw [str_size, str_bytes hx, List.append_assoc] at hk
 refine (code_PutText.calls k A c acc _ _ w (Kd.F_now hC) hle hk).mono ?_
 rintro ex w' ⟨v', rfl, hR, hb'⟩
 obtain ⟨A', c', rfl⟩ := Kd.R_slice hR
 exact ⟨_, rfl, ⟨Nat.le_trans hB hb'.size, A', c', rfl, (Kd.R_reads' hR).2.1, Kd.F_mono (Kd.R_F (Kd.R_bound hR)) (fun k hk => Nat.le_trans hB hk.2.1)⟩, hb'⟩
end
set_option maxHeartbeats 40000000 in
set_option maxRecDepth 100000 in
theorem encode_calls {w : World} (g n s q : Int) {A : Option Addr} {c : Nat} {l : List S57} (hC : Kd.C k57 w A l.length l) (hlc : l.length ≤ c) (hM : ∀ m ∈ l, MB m) :
  Calls Try.prog 20 #[.agg #[.int .i64 g, .int .i64 n, .int .i64 s, .int .i64 q, .slice A l.length c]] w fun ex w' => ∃ v', ex = .returned (.tuple #[v', .int .i64 (if checkB g n s q l = true then (0 : Int) else 1)]) ∧ RowC w.heap.size w' v' (if checkB g n s q l = true then encM g n s q l else []) ∧ Below w.heap.size w w' := by
 have huV := Try.underlying28
 have huE := Try.underlying57
 have HC := Aside0.mk hC
 have HLC := Aside0.mk hlc
 have HM := Aside0.mk hM
 have HMAX := Aside0.mk (Kd.C_max hC)
 clear hC hlc hM
 cases hck : checkB g n s q l with
 | false =>
  as_aux_lemma =>
  have HCK := Aside0.mk hck
  have HIF := Aside0.mk (show (¬ (false = true)) from by decide)
  clear hck
  go_enter Try.func20, Try.ntmps20
  go_wp2_with (first
   | ((with_reducible refine gate_dst (N := 1) rfl ?_); (try (refine gate_guard (by rfl) ?_; dsimp only)); refine box_event ?hg (N := 1) ?hd (cs := #[.int .i64 g, .int .i64 n, .int .i64 s, .int .i64 q, .slice A l.length c]) (t := 28) ?hr ?_; (case hd => rfl); (case hg => rfl); (case hr => first | (go_simp; done) | (go_simp; rfl)); intro g1 hqg1 w1 hxg1 hbg1; have n_ := Aside0.mk hqg1; clear hqg1; have hqg1 := n_; clear n_; have n_ := Aside0.mk hxg1; clear hxg1; have hxg1 := n_; clear n_; have n_ := Aside0.mk hbg1; clear hbg1; have hbg1 := n_; clear n_; have hca0 : w1.cell? ⟨g1, 0, none⟩ = some (.int .i64 g) := (blk_cell hxg1.out 0).trans rfl; have hca1 : w1.cell? ⟨g1, 1, none⟩ = some (.int .i64 n) := (blk_cell hxg1.out 1).trans rfl; have hca2 : w1.cell? ⟨g1, 2, none⟩ = some (.int .i64 s) := (blk_cell hxg1.out 2).trans rfl; have hca3 : w1.cell? ⟨g1, 3, none⟩ = some (.int .i64 q) := (blk_cell hxg1.out 3).trans rfl; have hca4 : w1.cell? ⟨g1, 4, none⟩ = some (.slice A l.length c) := (blk_cell hxg1.out 4).trans rfl)
   | ((with_reducible refine gate_dst (N := 9) rfl ?_); (try (refine gate_guard (by rfl) ?_; dsimp only)); refine goesL_ (some 9) rfl rfl Try.func16 (by kernel_rfl) rfl #[.agg #[.int .i64 g, .int .i64 n, .int .i64 s, .int .i64 q, .slice A l.length c]] rfl (by (try simp only [List.map_toArray, List.map_cons, List.map_nil]); first | done | rfl) ?_; refine (check_no g n s q (Kd.C_below HC.out hbg1.out) HLC.out HM.out HCK.out).mono ?_; rintro ex w2 ⟨rfl, hb2⟩; refine ⟨_, rfl, ?_⟩; have B2 := Aside0.mk (below_step hbg1.out hb2); have X2 := Aside0.mk (blk_below hxg1.out hb2); clear hb2; have hcb0 : w2.cell? ⟨g1, 0, none⟩ = some (.int .i64 g) := (blk_cell X2.out 0).trans rfl; have hcb1 : w2.cell? ⟨g1, 1, none⟩ = some (.int .i64 n) := (blk_cell X2.out 1).trans rfl; have hcb2 : w2.cell? ⟨g1, 2, none⟩ = some (.int .i64 s) := (blk_cell X2.out 2).trans rfl; have hcb3 : w2.cell? ⟨g1, 3, none⟩ = some (.int .i64 q) := (blk_cell X2.out 3).trans rfl; have hcb4 : w2.cell? ⟨g1, 4, none⟩ = some (.slice A l.length c) := (blk_cell X2.out 4).trans rfl))
  go_ret2
  exact ⟨_, rfl, RowC.nil B2.out.size, B2.out⟩
 | true =>
  as_aux_lemma =>
  have HLN := Aside0.mk (show l.length ≤ 4096 by have h := (checkB_len hck).1; exact h)
  have HRT := Aside0.mk (checkB_right hck)
  have HCK := Aside0.mk hck
  clear hck
  go_enter Try.func20, Try.ntmps20
  go_wp2_with (first
   | ((with_reducible refine gate_dst (N := 1) rfl ?_); (try (refine gate_guard (by rfl) ?_; dsimp only)); refine box_event ?hg (N := 1) ?hd (cs := #[.int .i64 g, .int .i64 n, .int .i64 s, .int .i64 q, .slice A l.length c]) (t := 28) ?hr ?_; (case hd => rfl); (case hg => rfl); (case hr => first | (go_simp; done) | (go_simp; rfl)); intro g1 hqg1 w1 hxg1 hbg1; have n_ := Aside0.mk hqg1; clear hqg1; have hqg1 := n_; clear n_; have n_ := Aside0.mk hxg1; clear hxg1; have hxg1 := n_; clear n_; have n_ := Aside0.mk hbg1; clear hbg1; have hbg1 := n_; clear n_; have hca0 : w1.cell? ⟨g1, 0, none⟩ = some (.int .i64 g) := (blk_cell hxg1.out 0).trans rfl; have hca1 : w1.cell? ⟨g1, 1, none⟩ = some (.int .i64 n) := (blk_cell hxg1.out 1).trans rfl; have hca2 : w1.cell? ⟨g1, 2, none⟩ = some (.int .i64 s) := (blk_cell hxg1.out 2).trans rfl; have hca3 : w1.cell? ⟨g1, 3, none⟩ = some (.int .i64 q) := (blk_cell hxg1.out 3).trans rfl; have hca4 : w1.cell? ⟨g1, 4, none⟩ = some (.slice A l.length c) := (blk_cell hxg1.out 4).trans rfl)
   | ((with_reducible refine gate_dst (N := 9) rfl ?_); (try (refine gate_guard (by rfl) ?_; dsimp only)); refine goesL_ (some 9) rfl rfl Try.func16 (by kernel_rfl) rfl #[.agg #[.int .i64 g, .int .i64 n, .int .i64 s, .int .i64 q, .slice A l.length c]] rfl (by (try simp only [List.map_toArray, List.map_cons, List.map_nil]); first | done | rfl) ?_; refine (check_yes g n s q (Kd.C_below HC.out hbg1.out) HLC.out HM.out HCK.out).mono ?_; rintro ex w2 ⟨rfl, hb2⟩; refine ⟨_, rfl, ?_⟩; have B2 := Aside0.mk (below_step hbg1.out hb2); have X2 := Aside0.mk (blk_below hxg1.out hb2); clear hb2; have hcb0 : w2.cell? ⟨g1, 0, none⟩ = some (.int .i64 g) := (blk_cell X2.out 0).trans rfl; have hcb1 : w2.cell? ⟨g1, 1, none⟩ = some (.int .i64 n) := (blk_cell X2.out 1).trans rfl; have hcb2 : w2.cell? ⟨g1, 2, none⟩ = some (.int .i64 s) := (blk_cell X2.out 2).trans rfl; have hcb3 : w2.cell? ⟨g1, 3, none⟩ = some (.int .i64 q) := (blk_cell X2.out 3).trans rfl; have hcb4 : w2.cell? ⟨g1, 4, none⟩ = some (.slice A l.length c) := (blk_cell X2.out 4).trans rfl)
   | ((with_reducible refine gate_dst (N := 24) rfl ?_); (try (refine gate_guard (by rfl) ?_; dsimp only)); refine Kd.R_lit (Kd.int .i64) _ 3 ?hg (N := 24) ?hd (xs := ([g, n, s, q, (l.length : Int)] : List Int)) (inner := [.int .i64 (g), .int .i64 (n), .int .i64 (s), .int .i64 (q), .int .i64 ((l.length : Int))]) (ok := fun _ => True) (okp := fun _ => True) ?hr ?hp (fun _ hk => hk) trivial (Below.refl _ _) (Nat.le_refl _) (by simp) ?_; (case hd => rfl); (case hg => rfl); (case hr => exact build5I_run (by rfl) rfl rfl rfl rfl rfl ); (case hp => exact (Reps.one (show Kd.M (Kd.int .i64) _ _ _ (g) [.int .i64 (g)] from rfl) (Reps.one (show Kd.M (Kd.int .i64) _ _ _ (n) [.int .i64 (n)] from rfl) (Reps.one (show Kd.M (Kd.int .i64) _ _ _ (s) [.int .i64 (s)] from rfl) (Reps.one (show Kd.M (Kd.int .i64) _ _ _ (q) [.int .i64 (q)] from rfl) (Reps.one (show Kd.M (Kd.int .i64) _ _ _ ((l.length : Int)) [.int .i64 ((l.length : Int))] from rfl) (Reps.none _ _))))))); intro v24 w3 ho hb hg_ hnew_; clear hg_ hnew_; obtain ⟨AL, cL, rfl⟩ := Kd.R_slice ho; have HL_ := Aside0.mk (Kd.R_reads' ho).2; have BL_ := Aside0.mk hb; clear ho hb)
   | ((with_reducible refine gate_dst (N := 25) rfl ?_); (try (refine gate_guard (by rfl) ?_; dsimp only)); refine goesL_ (some 25) rfl rfl Try.func40 (by kernel_rfl) rfl #[.slice none 0 0, .slice AL 5 cL] rfl (by (try simp only [List.map_toArray, List.map_cons, List.map_nil]); first | done | rfl) ?_; refine (nums_callsC (RowC.nil (below_step B2.out BL_.out).size) (l := [g, n, s, q, (l.length : Int)]) HL_.out.2 HL_.out.1 (by simp) (by simp)).mono ?_; rintro ex w4 ⟨v5, rfl, hr5, hb4⟩; refine ⟨_, rfl, ?_⟩; obtain ⟨y5, hy5⟩ : ∃ y, y = ([] ++ [g, n, s, q, (l.length : Int)].flatMap (fun x => grp (cap x))) := ⟨_, rfl⟩; rw [← hy5] at hr5; have Ny5 := Aside0.mk hy5; clear hy5; have B4 := Aside0.mk (below_step B2.out (below_step BL_.out hb4)); have X4 := Aside0.mk (blk_below X2.out (below_step BL_.out hb4)); have R5 := Aside0.mk hr5; clear hr5 hb4 HL_ BL_; obtain ⟨hB5, A5, c5, rfl, hl5, hC5⟩ := R5.out; clear hB5 hl5 hC5; have hcc0 : w4.cell? ⟨g1, 0, none⟩ = some (.int .i64 g) := (blk_cell X4.out 0).trans rfl; have hcc1 : w4.cell? ⟨g1, 1, none⟩ = some (.int .i64 n) := (blk_cell X4.out 1).trans rfl; have hcc2 : w4.cell? ⟨g1, 2, none⟩ = some (.int .i64 s) := (blk_cell X4.out 2).trans rfl; have hcc3 : w4.cell? ⟨g1, 3, none⟩ = some (.int .i64 q) := (blk_cell X4.out 3).trans rfl; have hcc4 : w4.cell? ⟨g1, 4, none⟩ = some (.slice A l.length c) := (blk_cell X4.out 4).trans rfl))
  go_loopg [5, 29] l.length (fun kq v5 v29 w' => ∃ (pre post : List S57) (acc : List Int) (Ao : Option Addr) (co : Nat), v5 = .slice Ao acc.length co ∧ v29 = .int .i64 (pre.length : Int) ∧ Aside0 (kq = post.length) ∧ Aside0 (l = pre ++ post) ∧ Aside0 (acc = ([] ++ [g, n, s, q, (l.length : Int)].flatMap (fun x => grp (cap x))) ++ pre.flatMap noteB) ∧ Aside0 (acc.length ≤ 1000 + 200 * pre.length) ∧ Aside0 (RowC w.heap.size w' (.slice Ao acc.length co) acc) ∧ Aside0 (Below w.heap.size w w'))
  case atStart => exact ⟨[], l, y5, A5, c5, rfl, rfl, ⟨rfl⟩, ⟨rfl⟩, ⟨Ny5.out.trans (List.append_nil _).symm⟩, ⟨by rw [Ny5.out]; simp only [List.nil_append, List.flatMap_cons, List.flatMap_nil, List.length_append, List.length_nil]; have a0 := grp9 (cap_le g); have a1 := grp9 (cap_le n); have a2 := grp9 (cap_le s); have a3 := grp9 (cap_le q); have a4 := grp9 (cap_le (l.length : Int)); omega⟩, R5, B4⟩
  case round =>
   clear hxg1 hqg1 hbg1 B2 X2 B4 X4 R5 hca0 hca1 hca2 hca3 hca4 hcb0 hcb1 hcb2 hcb3 hcb4 hcc0 hcc1 hcc2 hcc3 hcc4
   obtain ⟨pre, post, acc, Ao, co, rfl, rfl, HK, HP, HA, HACC, HO, HB⟩ := hrel
   cases gk with
   | zero =>
    as_aux_lemma =>
    have HPE := Aside0.mk (show l = pre by rw [HP.out, List.length_eq_zero_iff.1 HK.out.symm, List.append_nil])
    have hlt : (pre.length < l.length) = False := eq_false (by rw [HPE.out]; omega)
    have HEN := Aside0.mk (show acc = encM g n s q l by
     rw [HA.out, ← HPE.out]
     unfold encM
     have hcp := cap_of (n := l.length) (by have h := HLN.out; omega)
     simp only [List.nil_append, List.flatMap_cons, List.flatMap_nil, List.append_nil, List.append_assoc, List.length_map, hcp])

    go_wp2
    go_ret2
    exact ⟨_, rfl, HEN.out ▸ HO.out, HB.out⟩
   | succ k1 =>
    as_aux_lemma =>
    obtain ⟨m, post', rfl⟩ : ∃ m p, post = m :: p := by
     cases post with
     | nil => exact absurd HK.out (by simp)
     | cons m p => exact ⟨m, p, rfl⟩
    have hlt : (pre.length < l.length) = True := eq_true (by rw [HP.out]; simp)
    have HPL := Aside0.mk (show pre.length < 4096 by have h1 := HLN.out; have h2 := congrArg List.length HP.out; simp only [List.length_append, List.length_cons] at h2; omega)
    have HMB := Aside0.mk (HM.out m (by rw [HP.out]; simp))
    have HMR := Aside0.mk (rightM_len (HRT.out m (by rw [HP.out]; simp)))
    have HNL := Aside0.mk (noteB_len (HRT.out m (by rw [HP.out]; simp)))
    have HWK := Aside0.mk (wadd1 (x := pre.length) (z := pre.length + 1) rfl (by have h1 := HPL.out; omega))
    have HPX := Aside0.mk (show l = pre ++ [m] ++ post' by rw [HP.out]; simp)
    have HBN := Aside0.mk (show acc ++ ([m.f0, m.f1, m.f2].flatMap (fun x => grp (cap x))) ++ (grp m.f3.length ++ m.f3) ++ (grp m.f4.length ++ m.f4) = acc ++ noteB m by unfold noteB; simp [List.append_assoc])
    obtain ⟨ad, M3, e3, M4, e4, hA, hd0, hd1, hd2, hd3, hd4, hE_⟩ := at_CE HC.out pre.length m (by rw [HP.out]; exact get_app _ _ _)
    subst hA
    have HEC := Aside0.mk hE_
    clear hE_
    have hm0 := pw_cell_below HB.out hd0
    have hm1 := pw_cell_below HB.out hd1
    have hm2 := pw_cell_below HB.out hd2
    have hm3 := pw_cell_below HB.out hd3
    have hm4 := pw_cell_below HB.out hd4
    clear hd0 hd1 hd2 hd3 hd4

    go_upto_region 8 with (first
     | ((with_reducible refine gate_dst (N := 7) rfl ?_); (try (refine gate_guard (by rfl) ?_; dsimp only)); refine box_event ?hg (N := 7) ?hd (cs := #[.int .i64 0, .int .i64 0, .int .i64 0, .slice none 0 0, .slice none 0 0]) (t := 57) ?hr ?_; (case hd => rfl); (case hg => rfl); (case hr => first | (go_simp; done) | (go_simp; rfl)); intro g7 hqg7 w5 hxg7 hbg7; have n_ := Aside0.mk hqg7; clear hqg7; have hqg7 := n_; clear n_; have n_ := Aside0.mk hxg7; clear hxg7; have hxg7 := n_; clear n_; have n_ := Aside0.mk hbg7; clear hbg7; have hbg7 := n_; clear n_; have hcz0 : w5.cell? ⟨g7, 0, none⟩ = some (.int .i64 0) := (blk_cell hxg7.out 0).trans rfl; have hcz1 : w5.cell? ⟨g7, 1, none⟩ = some (.int .i64 0) := (blk_cell hxg7.out 1).trans rfl; have hcz2 : w5.cell? ⟨g7, 2, none⟩ = some (.int .i64 0) := (blk_cell hxg7.out 2).trans rfl; have hcz3 : w5.cell? ⟨g7, 3, none⟩ = some (.slice none 0 0) := (blk_cell hxg7.out 3).trans rfl; have hcz4 : w5.cell? ⟨g7, 4, none⟩ = some (.slice none 0 0) := (blk_cell hxg7.out 4).trans rfl; have hfz0 : w5.frozen? ⟨g7, 0, none⟩ = false := blk_frozen hxg7.out 0; have hfz1 : w5.frozen? ⟨g7, 1, none⟩ = false := blk_frozen hxg7.out 1; have hfz2 : w5.frozen? ⟨g7, 2, none⟩ = false := blk_frozen hxg7.out 2; have hfz3 : w5.frozen? ⟨g7, 3, none⟩ = false := blk_frozen hxg7.out 3; have hfz4 : w5.frozen? ⟨g7, 4, none⟩ = false := blk_frozen hxg7.out 4))
    have X7 := Aside0.mk (setsE (v0 := .int .i64 m.f0) (v1 := .int .i64 m.f1) (v2 := .int .i64 m.f2) (v3 := .slice M3 m.f3.length e3) (v4 := .slice M4 m.f4.length e4) hxg7.out)
    have BW := Aside0.mk (show Below w.heap.size w (((((w5.setCell ⟨g7, 0, none⟩ (.int .i64 m.f0)).setCell ⟨g7, 1, none⟩ (.int .i64 m.f1)).setCell ⟨g7, 2, none⟩ (.int .i64 m.f2)).setCell ⟨g7, 3, none⟩ (.slice M3 m.f3.length e3)).setCell ⟨g7, 4, none⟩ (.slice M4 m.f4.length e4)) from below5 _ _ _ _ _ (below_step HB.out hbg7.out) (by have h1 := hqg7.out; have h2 := HB.out.size; omega))
    have BR := Aside0.mk (show Below wr.heap.size wr (((((w5.setCell ⟨g7, 0, none⟩ (.int .i64 m.f0)).setCell ⟨g7, 1, none⟩ (.int .i64 m.f1)).setCell ⟨g7, 2, none⟩ (.int .i64 m.f2)).setCell ⟨g7, 3, none⟩ (.slice M3 m.f3.length e3)).setCell ⟨g7, 4, none⟩ (.slice M4 m.f4.length e4)) from below5 _ _ _ _ _ hbg7.out (Nat.le_of_eq hqg7.out.symm))
    clear hlt hm0 hm1 hm2 hm3 hm4 hcz0 hfz0 hcz1 hfz1 hcz2 hfz2 hcz3 hfz3 hcz4 hfz4 hqg7 hxg7 hbg7
    generalize (((((w5.setCell ⟨g7, 0, none⟩ (.int .i64 m.f0)).setCell ⟨g7, 1, none⟩ (.int .i64 m.f1)).setCell ⟨g7, 2, none⟩ (.int .i64 m.f2)).setCell ⟨g7, 3, none⟩ (.slice M3 m.f3.length e3)).setCell ⟨g7, 4, none⟩ (.slice M4 m.f4.length e4)) = w6 at X7 BW BR ⊢
    have R6 := Aside0.mk (HO.out.below BR.out)
    have HE6 := Aside0.mk (show m.f3.length ≤ e3 ∧ Kd.C (Kd.int .u8) w6 M3 m.f3.length m.f3 ∧ m.f4.length ≤ e4 ∧ Kd.C (Kd.int .u8) w6 M4 m.f4.length m.f4 from ⟨HEC.out.1, Kd.C_below HEC.out.2.1 BW.out, HEC.out.2.2.1, Kd.C_below HEC.out.2.2.2 BW.out⟩)
    clear HO BR HEC
    as_aux_lemma =>
    have hcx0 : w6.cell? ⟨g7, 0, none⟩ = some (.int .i64 m.f0) := (blk_cell X7.out 0).trans rfl
    have hcx1 : w6.cell? ⟨g7, 1, none⟩ = some (.int .i64 m.f1) := (blk_cell X7.out 1).trans rfl
    have hcx2 : w6.cell? ⟨g7, 2, none⟩ = some (.int .i64 m.f2) := (blk_cell X7.out 2).trans rfl
    have hcx3 : w6.cell? ⟨g7, 3, none⟩ = some (.slice M3 m.f3.length e3) := (blk_cell X7.out 3).trans rfl
    have hcx4 : w6.cell? ⟨g7, 4, none⟩ = some (.slice M4 m.f4.length e4) := (blk_cell X7.out 4).trans rfl
    go_upto_region 9 with (first
     | ((with_reducible refine gate_dst (N := 40) rfl ?_); (try (refine gate_guard (by rfl) ?_; dsimp only)); refine Kd.R_lit (Kd.int .i64) _ 3 ?hg (N := 40) ?hd (xs := ([m.f0, m.f1, m.f2] : List Int)) (inner := [.int .i64 (m.f0), .int .i64 (m.f1), .int .i64 (m.f2)]) (ok := fun _ => True) (okp := fun _ => True) ?hr ?hp (fun _ hk => hk) trivial (Below.refl _ _) (Nat.le_refl _) (by simp) ?_; (case hd => rfl); (case hg => rfl); (case hr => exact build3I_run (by rfl) rfl rfl rfl ); (case hp => exact (Reps.one (show Kd.M (Kd.int .i64) _ _ _ (m.f0) [.int .i64 (m.f0)] from rfl) (Reps.one (show Kd.M (Kd.int .i64) _ _ _ (m.f1) [.int .i64 (m.f1)] from rfl) (Reps.one (show Kd.M (Kd.int .i64) _ _ _ (m.f2) [.int .i64 (m.f2)] from rfl) (Reps.none _ _))))); intro v40 w7 ho hb hg_ hnew_; clear hg_ hnew_; obtain ⟨AL, cL, rfl⟩ := Kd.R_slice ho; have HL_ := Aside0.mk (Kd.R_reads' ho).2; have BL_ := Aside0.mk hb; clear ho hb)
     | ((with_reducible refine gate_dst (N := 41) rfl ?_); (try (refine gate_guard (by rfl) ?_; dsimp only)); refine goesL_ (some 41) rfl rfl Try.func40 (by kernel_rfl) rfl #[.slice Ao acc.length co, .slice AL 3 cL] rfl (by (try simp only [List.map_toArray, List.map_cons, List.map_nil]); first | done | rfl) ?_; refine (nums_callsC (R6.out.below BL_.out) (l := [m.f0, m.f1, m.f2]) HL_.out.2 HL_.out.1 (by have h := HACC.out; have h2 := HPL.out; simp only [List.length_cons, List.length_nil]; omega) (by simp)).mono ?_; rintro ex w8 ⟨v8, rfl, hr8, hb8⟩; refine ⟨_, rfl, ?_⟩; obtain ⟨y8, hy8⟩ : ∃ y, y = acc ++ [m.f0, m.f1, m.f2].flatMap (fun x => grp (cap x)) := ⟨_, rfl⟩; rw [← hy8] at hr8; have Ny8 := Aside0.mk hy8; clear hy8; have B8 := Aside0.mk (below_step BL_.out hb8); have R8 := Aside0.mk hr8; clear hr8 hb8 HL_ BL_; obtain ⟨hB8, A8, c8, rfl, hl8, hC8⟩ := R8.out; clear hB8 hl8 hC8))
    clear hcx0 hcx1 hcx2 hcx3 hcx4
    refine s_ 10 [] (fun w' => w'.cell? ⟨g7, 3, none⟩ = some (.slice M3 m.f3.length e3) ∧ w'.cell? ⟨g7, 4, none⟩ = some (.slice M4 m.f4.length e4) ∧ Kd.C (Kd.int .u8) w' M3 m.f3.length m.f3 ∧ Kd.C (Kd.int .u8) w' M4 m.f4.length m.f4) (hS := ⟨(blk_cell (blk_below X7.out (below_drew B8.out)) 3).trans rfl, (blk_cell (blk_below X7.out (below_drew B8.out)) 4).trans rfl, Kd.C_below HE6.out.2.1 (below_drew B8.out), Kd.C_below HE6.out.2.2.2 (below_drew B8.out)⟩) (h := fun hHeld => ?_)
    have R9 := Aside0.mk (R8.out.below (below_drew (Below.refl w8.heap.size w8)))
    have B9 := Aside0.mk (below_drew B8.out)
    generalize w8.drew = w9 at R9 B9 hHeld ⊢
    refine p_ 0 42 (bb 10 1) (h := ?_)
    refine p_ 1 43 (bb 10 3) (h := ?_)
    refine t_ 2 44 (bb 10 7) hHeld (h := ?_)
    refine t_ 3 45 (bb 10 15) hHeld (hy := by (rintro w' ⟨s0, s1, s2, s3⟩; have hcv := Kd.C_string (P := Try.prog) (A := M3) (c := e3) Try.underlying35 Try.underlying5 Try.underlying9 s2; go_simp; with_reducible rfl)) (h := ?_)
    refine p_ 5 47 (bb 10 47) (h := ?_)
    refine t_ 6 48 (bb 10 111) hHeld (h := ?_)
    refine t_ 7 49 (bb 10 239) hHeld (hy := by (rintro w' ⟨s0, s1, s2, s3⟩; have hcv := Kd.C_string (P := Try.prog) (A := M4) (c := e4) Try.underlying35 Try.underlying5 Try.underlying9 s3; go_simp; with_reducible rfl)) (h := ?_)
    refine n_ 4 46 (bb 10 255) (h := fun K hK => ?_)
    refine goes_ Try.func41 (by kernel_rfl) rfl #[.slice A8 y8.length c8, .string (strOfNums m.f3)] (by rfl) rfl rfl (by (try simp only [List.map_toArray, List.map_cons, List.map_nil]); first | done | rfl) ?_
    refine (text_callsC (by exact R9.out) m.f3 HMB.out.1 (by have h := HACC.out; have h2 := HPL.out; have h3 := HMR.out; have a0 := grp9 (cap_le m.f0); have a1 := grp9 (cap_le m.f1); have a2 := grp9 (cap_le m.f2); rw [Ny8.out]; simp only [List.length_append, List.flatMap_cons, List.flatMap_nil, List.length_nil]; omega)).mono ?_
    rintro ex w10 ⟨v10, rfl, hr10, hb10⟩
    refine ⟨_, rfl, ?_⟩
    obtain ⟨y10, hy10⟩ : ∃ y, y = y8 ++ (grp m.f3.length ++ m.f3) := ⟨_, rfl⟩
    rw [← hy10] at hr10
    have Ny10 := Aside0.mk hy10
    clear hy10
    have R10 := Aside0.mk hr10
    have B10 := Aside0.mk (below_step B9.out hb10)
    clear hr10 hb10
    obtain ⟨hB10, A10, c10, rfl, hl10, hC10⟩ := R10.out
    clear hB10 hl10 hC10
    refine hK.out _ _ ⟨(blk_cell (blk_below X7.out B10.out) 3).trans rfl, (blk_cell (blk_below X7.out B10.out) 4).trans rfl, Kd.C_below HE6.out.2.1 B10.out, Kd.C_below HE6.out.2.2.2 B10.out⟩ (fun hHeld => ?_)
    clear hK K
    refine m_ 46 (h := ?_)
    refine n_ 8 50 (bb 10 511) (h := fun K hK => ?_)
    refine goes_ Try.func41 (by kernel_rfl) rfl #[.slice A10 y10.length c10, .string (strOfNums m.f4)] (by rfl) rfl rfl (by (try simp only [List.map_toArray, List.map_cons, List.map_nil]); first | done | rfl) ?_
    refine (text_callsC (by exact R10.out) m.f4 HMB.out.2.1 (by have h := HACC.out; have h2 := HPL.out; have h3 := HMR.out; have a0 := grp9 (cap_le m.f0); have a1 := grp9 (cap_le m.f1); have a2 := grp9 (cap_le m.f2); have h5 := grp9 (n := m.f3.length) (by omega); rw [Ny10.out, Ny8.out]; simp only [List.length_append, List.flatMap_cons, List.flatMap_nil, List.length_nil]; omega)).mono ?_
    rintro ex w11 ⟨v11, rfl, hr11, hb11⟩
    refine ⟨_, rfl, ?_⟩
    obtain ⟨y11, hy11⟩ : ∃ y, y = y10 ++ (grp m.f4.length ++ m.f4) := ⟨_, rfl⟩
    rw [← hy11] at hr11
    have Ny11 := Aside0.mk hy11
    clear hy11
    have R11 := Aside0.mk hr11
    have B11 := Aside0.mk (below_step B10.out hb11)
    clear hr11 hb11
    obtain ⟨hB11, A11, c11, rfl, hl11, hC11⟩ := R11.out
    clear hB11 hl11 hC11
    refine hK.out _ _ ⟨(blk_cell (blk_below X7.out B11.out) 3).trans rfl, (blk_cell (blk_below X7.out B11.out) 4).trans rfl, Kd.C_below HE6.out.2.1 B11.out, Kd.C_below HE6.out.2.2.2 B11.out⟩ (fun hHeld => ?_)
    clear hK K
    refine m_ 50 (h := ?_)
    refine p_ 9 5 (bb 10 1023) (h := ?_)
    refine d_ (h := ?_)
    have HYE := Aside0.mk (show y11 = acc ++ noteB m by rw [Ny11.out, Ny10.out, Ny8.out]; exact HBN.out)
    clear hHeld
    go_wp2
    go_roundg k1
    case measure => exact Nat.lt_succ_self _
    case rel => exact ⟨pre ++ [m], post', y11, A11, c11, rfl, by first | rfl | (rw [HWK.out, List.length_append]; rfl) | (rw [List.length_append]; rfl), ⟨by have h1 := HK.out; simp only [List.length_cons] at h1; omega⟩, ⟨HPX.out⟩, ⟨by rw [HYE.out, HA.out]; simp [List.append_assoc]⟩, ⟨by have h1 := HACC.out; have h2 := HNL.out; rw [HYE.out]; simp only [List.length_append, List.length_cons, List.length_nil]; omega⟩, R11, ⟨below_step BW.out B11.out⟩⟩
end Go.Proofs.Ythpklhkibcenoaa.Sk
