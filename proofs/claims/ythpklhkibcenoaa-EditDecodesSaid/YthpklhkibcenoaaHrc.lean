/- The document's Check, walked. Conditions: those of each theorem. -/
import Derived.Test.YthpklhkibcenoaaCore
import Derived.Test.YthpklhkibcenoaaHap
import Derived.Test.YthpklhkibcenoaaHde
import Derived.Test.YthpklhkibcenoaaHpl
import Derived.Test.YthpklhkibcenoaaHrb
import Derived.Test.YthpklhkibcenoaaHrtr
import Derived.Test.YthpklhkibcenoaaHso
import Derived.Test.YthpklhkibcenoaaHspa
import Derived.Test.YthpklhkibcenoaaHto
import Derived.Test.YthpklhkibcenoaaME
import Derived.Test.YthpklhkibcenoaaPx0
import Derived.Test.YthpklhkibcenoaaMC
namespace Go.Proofs.Ythpklhkibcenoaa.Sk
open Go.RowKit Go.Proofs.YthpklhkibcenoaaW.PrintWords Go.Proofs.YthpklhkibcenoaaW.PrintLast Go.Proofs.YthpklhkibcenoaaW.PrintMore Go.Proofs.Ythpklhkibcenoaa.Px Go.Proofs.Ythpklhkibcenoaa.Sw
set_option linter.unusedVariables false
set_option linter.unusedSimpArgs false
/-- The same of a row that is only read. -/
theorem at_CR {W : World} {A : Option Addr} {n : Nat} {xs : List S37} (h : Kd.C k37 W A n xs) (i : Nat) (e : S37) (he : xs[i]? = some e) :
  ∃ ad A3 c3 A4 c4, A = some ad ∧ W.cell? (ad.add (i * 5)) = some (.int .i64 e.f0) ∧ W.cell? ⟨(ad.add (i * 5)).block, (ad.add (i * 5)).off + 1, none⟩ = some (.int .i64 e.f1) ∧ W.cell? ⟨(ad.add (i * 5)).block, (ad.add (i * 5)).off + 2, none⟩ = some (.int .i64 e.f2) ∧ W.cell? ⟨(ad.add (i * 5)).block, (ad.add (i * 5)).off + 3, none⟩ = some (.slice A3 e.f3.length c3) ∧ W.cell? ⟨(ad.add (i * 5)).block, (ad.add (i * 5)).off + 4, none⟩ = some (.slice A4 e.f4.length c4) ∧ e.f3.length ≤ c3 ∧ Kd.C (Kd.int .u8) W A3 e.f3.length e.f3 ∧ e.f4.length ≤ c4 ∧ Kd.C (Kd.int .u8) W A4 e.f4.length e.f4 := by
 have hn := h.1
 have hi : i < xs.length := (List.getElem?_eq_some_iff.1 he).1
 obtain ⟨ad, c, e0, _, hK, hc0⟩ := Kd.C_get h e (i : Int) (by omega) (by omega)
 rw [Int.toNat_natCast, List.getD_eq_getElem?_getD, he] at hK
 replace hK : k37.K W e c := hK
 obtain ⟨A3, c3, A4, c4, rfl, l3, g3, l4, g4⟩ := k37_open hK
 have hc : ∀ j u, ([.int .i64 e.f0, .int .i64 e.f1, .int .i64 e.f2, .slice A3 e.f3.length c3, .slice A4 e.f4.length c4] : List Value)[j]? = some u → W.cell? (ad.add (i * 5 + j)) = some u := by
  intro j u hu
  have := hc0 j u hu
  rwa [Int.toNat_natCast] at this
 exact ⟨ad, A3, c3, A4, c4, e0, hc 0 _ rfl, by rw [← add_field _ _ 1 (by omega)]; exact hc 1 _ rfl, by rw [← add_field _ _ 2 (by omega)]; exact hc 2 _ rfl, by rw [← add_field _ _ 3 (by omega)]; exact hc 3 _ rfl, by rw [← add_field _ _ 4 (by omega)]; exact hc 4 _ rfl, l3, g3, l4, g4⟩

theorem ahead_eq (p m : S37) (hp : rightM (toM p) = true) (hm : rightM (toM m) = true) (hMp : MB (toM p)) (hMm : MB (toM m)) : (if p.f1 = m.f1 then (if p.f1 = 0 then decide (m.f0 < p.f0) else less p.f3 m.f3) else decide (p.f1 < m.f1)) = decide (cmpM (toM p) (toM m) < 0) := by
 have h1 := rightM_level hp
 have h2 := rightM_len hp
 have h3 : (toM p).f1 = p.f1 := rfl
 have h4 : (toM p).f3 = p.f3 := rfl
 have hc := cmpM_neg hMp hMm
 have hc : cmpM (toM p) (toM m) < 0 ↔ p.f1 < m.f1 ∨ p.f1 = m.f1 ∧ (0 < p.f1 ∧ less p.f3 m.f3 = true ∨ ¬ 0 < p.f1 ∧ m.f0 < p.f0) := hc
 by_cases c1 : p.f1 = m.f1
 ·
  rw [if_pos c1]
  by_cases c2 : p.f1 = 0
  ·
   rw [if_pos c2, decide_eq_decide, hc]
   constructor
   ·
    intro h; exact .inr ⟨c1, .inr ⟨by omega, h⟩⟩
   ·
    rintro (h | ⟨_, h | h⟩)
    ·
     omega
    ·
     omega
    ·
     exact h.2
  ·
   rw [if_neg c2]
   cases hl : less p.f3 m.f3 with
   | true => exact (decide_eq_true (hc.2 (.inr ⟨c1, .inl ⟨by rw [h3] at h1; omega, hl⟩⟩))).symm
   | false =>
    refine (decide_eq_false (fun h => ?_)).symm
    rcases hc.1 h with h | ⟨_, h | h⟩
    ·
     omega
    ·
     rw [hl] at h; cases h.2
    ·
     rw [h3] at h1; omega
 ·
  rw [if_neg c1, decide_eq_decide, hc]
  constructor
  ·
   intro h; exact .inl h
  ·
   rintro (h | ⟨h, _⟩)
   ·
    exact h
   ·
    exact absurd h c1
def bad7 (nx : Int) (pre : List S57) (m : S57) : Bool := !rightM m || decide (nx ≤ m.f0) || (match pre.getLast? with | none => false | some p => !decide (cmpM p m < 0))
def bad9 (pre : List S57) (m : S57) : Bool := match pre.getLast? with | none => false | some p => decide (0 < m.f1) && decide (p.f1 = m.f1) && !less p.f4 m.f3
theorem bad_step {nx : Int} {pre post : List S57} {m : S57} : tabsB nx pre (m :: post) = (!(bad7 nx pre m) && !(bad9 pre m) && !(pre.any fun p => decide (p.f0 = m.f0)) && tabsB nx (pre ++ [m]) post) := by
 have e0 : tabsB nx pre (m :: post) = (!(pre.any fun p => decide (p.f0 = m.f0)) && rightM m && decide (m.f0 < nx) && preB pre m && tabsB nx (pre ++ [m]) post) := rfl
 rw [e0]
 unfold bad7 bad9 preB
 have e1 : decide (nx ≤ m.f0) = !decide (m.f0 < nx) := by
  by_cases h : m.f0 < nx
  ·
   rw [decide_eq_true h, decide_eq_false (by omega)]; rfl
  ·
   rw [decide_eq_false h, decide_eq_true (by omega)]; rfl
 rw [e1]
 cases hl : pre.getLast? with
 | none =>
  simp only
  cases rightM m <;> cases decide (m.f0 < nx) <;> cases (pre.any fun p => decide (p.f0 = m.f0)) <;> simp
 | some p =>
  simp only
  unfold stepB
  by_cases hf : p.f1 = m.f1
  ·
   rw [decide_eq_true hf]
   cases rightM m <;> cases decide (m.f0 < nx) <;> cases (pre.any fun p => decide (p.f0 = m.f0)) <;> cases decide (cmpM p m < 0) <;> cases decide (0 < m.f1) <;> cases less p.f4 m.f3 <;> simp
  ·
   rw [decide_eq_false hf]
   cases rightM m <;> cases decide (m.f0 < nx) <;> cases (pre.any fun p => decide (p.f0 = m.f0)) <;> cases decide (cmpM p m < 0) <;> cases decide (0 < m.f1) <;> cases less p.f4 m.f3 <;> simp
section
variable {w : World} {m p : S37} {M3 M4 L3 L4 : Option Addr} {e3 e4 d3 d4 : Nat}
theorem right_callsR {r : Bool} (hr : rightM (toM m) = r) (h1 : m.f3.length ≤ e3 ∧ Kd.C (Kd.int .u8) w M3 m.f3.length m.f3 ∧ m.f4.length ≤ e4 ∧ Kd.C (Kd.int .u8) w M4 m.f4.length m.f4) :
  Calls Try.prog 61 #[.agg #[.int .i64 m.f0, .int .i64 m.f1, .int .i64 m.f2, .slice M3 m.f3.length e3, .slice M4 m.f4.length e4]] w fun ex w' => ex = .returned (.bool r) ∧ Below w.heap.size w w' := by
 rw [← hr]
 exact rright_callsH h1
theorem ahead_callsR {r : Bool} (hr : decide (cmpM (toM p) (toM m) < 0) = r) (hp : rightM (toM p) = true) (hm : rightM (toM m) = true) (hMp : MB (toM p)) (hMm : MB (toM m)) (h0 : p.f3.length ≤ d3 ∧ Kd.C (Kd.int .u8) w L3 p.f3.length p.f3 ∧ p.f4.length ≤ d4 ∧ Kd.C (Kd.int .u8) w L4 p.f4.length p.f4) (h1 : m.f3.length ≤ e3 ∧ Kd.C (Kd.int .u8) w M3 m.f3.length m.f3 ∧ m.f4.length ≤ e4 ∧ Kd.C (Kd.int .u8) w M4 m.f4.length m.f4) :
  Calls Try.prog 62 #[.agg #[.int .i64 p.f0, .int .i64 p.f1, .int .i64 p.f2, .slice L3 p.f3.length d3, .slice L4 p.f4.length d4], .agg #[.int .i64 m.f0, .int .i64 m.f1, .int .i64 m.f2, .slice M3 m.f3.length e3, .slice M4 m.f4.length e4]] w fun ex w' => ex = .returned (.bool r) ∧ Below w.heap.size w w' := by
 rw [← hr, ← ahead_eq p m hp hm hMp hMm]
 exact ahead_callsH (by have h := rightM_len hp; have h2 : (toM p).f3 = p.f3 := rfl; rw [h2] at h; omega) h0 h1
theorem less_callsR {r : Bool} (hr : less p.f4 m.f3 = r) (hl : p.f4.length ≤ 140737488355328) (h0 : p.f3.length ≤ d3 ∧ Kd.C (Kd.int .u8) w L3 p.f3.length p.f3 ∧ p.f4.length ≤ d4 ∧ Kd.C (Kd.int .u8) w L4 p.f4.length p.f4) (h1 : m.f3.length ≤ e3 ∧ Kd.C (Kd.int .u8) w M3 m.f3.length m.f3 ∧ m.f4.length ≤ e4 ∧ Kd.C (Kd.int .u8) w M4 m.f4.length m.f4) :
  Calls Try.prog 18 #[.slice L4 p.f4.length d4, .slice M3 m.f3.length e3] w fun ex w' => ex = .returned (.bool r) ∧ Below w.heap.size w w' := by
 obtain ⟨k, hk⟩ := (refLess_f p.f4 m.f3 hl).rounds
 rw [hr] at hk
 exact (sawyerref03_Less.calls k _ _ _ _ _ _ _ w h0.2.2.2 h0.2.2.1 h1.2.1 h1.1 hk).mono (fun ex w' hh => ⟨hh.1, hh.2.below⟩)
end

theorem any_map (l : List S37) (m : S37) : ((l.map toM).any fun p => decide (p.f0 = (toM m).f0)) = (l.any fun o => decide (o.f0 = m.f0)) := by rw [List.any_map]; rfl
set_option maxHeartbeats 40000000 in
set_option maxRecDepth 100000 in
theorem refcheck_calls {w : World} (a0 a1 a2 a3 : Int) {A : Option Addr} {c : Nat} {l : List S37} (hC : Kd.C k37 w A l.length l) (hlc : l.length ≤ c) (hM : ∀ m ∈ l.map toM, MB m) :
  Calls Try.prog 42 #[.agg #[.int .i64 a0, .int .i64 a1, .int .i64 a2, .int .i64 a3, .slice A l.length c]] w fun ex w' => ex = .returned (.int .i64 (errB (checkB a0 a1 a2 a3 (l.map toM)))) ∧ Below w.heap.size w w' := by
 have huV := Try.underlying24
 have huE := Try.underlying37
 have HC := Aside0.mk hC
 have HLC := Aside0.mk hlc
 have HM := Aside0.mk hM
 have HMAX := Aside0.mk (Kd.C_max hC)
 clear hC hlc hM
 cases h0 : inB a0 with
 | false =>
  as_aux_lemma =>
  have HR := Aside0.mk (show errB (checkB a0 a1 a2 a3 (l.map toM)) = 1 by unfold checkB; rw [h0]; simp [errB])
  have H0 := Aside0.mk h0
  clear h0
  go_enter Try.func42, Try.ntmps42
  go_wp2_with (first
   | ((with_reducible refine gate_dst (N := 1) rfl ?_); (try (refine gate_guard (by rfl) ?_; dsimp only)); refine box_event ?hg (N := 1) ?hd (cs := #[.int .i64 a0, .int .i64 a1, .int .i64 a2, .int .i64 a3, .slice A l.length c]) (t := 24) ?hr ?_; (case hd => rfl); (case hg => rfl); (case hr => first | (go_simp; done) | (go_simp; rfl)); intro g1 hqg1 w1 hxg1 hbg1; have n_ := Aside0.mk hqg1; clear hqg1; have hqg1 := n_; clear n_; have n_ := Aside0.mk hxg1; clear hxg1; have hxg1 := n_; clear n_; have n_ := Aside0.mk hbg1; clear hbg1; have hbg1 := n_; clear n_; have HX1 := Aside0.mk (hxg1.out); have HB1 := Aside0.mk (hbg1.out); have hca0 : w1.cell? ⟨g1, 0, none⟩ = some (.int .i64 a0) := (blk_cell HX1.out 0).trans rfl; have hca1 : w1.cell? ⟨g1, 1, none⟩ = some (.int .i64 a1) := (blk_cell HX1.out 1).trans rfl; have hca2 : w1.cell? ⟨g1, 2, none⟩ = some (.int .i64 a2) := (blk_cell HX1.out 2).trans rfl; have hca3 : w1.cell? ⟨g1, 3, none⟩ = some (.int .i64 a3) := (blk_cell HX1.out 3).trans rfl; have hca4 : w1.cell? ⟨g1, 4, none⟩ = some (.slice A l.length c) := (blk_cell HX1.out 4).trans rfl)
   | ((with_reducible refine gate_dst (N := 8) rfl ?_); (try (refine gate_guard (by rfl) ?_; dsimp only)); refine goesL_ (some 8) rfl rfl Try.func60 (by kernel_rfl) rfl #[.int .i64 a0] rfl (by (try simp only [List.map_toArray, List.map_cons, List.map_nil]); first | done | rfl) ?_; refine (sawyerref10_in.calls a0 false _ (by rw [in_r, H0.out])).mono ?_; rintro ex w2 ⟨rfl, hd⟩; refine ⟨_, rfl, ?_⟩; have HBI := Aside0.mk (hd.below); clear hd; have HX2 := Aside0.mk (blk_below HX1.out HBI.out); have HB2 := Aside0.mk (below_step HB1.out HBI.out); clear HBI; have hcb0 : w2.cell? ⟨g1, 0, none⟩ = some (.int .i64 a0) := (blk_cell HX2.out 0).trans rfl; have hcb1 : w2.cell? ⟨g1, 1, none⟩ = some (.int .i64 a1) := (blk_cell HX2.out 1).trans rfl; have hcb2 : w2.cell? ⟨g1, 2, none⟩ = some (.int .i64 a2) := (blk_cell HX2.out 2).trans rfl; have hcb3 : w2.cell? ⟨g1, 3, none⟩ = some (.int .i64 a3) := (blk_cell HX2.out 3).trans rfl; have hcb4 : w2.cell? ⟨g1, 4, none⟩ = some (.slice A l.length c) := (blk_cell HX2.out 4).trans rfl))
  go_ret
  exact ⟨by rw [HR.out] <;> rfl, HB2.out⟩
 | true =>
  cases h1 : inB a1 with
  | false =>
   as_aux_lemma =>
   have HR := Aside0.mk (show errB (checkB a0 a1 a2 a3 (l.map toM)) = 1 by unfold checkB; rw [h0, h1]; simp [errB])
   have H0 := Aside0.mk h0
   clear h0
   have H1 := Aside0.mk h1
   clear h1
   go_enter Try.func42, Try.ntmps42
   go_wp2_with (first
    | ((with_reducible refine gate_dst (N := 1) rfl ?_); (try (refine gate_guard (by rfl) ?_; dsimp only)); refine box_event ?hg (N := 1) ?hd (cs := #[.int .i64 a0, .int .i64 a1, .int .i64 a2, .int .i64 a3, .slice A l.length c]) (t := 24) ?hr ?_; (case hd => rfl); (case hg => rfl); (case hr => first | (go_simp; done) | (go_simp; rfl)); intro g1 hqg1 w1 hxg1 hbg1; have n_ := Aside0.mk hqg1; clear hqg1; have hqg1 := n_; clear n_; have n_ := Aside0.mk hxg1; clear hxg1; have hxg1 := n_; clear n_; have n_ := Aside0.mk hbg1; clear hbg1; have hbg1 := n_; clear n_; have HX1 := Aside0.mk (hxg1.out); have HB1 := Aside0.mk (hbg1.out); have hca0 : w1.cell? ⟨g1, 0, none⟩ = some (.int .i64 a0) := (blk_cell HX1.out 0).trans rfl; have hca1 : w1.cell? ⟨g1, 1, none⟩ = some (.int .i64 a1) := (blk_cell HX1.out 1).trans rfl; have hca2 : w1.cell? ⟨g1, 2, none⟩ = some (.int .i64 a2) := (blk_cell HX1.out 2).trans rfl; have hca3 : w1.cell? ⟨g1, 3, none⟩ = some (.int .i64 a3) := (blk_cell HX1.out 3).trans rfl; have hca4 : w1.cell? ⟨g1, 4, none⟩ = some (.slice A l.length c) := (blk_cell HX1.out 4).trans rfl)
    | ((with_reducible refine gate_dst (N := 8) rfl ?_); (try (refine gate_guard (by rfl) ?_; dsimp only)); refine goesL_ (some 8) rfl rfl Try.func60 (by kernel_rfl) rfl #[.int .i64 a0] rfl (by (try simp only [List.map_toArray, List.map_cons, List.map_nil]); first | done | rfl) ?_; refine (sawyerref10_in.calls a0 true _ (by rw [in_r, H0.out])).mono ?_; rintro ex w2 ⟨rfl, hd⟩; refine ⟨_, rfl, ?_⟩; have HBI := Aside0.mk (hd.below); clear hd; have HX2 := Aside0.mk (blk_below HX1.out HBI.out); have HB2 := Aside0.mk (below_step HB1.out HBI.out); clear HBI; have hcb0 : w2.cell? ⟨g1, 0, none⟩ = some (.int .i64 a0) := (blk_cell HX2.out 0).trans rfl; have hcb1 : w2.cell? ⟨g1, 1, none⟩ = some (.int .i64 a1) := (blk_cell HX2.out 1).trans rfl; have hcb2 : w2.cell? ⟨g1, 2, none⟩ = some (.int .i64 a2) := (blk_cell HX2.out 2).trans rfl; have hcb3 : w2.cell? ⟨g1, 3, none⟩ = some (.int .i64 a3) := (blk_cell HX2.out 3).trans rfl; have hcb4 : w2.cell? ⟨g1, 4, none⟩ = some (.slice A l.length c) := (blk_cell HX2.out 4).trans rfl)
    | ((with_reducible refine gate_dst (N := 13) rfl ?_); (try (refine gate_guard (by rfl) ?_; dsimp only)); refine goesL_ (some 13) rfl rfl Try.func60 (by kernel_rfl) rfl #[.int .i64 a1] rfl (by (try simp only [List.map_toArray, List.map_cons, List.map_nil]); first | done | rfl) ?_; refine (sawyerref10_in.calls a1 false _ (by rw [in_r, H1.out])).mono ?_; rintro ex w3 ⟨rfl, hd⟩; refine ⟨_, rfl, ?_⟩; have HBI := Aside0.mk (hd.below); clear hd; have HX3 := Aside0.mk (blk_below HX2.out HBI.out); have HB3 := Aside0.mk (below_step HB2.out HBI.out); clear HBI; have hcc0 : w3.cell? ⟨g1, 0, none⟩ = some (.int .i64 a0) := (blk_cell HX3.out 0).trans rfl; have hcc1 : w3.cell? ⟨g1, 1, none⟩ = some (.int .i64 a1) := (blk_cell HX3.out 1).trans rfl; have hcc2 : w3.cell? ⟨g1, 2, none⟩ = some (.int .i64 a2) := (blk_cell HX3.out 2).trans rfl; have hcc3 : w3.cell? ⟨g1, 3, none⟩ = some (.int .i64 a3) := (blk_cell HX3.out 3).trans rfl; have hcc4 : w3.cell? ⟨g1, 4, none⟩ = some (.slice A l.length c) := (blk_cell HX3.out 4).trans rfl))
   go_ret
   exact ⟨by rw [HR.out] <;> rfl, HB3.out⟩
  | true =>
   cases h2 : inB a2 with
   | false =>
    as_aux_lemma =>
    have HR := Aside0.mk (show errB (checkB a0 a1 a2 a3 (l.map toM)) = 1 by unfold checkB; rw [h0, h1, h2]; simp [errB])
    have H0 := Aside0.mk h0
    clear h0
    have H1 := Aside0.mk h1
    clear h1
    have H2 := Aside0.mk h2
    clear h2
    go_enter Try.func42, Try.ntmps42
    go_wp2_with (first
     | ((with_reducible refine gate_dst (N := 1) rfl ?_); (try (refine gate_guard (by rfl) ?_; dsimp only)); refine box_event ?hg (N := 1) ?hd (cs := #[.int .i64 a0, .int .i64 a1, .int .i64 a2, .int .i64 a3, .slice A l.length c]) (t := 24) ?hr ?_; (case hd => rfl); (case hg => rfl); (case hr => first | (go_simp; done) | (go_simp; rfl)); intro g1 hqg1 w1 hxg1 hbg1; have n_ := Aside0.mk hqg1; clear hqg1; have hqg1 := n_; clear n_; have n_ := Aside0.mk hxg1; clear hxg1; have hxg1 := n_; clear n_; have n_ := Aside0.mk hbg1; clear hbg1; have hbg1 := n_; clear n_; have HX1 := Aside0.mk (hxg1.out); have HB1 := Aside0.mk (hbg1.out); have hca0 : w1.cell? ⟨g1, 0, none⟩ = some (.int .i64 a0) := (blk_cell HX1.out 0).trans rfl; have hca1 : w1.cell? ⟨g1, 1, none⟩ = some (.int .i64 a1) := (blk_cell HX1.out 1).trans rfl; have hca2 : w1.cell? ⟨g1, 2, none⟩ = some (.int .i64 a2) := (blk_cell HX1.out 2).trans rfl; have hca3 : w1.cell? ⟨g1, 3, none⟩ = some (.int .i64 a3) := (blk_cell HX1.out 3).trans rfl; have hca4 : w1.cell? ⟨g1, 4, none⟩ = some (.slice A l.length c) := (blk_cell HX1.out 4).trans rfl)
     | ((with_reducible refine gate_dst (N := 8) rfl ?_); (try (refine gate_guard (by rfl) ?_; dsimp only)); refine goesL_ (some 8) rfl rfl Try.func60 (by kernel_rfl) rfl #[.int .i64 a0] rfl (by (try simp only [List.map_toArray, List.map_cons, List.map_nil]); first | done | rfl) ?_; refine (sawyerref10_in.calls a0 true _ (by rw [in_r, H0.out])).mono ?_; rintro ex w2 ⟨rfl, hd⟩; refine ⟨_, rfl, ?_⟩; have HBI := Aside0.mk (hd.below); clear hd; have HX2 := Aside0.mk (blk_below HX1.out HBI.out); have HB2 := Aside0.mk (below_step HB1.out HBI.out); clear HBI; have hcb0 : w2.cell? ⟨g1, 0, none⟩ = some (.int .i64 a0) := (blk_cell HX2.out 0).trans rfl; have hcb1 : w2.cell? ⟨g1, 1, none⟩ = some (.int .i64 a1) := (blk_cell HX2.out 1).trans rfl; have hcb2 : w2.cell? ⟨g1, 2, none⟩ = some (.int .i64 a2) := (blk_cell HX2.out 2).trans rfl; have hcb3 : w2.cell? ⟨g1, 3, none⟩ = some (.int .i64 a3) := (blk_cell HX2.out 3).trans rfl; have hcb4 : w2.cell? ⟨g1, 4, none⟩ = some (.slice A l.length c) := (blk_cell HX2.out 4).trans rfl)
     | ((with_reducible refine gate_dst (N := 13) rfl ?_); (try (refine gate_guard (by rfl) ?_; dsimp only)); refine goesL_ (some 13) rfl rfl Try.func60 (by kernel_rfl) rfl #[.int .i64 a1] rfl (by (try simp only [List.map_toArray, List.map_cons, List.map_nil]); first | done | rfl) ?_; refine (sawyerref10_in.calls a1 true _ (by rw [in_r, H1.out])).mono ?_; rintro ex w3 ⟨rfl, hd⟩; refine ⟨_, rfl, ?_⟩; have HBI := Aside0.mk (hd.below); clear hd; have HX3 := Aside0.mk (blk_below HX2.out HBI.out); have HB3 := Aside0.mk (below_step HB2.out HBI.out); clear HBI; have hcc0 : w3.cell? ⟨g1, 0, none⟩ = some (.int .i64 a0) := (blk_cell HX3.out 0).trans rfl; have hcc1 : w3.cell? ⟨g1, 1, none⟩ = some (.int .i64 a1) := (blk_cell HX3.out 1).trans rfl; have hcc2 : w3.cell? ⟨g1, 2, none⟩ = some (.int .i64 a2) := (blk_cell HX3.out 2).trans rfl; have hcc3 : w3.cell? ⟨g1, 3, none⟩ = some (.int .i64 a3) := (blk_cell HX3.out 3).trans rfl; have hcc4 : w3.cell? ⟨g1, 4, none⟩ = some (.slice A l.length c) := (blk_cell HX3.out 4).trans rfl)
     | ((with_reducible refine gate_dst (N := 19) rfl ?_); (try (refine gate_guard (by rfl) ?_; dsimp only)); refine goesL_ (some 19) rfl rfl Try.func60 (by kernel_rfl) rfl #[.int .i64 a2] rfl (by (try simp only [List.map_toArray, List.map_cons, List.map_nil]); first | done | rfl) ?_; refine (sawyerref10_in.calls a2 false _ (by rw [in_r, H2.out])).mono ?_; rintro ex w4 ⟨rfl, hd⟩; refine ⟨_, rfl, ?_⟩; have HBI := Aside0.mk (hd.below); clear hd; have HX4 := Aside0.mk (blk_below HX3.out HBI.out); have HB4 := Aside0.mk (below_step HB3.out HBI.out); clear HBI; have hcd0 : w4.cell? ⟨g1, 0, none⟩ = some (.int .i64 a0) := (blk_cell HX4.out 0).trans rfl; have hcd1 : w4.cell? ⟨g1, 1, none⟩ = some (.int .i64 a1) := (blk_cell HX4.out 1).trans rfl; have hcd2 : w4.cell? ⟨g1, 2, none⟩ = some (.int .i64 a2) := (blk_cell HX4.out 2).trans rfl; have hcd3 : w4.cell? ⟨g1, 3, none⟩ = some (.int .i64 a3) := (blk_cell HX4.out 3).trans rfl; have hcd4 : w4.cell? ⟨g1, 4, none⟩ = some (.slice A l.length c) := (blk_cell HX4.out 4).trans rfl))
    go_ret
    exact ⟨by rw [HR.out] <;> rfl, HB4.out⟩
   | true =>
    cases h3 : inB a3 with
    | false =>
     as_aux_lemma =>
     have HR := Aside0.mk (show errB (checkB a0 a1 a2 a3 (l.map toM)) = 1 by unfold checkB; rw [h0, h1, h2, h3]; simp [errB])
     have H0 := Aside0.mk h0
     clear h0
     have H1 := Aside0.mk h1
     clear h1
     have H2 := Aside0.mk h2
     clear h2
     have H3 := Aside0.mk h3
     clear h3
     go_enter Try.func42, Try.ntmps42
     go_wp2_with (first
      | ((with_reducible refine gate_dst (N := 1) rfl ?_); (try (refine gate_guard (by rfl) ?_; dsimp only)); refine box_event ?hg (N := 1) ?hd (cs := #[.int .i64 a0, .int .i64 a1, .int .i64 a2, .int .i64 a3, .slice A l.length c]) (t := 24) ?hr ?_; (case hd => rfl); (case hg => rfl); (case hr => first | (go_simp; done) | (go_simp; rfl)); intro g1 hqg1 w1 hxg1 hbg1; have n_ := Aside0.mk hqg1; clear hqg1; have hqg1 := n_; clear n_; have n_ := Aside0.mk hxg1; clear hxg1; have hxg1 := n_; clear n_; have n_ := Aside0.mk hbg1; clear hbg1; have hbg1 := n_; clear n_; have HX1 := Aside0.mk (hxg1.out); have HB1 := Aside0.mk (hbg1.out); have hca0 : w1.cell? ⟨g1, 0, none⟩ = some (.int .i64 a0) := (blk_cell HX1.out 0).trans rfl; have hca1 : w1.cell? ⟨g1, 1, none⟩ = some (.int .i64 a1) := (blk_cell HX1.out 1).trans rfl; have hca2 : w1.cell? ⟨g1, 2, none⟩ = some (.int .i64 a2) := (blk_cell HX1.out 2).trans rfl; have hca3 : w1.cell? ⟨g1, 3, none⟩ = some (.int .i64 a3) := (blk_cell HX1.out 3).trans rfl; have hca4 : w1.cell? ⟨g1, 4, none⟩ = some (.slice A l.length c) := (blk_cell HX1.out 4).trans rfl)
      | ((with_reducible refine gate_dst (N := 8) rfl ?_); (try (refine gate_guard (by rfl) ?_; dsimp only)); refine goesL_ (some 8) rfl rfl Try.func60 (by kernel_rfl) rfl #[.int .i64 a0] rfl (by (try simp only [List.map_toArray, List.map_cons, List.map_nil]); first | done | rfl) ?_; refine (sawyerref10_in.calls a0 true _ (by rw [in_r, H0.out])).mono ?_; rintro ex w2 ⟨rfl, hd⟩; refine ⟨_, rfl, ?_⟩; have HBI := Aside0.mk (hd.below); clear hd; have HX2 := Aside0.mk (blk_below HX1.out HBI.out); have HB2 := Aside0.mk (below_step HB1.out HBI.out); clear HBI; have hcb0 : w2.cell? ⟨g1, 0, none⟩ = some (.int .i64 a0) := (blk_cell HX2.out 0).trans rfl; have hcb1 : w2.cell? ⟨g1, 1, none⟩ = some (.int .i64 a1) := (blk_cell HX2.out 1).trans rfl; have hcb2 : w2.cell? ⟨g1, 2, none⟩ = some (.int .i64 a2) := (blk_cell HX2.out 2).trans rfl; have hcb3 : w2.cell? ⟨g1, 3, none⟩ = some (.int .i64 a3) := (blk_cell HX2.out 3).trans rfl; have hcb4 : w2.cell? ⟨g1, 4, none⟩ = some (.slice A l.length c) := (blk_cell HX2.out 4).trans rfl)
      | ((with_reducible refine gate_dst (N := 13) rfl ?_); (try (refine gate_guard (by rfl) ?_; dsimp only)); refine goesL_ (some 13) rfl rfl Try.func60 (by kernel_rfl) rfl #[.int .i64 a1] rfl (by (try simp only [List.map_toArray, List.map_cons, List.map_nil]); first | done | rfl) ?_; refine (sawyerref10_in.calls a1 true _ (by rw [in_r, H1.out])).mono ?_; rintro ex w3 ⟨rfl, hd⟩; refine ⟨_, rfl, ?_⟩; have HBI := Aside0.mk (hd.below); clear hd; have HX3 := Aside0.mk (blk_below HX2.out HBI.out); have HB3 := Aside0.mk (below_step HB2.out HBI.out); clear HBI; have hcc0 : w3.cell? ⟨g1, 0, none⟩ = some (.int .i64 a0) := (blk_cell HX3.out 0).trans rfl; have hcc1 : w3.cell? ⟨g1, 1, none⟩ = some (.int .i64 a1) := (blk_cell HX3.out 1).trans rfl; have hcc2 : w3.cell? ⟨g1, 2, none⟩ = some (.int .i64 a2) := (blk_cell HX3.out 2).trans rfl; have hcc3 : w3.cell? ⟨g1, 3, none⟩ = some (.int .i64 a3) := (blk_cell HX3.out 3).trans rfl; have hcc4 : w3.cell? ⟨g1, 4, none⟩ = some (.slice A l.length c) := (blk_cell HX3.out 4).trans rfl)
      | ((with_reducible refine gate_dst (N := 19) rfl ?_); (try (refine gate_guard (by rfl) ?_; dsimp only)); refine goesL_ (some 19) rfl rfl Try.func60 (by kernel_rfl) rfl #[.int .i64 a2] rfl (by (try simp only [List.map_toArray, List.map_cons, List.map_nil]); first | done | rfl) ?_; refine (sawyerref10_in.calls a2 true _ (by rw [in_r, H2.out])).mono ?_; rintro ex w4 ⟨rfl, hd⟩; refine ⟨_, rfl, ?_⟩; have HBI := Aside0.mk (hd.below); clear hd; have HX4 := Aside0.mk (blk_below HX3.out HBI.out); have HB4 := Aside0.mk (below_step HB3.out HBI.out); clear HBI; have hcd0 : w4.cell? ⟨g1, 0, none⟩ = some (.int .i64 a0) := (blk_cell HX4.out 0).trans rfl; have hcd1 : w4.cell? ⟨g1, 1, none⟩ = some (.int .i64 a1) := (blk_cell HX4.out 1).trans rfl; have hcd2 : w4.cell? ⟨g1, 2, none⟩ = some (.int .i64 a2) := (blk_cell HX4.out 2).trans rfl; have hcd3 : w4.cell? ⟨g1, 3, none⟩ = some (.int .i64 a3) := (blk_cell HX4.out 3).trans rfl; have hcd4 : w4.cell? ⟨g1, 4, none⟩ = some (.slice A l.length c) := (blk_cell HX4.out 4).trans rfl)
      | ((with_reducible refine gate_dst (N := 25) rfl ?_); (try (refine gate_guard (by rfl) ?_; dsimp only)); refine goesL_ (some 25) rfl rfl Try.func60 (by kernel_rfl) rfl #[.int .i64 a3] rfl (by (try simp only [List.map_toArray, List.map_cons, List.map_nil]); first | done | rfl) ?_; refine (sawyerref10_in.calls a3 false _ (by rw [in_r, H3.out])).mono ?_; rintro ex w5 ⟨rfl, hd⟩; refine ⟨_, rfl, ?_⟩; have HBI := Aside0.mk (hd.below); clear hd; have HX5 := Aside0.mk (blk_below HX4.out HBI.out); have HB5 := Aside0.mk (below_step HB4.out HBI.out); clear HBI; have hce0 : w5.cell? ⟨g1, 0, none⟩ = some (.int .i64 a0) := (blk_cell HX5.out 0).trans rfl; have hce1 : w5.cell? ⟨g1, 1, none⟩ = some (.int .i64 a1) := (blk_cell HX5.out 1).trans rfl; have hce2 : w5.cell? ⟨g1, 2, none⟩ = some (.int .i64 a2) := (blk_cell HX5.out 2).trans rfl; have hce3 : w5.cell? ⟨g1, 3, none⟩ = some (.int .i64 a3) := (blk_cell HX5.out 3).trans rfl; have hce4 : w5.cell? ⟨g1, 4, none⟩ = some (.slice A l.length c) := (blk_cell HX5.out 4).trans rfl))
     go_ret
     exact ⟨by rw [HR.out] <;> rfl, HB5.out⟩
    | true =>
     by_cases hlen : l.length ≤ 4096
     ·
      as_aux_lemma =>
      have HCB := Aside0.mk (show checkB a0 a1 a2 a3 (l.map toM) = tabsB a1 [] (l.map toM) by unfold checkB; rw [h0, h1, h2, h3, List.length_map, decide_eq_true hlen]; simp)
      have H0 := Aside0.mk h0
      clear h0
      have H1 := Aside0.mk h1
      clear h1
      have H2 := Aside0.mk h2
      clear h2
      have H3 := Aside0.mk h3
      clear h3
      have hgt : ((4096 : Int) < (l.length : Int)) = False := eq_false (by omega)
      have HLEN := Aside0.mk hlen
      clear hlen
      go_enter Try.func42, Try.ntmps42
      go_wp2_with (first
       | ((with_reducible refine gate_dst (N := 1) rfl ?_); (try (refine gate_guard (by rfl) ?_; dsimp only)); refine box_event ?hg (N := 1) ?hd (cs := #[.int .i64 a0, .int .i64 a1, .int .i64 a2, .int .i64 a3, .slice A l.length c]) (t := 24) ?hr ?_; (case hd => rfl); (case hg => rfl); (case hr => first | (go_simp; done) | (go_simp; rfl)); intro g1 hqg1 w1 hxg1 hbg1; have n_ := Aside0.mk hqg1; clear hqg1; have hqg1 := n_; clear n_; have n_ := Aside0.mk hxg1; clear hxg1; have hxg1 := n_; clear n_; have n_ := Aside0.mk hbg1; clear hbg1; have hbg1 := n_; clear n_; have HX1 := Aside0.mk (hxg1.out); have HB1 := Aside0.mk (hbg1.out); have hca0 : w1.cell? ⟨g1, 0, none⟩ = some (.int .i64 a0) := (blk_cell HX1.out 0).trans rfl; have hca1 : w1.cell? ⟨g1, 1, none⟩ = some (.int .i64 a1) := (blk_cell HX1.out 1).trans rfl; have hca2 : w1.cell? ⟨g1, 2, none⟩ = some (.int .i64 a2) := (blk_cell HX1.out 2).trans rfl; have hca3 : w1.cell? ⟨g1, 3, none⟩ = some (.int .i64 a3) := (blk_cell HX1.out 3).trans rfl; have hca4 : w1.cell? ⟨g1, 4, none⟩ = some (.slice A l.length c) := (blk_cell HX1.out 4).trans rfl)
       | ((with_reducible refine gate_dst (N := 8) rfl ?_); (try (refine gate_guard (by rfl) ?_; dsimp only)); refine goesL_ (some 8) rfl rfl Try.func60 (by kernel_rfl) rfl #[.int .i64 a0] rfl (by (try simp only [List.map_toArray, List.map_cons, List.map_nil]); first | done | rfl) ?_; refine (sawyerref10_in.calls a0 true _ (by rw [in_r, H0.out])).mono ?_; rintro ex w2 ⟨rfl, hd⟩; refine ⟨_, rfl, ?_⟩; have HBI := Aside0.mk (hd.below); clear hd; have HX2 := Aside0.mk (blk_below HX1.out HBI.out); have HB2 := Aside0.mk (below_step HB1.out HBI.out); clear HBI; have hcb0 : w2.cell? ⟨g1, 0, none⟩ = some (.int .i64 a0) := (blk_cell HX2.out 0).trans rfl; have hcb1 : w2.cell? ⟨g1, 1, none⟩ = some (.int .i64 a1) := (blk_cell HX2.out 1).trans rfl; have hcb2 : w2.cell? ⟨g1, 2, none⟩ = some (.int .i64 a2) := (blk_cell HX2.out 2).trans rfl; have hcb3 : w2.cell? ⟨g1, 3, none⟩ = some (.int .i64 a3) := (blk_cell HX2.out 3).trans rfl; have hcb4 : w2.cell? ⟨g1, 4, none⟩ = some (.slice A l.length c) := (blk_cell HX2.out 4).trans rfl)
       | ((with_reducible refine gate_dst (N := 13) rfl ?_); (try (refine gate_guard (by rfl) ?_; dsimp only)); refine goesL_ (some 13) rfl rfl Try.func60 (by kernel_rfl) rfl #[.int .i64 a1] rfl (by (try simp only [List.map_toArray, List.map_cons, List.map_nil]); first | done | rfl) ?_; refine (sawyerref10_in.calls a1 true _ (by rw [in_r, H1.out])).mono ?_; rintro ex w3 ⟨rfl, hd⟩; refine ⟨_, rfl, ?_⟩; have HBI := Aside0.mk (hd.below); clear hd; have HX3 := Aside0.mk (blk_below HX2.out HBI.out); have HB3 := Aside0.mk (below_step HB2.out HBI.out); clear HBI; have hcc0 : w3.cell? ⟨g1, 0, none⟩ = some (.int .i64 a0) := (blk_cell HX3.out 0).trans rfl; have hcc1 : w3.cell? ⟨g1, 1, none⟩ = some (.int .i64 a1) := (blk_cell HX3.out 1).trans rfl; have hcc2 : w3.cell? ⟨g1, 2, none⟩ = some (.int .i64 a2) := (blk_cell HX3.out 2).trans rfl; have hcc3 : w3.cell? ⟨g1, 3, none⟩ = some (.int .i64 a3) := (blk_cell HX3.out 3).trans rfl; have hcc4 : w3.cell? ⟨g1, 4, none⟩ = some (.slice A l.length c) := (blk_cell HX3.out 4).trans rfl)
       | ((with_reducible refine gate_dst (N := 19) rfl ?_); (try (refine gate_guard (by rfl) ?_; dsimp only)); refine goesL_ (some 19) rfl rfl Try.func60 (by kernel_rfl) rfl #[.int .i64 a2] rfl (by (try simp only [List.map_toArray, List.map_cons, List.map_nil]); first | done | rfl) ?_; refine (sawyerref10_in.calls a2 true _ (by rw [in_r, H2.out])).mono ?_; rintro ex w4 ⟨rfl, hd⟩; refine ⟨_, rfl, ?_⟩; have HBI := Aside0.mk (hd.below); clear hd; have HX4 := Aside0.mk (blk_below HX3.out HBI.out); have HB4 := Aside0.mk (below_step HB3.out HBI.out); clear HBI; have hcd0 : w4.cell? ⟨g1, 0, none⟩ = some (.int .i64 a0) := (blk_cell HX4.out 0).trans rfl; have hcd1 : w4.cell? ⟨g1, 1, none⟩ = some (.int .i64 a1) := (blk_cell HX4.out 1).trans rfl; have hcd2 : w4.cell? ⟨g1, 2, none⟩ = some (.int .i64 a2) := (blk_cell HX4.out 2).trans rfl; have hcd3 : w4.cell? ⟨g1, 3, none⟩ = some (.int .i64 a3) := (blk_cell HX4.out 3).trans rfl; have hcd4 : w4.cell? ⟨g1, 4, none⟩ = some (.slice A l.length c) := (blk_cell HX4.out 4).trans rfl)
       | ((with_reducible refine gate_dst (N := 25) rfl ?_); (try (refine gate_guard (by rfl) ?_; dsimp only)); refine goesL_ (some 25) rfl rfl Try.func60 (by kernel_rfl) rfl #[.int .i64 a3] rfl (by (try simp only [List.map_toArray, List.map_cons, List.map_nil]); first | done | rfl) ?_; refine (sawyerref10_in.calls a3 true _ (by rw [in_r, H3.out])).mono ?_; rintro ex w5 ⟨rfl, hd⟩; refine ⟨_, rfl, ?_⟩; have HBI := Aside0.mk (hd.below); clear hd; have HX5 := Aside0.mk (blk_below HX4.out HBI.out); have HB5 := Aside0.mk (below_step HB4.out HBI.out); clear HBI; have hce0 : w5.cell? ⟨g1, 0, none⟩ = some (.int .i64 a0) := (blk_cell HX5.out 0).trans rfl; have hce1 : w5.cell? ⟨g1, 1, none⟩ = some (.int .i64 a1) := (blk_cell HX5.out 1).trans rfl; have hce2 : w5.cell? ⟨g1, 2, none⟩ = some (.int .i64 a2) := (blk_cell HX5.out 2).trans rfl; have hce3 : w5.cell? ⟨g1, 3, none⟩ = some (.int .i64 a3) := (blk_cell HX5.out 3).trans rfl; have hce4 : w5.cell? ⟨g1, 4, none⟩ = some (.slice A l.length c) := (blk_cell HX5.out 4).trans rfl))
      clear hgt hca0 hca1 hca2 hca3 hca4 hcb0 hcb1 hcb2 hcb3 hcb4 hcc0 hcc1 hcc2 hcc3 hcc4 hcd0 hcd1 hcd2 hcd3 hcd4 hce0 hce1 hce2 hce3 hce4
      go_loopg [3] l.length (fun kq v3 w' => ∃ pre post : List S37, v3 = .int .i64 (pre.length : Int) ∧ Aside0 (kq = post.length) ∧ Aside0 (l = pre ++ post ∧ tabsB a1 [] (l.map toM) = tabsB a1 (pre.map toM) (post.map toM)) ∧ Aside0 (w'.heap[g1]? = some (.cells #[.int .i64 a0, .int .i64 a1, .int .i64 a2, .int .i64 a3, .slice A l.length c] 24 (0, 0))) ∧ Aside0 (Below w.heap.size w w') ∧ Aside0 (∀ p ∈ pre, rightM (toM p) = true))
      case atStart => exact ⟨[], l, rfl, ⟨rfl⟩, ⟨rfl, rfl⟩, HX5, HB5, ⟨fun p hp => by cases hp⟩⟩
      case round =>
       clear HX1 HX2 HX3 HX4 HX5 HB1 HB2 HB3 HB4 HB5 hqg1 hxg1 hbg1
       obtain ⟨pre, post, rfl, HK, HP, HX, HB, HRP⟩ := hrel
       cases gk with
       | zero =>
        as_aux_lemma =>
        have HPE := Aside0.mk (show l = pre ∧ tabsB a1 [] (l.map toM) = true by
         have h1 := List.length_eq_zero_iff.1 HK.out.symm
         have h2 := HP.out
         rw [h1] at h2
         exact ⟨by rw [h2.1, List.append_nil], by rw [h2.2]; rfl⟩)
        have HR := Aside0.mk (show errB (checkB a0 a1 a2 a3 (l.map toM)) = 0 by rw [HCB.out, HPE.out.2]; rfl)
        have hlt : (pre.length < l.length) = False := eq_false (by rw [HPE.out.1]; omega)
        have hcl4 : wr.cell? ⟨g1, 4, none⟩ = some (.slice A l.length c) := (blk_cell HX.out 4).trans rfl
        go_wp2
        go_ret
        exact ⟨by rw [HR.out] <;> rfl, HB.out⟩
       | succ k1 =>
        as_aux_lemma =>
        obtain ⟨m, post', rfl⟩ : ∃ m p, post = m :: p := by
         cases post with
         | nil => exact absurd HK.out (by simp)
         | cons m p => exact ⟨m, p, rfl⟩
        have hlt : (pre.length < l.length) = True := eq_true (by rw [HP.out.1]; simp)
        have HPL := Aside0.mk (show pre.length < 4096 ∧ pre.length < l.length by have h1 := HLEN.out; have h2 := congrArg List.length HP.out.1; simp only [List.length_append, List.length_cons] at h2; omega)
        have HMB := Aside0.mk (HM.out (toM m) (by rw [HP.out.1]; simp))
        have HWK := Aside0.mk (wadd1 (x := pre.length) (z := pre.length + 1) rfl (by have h1 := HPL.out; omega))
        have HNX := Aside0.mk (show tabsB a1 [] (l.map toM) = (!(bad7 a1 (pre.map toM) (toM m)) && !(bad9 (pre.map toM) (toM m)) && !((pre.map toM).any fun p => decide (p.f0 = (toM m).f0)) && tabsB a1 (pre.map toM ++ [toM m]) (post'.map toM)) from HP.out.2.trans bad_step)
        have HPX := Aside0.mk (show l = pre ++ [m] ++ post' by rw [HP.out.1]; simp)
        obtain ⟨ad, M3, e3, M4, e4, hA, hd0, hd1, hd2, hd3, hd4, hE_⟩ := at_CR HC.out pre.length m (by rw [HP.out.1]; exact get_app _ _ _)
        subst hA
        have HEC := Aside0.mk hE_
        clear hE_
        have hm0 := pw_cell_below HB.out hd0
        have hm1 := pw_cell_below HB.out hd1
        have hm2 := pw_cell_below HB.out hd2
        have hm3 := pw_cell_below HB.out hd3
        have hm4 := pw_cell_below HB.out hd4
        clear hd0 hd1 hd2 hd3 hd4
        have hcl4 : wr.cell? ⟨g1, 4, none⟩ = some (.slice (some ad) l.length c) := (blk_cell HX.out 4).trans rfl
        go_upto_region 7 with (first
         | ((with_reducible refine gate_dst (N := 4) rfl ?_); (try (refine gate_guard (by rfl) ?_; dsimp only)); refine box_event ?hg (N := 4) ?hd (cs := #[.int .i64 0, .int .i64 0, .int .i64 0, .slice none 0 0, .slice none 0 0]) (t := 37) ?hr ?_; (case hd => rfl); (case hg => rfl); (case hr => first | (go_simp; done) | (go_simp; rfl)); intro g4 hqg4 w3 hxg4 hbg4; have n_ := Aside0.mk hqg4; clear hqg4; have hqg4 := n_; clear n_; have n_ := Aside0.mk hxg4; clear hxg4; have hxg4 := n_; clear n_; have n_ := Aside0.mk hbg4; clear hbg4; have hbg4 := n_; clear n_; have hcz0 : w3.cell? ⟨g4, 0, none⟩ = some (.int .i64 0) := (blk_cell hxg4.out 0).trans rfl; have hcz1 : w3.cell? ⟨g4, 1, none⟩ = some (.int .i64 0) := (blk_cell hxg4.out 1).trans rfl; have hcz2 : w3.cell? ⟨g4, 2, none⟩ = some (.int .i64 0) := (blk_cell hxg4.out 2).trans rfl; have hcz3 : w3.cell? ⟨g4, 3, none⟩ = some (.slice none 0 0) := (blk_cell hxg4.out 3).trans rfl; have hcz4 : w3.cell? ⟨g4, 4, none⟩ = some (.slice none 0 0) := (blk_cell hxg4.out 4).trans rfl; have hfz0 : w3.frozen? ⟨g4, 0, none⟩ = false := blk_frozen hxg4.out 0; have hfz1 : w3.frozen? ⟨g4, 1, none⟩ = false := blk_frozen hxg4.out 1; have hfz2 : w3.frozen? ⟨g4, 2, none⟩ = false := blk_frozen hxg4.out 2; have hfz3 : w3.frozen? ⟨g4, 3, none⟩ = false := blk_frozen hxg4.out 3; have hfz4 : w3.frozen? ⟨g4, 4, none⟩ = false := blk_frozen hxg4.out 4))
        have X4 := Aside0.mk (setsE (v0 := .int .i64 m.f0) (v1 := .int .i64 m.f1) (v2 := .int .i64 m.f2) (v3 := .slice M3 m.f3.length e3) (v4 := .slice M4 m.f4.length e4) hxg4.out)
        have X1 := Aside0.mk (blk_keep (blk_below HX.out hbg4.out) (keep5 w3 g4 (.int .i64 m.f0) (.int .i64 m.f1) (.int .i64 m.f2) (.slice M3 m.f3.length e3) (.slice M4 m.f4.length e4)) (fun he => by have h1 := blk_lt HX.out; have h2 := hqg4.out; omega))
        have BW := Aside0.mk (show Below w.heap.size w (((((w3.setCell ⟨g4, 0, none⟩ (.int .i64 m.f0)).setCell ⟨g4, 1, none⟩ (.int .i64 m.f1)).setCell ⟨g4, 2, none⟩ (.int .i64 m.f2)).setCell ⟨g4, 3, none⟩ (.slice M3 m.f3.length e3)).setCell ⟨g4, 4, none⟩ (.slice M4 m.f4.length e4)) from below5 _ _ _ _ _ (below_step HB.out hbg4.out) (by have h1 := hqg4.out; have h2 := HB.out.size; omega))
        clear hlt hm0 hm1 hm2 hm3 hm4 hcl4 hcz0 hfz0 hcz1 hfz1 hcz2 hfz2 hcz3 hfz3 hcz4 hfz4 hqg4 hxg4 hbg4 HX HB
        generalize (((((w3.setCell ⟨g4, 0, none⟩ (.int .i64 m.f0)).setCell ⟨g4, 1, none⟩ (.int .i64 m.f1)).setCell ⟨g4, 2, none⟩ (.int .i64 m.f2)).setCell ⟨g4, 3, none⟩ (.slice M3 m.f3.length e3)).setCell ⟨g4, 4, none⟩ (.slice M4 m.f4.length e4)) = w4 at X4 X1 BW ⊢
        as_aux_lemma =>
        go_cut [70] from 46 to 70 (fun v70 wx => ∃ b, v70 = .bool b ∧ Aside0 (b = bad7 a1 (pre.map toM) (toM m)) ∧ Aside0 (Below w4.heap.size w4 wx))
        case first =>
         cases hr : rightM (toM m) with
         | false =>
          have HRM := Aside0.mk hr
          clear hr
          as_aux_lemma =>
          refine s_ 25 [] (fun w' => w'.cell? ⟨g1, 1, none⟩ = some (.int .i64 a1) ∧ w'.cell? ⟨g1, 4, none⟩ = some (.slice (some ad) l.length c) ∧ w'.cell? ⟨g4, 0, none⟩ = some (.int .i64 m.f0) ∧ w'.cell? ⟨g4, 1, none⟩ = some (.int .i64 m.f1) ∧ w'.cell? ⟨g4, 2, none⟩ = some (.int .i64 m.f2) ∧ w'.cell? ⟨g4, 3, none⟩ = some (.slice M3 m.f3.length e3) ∧ w'.cell? ⟨g4, 4, none⟩ = some (.slice M4 m.f4.length e4)) (hS := ⟨(blk_cell (blk_drew X1.out) 1).trans rfl, (blk_cell (blk_drew X1.out) 4).trans rfl, (blk_cell (blk_drew X4.out) 0).trans rfl, (blk_cell (blk_drew X4.out) 1).trans rfl, (blk_cell (blk_drew X4.out) 2).trans rfl, (blk_cell (blk_drew X4.out) 3).trans rfl, (blk_cell (blk_drew X4.out) 4).trans rfl⟩) (h := fun hHeld => ?_)
          have X1d := Aside0.mk (blk_drew X1.out)
          have X4d := Aside0.mk (blk_drew X4.out)
          have Bd := Aside0.mk (below_drew BW.out)
          have Cd := Aside0.mk (below_drew (Below.refl w4.heap.size w4))
          generalize w4.drew = wd at X1d X4d Bd Cd hHeld ⊢
          refine t_ 0 46 (bb 25 1) hHeld (h := ?_)
          refine n_ 1 47 (bb 25 3) (h := fun K hK => ?_)
          refine goes_ Try.func61 (by kernel_rfl) rfl #[.agg #[.int .i64 m.f0, .int .i64 m.f1, .int .i64 m.f2, .slice M3 m.f3.length e3, .slice M4 m.f4.length e4]] (by rfl) rfl rfl (by (try simp only [List.map_toArray, List.map_cons, List.map_nil]); first | done | rfl) ?_
          refine (right_callsR (m := m) HRM.out ⟨HEC.out.1, Kd.C_below HEC.out.2.1 Bd.out, HEC.out.2.2.1, Kd.C_below HEC.out.2.2.2 Bd.out⟩).mono ?_
          rintro ex w5 ⟨rfl, hb5⟩
          refine ⟨_, rfl, ?_⟩
          have B5 := Aside0.mk (below_step Bd.out hb5)
          have X15 := Aside0.mk (blk_below X1d.out hb5)
          have X45 := Aside0.mk (blk_below X4d.out hb5)
          have C5 := Aside0.mk (below_step Cd.out hb5)
          clear hb5
          refine hK.out _ _ ⟨(blk_cell X15.out 1).trans rfl, (blk_cell X15.out 4).trans rfl, (blk_cell X45.out 0).trans rfl, (blk_cell X45.out 1).trans rfl, (blk_cell X45.out 2).trans rfl, (blk_cell X45.out 3).trans rfl, (blk_cell X45.out 4).trans rfl⟩ (fun hHeld => ?_)
          clear hK K
          refine m_ 47 (h := ?_)
          refine p_ 2 48 (bb 25 7) (h := ?_)
          refine p_ 3 49 (bb 25 15) (h := ?_)
          refine o_ 4 50 (bb 25 31) (h := ?_)
          refine o_ 5 51 (bb 25 63) (h := ?_)
          refine o_ 6 52 (bb 25 127) (h := ?_)
          refine o_ 7 53 (bb 25 255) (h := ?_)
          refine o_ 8 54 (bb 25 511) (h := ?_)
          refine p_ 9 55 (bb 25 1023) (h := ?_)
          refine p_ 10 56 (bb 25 2047) (h := ?_)
          refine o_ 11 57 (bb 25 4095) (h := ?_)
          refine o_ 12 58 (bb 25 8191) (h := ?_)
          refine o_ 13 59 (bb 25 16383) (h := ?_)
          refine o_ 14 60 (bb 25 32767) (h := ?_)
          refine o_ 15 61 (bb 25 65535) (h := ?_)
          refine o_ 16 62 (bb 25 131071) (h := ?_)
          refine o_ 17 63 (bb 25 262143) (h := ?_)
          refine o_ 18 64 (bb 25 524287) (h := ?_)
          refine o_ 19 65 (bb 25 1048575) (h := ?_)
          refine o_ 20 66 (bb 25 2097151) (h := ?_)
          refine o_ 21 67 (bb 25 4194303) (h := ?_)
          refine o_ 22 68 (bb 25 8388607) (h := ?_)
          refine o_ 23 69 (bb 25 16777215) (h := ?_)
          refine p_ 24 70 (bb 25 33554431) (h := ?_)
          refine d_ (h := ?_)
          go_wp2
          go_meet
          exact ⟨true, rfl, ⟨by unfold bad7; rw [HRM.out]; rfl⟩, C5⟩
         | true =>
          have HRM := Aside0.mk hr
          clear hr
          by_cases hx : a1 ≤ m.f0
          ·
           have hge : (a1 ≤ m.f0) = True := eq_true hx
           have HGE := Aside0.mk hx
           clear hx
           as_aux_lemma =>
           refine s_ 25 [] (fun w' => w'.cell? ⟨g1, 1, none⟩ = some (.int .i64 a1) ∧ w'.cell? ⟨g1, 4, none⟩ = some (.slice (some ad) l.length c) ∧ w'.cell? ⟨g4, 0, none⟩ = some (.int .i64 m.f0) ∧ w'.cell? ⟨g4, 1, none⟩ = some (.int .i64 m.f1) ∧ w'.cell? ⟨g4, 2, none⟩ = some (.int .i64 m.f2) ∧ w'.cell? ⟨g4, 3, none⟩ = some (.slice M3 m.f3.length e3) ∧ w'.cell? ⟨g4, 4, none⟩ = some (.slice M4 m.f4.length e4)) (hS := ⟨(blk_cell (blk_drew X1.out) 1).trans rfl, (blk_cell (blk_drew X1.out) 4).trans rfl, (blk_cell (blk_drew X4.out) 0).trans rfl, (blk_cell (blk_drew X4.out) 1).trans rfl, (blk_cell (blk_drew X4.out) 2).trans rfl, (blk_cell (blk_drew X4.out) 3).trans rfl, (blk_cell (blk_drew X4.out) 4).trans rfl⟩) (h := fun hHeld => ?_)
           have X1d := Aside0.mk (blk_drew X1.out)
           have X4d := Aside0.mk (blk_drew X4.out)
           have Bd := Aside0.mk (below_drew BW.out)
           have Cd := Aside0.mk (below_drew (Below.refl w4.heap.size w4))
           generalize w4.drew = wd at X1d X4d Bd Cd hHeld ⊢
           refine t_ 0 46 (bb 25 1) hHeld (h := ?_)
           refine n_ 1 47 (bb 25 3) (h := fun K hK => ?_)
           refine goes_ Try.func61 (by kernel_rfl) rfl #[.agg #[.int .i64 m.f0, .int .i64 m.f1, .int .i64 m.f2, .slice M3 m.f3.length e3, .slice M4 m.f4.length e4]] (by rfl) rfl rfl (by (try simp only [List.map_toArray, List.map_cons, List.map_nil]); first | done | rfl) ?_
           refine (right_callsR (m := m) HRM.out ⟨HEC.out.1, Kd.C_below HEC.out.2.1 Bd.out, HEC.out.2.2.1, Kd.C_below HEC.out.2.2.2 Bd.out⟩).mono ?_
           rintro ex w5 ⟨rfl, hb5⟩
           refine ⟨_, rfl, ?_⟩
           have B5 := Aside0.mk (below_step Bd.out hb5)
           have X15 := Aside0.mk (blk_below X1d.out hb5)
           have X45 := Aside0.mk (blk_below X4d.out hb5)
           have C5 := Aside0.mk (below_step Cd.out hb5)
           clear hb5
           refine hK.out _ _ ⟨(blk_cell X15.out 1).trans rfl, (blk_cell X15.out 4).trans rfl, (blk_cell X45.out 0).trans rfl, (blk_cell X45.out 1).trans rfl, (blk_cell X45.out 2).trans rfl, (blk_cell X45.out 3).trans rfl, (blk_cell X45.out 4).trans rfl⟩ (fun hHeld => ?_)
           clear hK K
           refine m_ 47 (h := ?_)
           refine p_ 2 48 (bb 25 7) (h := ?_)
           refine p_ 3 49 (bb 25 15) (h := ?_)
           refine p_ 4 50 (bb 25 31) (h := ?_)
           refine t_ 5 51 (bb 25 63) hHeld (h := ?_)
           refine p_ 6 52 (bb 25 127) (h := ?_)
           refine t_ 7 53 (bb 25 255) hHeld (h := ?_)
           refine p_ 8 54 (bb 25 511) (h := ?_)
           refine p_ 9 55 (bb 25 1023) (h := ?_)
           refine p_ 10 56 (bb 25 2047) (h := ?_)
           refine o_ 11 57 (bb 25 4095) (h := ?_)
           refine o_ 12 58 (bb 25 8191) (h := ?_)
           refine o_ 13 59 (bb 25 16383) (h := ?_)
           refine o_ 14 60 (bb 25 32767) (h := ?_)
           refine o_ 15 61 (bb 25 65535) (h := ?_)
           refine o_ 16 62 (bb 25 131071) (h := ?_)
           refine o_ 17 63 (bb 25 262143) (h := ?_)
           refine o_ 18 64 (bb 25 524287) (h := ?_)
           refine o_ 19 65 (bb 25 1048575) (h := ?_)
           refine o_ 20 66 (bb 25 2097151) (h := ?_)
           refine o_ 21 67 (bb 25 4194303) (h := ?_)
           refine o_ 22 68 (bb 25 8388607) (h := ?_)
           refine o_ 23 69 (bb 25 16777215) (h := ?_)
           refine p_ 24 70 (bb 25 33554431) (h := ?_)
           refine d_ (h := ?_)
           go_wp2
           go_meet
           exact ⟨true, rfl, ⟨by unfold bad7; rw [HRM.out, decide_eq_true (show a1 ≤ (toM m).f0 from HGE.out)]; rfl⟩, C5⟩
          ·
           have hge : (a1 ≤ m.f0) = False := eq_false hx
           have HGE := Aside0.mk hx
           clear hx
           rcases ends pre with hpe | ⟨pre', p, hpe⟩
           ·
            have HPE := Aside0.mk hpe
            have hz0 : (0 < pre.length) = False := eq_false (by rw [hpe]; simp)
            clear hpe
            as_aux_lemma =>
            refine s_ 25 [] (fun w' => w'.cell? ⟨g1, 1, none⟩ = some (.int .i64 a1) ∧ w'.cell? ⟨g1, 4, none⟩ = some (.slice (some ad) l.length c) ∧ w'.cell? ⟨g4, 0, none⟩ = some (.int .i64 m.f0) ∧ w'.cell? ⟨g4, 1, none⟩ = some (.int .i64 m.f1) ∧ w'.cell? ⟨g4, 2, none⟩ = some (.int .i64 m.f2) ∧ w'.cell? ⟨g4, 3, none⟩ = some (.slice M3 m.f3.length e3) ∧ w'.cell? ⟨g4, 4, none⟩ = some (.slice M4 m.f4.length e4)) (hS := ⟨(blk_cell (blk_drew X1.out) 1).trans rfl, (blk_cell (blk_drew X1.out) 4).trans rfl, (blk_cell (blk_drew X4.out) 0).trans rfl, (blk_cell (blk_drew X4.out) 1).trans rfl, (blk_cell (blk_drew X4.out) 2).trans rfl, (blk_cell (blk_drew X4.out) 3).trans rfl, (blk_cell (blk_drew X4.out) 4).trans rfl⟩) (h := fun hHeld => ?_)
            have X1d := Aside0.mk (blk_drew X1.out)
            have X4d := Aside0.mk (blk_drew X4.out)
            have Bd := Aside0.mk (below_drew BW.out)
            have Cd := Aside0.mk (below_drew (Below.refl w4.heap.size w4))
            generalize w4.drew = wd at X1d X4d Bd Cd hHeld ⊢
            refine t_ 0 46 (bb 25 1) hHeld (h := ?_)
            refine n_ 1 47 (bb 25 3) (h := fun K hK => ?_)
            refine goes_ Try.func61 (by kernel_rfl) rfl #[.agg #[.int .i64 m.f0, .int .i64 m.f1, .int .i64 m.f2, .slice M3 m.f3.length e3, .slice M4 m.f4.length e4]] (by rfl) rfl rfl (by (try simp only [List.map_toArray, List.map_cons, List.map_nil]); first | done | rfl) ?_
            refine (right_callsR (m := m) HRM.out ⟨HEC.out.1, Kd.C_below HEC.out.2.1 Bd.out, HEC.out.2.2.1, Kd.C_below HEC.out.2.2.2 Bd.out⟩).mono ?_
            rintro ex w5 ⟨rfl, hb5⟩
            refine ⟨_, rfl, ?_⟩
            have B5 := Aside0.mk (below_step Bd.out hb5)
            have X15 := Aside0.mk (blk_below X1d.out hb5)
            have X45 := Aside0.mk (blk_below X4d.out hb5)
            have C5 := Aside0.mk (below_step Cd.out hb5)
            clear hb5
            refine hK.out _ _ ⟨(blk_cell X15.out 1).trans rfl, (blk_cell X15.out 4).trans rfl, (blk_cell X45.out 0).trans rfl, (blk_cell X45.out 1).trans rfl, (blk_cell X45.out 2).trans rfl, (blk_cell X45.out 3).trans rfl, (blk_cell X45.out 4).trans rfl⟩ (fun hHeld => ?_)
            clear hK K
            refine m_ 47 (h := ?_)
            refine p_ 2 48 (bb 25 7) (h := ?_)
            refine p_ 3 49 (bb 25 15) (h := ?_)
            refine p_ 4 50 (bb 25 31) (h := ?_)
            refine t_ 5 51 (bb 25 63) hHeld (h := ?_)
            refine p_ 6 52 (bb 25 127) (h := ?_)
            refine t_ 7 53 (bb 25 255) hHeld (h := ?_)
            refine p_ 8 54 (bb 25 511) (h := ?_)
            refine p_ 9 55 (bb 25 1023) (h := ?_)
            refine p_ 10 56 (bb 25 2047) (h := ?_)
            refine p_ 11 57 (bb 25 4095) (h := ?_)
            refine p_ 12 58 (bb 25 8191) (h := ?_)
            refine p_ 13 59 (bb 25 16383) (h := ?_)
            refine o_ 14 60 (bb 25 32767) (h := ?_)
            refine o_ 15 61 (bb 25 65535) (h := ?_)
            refine o_ 16 62 (bb 25 131071) (h := ?_)
            refine o_ 17 63 (bb 25 262143) (h := ?_)
            refine o_ 18 64 (bb 25 524287) (h := ?_)
            refine o_ 19 65 (bb 25 1048575) (h := ?_)
            refine o_ 20 66 (bb 25 2097151) (h := ?_)
            refine o_ 21 67 (bb 25 4194303) (h := ?_)
            refine o_ 22 68 (bb 25 8388607) (h := ?_)
            refine p_ 23 69 (bb 25 16777215) (h := ?_)
            refine p_ 24 70 (bb 25 33554431) (h := ?_)
            refine d_ (h := ?_)
            go_wp2
            go_meet
            exact ⟨false, rfl, ⟨by unfold bad7; rw [HRM.out, decide_eq_false (show ¬ a1 ≤ (toM m).f0 from (by have h := HGE.out; show ¬ a1 ≤ m.f0; omega)), HPE.out]; rfl⟩, C5⟩
           ·
            have hpl := congrArg List.length hpe
            rw [List.length_append] at hpl
            have HLA := Aside0.mk (show (pre.map toM).getLast? = some (toM p) by rw [hpe]; simp)
            have HPM := Aside0.mk (show toM p ∈ l.map toM by rw [HPX.out, hpe]; simp)
            have HPR := Aside0.mk (HRP.out p (by rw [hpe]; simp))
            obtain ⟨kp, hkp⟩ : ∃ kp, kp = pre'.length := ⟨_, rfl⟩
            have hgp := hkp ▸ (show l[pre'.length]? = some p by rw [HPX.out, hpe]; simp)
            have hpos : (0 < pre.length) = True := eq_true (by rw [hpl]; simp)
            have hwp := wsub1 (x := pre.length) (z := kp) (by rw [hkp, hpl]; rfl) (by have h1 := HPL.out; omega)
            have hpl2 : (kp < l.length) = True := eq_true (by have h1 := HPL.out; rw [hpl] at h1; simp only [List.length_cons, List.length_nil] at h1; omega)
            obtain ⟨ad2, L3, d3, L4, d4, hA2, hl0, hl1, hl2, hl3, hl4, hE_⟩ := at_CR HC.out kp p hgp
            obtain rfl := Option.some.inj hA2
            have LEC := Aside0.mk hE_
            have HLD := Aside0.mk (show w.cell? (ad.add (kp * 5)) = some (.int .i64 p.f0) ∧ w.cell? ⟨(ad.add (kp * 5)).block, (ad.add (kp * 5)).off + 1, none⟩ = some (.int .i64 p.f1) ∧ w.cell? ⟨(ad.add (kp * 5)).block, (ad.add (kp * 5)).off + 2, none⟩ = some (.int .i64 p.f2) ∧ w.cell? ⟨(ad.add (kp * 5)).block, (ad.add (kp * 5)).off + 3, none⟩ = some (.slice L3 p.f3.length d3) ∧ w.cell? ⟨(ad.add (kp * 5)).block, (ad.add (kp * 5)).off + 4, none⟩ = some (.slice L4 p.f4.length d4) from ⟨hl0, hl1, hl2, hl3, hl4⟩)
            clear hE_ hA2 hl0 hl1 hl2 hl3 hl4 hgp hkp hpe hpl
            cases hah : decide (cmpM (toM p) (toM m) < 0) with
            | false =>
             have HAH := Aside0.mk hah
             clear hah
             as_aux_lemma =>
             refine s_ 25 [] (fun w' => w'.cell? ⟨g1, 1, none⟩ = some (.int .i64 a1) ∧ w'.cell? ⟨g1, 4, none⟩ = some (.slice (some ad) l.length c) ∧ w'.cell? ⟨g4, 0, none⟩ = some (.int .i64 m.f0) ∧ w'.cell? ⟨g4, 1, none⟩ = some (.int .i64 m.f1) ∧ w'.cell? ⟨g4, 2, none⟩ = some (.int .i64 m.f2) ∧ w'.cell? ⟨g4, 3, none⟩ = some (.slice M3 m.f3.length e3) ∧ w'.cell? ⟨g4, 4, none⟩ = some (.slice M4 m.f4.length e4) ∧ w'.cell? (ad.add (kp * 5)) = some (.int .i64 p.f0) ∧ w'.cell? ⟨(ad.add (kp * 5)).block, (ad.add (kp * 5)).off + 1, none⟩ = some (.int .i64 p.f1) ∧ w'.cell? ⟨(ad.add (kp * 5)).block, (ad.add (kp * 5)).off + 2, none⟩ = some (.int .i64 p.f2) ∧ w'.cell? ⟨(ad.add (kp * 5)).block, (ad.add (kp * 5)).off + 3, none⟩ = some (.slice L3 p.f3.length d3) ∧ w'.cell? ⟨(ad.add (kp * 5)).block, (ad.add (kp * 5)).off + 4, none⟩ = some (.slice L4 p.f4.length d4)) (hS := ⟨(blk_cell (blk_drew X1.out) 1).trans rfl, (blk_cell (blk_drew X1.out) 4).trans rfl, (blk_cell (blk_drew X4.out) 0).trans rfl, (blk_cell (blk_drew X4.out) 1).trans rfl, (blk_cell (blk_drew X4.out) 2).trans rfl, (blk_cell (blk_drew X4.out) 3).trans rfl, (blk_cell (blk_drew X4.out) 4).trans rfl, pw_cell_below (below_drew BW.out) HLD.out.1, pw_cell_below (below_drew BW.out) HLD.out.2.1, pw_cell_below (below_drew BW.out) HLD.out.2.2.1, pw_cell_below (below_drew BW.out) HLD.out.2.2.2.1, pw_cell_below (below_drew BW.out) HLD.out.2.2.2.2⟩) (h := fun hHeld => ?_)
             have X1d := Aside0.mk (blk_drew X1.out)
             have X4d := Aside0.mk (blk_drew X4.out)
             have Bd := Aside0.mk (below_drew BW.out)
             have Cd := Aside0.mk (below_drew (Below.refl w4.heap.size w4))
             generalize w4.drew = wd at X1d X4d Bd Cd hHeld ⊢
             refine t_ 0 46 (bb 25 1) hHeld (h := ?_)
             refine n_ 1 47 (bb 25 3) (h := fun K hK => ?_)
             refine goes_ Try.func61 (by kernel_rfl) rfl #[.agg #[.int .i64 m.f0, .int .i64 m.f1, .int .i64 m.f2, .slice M3 m.f3.length e3, .slice M4 m.f4.length e4]] (by rfl) rfl rfl (by (try simp only [List.map_toArray, List.map_cons, List.map_nil]); first | done | rfl) ?_
             refine (right_callsR (m := m) HRM.out ⟨HEC.out.1, Kd.C_below HEC.out.2.1 Bd.out, HEC.out.2.2.1, Kd.C_below HEC.out.2.2.2 Bd.out⟩).mono ?_
             rintro ex w5 ⟨rfl, hb5⟩
             refine ⟨_, rfl, ?_⟩
             have B5 := Aside0.mk (below_step Bd.out hb5)
             have X15 := Aside0.mk (blk_below X1d.out hb5)
             have X45 := Aside0.mk (blk_below X4d.out hb5)
             have C5 := Aside0.mk (below_step Cd.out hb5)
             clear hb5
             refine hK.out _ _ ⟨(blk_cell X15.out 1).trans rfl, (blk_cell X15.out 4).trans rfl, (blk_cell X45.out 0).trans rfl, (blk_cell X45.out 1).trans rfl, (blk_cell X45.out 2).trans rfl, (blk_cell X45.out 3).trans rfl, (blk_cell X45.out 4).trans rfl, pw_cell_below B5.out HLD.out.1, pw_cell_below B5.out HLD.out.2.1, pw_cell_below B5.out HLD.out.2.2.1, pw_cell_below B5.out HLD.out.2.2.2.1, pw_cell_below B5.out HLD.out.2.2.2.2⟩ (fun hHeld => ?_)
             clear hK K
             refine m_ 47 (h := ?_)
             refine p_ 2 48 (bb 25 7) (h := ?_)
             refine p_ 3 49 (bb 25 15) (h := ?_)
             refine p_ 4 50 (bb 25 31) (h := ?_)
             refine t_ 5 51 (bb 25 63) hHeld (h := ?_)
             refine p_ 6 52 (bb 25 127) (h := ?_)
             refine t_ 7 53 (bb 25 255) hHeld (h := ?_)
             refine p_ 8 54 (bb 25 511) (h := ?_)
             refine p_ 9 55 (bb 25 1023) (h := ?_)
             refine p_ 10 56 (bb 25 2047) (h := ?_)
             refine p_ 11 57 (bb 25 4095) (h := ?_)
             refine p_ 12 58 (bb 25 8191) (h := ?_)
             refine p_ 13 59 (bb 25 16383) (h := ?_)
             refine p_ 14 60 (bb 25 32767) (h := ?_)
             refine t_ 15 61 (bb 25 65535) hHeld (h := ?_)
             refine p_ 16 62 (bb 25 131071) (h := ?_)
             refine p_ 17 63 (bb 25 262143) (h := ?_)
             refine p_ 18 64 (bb 25 524287) (h := ?_)
             refine t_ 19 65 (bb 25 1048575) hHeld (h := ?_)
             refine t_ 20 66 (bb 25 2097151) hHeld (h := ?_)
             refine n_ 21 67 (bb 25 4194303) (h := fun K hK => ?_)
             refine goes_ Try.func62 (by kernel_rfl) rfl #[.agg #[.int .i64 p.f0, .int .i64 p.f1, .int .i64 p.f2, .slice L3 p.f3.length d3, .slice L4 p.f4.length d4], .agg #[.int .i64 m.f0, .int .i64 m.f1, .int .i64 m.f2, .slice M3 m.f3.length e3, .slice M4 m.f4.length e4]] (by rfl) rfl rfl (by (try simp only [List.map_toArray, List.map_cons, List.map_nil]); first | done | rfl) ?_
             refine (ahead_callsR (p := p) (m := m) HAH.out HPR.out HRM.out (HM.out _ HPM.out) HMB.out ⟨LEC.out.1, Kd.C_below LEC.out.2.1 B5.out, LEC.out.2.2.1, Kd.C_below LEC.out.2.2.2 B5.out⟩ ⟨HEC.out.1, Kd.C_below HEC.out.2.1 B5.out, HEC.out.2.2.1, Kd.C_below HEC.out.2.2.2 B5.out⟩).mono ?_
             rintro ex w6 ⟨rfl, hb6⟩
             refine ⟨_, rfl, ?_⟩
             have B6 := Aside0.mk (below_step B5.out hb6)
             have X16 := Aside0.mk (blk_below X15.out hb6)
             have X46 := Aside0.mk (blk_below X45.out hb6)
             have C6 := Aside0.mk (below_step C5.out hb6)
             clear hb6
             refine hK.out _ _ ⟨(blk_cell X16.out 1).trans rfl, (blk_cell X16.out 4).trans rfl, (blk_cell X46.out 0).trans rfl, (blk_cell X46.out 1).trans rfl, (blk_cell X46.out 2).trans rfl, (blk_cell X46.out 3).trans rfl, (blk_cell X46.out 4).trans rfl, pw_cell_below B6.out HLD.out.1, pw_cell_below B6.out HLD.out.2.1, pw_cell_below B6.out HLD.out.2.2.1, pw_cell_below B6.out HLD.out.2.2.2.1, pw_cell_below B6.out HLD.out.2.2.2.2⟩ (fun hHeld => ?_)
             clear hK K
             refine m_ 67 (h := ?_)
             refine p_ 22 68 (bb 25 8388607) (h := ?_)
             refine p_ 23 69 (bb 25 16777215) (h := ?_)
             refine p_ 24 70 (bb 25 33554431) (h := ?_)
             refine d_ (h := ?_)
             go_wp2
             go_meet
             exact ⟨true, rfl, ⟨by unfold bad7; rw [HRM.out, decide_eq_false (show ¬ a1 ≤ (toM m).f0 from (by have h := HGE.out; show ¬ a1 ≤ m.f0; omega)), HLA.out]; simp only; rw [HAH.out]; rfl⟩, C6⟩
            | true =>
             have HAH := Aside0.mk hah
             clear hah
             as_aux_lemma =>
             refine s_ 25 [] (fun w' => w'.cell? ⟨g1, 1, none⟩ = some (.int .i64 a1) ∧ w'.cell? ⟨g1, 4, none⟩ = some (.slice (some ad) l.length c) ∧ w'.cell? ⟨g4, 0, none⟩ = some (.int .i64 m.f0) ∧ w'.cell? ⟨g4, 1, none⟩ = some (.int .i64 m.f1) ∧ w'.cell? ⟨g4, 2, none⟩ = some (.int .i64 m.f2) ∧ w'.cell? ⟨g4, 3, none⟩ = some (.slice M3 m.f3.length e3) ∧ w'.cell? ⟨g4, 4, none⟩ = some (.slice M4 m.f4.length e4) ∧ w'.cell? (ad.add (kp * 5)) = some (.int .i64 p.f0) ∧ w'.cell? ⟨(ad.add (kp * 5)).block, (ad.add (kp * 5)).off + 1, none⟩ = some (.int .i64 p.f1) ∧ w'.cell? ⟨(ad.add (kp * 5)).block, (ad.add (kp * 5)).off + 2, none⟩ = some (.int .i64 p.f2) ∧ w'.cell? ⟨(ad.add (kp * 5)).block, (ad.add (kp * 5)).off + 3, none⟩ = some (.slice L3 p.f3.length d3) ∧ w'.cell? ⟨(ad.add (kp * 5)).block, (ad.add (kp * 5)).off + 4, none⟩ = some (.slice L4 p.f4.length d4)) (hS := ⟨(blk_cell (blk_drew X1.out) 1).trans rfl, (blk_cell (blk_drew X1.out) 4).trans rfl, (blk_cell (blk_drew X4.out) 0).trans rfl, (blk_cell (blk_drew X4.out) 1).trans rfl, (blk_cell (blk_drew X4.out) 2).trans rfl, (blk_cell (blk_drew X4.out) 3).trans rfl, (blk_cell (blk_drew X4.out) 4).trans rfl, pw_cell_below (below_drew BW.out) HLD.out.1, pw_cell_below (below_drew BW.out) HLD.out.2.1, pw_cell_below (below_drew BW.out) HLD.out.2.2.1, pw_cell_below (below_drew BW.out) HLD.out.2.2.2.1, pw_cell_below (below_drew BW.out) HLD.out.2.2.2.2⟩) (h := fun hHeld => ?_)
             have X1d := Aside0.mk (blk_drew X1.out)
             have X4d := Aside0.mk (blk_drew X4.out)
             have Bd := Aside0.mk (below_drew BW.out)
             have Cd := Aside0.mk (below_drew (Below.refl w4.heap.size w4))
             generalize w4.drew = wd at X1d X4d Bd Cd hHeld ⊢
             refine t_ 0 46 (bb 25 1) hHeld (h := ?_)
             refine n_ 1 47 (bb 25 3) (h := fun K hK => ?_)
             refine goes_ Try.func61 (by kernel_rfl) rfl #[.agg #[.int .i64 m.f0, .int .i64 m.f1, .int .i64 m.f2, .slice M3 m.f3.length e3, .slice M4 m.f4.length e4]] (by rfl) rfl rfl (by (try simp only [List.map_toArray, List.map_cons, List.map_nil]); first | done | rfl) ?_
             refine (right_callsR (m := m) HRM.out ⟨HEC.out.1, Kd.C_below HEC.out.2.1 Bd.out, HEC.out.2.2.1, Kd.C_below HEC.out.2.2.2 Bd.out⟩).mono ?_
             rintro ex w5 ⟨rfl, hb5⟩
             refine ⟨_, rfl, ?_⟩
             have B5 := Aside0.mk (below_step Bd.out hb5)
             have X15 := Aside0.mk (blk_below X1d.out hb5)
             have X45 := Aside0.mk (blk_below X4d.out hb5)
             have C5 := Aside0.mk (below_step Cd.out hb5)
             clear hb5
             refine hK.out _ _ ⟨(blk_cell X15.out 1).trans rfl, (blk_cell X15.out 4).trans rfl, (blk_cell X45.out 0).trans rfl, (blk_cell X45.out 1).trans rfl, (blk_cell X45.out 2).trans rfl, (blk_cell X45.out 3).trans rfl, (blk_cell X45.out 4).trans rfl, pw_cell_below B5.out HLD.out.1, pw_cell_below B5.out HLD.out.2.1, pw_cell_below B5.out HLD.out.2.2.1, pw_cell_below B5.out HLD.out.2.2.2.1, pw_cell_below B5.out HLD.out.2.2.2.2⟩ (fun hHeld => ?_)
             clear hK K
             refine m_ 47 (h := ?_)
             refine p_ 2 48 (bb 25 7) (h := ?_)
             refine p_ 3 49 (bb 25 15) (h := ?_)
             refine p_ 4 50 (bb 25 31) (h := ?_)
             refine t_ 5 51 (bb 25 63) hHeld (h := ?_)
             refine p_ 6 52 (bb 25 127) (h := ?_)
             refine t_ 7 53 (bb 25 255) hHeld (h := ?_)
             refine p_ 8 54 (bb 25 511) (h := ?_)
             refine p_ 9 55 (bb 25 1023) (h := ?_)
             refine p_ 10 56 (bb 25 2047) (h := ?_)
             refine p_ 11 57 (bb 25 4095) (h := ?_)
             refine p_ 12 58 (bb 25 8191) (h := ?_)
             refine p_ 13 59 (bb 25 16383) (h := ?_)
             refine p_ 14 60 (bb 25 32767) (h := ?_)
             refine t_ 15 61 (bb 25 65535) hHeld (h := ?_)
             refine p_ 16 62 (bb 25 131071) (h := ?_)
             refine p_ 17 63 (bb 25 262143) (h := ?_)
             refine p_ 18 64 (bb 25 524287) (h := ?_)
             refine t_ 19 65 (bb 25 1048575) hHeld (h := ?_)
             refine t_ 20 66 (bb 25 2097151) hHeld (h := ?_)
             refine n_ 21 67 (bb 25 4194303) (h := fun K hK => ?_)
             refine goes_ Try.func62 (by kernel_rfl) rfl #[.agg #[.int .i64 p.f0, .int .i64 p.f1, .int .i64 p.f2, .slice L3 p.f3.length d3, .slice L4 p.f4.length d4], .agg #[.int .i64 m.f0, .int .i64 m.f1, .int .i64 m.f2, .slice M3 m.f3.length e3, .slice M4 m.f4.length e4]] (by rfl) rfl rfl (by (try simp only [List.map_toArray, List.map_cons, List.map_nil]); first | done | rfl) ?_
             refine (ahead_callsR (p := p) (m := m) HAH.out HPR.out HRM.out (HM.out _ HPM.out) HMB.out ⟨LEC.out.1, Kd.C_below LEC.out.2.1 B5.out, LEC.out.2.2.1, Kd.C_below LEC.out.2.2.2 B5.out⟩ ⟨HEC.out.1, Kd.C_below HEC.out.2.1 B5.out, HEC.out.2.2.1, Kd.C_below HEC.out.2.2.2 B5.out⟩).mono ?_
             rintro ex w6 ⟨rfl, hb6⟩
             refine ⟨_, rfl, ?_⟩
             have B6 := Aside0.mk (below_step B5.out hb6)
             have X16 := Aside0.mk (blk_below X15.out hb6)
             have X46 := Aside0.mk (blk_below X45.out hb6)
             have C6 := Aside0.mk (below_step C5.out hb6)
             clear hb6
             refine hK.out _ _ ⟨(blk_cell X16.out 1).trans rfl, (blk_cell X16.out 4).trans rfl, (blk_cell X46.out 0).trans rfl, (blk_cell X46.out 1).trans rfl, (blk_cell X46.out 2).trans rfl, (blk_cell X46.out 3).trans rfl, (blk_cell X46.out 4).trans rfl, pw_cell_below B6.out HLD.out.1, pw_cell_below B6.out HLD.out.2.1, pw_cell_below B6.out HLD.out.2.2.1, pw_cell_below B6.out HLD.out.2.2.2.1, pw_cell_below B6.out HLD.out.2.2.2.2⟩ (fun hHeld => ?_)
             clear hK K
             refine m_ 67 (h := ?_)
             refine p_ 22 68 (bb 25 8388607) (h := ?_)
             refine p_ 23 69 (bb 25 16777215) (h := ?_)
             refine p_ 24 70 (bb 25 33554431) (h := ?_)
             refine d_ (h := ?_)
             go_wp2
             go_meet
             exact ⟨false, rfl, ⟨by unfold bad7; rw [HRM.out, decide_eq_false (show ¬ a1 ≤ (toM m).f0 from (by have h := HGE.out; show ¬ a1 ≤ m.f0; omega)), HLA.out]; simp only; rw [HAH.out]; rfl⟩, C6⟩
        case rest =>
         obtain ⟨b7, rfl, HB7, HBC⟩ := hcut
         obtain ⟨w7, hw7⟩ : ∃ x, x = wc := ⟨_, rfl⟩
         subst hw7
         have W1 := Aside0.mk (blk_below X1.out HBC.out)
         have W4 := Aside0.mk (blk_below X4.out HBC.out)
         have BV := Aside0.mk (below_step BW.out HBC.out)
         clear X1 X4 BW HBC
         cases b7 with
         | true =>
          as_aux_lemma =>
          have HR := Aside0.mk (show errB (checkB a0 a1 a2 a3 (l.map toM)) = 1 by rw [HCB.out, HNX.out, ← HB7.out]; simp [errB])
          go_wp2
          go_ret
          exact ⟨by rw [HR.out] <;> rfl, BV.out⟩
         | false =>
          have HRM := Aside0.mk (show rightM (toM m) = true by
           have h1 := HB7.out
           unfold bad7 at h1
           cases h2 : rightM (toM m) with
           | true => rfl
           | false => rw [h2] at h1; simp at h1)
          go_upto_region 9 with (fail)
          have X1 := W1
          have X4 := W4
          have BW := BV
          clear W1 W4 BV
          go_cut [102] from 71 to 102 (fun v102 wx => ∃ b, v102 = .bool b ∧ Aside0 (b = bad9 (pre.map toM) (toM m)) ∧ Aside0 (Below w7.heap.size w7 wx))
          case first =>
           rcases ends pre with hpe | ⟨pre', p, hpe⟩
           ·
            have HPE := Aside0.mk hpe
            have hz0 : (0 < pre.length) = False := eq_false (by rw [hpe]; simp)
            clear hpe
            as_aux_lemma =>
            refine s_ 32 [] (fun w' => w'.cell? ⟨g1, 1, none⟩ = some (.int .i64 a1) ∧ w'.cell? ⟨g1, 4, none⟩ = some (.slice (some ad) l.length c) ∧ w'.cell? ⟨g4, 0, none⟩ = some (.int .i64 m.f0) ∧ w'.cell? ⟨g4, 1, none⟩ = some (.int .i64 m.f1) ∧ w'.cell? ⟨g4, 2, none⟩ = some (.int .i64 m.f2) ∧ w'.cell? ⟨g4, 3, none⟩ = some (.slice M3 m.f3.length e3) ∧ w'.cell? ⟨g4, 4, none⟩ = some (.slice M4 m.f4.length e4)) (hS := ⟨(blk_cell (blk_drew X1.out) 1).trans rfl, (blk_cell (blk_drew X1.out) 4).trans rfl, (blk_cell (blk_drew X4.out) 0).trans rfl, (blk_cell (blk_drew X4.out) 1).trans rfl, (blk_cell (blk_drew X4.out) 2).trans rfl, (blk_cell (blk_drew X4.out) 3).trans rfl, (blk_cell (blk_drew X4.out) 4).trans rfl⟩) (h := fun hHeld => ?_)
            have X1d := Aside0.mk (blk_drew X1.out)
            have X4d := Aside0.mk (blk_drew X4.out)
            have Bd := Aside0.mk (below_drew BW.out)
            have Cd := Aside0.mk (below_drew (Below.refl w7.heap.size w7))
            generalize w7.drew = wd at X1d X4d Bd Cd hHeld ⊢
            refine p_ 0 71 (bb 32 1) (h := ?_)
            refine p_ 1 72 (bb 32 3) (h := ?_)
            refine p_ 2 73 (bb 32 7) (h := ?_)
            refine o_ 3 74 (bb 32 15) (h := ?_)
            refine o_ 4 75 (bb 32 31) (h := ?_)
            refine o_ 5 76 (bb 32 63) (h := ?_)
            refine p_ 6 77 (bb 32 127) (h := ?_)
            refine p_ 7 78 (bb 32 255) (h := ?_)
            refine o_ 8 79 (bb 32 511) (h := ?_)
            refine o_ 9 80 (bb 32 1023) (h := ?_)
            refine o_ 10 81 (bb 32 2047) (h := ?_)
            refine o_ 11 82 (bb 32 4095) (h := ?_)
            refine o_ 12 83 (bb 32 8191) (h := ?_)
            refine o_ 13 84 (bb 32 16383) (h := ?_)
            refine o_ 14 85 (bb 32 32767) (h := ?_)
            refine o_ 15 86 (bb 32 65535) (h := ?_)
            refine o_ 16 87 (bb 32 131071) (h := ?_)
            refine o_ 17 88 (bb 32 262143) (h := ?_)
            refine p_ 18 89 (bb 32 524287) (h := ?_)
            refine p_ 19 90 (bb 32 1048575) (h := ?_)
            refine o_ 20 91 (bb 32 2097151) (h := ?_)
            refine o_ 21 92 (bb 32 4194303) (h := ?_)
            refine o_ 22 93 (bb 32 8388607) (h := ?_)
            refine o_ 23 94 (bb 32 16777215) (h := ?_)
            refine o_ 24 95 (bb 32 33554431) (h := ?_)
            refine o_ 25 96 (bb 32 67108863) (h := ?_)
            refine o_ 26 97 (bb 32 134217727) (h := ?_)
            refine o_ 27 98 (bb 32 268435455) (h := ?_)
            refine o_ 28 99 (bb 32 536870911) (h := ?_)
            refine o_ 29 100 (bb 32 1073741823) (h := ?_)
            refine o_ 30 101 (bb 32 2147483647) (h := ?_)
            refine p_ 31 102 (bb 32 4294967295) (h := ?_)
            refine d_ (h := ?_)
            go_wp2
            go_meet
            exact ⟨false, rfl, ⟨by unfold bad9; rw [HPE.out]; rfl⟩, Cd⟩
           ·
            have hpl := congrArg List.length hpe
            rw [List.length_append] at hpl
            have HLA := Aside0.mk (show (pre.map toM).getLast? = some (toM p) by rw [hpe]; simp)
            have HPM := Aside0.mk (show toM p ∈ l.map toM by rw [HPX.out, hpe]; simp)
            have HPR := Aside0.mk (HRP.out p (by rw [hpe]; simp))
            obtain ⟨kp, hkp⟩ : ∃ kp, kp = pre'.length := ⟨_, rfl⟩
            have hgp := hkp ▸ (show l[pre'.length]? = some p by rw [HPX.out, hpe]; simp)
            have hpos : (0 < pre.length) = True := eq_true (by rw [hpl]; simp)
            have hwp := wsub1 (x := pre.length) (z := kp) (by rw [hkp, hpl]; rfl) (by have h1 := HPL.out; omega)
            have hpl2 : (kp < l.length) = True := eq_true (by have h1 := HPL.out; rw [hpl] at h1; simp only [List.length_cons, List.length_nil] at h1; omega)
            obtain ⟨ad2, L3, d3, L4, d4, hA2, hl0, hl1, hl2, hl3, hl4, hE_⟩ := at_CR HC.out kp p hgp
            obtain rfl := Option.some.inj hA2
            have LEC := Aside0.mk hE_
            have HLD := Aside0.mk (show w.cell? (ad.add (kp * 5)) = some (.int .i64 p.f0) ∧ w.cell? ⟨(ad.add (kp * 5)).block, (ad.add (kp * 5)).off + 1, none⟩ = some (.int .i64 p.f1) ∧ w.cell? ⟨(ad.add (kp * 5)).block, (ad.add (kp * 5)).off + 2, none⟩ = some (.int .i64 p.f2) ∧ w.cell? ⟨(ad.add (kp * 5)).block, (ad.add (kp * 5)).off + 3, none⟩ = some (.slice L3 p.f3.length d3) ∧ w.cell? ⟨(ad.add (kp * 5)).block, (ad.add (kp * 5)).off + 4, none⟩ = some (.slice L4 p.f4.length d4) from ⟨hl0, hl1, hl2, hl3, hl4⟩)
            clear hE_ hA2 hl0 hl1 hl2 hl3 hl4 hgp hkp hpe hpl
            by_cases hl0 : 0 < m.f1
            ·
             have hl0t : (0 < m.f1) = True := eq_true hl0
             have HPOS := Aside0.mk hl0
             clear hl0
             by_cases hle : p.f1 = m.f1
             ·
              have hlet : ((p.f1) == (m.f1)) = true := by simpa using hle
              have HLV := Aside0.mk hle
              clear hle
              cases hls : less p.f4 m.f3 with
              | true =>
               have HLS := Aside0.mk hls
               clear hls
               as_aux_lemma =>
               refine s_ 32 [] (fun w' => w'.cell? ⟨g1, 1, none⟩ = some (.int .i64 a1) ∧ w'.cell? ⟨g1, 4, none⟩ = some (.slice (some ad) l.length c) ∧ w'.cell? ⟨g4, 0, none⟩ = some (.int .i64 m.f0) ∧ w'.cell? ⟨g4, 1, none⟩ = some (.int .i64 m.f1) ∧ w'.cell? ⟨g4, 2, none⟩ = some (.int .i64 m.f2) ∧ w'.cell? ⟨g4, 3, none⟩ = some (.slice M3 m.f3.length e3) ∧ w'.cell? ⟨g4, 4, none⟩ = some (.slice M4 m.f4.length e4) ∧ w'.cell? (ad.add (kp * 5)) = some (.int .i64 p.f0) ∧ w'.cell? ⟨(ad.add (kp * 5)).block, (ad.add (kp * 5)).off + 1, none⟩ = some (.int .i64 p.f1) ∧ w'.cell? ⟨(ad.add (kp * 5)).block, (ad.add (kp * 5)).off + 2, none⟩ = some (.int .i64 p.f2) ∧ w'.cell? ⟨(ad.add (kp * 5)).block, (ad.add (kp * 5)).off + 3, none⟩ = some (.slice L3 p.f3.length d3) ∧ w'.cell? ⟨(ad.add (kp * 5)).block, (ad.add (kp * 5)).off + 4, none⟩ = some (.slice L4 p.f4.length d4)) (hS := ⟨(blk_cell (blk_drew X1.out) 1).trans rfl, (blk_cell (blk_drew X1.out) 4).trans rfl, (blk_cell (blk_drew X4.out) 0).trans rfl, (blk_cell (blk_drew X4.out) 1).trans rfl, (blk_cell (blk_drew X4.out) 2).trans rfl, (blk_cell (blk_drew X4.out) 3).trans rfl, (blk_cell (blk_drew X4.out) 4).trans rfl, pw_cell_below (below_drew BW.out) HLD.out.1, pw_cell_below (below_drew BW.out) HLD.out.2.1, pw_cell_below (below_drew BW.out) HLD.out.2.2.1, pw_cell_below (below_drew BW.out) HLD.out.2.2.2.1, pw_cell_below (below_drew BW.out) HLD.out.2.2.2.2⟩) (h := fun hHeld => ?_)
               have X1d := Aside0.mk (blk_drew X1.out)
               have X4d := Aside0.mk (blk_drew X4.out)
               have Bd := Aside0.mk (below_drew BW.out)
               have Cd := Aside0.mk (below_drew (Below.refl w7.heap.size w7))
               generalize w7.drew = wd at X1d X4d Bd Cd hHeld ⊢
               refine p_ 0 71 (bb 32 1) (h := ?_)
               refine p_ 1 72 (bb 32 3) (h := ?_)
               refine p_ 2 73 (bb 32 7) (h := ?_)
               refine p_ 3 74 (bb 32 15) (h := ?_)
               refine t_ 4 75 (bb 32 31) hHeld (h := ?_)
               refine p_ 5 76 (bb 32 63) (h := ?_)
               refine p_ 6 77 (bb 32 127) (h := ?_)
               refine p_ 7 78 (bb 32 255) (h := ?_)
               refine p_ 8 79 (bb 32 511) (h := ?_)
               refine t_ 9 80 (bb 32 1023) hHeld (h := ?_)
               refine p_ 10 81 (bb 32 2047) (h := ?_)
               refine p_ 11 82 (bb 32 4095) (h := ?_)
               refine p_ 12 83 (bb 32 8191) (h := ?_)
               refine p_ 13 84 (bb 32 16383) (h := ?_)
               refine t_ 14 85 (bb 32 32767) hHeld (h := ?_)
               refine p_ 15 86 (bb 32 65535) (h := ?_)
               refine t_ 16 87 (bb 32 131071) hHeld (h := ?_)
               refine p_ 17 88 (bb 32 262143) (h := ?_)
               refine p_ 18 89 (bb 32 524287) (h := ?_)
               refine p_ 19 90 (bb 32 1048575) (h := ?_)
               refine p_ 20 91 (bb 32 2097151) (h := ?_)
               refine t_ 21 92 (bb 32 4194303) hHeld (h := ?_)
               refine p_ 22 93 (bb 32 8388607) (h := ?_)
               refine p_ 23 94 (bb 32 16777215) (h := ?_)
               refine p_ 24 95 (bb 32 33554431) (h := ?_)
               refine p_ 25 96 (bb 32 67108863) (h := ?_)
               refine t_ 26 97 (bb 32 134217727) hHeld (h := ?_)
               refine p_ 27 98 (bb 32 268435455) (h := ?_)
               refine t_ 28 99 (bb 32 536870911) hHeld (h := ?_)
               refine n_ 29 100 (bb 32 1073741823) (h := fun K hK => ?_)
               refine goes_ Try.func18 (by kernel_rfl) rfl #[.slice L4 p.f4.length d4, .slice M3 m.f3.length e3] (by rfl) rfl rfl (by (try simp only [List.map_toArray, List.map_cons, List.map_nil]); first | done | rfl) ?_
               refine (less_callsR (p := p) (m := m) HLS.out (by have h := rightM_len HPR.out; have h2 : (toM p).f4 = p.f4 := rfl; rw [h2] at h; omega) ⟨LEC.out.1, Kd.C_below LEC.out.2.1 Bd.out, LEC.out.2.2.1, Kd.C_below LEC.out.2.2.2 Bd.out⟩ ⟨HEC.out.1, Kd.C_below HEC.out.2.1 Bd.out, HEC.out.2.2.1, Kd.C_below HEC.out.2.2.2 Bd.out⟩).mono ?_
               rintro ex w5 ⟨rfl, hb5⟩
               refine ⟨_, rfl, ?_⟩
               have B5 := Aside0.mk (below_step Bd.out hb5)
               have X15 := Aside0.mk (blk_below X1d.out hb5)
               have X45 := Aside0.mk (blk_below X4d.out hb5)
               have C5 := Aside0.mk (below_step Cd.out hb5)
               clear hb5
               refine hK.out _ _ ⟨(blk_cell X15.out 1).trans rfl, (blk_cell X15.out 4).trans rfl, (blk_cell X45.out 0).trans rfl, (blk_cell X45.out 1).trans rfl, (blk_cell X45.out 2).trans rfl, (blk_cell X45.out 3).trans rfl, (blk_cell X45.out 4).trans rfl, pw_cell_below B5.out HLD.out.1, pw_cell_below B5.out HLD.out.2.1, pw_cell_below B5.out HLD.out.2.2.1, pw_cell_below B5.out HLD.out.2.2.2.1, pw_cell_below B5.out HLD.out.2.2.2.2⟩ (fun hHeld => ?_)
               clear hK K
               refine m_ 100 (h := ?_)
               refine p_ 30 101 (bb 32 2147483647) (h := ?_)
               refine p_ 31 102 (bb 32 4294967295) (h := ?_)
               refine d_ (h := ?_)
               go_wp2
               go_meet
               exact ⟨false, rfl, ⟨by unfold bad9; rw [HLA.out]; simp only; rw [decide_eq_true (show 0 < (toM m).f1 from HPOS.out), decide_eq_true (show (toM p).f1 = (toM m).f1 from HLV.out), show less (toM p).f4 (toM m).f3 = true from HLS.out]; rfl⟩, C5⟩
              | false =>
               have HLS := Aside0.mk hls
               clear hls
               as_aux_lemma =>
               refine s_ 32 [] (fun w' => w'.cell? ⟨g1, 1, none⟩ = some (.int .i64 a1) ∧ w'.cell? ⟨g1, 4, none⟩ = some (.slice (some ad) l.length c) ∧ w'.cell? ⟨g4, 0, none⟩ = some (.int .i64 m.f0) ∧ w'.cell? ⟨g4, 1, none⟩ = some (.int .i64 m.f1) ∧ w'.cell? ⟨g4, 2, none⟩ = some (.int .i64 m.f2) ∧ w'.cell? ⟨g4, 3, none⟩ = some (.slice M3 m.f3.length e3) ∧ w'.cell? ⟨g4, 4, none⟩ = some (.slice M4 m.f4.length e4) ∧ w'.cell? (ad.add (kp * 5)) = some (.int .i64 p.f0) ∧ w'.cell? ⟨(ad.add (kp * 5)).block, (ad.add (kp * 5)).off + 1, none⟩ = some (.int .i64 p.f1) ∧ w'.cell? ⟨(ad.add (kp * 5)).block, (ad.add (kp * 5)).off + 2, none⟩ = some (.int .i64 p.f2) ∧ w'.cell? ⟨(ad.add (kp * 5)).block, (ad.add (kp * 5)).off + 3, none⟩ = some (.slice L3 p.f3.length d3) ∧ w'.cell? ⟨(ad.add (kp * 5)).block, (ad.add (kp * 5)).off + 4, none⟩ = some (.slice L4 p.f4.length d4)) (hS := ⟨(blk_cell (blk_drew X1.out) 1).trans rfl, (blk_cell (blk_drew X1.out) 4).trans rfl, (blk_cell (blk_drew X4.out) 0).trans rfl, (blk_cell (blk_drew X4.out) 1).trans rfl, (blk_cell (blk_drew X4.out) 2).trans rfl, (blk_cell (blk_drew X4.out) 3).trans rfl, (blk_cell (blk_drew X4.out) 4).trans rfl, pw_cell_below (below_drew BW.out) HLD.out.1, pw_cell_below (below_drew BW.out) HLD.out.2.1, pw_cell_below (below_drew BW.out) HLD.out.2.2.1, pw_cell_below (below_drew BW.out) HLD.out.2.2.2.1, pw_cell_below (below_drew BW.out) HLD.out.2.2.2.2⟩) (h := fun hHeld => ?_)
               have X1d := Aside0.mk (blk_drew X1.out)
               have X4d := Aside0.mk (blk_drew X4.out)
               have Bd := Aside0.mk (below_drew BW.out)
               have Cd := Aside0.mk (below_drew (Below.refl w7.heap.size w7))
               generalize w7.drew = wd at X1d X4d Bd Cd hHeld ⊢
               refine p_ 0 71 (bb 32 1) (h := ?_)
               refine p_ 1 72 (bb 32 3) (h := ?_)
               refine p_ 2 73 (bb 32 7) (h := ?_)
               refine p_ 3 74 (bb 32 15) (h := ?_)
               refine t_ 4 75 (bb 32 31) hHeld (h := ?_)
               refine p_ 5 76 (bb 32 63) (h := ?_)
               refine p_ 6 77 (bb 32 127) (h := ?_)
               refine p_ 7 78 (bb 32 255) (h := ?_)
               refine p_ 8 79 (bb 32 511) (h := ?_)
               refine t_ 9 80 (bb 32 1023) hHeld (h := ?_)
               refine p_ 10 81 (bb 32 2047) (h := ?_)
               refine p_ 11 82 (bb 32 4095) (h := ?_)
               refine p_ 12 83 (bb 32 8191) (h := ?_)
               refine p_ 13 84 (bb 32 16383) (h := ?_)
               refine t_ 14 85 (bb 32 32767) hHeld (h := ?_)
               refine p_ 15 86 (bb 32 65535) (h := ?_)
               refine t_ 16 87 (bb 32 131071) hHeld (h := ?_)
               refine p_ 17 88 (bb 32 262143) (h := ?_)
               refine p_ 18 89 (bb 32 524287) (h := ?_)
               refine p_ 19 90 (bb 32 1048575) (h := ?_)
               refine p_ 20 91 (bb 32 2097151) (h := ?_)
               refine t_ 21 92 (bb 32 4194303) hHeld (h := ?_)
               refine p_ 22 93 (bb 32 8388607) (h := ?_)
               refine p_ 23 94 (bb 32 16777215) (h := ?_)
               refine p_ 24 95 (bb 32 33554431) (h := ?_)
               refine p_ 25 96 (bb 32 67108863) (h := ?_)
               refine t_ 26 97 (bb 32 134217727) hHeld (h := ?_)
               refine p_ 27 98 (bb 32 268435455) (h := ?_)
               refine t_ 28 99 (bb 32 536870911) hHeld (h := ?_)
               refine n_ 29 100 (bb 32 1073741823) (h := fun K hK => ?_)
               refine goes_ Try.func18 (by kernel_rfl) rfl #[.slice L4 p.f4.length d4, .slice M3 m.f3.length e3] (by rfl) rfl rfl (by (try simp only [List.map_toArray, List.map_cons, List.map_nil]); first | done | rfl) ?_
               refine (less_callsR (p := p) (m := m) HLS.out (by have h := rightM_len HPR.out; have h2 : (toM p).f4 = p.f4 := rfl; rw [h2] at h; omega) ⟨LEC.out.1, Kd.C_below LEC.out.2.1 Bd.out, LEC.out.2.2.1, Kd.C_below LEC.out.2.2.2 Bd.out⟩ ⟨HEC.out.1, Kd.C_below HEC.out.2.1 Bd.out, HEC.out.2.2.1, Kd.C_below HEC.out.2.2.2 Bd.out⟩).mono ?_
               rintro ex w5 ⟨rfl, hb5⟩
               refine ⟨_, rfl, ?_⟩
               have B5 := Aside0.mk (below_step Bd.out hb5)
               have X15 := Aside0.mk (blk_below X1d.out hb5)
               have X45 := Aside0.mk (blk_below X4d.out hb5)
               have C5 := Aside0.mk (below_step Cd.out hb5)
               clear hb5
               refine hK.out _ _ ⟨(blk_cell X15.out 1).trans rfl, (blk_cell X15.out 4).trans rfl, (blk_cell X45.out 0).trans rfl, (blk_cell X45.out 1).trans rfl, (blk_cell X45.out 2).trans rfl, (blk_cell X45.out 3).trans rfl, (blk_cell X45.out 4).trans rfl, pw_cell_below B5.out HLD.out.1, pw_cell_below B5.out HLD.out.2.1, pw_cell_below B5.out HLD.out.2.2.1, pw_cell_below B5.out HLD.out.2.2.2.1, pw_cell_below B5.out HLD.out.2.2.2.2⟩ (fun hHeld => ?_)
               clear hK K
               refine m_ 100 (h := ?_)
               refine p_ 30 101 (bb 32 2147483647) (h := ?_)
               refine p_ 31 102 (bb 32 4294967295) (h := ?_)
               refine d_ (h := ?_)
               go_wp2
               go_meet
               exact ⟨true, rfl, ⟨by unfold bad9; rw [HLA.out]; simp only; rw [decide_eq_true (show 0 < (toM m).f1 from HPOS.out), decide_eq_true (show (toM p).f1 = (toM m).f1 from HLV.out), show less (toM p).f4 (toM m).f3 = false from HLS.out]; rfl⟩, C5⟩
             ·
              have hlet : ((p.f1) == (m.f1)) = false := by simpa using hle
              have HLV := Aside0.mk hle
              clear hle
              as_aux_lemma =>
              refine s_ 32 [] (fun w' => w'.cell? ⟨g1, 1, none⟩ = some (.int .i64 a1) ∧ w'.cell? ⟨g1, 4, none⟩ = some (.slice (some ad) l.length c) ∧ w'.cell? ⟨g4, 0, none⟩ = some (.int .i64 m.f0) ∧ w'.cell? ⟨g4, 1, none⟩ = some (.int .i64 m.f1) ∧ w'.cell? ⟨g4, 2, none⟩ = some (.int .i64 m.f2) ∧ w'.cell? ⟨g4, 3, none⟩ = some (.slice M3 m.f3.length e3) ∧ w'.cell? ⟨g4, 4, none⟩ = some (.slice M4 m.f4.length e4) ∧ w'.cell? (ad.add (kp * 5)) = some (.int .i64 p.f0) ∧ w'.cell? ⟨(ad.add (kp * 5)).block, (ad.add (kp * 5)).off + 1, none⟩ = some (.int .i64 p.f1) ∧ w'.cell? ⟨(ad.add (kp * 5)).block, (ad.add (kp * 5)).off + 2, none⟩ = some (.int .i64 p.f2) ∧ w'.cell? ⟨(ad.add (kp * 5)).block, (ad.add (kp * 5)).off + 3, none⟩ = some (.slice L3 p.f3.length d3) ∧ w'.cell? ⟨(ad.add (kp * 5)).block, (ad.add (kp * 5)).off + 4, none⟩ = some (.slice L4 p.f4.length d4)) (hS := ⟨(blk_cell (blk_drew X1.out) 1).trans rfl, (blk_cell (blk_drew X1.out) 4).trans rfl, (blk_cell (blk_drew X4.out) 0).trans rfl, (blk_cell (blk_drew X4.out) 1).trans rfl, (blk_cell (blk_drew X4.out) 2).trans rfl, (blk_cell (blk_drew X4.out) 3).trans rfl, (blk_cell (blk_drew X4.out) 4).trans rfl, pw_cell_below (below_drew BW.out) HLD.out.1, pw_cell_below (below_drew BW.out) HLD.out.2.1, pw_cell_below (below_drew BW.out) HLD.out.2.2.1, pw_cell_below (below_drew BW.out) HLD.out.2.2.2.1, pw_cell_below (below_drew BW.out) HLD.out.2.2.2.2⟩) (h := fun hHeld => ?_)
              have X1d := Aside0.mk (blk_drew X1.out)
              have X4d := Aside0.mk (blk_drew X4.out)
              have Bd := Aside0.mk (below_drew BW.out)
              have Cd := Aside0.mk (below_drew (Below.refl w7.heap.size w7))
              generalize w7.drew = wd at X1d X4d Bd Cd hHeld ⊢
              refine p_ 0 71 (bb 32 1) (h := ?_)
              refine p_ 1 72 (bb 32 3) (h := ?_)
              refine p_ 2 73 (bb 32 7) (h := ?_)
              refine p_ 3 74 (bb 32 15) (h := ?_)
              refine t_ 4 75 (bb 32 31) hHeld (h := ?_)
              refine p_ 5 76 (bb 32 63) (h := ?_)
              refine p_ 6 77 (bb 32 127) (h := ?_)
              refine p_ 7 78 (bb 32 255) (h := ?_)
              refine p_ 8 79 (bb 32 511) (h := ?_)
              refine t_ 9 80 (bb 32 1023) hHeld (h := ?_)
              refine p_ 10 81 (bb 32 2047) (h := ?_)
              refine p_ 11 82 (bb 32 4095) (h := ?_)
              refine p_ 12 83 (bb 32 8191) (h := ?_)
              refine p_ 13 84 (bb 32 16383) (h := ?_)
              refine t_ 14 85 (bb 32 32767) hHeld (h := ?_)
              refine p_ 15 86 (bb 32 65535) (h := ?_)
              refine t_ 16 87 (bb 32 131071) hHeld (h := ?_)
              refine p_ 17 88 (bb 32 262143) (h := ?_)
              refine p_ 18 89 (bb 32 524287) (h := ?_)
              refine p_ 19 90 (bb 32 1048575) (h := ?_)
              refine o_ 20 91 (bb 32 2097151) (h := ?_)
              refine o_ 21 92 (bb 32 4194303) (h := ?_)
              refine o_ 22 93 (bb 32 8388607) (h := ?_)
              refine o_ 23 94 (bb 32 16777215) (h := ?_)
              refine o_ 24 95 (bb 32 33554431) (h := ?_)
              refine o_ 25 96 (bb 32 67108863) (h := ?_)
              refine o_ 26 97 (bb 32 134217727) (h := ?_)
              refine o_ 27 98 (bb 32 268435455) (h := ?_)
              refine o_ 28 99 (bb 32 536870911) (h := ?_)
              refine o_ 29 100 (bb 32 1073741823) (h := ?_)
              refine o_ 30 101 (bb 32 2147483647) (h := ?_)
              refine p_ 31 102 (bb 32 4294967295) (h := ?_)
              refine d_ (h := ?_)
              go_wp2
              go_meet
              exact ⟨false, rfl, ⟨by unfold bad9; rw [HLA.out]; simp only; rw [decide_eq_false (show ¬ (toM p).f1 = (toM m).f1 from HLV.out)]; simp⟩, Cd⟩
            ·
             have hl0t : (0 < m.f1) = False := eq_false hl0
             have HPOS := Aside0.mk hl0
             clear hl0
             as_aux_lemma =>
             refine s_ 32 [] (fun w' => w'.cell? ⟨g1, 1, none⟩ = some (.int .i64 a1) ∧ w'.cell? ⟨g1, 4, none⟩ = some (.slice (some ad) l.length c) ∧ w'.cell? ⟨g4, 0, none⟩ = some (.int .i64 m.f0) ∧ w'.cell? ⟨g4, 1, none⟩ = some (.int .i64 m.f1) ∧ w'.cell? ⟨g4, 2, none⟩ = some (.int .i64 m.f2) ∧ w'.cell? ⟨g4, 3, none⟩ = some (.slice M3 m.f3.length e3) ∧ w'.cell? ⟨g4, 4, none⟩ = some (.slice M4 m.f4.length e4) ∧ w'.cell? (ad.add (kp * 5)) = some (.int .i64 p.f0) ∧ w'.cell? ⟨(ad.add (kp * 5)).block, (ad.add (kp * 5)).off + 1, none⟩ = some (.int .i64 p.f1) ∧ w'.cell? ⟨(ad.add (kp * 5)).block, (ad.add (kp * 5)).off + 2, none⟩ = some (.int .i64 p.f2) ∧ w'.cell? ⟨(ad.add (kp * 5)).block, (ad.add (kp * 5)).off + 3, none⟩ = some (.slice L3 p.f3.length d3) ∧ w'.cell? ⟨(ad.add (kp * 5)).block, (ad.add (kp * 5)).off + 4, none⟩ = some (.slice L4 p.f4.length d4)) (hS := ⟨(blk_cell (blk_drew X1.out) 1).trans rfl, (blk_cell (blk_drew X1.out) 4).trans rfl, (blk_cell (blk_drew X4.out) 0).trans rfl, (blk_cell (blk_drew X4.out) 1).trans rfl, (blk_cell (blk_drew X4.out) 2).trans rfl, (blk_cell (blk_drew X4.out) 3).trans rfl, (blk_cell (blk_drew X4.out) 4).trans rfl, pw_cell_below (below_drew BW.out) HLD.out.1, pw_cell_below (below_drew BW.out) HLD.out.2.1, pw_cell_below (below_drew BW.out) HLD.out.2.2.1, pw_cell_below (below_drew BW.out) HLD.out.2.2.2.1, pw_cell_below (below_drew BW.out) HLD.out.2.2.2.2⟩) (h := fun hHeld => ?_)
             have X1d := Aside0.mk (blk_drew X1.out)
             have X4d := Aside0.mk (blk_drew X4.out)
             have Bd := Aside0.mk (below_drew BW.out)
             have Cd := Aside0.mk (below_drew (Below.refl w7.heap.size w7))
             generalize w7.drew = wd at X1d X4d Bd Cd hHeld ⊢
             refine p_ 0 71 (bb 32 1) (h := ?_)
             refine p_ 1 72 (bb 32 3) (h := ?_)
             refine p_ 2 73 (bb 32 7) (h := ?_)
             refine p_ 3 74 (bb 32 15) (h := ?_)
             refine t_ 4 75 (bb 32 31) hHeld (h := ?_)
             refine p_ 5 76 (bb 32 63) (h := ?_)
             refine p_ 6 77 (bb 32 127) (h := ?_)
             refine p_ 7 78 (bb 32 255) (h := ?_)
             refine o_ 8 79 (bb 32 511) (h := ?_)
             refine o_ 9 80 (bb 32 1023) (h := ?_)
             refine o_ 10 81 (bb 32 2047) (h := ?_)
             refine o_ 11 82 (bb 32 4095) (h := ?_)
             refine o_ 12 83 (bb 32 8191) (h := ?_)
             refine o_ 13 84 (bb 32 16383) (h := ?_)
             refine o_ 14 85 (bb 32 32767) (h := ?_)
             refine o_ 15 86 (bb 32 65535) (h := ?_)
             refine o_ 16 87 (bb 32 131071) (h := ?_)
             refine o_ 17 88 (bb 32 262143) (h := ?_)
             refine p_ 18 89 (bb 32 524287) (h := ?_)
             refine p_ 19 90 (bb 32 1048575) (h := ?_)
             refine o_ 20 91 (bb 32 2097151) (h := ?_)
             refine o_ 21 92 (bb 32 4194303) (h := ?_)
             refine o_ 22 93 (bb 32 8388607) (h := ?_)
             refine o_ 23 94 (bb 32 16777215) (h := ?_)
             refine o_ 24 95 (bb 32 33554431) (h := ?_)
             refine o_ 25 96 (bb 32 67108863) (h := ?_)
             refine o_ 26 97 (bb 32 134217727) (h := ?_)
             refine o_ 27 98 (bb 32 268435455) (h := ?_)
             refine o_ 28 99 (bb 32 536870911) (h := ?_)
             refine o_ 29 100 (bb 32 1073741823) (h := ?_)
             refine o_ 30 101 (bb 32 2147483647) (h := ?_)
             refine p_ 31 102 (bb 32 4294967295) (h := ?_)
             refine d_ (h := ?_)
             go_wp2
             go_meet
             exact ⟨false, rfl, ⟨by unfold bad9; rw [HLA.out]; simp only; rw [decide_eq_false (show ¬ 0 < (toM m).f1 from (by have h := HPOS.out; show ¬ 0 < m.f1; omega))]; rfl⟩, Cd⟩
          case rest =>
           obtain ⟨b9, rfl, HB9, HBC⟩ := hcut
           have Z1 := Aside0.mk (blk_below X1.out HBC.out)
           have Z4 := Aside0.mk (blk_below X4.out HBC.out)
           have BZ := Aside0.mk (below_step BW.out HBC.out)
           clear X1 X4 BW HBC
           cases b9 with
           | true =>
            as_aux_lemma =>
            have HR := Aside0.mk (show errB (checkB a0 a1 a2 a3 (l.map toM)) = 1 by rw [HCB.out, HNX.out, ← HB7.out, ← HB9.out]; simp [errB])
            go_wp2
            go_ret
            exact ⟨by rw [HR.out] <;> rfl, BZ.out⟩
           | false =>
            have HRM2 := HRM
            as_aux_lemma =>
            clear HRM
            go_wp2
            go_loopg [5] pre.length (fun kq v5 w' => ∃ pa pb : List S37, v5 = .int .i64 (pa.length : Int) ∧ Aside0 (kq = pb.length) ∧ Aside0 (pre = pa ++ pb ∧ (pa.any fun o => decide (o.f0 = m.f0)) = false) ∧ Aside0 (w'.heap[g1]? = some (.cells #[.int .i64 a0, .int .i64 a1, .int .i64 a2, .int .i64 a3, .slice (some ad) l.length c] 24 (0, 0))) ∧ Aside0 (w'.heap[g4]? = some (.cells #[.int .i64 m.f0, .int .i64 m.f1, .int .i64 m.f2, .slice M3 m.f3.length e3, .slice M4 m.f4.length e4] 37 (0, 0))) ∧ Aside0 (Below w.heap.size w w'))
            case atStart => exact ⟨[], pre, rfl, ⟨rfl⟩, ⟨rfl, rfl⟩, Z1, Z4, BZ⟩
            case round =>
             obtain ⟨pa, pb, rfl, HK2, HP2, Y1, Y4, BY⟩ := hrel
             cases gk with
             | zero =>
              have HPA := Aside0.mk (show pre = pa by rw [HP2.out.1, List.length_eq_zero_iff.1 HK2.out.symm, List.append_nil])
              have hlt2 : (pa.length < pre.length) = False := eq_false (by rw [HPA.out]; omega)
              have HN3 := Aside0.mk (show tabsB a1 [] (l.map toM) = tabsB a1 ((pre ++ [m]).map toM) (post'.map toM) by
               have h1 := HP2.out.2
               rw [← HPA.out] at h1
               rw [HNX.out, ← HB7.out, ← HB9.out, any_map, h1, List.map_append]; simp)
              go_wp2
              go_roundg k1
              case measure => exact Nat.lt_succ_self _
              case rel => exact ⟨pre ++ [m], post', by first | rfl | (rw [HWK.out, List.length_append]; rfl) | (rw [List.length_append]; rfl), ⟨by have h1 := HK.out; simp only [List.length_cons] at h1; omega⟩, ⟨HPX.out, HN3.out⟩, Y1, BY, ⟨fun p hp => (List.mem_append.1 hp).elim (HRP.out p) (fun hp => by rw [List.mem_singleton.1 hp]; exact HRM2.out)⟩⟩
             | succ k2 =>
              obtain ⟨o, pb', rfl⟩ : ∃ m p, pb = m :: p := by
               cases pb with
               | nil => exact absurd HK2.out (by simp)
               | cons m p => exact ⟨m, p, rfl⟩
              have hlt2 : (pa.length < pre.length) = True := eq_true (by rw [HP2.out.1]; simp)
              have hil : (pa.length < l.length) = True := eq_true (by have h1 := HPL.out; have h2 := congrArg List.length HP2.out.1; simp only [List.length_append, List.length_cons] at h2; omega)
              have HWA := Aside0.mk (wadd1 (x := pa.length) (z := pa.length + 1) rfl (by have h1 := HPL.out; have h2 := congrArg List.length HP2.out.1; simp only [List.length_append, List.length_cons] at h2; omega))
              obtain ⟨ad2, O3, o3, O4, o4, hA2, ho0, ho1, ho2, ho3, ho4, hE_⟩ := at_CR HC.out pa.length o (by rw [HPX.out, HP2.out.1]; simp)
              obtain rfl := Option.some.inj hA2
              clear hA2 ho1 ho2 ho3 ho4 hE_
              by_cases heq : o.f0 = m.f0
              ·
               as_aux_lemma =>
               have HR := Aside0.mk (show errB (checkB a0 a1 a2 a3 (l.map toM)) = 1 by
                have h1 : (pre.any fun o => decide (o.f0 = m.f0)) = true := by rw [HP2.out.1, List.any_append, List.any_cons, decide_eq_true heq]; simp
                rw [HCB.out, HNX.out, any_map, h1]; simp [errB])
               have hbq : ((o.f0) == (m.f0)) = true := by simpa using heq
               clear heq
               go_upto_region 14 with (fail)
               refine s_ 9 [] (fun w' => w'.cell? ⟨g1, 4, none⟩ = some (.slice (some ad) l.length c) ∧ w'.cell? ⟨g4, 0, none⟩ = some (.int .i64 m.f0) ∧ w'.cell? (ad.add (pa.length * 5)) = some (.int .i64 o.f0)) (hS := ⟨(blk_cell (blk_drew Y1.out) 4).trans rfl, (blk_cell (blk_drew Y4.out) 0).trans rfl, pw_cell_below (below_drew BY.out) ho0⟩) (h := fun hHeld => ?_)
               refine p_ 0 108 (bb 9 1) (h := ?_)
               refine t_ 1 109 (bb 9 3) hHeld (h := ?_)
               refine p_ 2 110 (bb 9 7) (h := ?_)
               refine p_ 3 111 (bb 9 15) (h := ?_)
               refine p_ 4 112 (bb 9 31) (h := ?_)
               refine t_ 5 113 (bb 9 63) hHeld (h := ?_)
               refine p_ 6 114 (bb 9 127) (h := ?_)
               refine t_ 7 115 (bb 9 255) hHeld (h := ?_)
               refine p_ 8 116 (bb 9 511) (h := ?_)
               refine d_ (h := ?_)
               clear hHeld
               go_wp2
               go_ret
               exact ⟨by rw [HR.out] <;> rfl, below_drew BY.out⟩
              ·
               as_aux_lemma =>
               have HNA := Aside0.mk (show ((pa ++ [o]).any fun o => decide (o.f0 = m.f0)) = false by rw [List.any_append, HP2.out.2, List.any_cons, decide_eq_false heq]; rfl)
               have hbq : ((o.f0) == (m.f0)) = false := by simpa using heq
               clear heq
               go_upto_region 14 with (fail)
               refine s_ 9 [] (fun w' => w'.cell? ⟨g1, 4, none⟩ = some (.slice (some ad) l.length c) ∧ w'.cell? ⟨g4, 0, none⟩ = some (.int .i64 m.f0) ∧ w'.cell? (ad.add (pa.length * 5)) = some (.int .i64 o.f0)) (hS := ⟨(blk_cell (blk_drew Y1.out) 4).trans rfl, (blk_cell (blk_drew Y4.out) 0).trans rfl, pw_cell_below (below_drew BY.out) ho0⟩) (h := fun hHeld => ?_)
               refine p_ 0 108 (bb 9 1) (h := ?_)
               refine t_ 1 109 (bb 9 3) hHeld (h := ?_)
               refine p_ 2 110 (bb 9 7) (h := ?_)
               refine p_ 3 111 (bb 9 15) (h := ?_)
               refine p_ 4 112 (bb 9 31) (h := ?_)
               refine t_ 5 113 (bb 9 63) hHeld (h := ?_)
               refine p_ 6 114 (bb 9 127) (h := ?_)
               refine t_ 7 115 (bb 9 255) hHeld (h := ?_)
               refine p_ 8 116 (bb 9 511) (h := ?_)
               refine d_ (h := ?_)
               clear hHeld
               go_wp2
               go_roundg k2
               case measure => exact Nat.lt_succ_self _
               case rel => exact ⟨pa ++ [o], pb', by first | rfl | (rw [HWA.out, List.length_append]; rfl) | (rw [List.length_append]; rfl), ⟨by have h1 := HK2.out; simp only [List.length_cons] at h1; omega⟩, ⟨by rw [HP2.out.1]; simp, HNA.out⟩, ⟨blk_drew Y1.out⟩, ⟨blk_drew Y4.out⟩, ⟨below_drew BY.out⟩⟩
     ·
      as_aux_lemma =>
      have HR := Aside0.mk (show errB (checkB a0 a1 a2 a3 (l.map toM)) = 1 by unfold checkB; rw [h0, h1, h2, h3, List.length_map, decide_eq_false hlen]; simp [errB])
      have H0 := Aside0.mk h0
      clear h0
      have H1 := Aside0.mk h1
      clear h1
      have H2 := Aside0.mk h2
      clear h2
      have H3 := Aside0.mk h3
      clear h3
      have hgt : ((4096 : Int) < (l.length : Int)) = True := eq_true (by omega)
      clear hlen
      go_enter Try.func42, Try.ntmps42
      go_wp2_with (first
       | ((with_reducible refine gate_dst (N := 1) rfl ?_); (try (refine gate_guard (by rfl) ?_; dsimp only)); refine box_event ?hg (N := 1) ?hd (cs := #[.int .i64 a0, .int .i64 a1, .int .i64 a2, .int .i64 a3, .slice A l.length c]) (t := 24) ?hr ?_; (case hd => rfl); (case hg => rfl); (case hr => first | (go_simp; done) | (go_simp; rfl)); intro g1 hqg1 w1 hxg1 hbg1; have n_ := Aside0.mk hqg1; clear hqg1; have hqg1 := n_; clear n_; have n_ := Aside0.mk hxg1; clear hxg1; have hxg1 := n_; clear n_; have n_ := Aside0.mk hbg1; clear hbg1; have hbg1 := n_; clear n_; have HX1 := Aside0.mk (hxg1.out); have HB1 := Aside0.mk (hbg1.out); have hca0 : w1.cell? ⟨g1, 0, none⟩ = some (.int .i64 a0) := (blk_cell HX1.out 0).trans rfl; have hca1 : w1.cell? ⟨g1, 1, none⟩ = some (.int .i64 a1) := (blk_cell HX1.out 1).trans rfl; have hca2 : w1.cell? ⟨g1, 2, none⟩ = some (.int .i64 a2) := (blk_cell HX1.out 2).trans rfl; have hca3 : w1.cell? ⟨g1, 3, none⟩ = some (.int .i64 a3) := (blk_cell HX1.out 3).trans rfl; have hca4 : w1.cell? ⟨g1, 4, none⟩ = some (.slice A l.length c) := (blk_cell HX1.out 4).trans rfl)
       | ((with_reducible refine gate_dst (N := 8) rfl ?_); (try (refine gate_guard (by rfl) ?_; dsimp only)); refine goesL_ (some 8) rfl rfl Try.func60 (by kernel_rfl) rfl #[.int .i64 a0] rfl (by (try simp only [List.map_toArray, List.map_cons, List.map_nil]); first | done | rfl) ?_; refine (sawyerref10_in.calls a0 true _ (by rw [in_r, H0.out])).mono ?_; rintro ex w2 ⟨rfl, hd⟩; refine ⟨_, rfl, ?_⟩; have HBI := Aside0.mk (hd.below); clear hd; have HX2 := Aside0.mk (blk_below HX1.out HBI.out); have HB2 := Aside0.mk (below_step HB1.out HBI.out); clear HBI; have hcb0 : w2.cell? ⟨g1, 0, none⟩ = some (.int .i64 a0) := (blk_cell HX2.out 0).trans rfl; have hcb1 : w2.cell? ⟨g1, 1, none⟩ = some (.int .i64 a1) := (blk_cell HX2.out 1).trans rfl; have hcb2 : w2.cell? ⟨g1, 2, none⟩ = some (.int .i64 a2) := (blk_cell HX2.out 2).trans rfl; have hcb3 : w2.cell? ⟨g1, 3, none⟩ = some (.int .i64 a3) := (blk_cell HX2.out 3).trans rfl; have hcb4 : w2.cell? ⟨g1, 4, none⟩ = some (.slice A l.length c) := (blk_cell HX2.out 4).trans rfl)
       | ((with_reducible refine gate_dst (N := 13) rfl ?_); (try (refine gate_guard (by rfl) ?_; dsimp only)); refine goesL_ (some 13) rfl rfl Try.func60 (by kernel_rfl) rfl #[.int .i64 a1] rfl (by (try simp only [List.map_toArray, List.map_cons, List.map_nil]); first | done | rfl) ?_; refine (sawyerref10_in.calls a1 true _ (by rw [in_r, H1.out])).mono ?_; rintro ex w3 ⟨rfl, hd⟩; refine ⟨_, rfl, ?_⟩; have HBI := Aside0.mk (hd.below); clear hd; have HX3 := Aside0.mk (blk_below HX2.out HBI.out); have HB3 := Aside0.mk (below_step HB2.out HBI.out); clear HBI; have hcc0 : w3.cell? ⟨g1, 0, none⟩ = some (.int .i64 a0) := (blk_cell HX3.out 0).trans rfl; have hcc1 : w3.cell? ⟨g1, 1, none⟩ = some (.int .i64 a1) := (blk_cell HX3.out 1).trans rfl; have hcc2 : w3.cell? ⟨g1, 2, none⟩ = some (.int .i64 a2) := (blk_cell HX3.out 2).trans rfl; have hcc3 : w3.cell? ⟨g1, 3, none⟩ = some (.int .i64 a3) := (blk_cell HX3.out 3).trans rfl; have hcc4 : w3.cell? ⟨g1, 4, none⟩ = some (.slice A l.length c) := (blk_cell HX3.out 4).trans rfl)
       | ((with_reducible refine gate_dst (N := 19) rfl ?_); (try (refine gate_guard (by rfl) ?_; dsimp only)); refine goesL_ (some 19) rfl rfl Try.func60 (by kernel_rfl) rfl #[.int .i64 a2] rfl (by (try simp only [List.map_toArray, List.map_cons, List.map_nil]); first | done | rfl) ?_; refine (sawyerref10_in.calls a2 true _ (by rw [in_r, H2.out])).mono ?_; rintro ex w4 ⟨rfl, hd⟩; refine ⟨_, rfl, ?_⟩; have HBI := Aside0.mk (hd.below); clear hd; have HX4 := Aside0.mk (blk_below HX3.out HBI.out); have HB4 := Aside0.mk (below_step HB3.out HBI.out); clear HBI; have hcd0 : w4.cell? ⟨g1, 0, none⟩ = some (.int .i64 a0) := (blk_cell HX4.out 0).trans rfl; have hcd1 : w4.cell? ⟨g1, 1, none⟩ = some (.int .i64 a1) := (blk_cell HX4.out 1).trans rfl; have hcd2 : w4.cell? ⟨g1, 2, none⟩ = some (.int .i64 a2) := (blk_cell HX4.out 2).trans rfl; have hcd3 : w4.cell? ⟨g1, 3, none⟩ = some (.int .i64 a3) := (blk_cell HX4.out 3).trans rfl; have hcd4 : w4.cell? ⟨g1, 4, none⟩ = some (.slice A l.length c) := (blk_cell HX4.out 4).trans rfl)
       | ((with_reducible refine gate_dst (N := 25) rfl ?_); (try (refine gate_guard (by rfl) ?_; dsimp only)); refine goesL_ (some 25) rfl rfl Try.func60 (by kernel_rfl) rfl #[.int .i64 a3] rfl (by (try simp only [List.map_toArray, List.map_cons, List.map_nil]); first | done | rfl) ?_; refine (sawyerref10_in.calls a3 true _ (by rw [in_r, H3.out])).mono ?_; rintro ex w5 ⟨rfl, hd⟩; refine ⟨_, rfl, ?_⟩; have HBI := Aside0.mk (hd.below); clear hd; have HX5 := Aside0.mk (blk_below HX4.out HBI.out); have HB5 := Aside0.mk (below_step HB4.out HBI.out); clear HBI; have hce0 : w5.cell? ⟨g1, 0, none⟩ = some (.int .i64 a0) := (blk_cell HX5.out 0).trans rfl; have hce1 : w5.cell? ⟨g1, 1, none⟩ = some (.int .i64 a1) := (blk_cell HX5.out 1).trans rfl; have hce2 : w5.cell? ⟨g1, 2, none⟩ = some (.int .i64 a2) := (blk_cell HX5.out 2).trans rfl; have hce3 : w5.cell? ⟨g1, 3, none⟩ = some (.int .i64 a3) := (blk_cell HX5.out 3).trans rfl; have hce4 : w5.cell? ⟨g1, 4, none⟩ = some (.slice A l.length c) := (blk_cell HX5.out 4).trans rfl))
      go_ret
      exact ⟨by rw [HR.out] <;> rfl, HB5.out⟩
end Go.Proofs.Ythpklhkibcenoaa.Sk
