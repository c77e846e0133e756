-- Printed by a program of ours (px) out of the translation; Lean checks it.
import Derived.Test.YthpklhkibcenoaaPx0
namespace Go.Proofs.Ythpklhkibcenoaa.Px
open Go.RowKit Go.Proofs.YthpklhkibcenoaaW.PrintWords Go.Proofs.YthpklhkibcenoaaW.PrintLast Go.Proofs.YthpklhkibcenoaaW.PrintMore
attribute [local go_sem] max2_int min2_int max_two min_two max_three min_three max_four min_four   -- for this text's walks alone
set_option linter.unusedVariables false
set_option linter.unusedSimpArgs false
set_option linter.unnecessarySimpa false

/-! ### sawyerref10_SameMetas: function 14 -/
def sawyerref10_SameMetas.l0 : Nat → List (S37) → List (S37) → Int → Option (Bool)
 | 0, _, _, _ => none
 | k + 1, x0, x1, x5 => if x5 < (x0.length : Int) then (if 0 ≤ x5 then (if x5 < (x1.length : Int) then (if ((rd_T37 x0 x5).f0) = ((rd_T37 x1 x5).f0) then (if ((rd_T37 x0 x5).f1) = ((rd_T37 x1 x5).f1) then (if ((rd_T37 x0 x5).f2) = ((rd_T37 x1 x5).f2) then (if (strOfNums ((rd_T37 x0 x5).f3)).toList = (strOfNums ((rd_T37 x1 x5).f3)).toList then (if (strOfNums ((rd_T37 x0 x5).f4)).toList = (strOfNums ((rd_T37 x1 x5).f4)).toList then (sawyerref10_SameMetas.l0 k x0 x1 (wrap64 (x5 + 1))) else (some false)) else (some false)) else (some false)) else (some false)) else (some false)) else (none)) else (none)) else (some true)
def sawyerref10_SameMetas.f (k : Nat) (l0 : List (S37)) (l1 : List (S37)) : Option (Bool) := if (l0.length : Int) = (l1.length : Int) then (sawyerref10_SameMetas.l0 k l0 l1 0) else (some false)
theorem sawyerref10_SameMetas.mono_l : ∀ k, (∀ y0 y1 y2, LeO (sawyerref10_SameMetas.l0 k y0 y1 y2) (sawyerref10_SameMetas.l0 (k + 1) y0 y1 y2))
 | 0 => fun _ _ _ r h => by simp [sawyerref10_SameMetas.l0] at h
 | k + 1 => by
  have ih0 := sawyerref10_SameMetas.mono_l k
  ·
   intro y0 y1 y2
   unfold sawyerref10_SameMetas.l0
   repeat' first
   | (with_reducible exact ih0 _ _ _)
   | (with_reducible exact LeO.refl _)
   | (with_reducible exact LeO.none _)
   | (with_reducible refine LeO.ite ?_ ?_)
   | (with_reducible refine LeO.bind ?_ (fun _ => ?_))
   | exact ih0 _ _ _
   | exact LeO.none _
   | refine LeO.ite ?_ ?_
   | refine LeO.bind ?_ (fun _ => ?_)
theorem sawyerref10_SameMetas.mono : ∀ a0 a1 k, LeO (sawyerref10_SameMetas.f k a0 a1) (sawyerref10_SameMetas.f (k + 1) a0 a1) := by
 intro a0 a1 k
 have ih0 := sawyerref10_SameMetas.mono_l k
 unfold sawyerref10_SameMetas.f
 repeat' first
   | (with_reducible exact ih0 _ _ _)
   | (with_reducible exact LeO.refl _)
   | (with_reducible exact LeO.none _)
   | (with_reducible refine LeO.ite ?_ ?_)
   | (with_reducible refine LeO.bind ?_ (fun _ => ?_))
   | exact ih0 _ _ _
   | exact LeO.none _
   | refine LeO.ite ?_ ?_
   | refine LeO.bind ?_ (fun _ => ?_)
set_option maxHeartbeats 8000000 in
set_option maxRecDepth 100000 in
theorem sawyerref10_SameMetas.calls (k : Nat) (A0 : Option Addr) (c0 : Nat) (l0 : List (S37)) (A1 : Option Addr) (c1 : Nat) (l1 : List (S37)) (r : Bool) (w : World) (hr0 : Kd.C k37 w A0 l0.length l0) (hc0 : l0.length ≤ c0) (hr1 : Kd.C k37 w A1 l1.length l1) (hc1 : l1.length ≤ c1) (h : sawyerref10_SameMetas.f k l0 l1 = some r) :
  Calls Try.prog 14 #[.slice A0 l0.length c0, .slice A1 l1.length c1] w fun e w' => e = .returned (.bool r) ∧ Drawn0 w w' := by
 have HR0 := Aside0.mk hr0
 have HC0 := Aside0.mk hc0
 clear hr0 hc0
 have HR1 := Aside0.mk hr1
 have HC1 := Aside0.mk hc1
 clear hr1 hc1
 have H : (if (l0.length : Int) = (l1.length : Int) then (sawyerref10_SameMetas.l0 k l0 l1 0) else (some false)) = some r := h
 clear h
 by_cases c3 : (l0.length : Int) = (l1.length : Int)
 ·
  rw [if_pos c3] at H
  have c3b0 : ((l0.length : Int) == (l1.length : Int)) = true := beq_iff_eq.mpr c3
  have c3b1 : ((l0.length : Int) != (l1.length : Int)) = false := bne_eq_false_iff_eq.mpr c3
  have c3b2 : (l0.length == l1.length) = true := by first | simpa using c3 | (simp at c3 ⊢; omega)
  clear c3
  have H' := Aside0.mk H
  clear H
  go_enter Try.func14, Try.ntmps14
  go_wp2
  repeat (go_quiet (fail); try go_wp2)
  go_loopg [5] k (fun kq v5 w' => ∃ (x5_1 : Int), v5 = .int .i64 x5_1 ∧ Aside0 (sawyerref10_SameMetas.l0 kq l0 l1 x5_1 = some r) ∧ Aside0 (kq ≤ k) ∧ Drawn0 w w')
  case atStart => exact ⟨(0), (by first | rfl | (simp; done) | (simp [*]; done)), H', ⟨Nat.le_refl _⟩, by repeat (first | exact Drawn0.refl _ | apply Drawn0.step)⟩
  case round =>
   clear H'
   try clear c1
   try clear p2
   try clear c3
   try clear c3b0
   try clear c3b1
   try clear c3b2
   obtain ⟨x5_1, rfl, HA, HK1, ⟨m1, rfl⟩⟩ := hrel
   cases gk with
   | zero => exact absurd HA.out (by simp [sawyerref10_SameMetas.l0])
   | succ k1 =>
    have H := HA.out
    clear HA
    simp only [sawyerref10_SameMetas.l0] at H
    by_cases c4 : x5_1 < (l0.length : Int)
    ·
     rw [if_pos c4] at H
     have c4b0 : decide (x5_1 < (l0.length : Int)) = true := decide_eq_true c4
     clear c4
     by_cases c5 : 0 ≤ x5_1
     ·
      rw [if_pos c5] at H
      have c5b0 : decide (0 ≤ x5_1) = true := decide_eq_true c5
      clear c5
      by_cases c6 : x5_1 < (l1.length : Int)
      ·
       rw [if_pos c6] at H
       have c6b0 : decide (x5_1 < (l1.length : Int)) = true := decide_eq_true c6
       clear c6
       by_cases c7 : ((rd_T37 l0 x5_1).f0) = ((rd_T37 l1 x5_1).f0)
       ·
        rw [if_pos c7] at H
        have c7b0 : (((rd_T37 l0 x5_1).f0) == ((rd_T37 l1 x5_1).f0)) = true := beq_iff_eq.mpr c7
        have c7b1 : (((rd_T37 l0 x5_1).f0) != ((rd_T37 l1 x5_1).f0)) = false := bne_eq_false_iff_eq.mpr c7
        clear c7
        by_cases c8 : ((rd_T37 l0 x5_1).f1) = ((rd_T37 l1 x5_1).f1)
        ·
         rw [if_pos c8] at H
         have c8b0 : (((rd_T37 l0 x5_1).f1) == ((rd_T37 l1 x5_1).f1)) = true := beq_iff_eq.mpr c8
         have c8b1 : (((rd_T37 l0 x5_1).f1) != ((rd_T37 l1 x5_1).f1)) = false := bne_eq_false_iff_eq.mpr c8
         clear c8
         by_cases c9 : ((rd_T37 l0 x5_1).f2) = ((rd_T37 l1 x5_1).f2)
         ·
          rw [if_pos c9] at H
          have c9b0 : (((rd_T37 l0 x5_1).f2) == ((rd_T37 l1 x5_1).f2)) = true := beq_iff_eq.mpr c9
          have c9b1 : (((rd_T37 l0 x5_1).f2) != ((rd_T37 l1 x5_1).f2)) = false := bne_eq_false_iff_eq.mpr c9
          clear c9
          by_cases c10 : (strOfNums ((rd_T37 l0 x5_1).f3)).toList = (strOfNums ((rd_T37 l1 x5_1).f3)).toList
          ·
           rw [if_pos c10] at H
           have c10b0 : ((strOfNums ((rd_T37 l0 x5_1).f3)).toList == (strOfNums ((rd_T37 l1 x5_1).f3)).toList) = true := beq_iff_eq.mpr c10
           have c10b1 : ((strOfNums ((rd_T37 l0 x5_1).f3)).toList != (strOfNums ((rd_T37 l1 x5_1).f3)).toList) = false := bne_eq_false_iff_eq.mpr c10
           clear c10
           by_cases c11 : (strOfNums ((rd_T37 l0 x5_1).f4)).toList = (strOfNums ((rd_T37 l1 x5_1).f4)).toList
           ·
            rw [if_pos c11] at H
            have c11b0 : ((strOfNums ((rd_T37 l0 x5_1).f4)).toList == (strOfNums ((rd_T37 l1 x5_1).f4)).toList) = true := beq_iff_eq.mpr c11
            have c11b1 : ((strOfNums ((rd_T37 l0 x5_1).f4)).toList != (strOfNums ((rd_T37 l1 x5_1).f4)).toList) = false := bne_eq_false_iff_eq.mpr c11
            clear c11
            have H' := Aside0.mk H
            clear H
            have p164 : 0 ≤ (x5_1 : Int) := of_decide_eq_true (by first | (with_reducible assumption) | assumption)
            have q164 : x5_1 < (l0.length : Int) := of_decide_eq_true (by first | (with_reducible assumption) | assumption)
            obtain ⟨ad164, A164_3, c164_3, A164_4, c164_4, e164, hx164_0, hx164_1, hx164_2, hx164_3, hx164_4, hl164_3, hi164_3, hl164_4, hi164_4⟩ := at_T37 HR0.out x5_1 p164 q164
            cases e164
            have HR164_3 := Aside0.mk hi164_3
            have HC164_3 := Aside0.mk hl164_3
            clear hi164_3 hl164_3
            have HR164_4 := Aside0.mk hi164_4
            have HC164_4 := Aside0.mk hl164_4
            clear hi164_4 hl164_4
            replace p164 := eq_true p164
            replace q164 := eq_true q164
            have p165 : 0 ≤ (x5_1 : Int) := of_decide_eq_true (by first | (with_reducible assumption) | assumption)
            have q165 : x5_1 < (l1.length : Int) := of_decide_eq_true (by first | (with_reducible assumption) | assumption)
            obtain ⟨ad165, A165_3, c165_3, A165_4, c165_4, e165, hx165_0, hx165_1, hx165_2, hx165_3, hx165_4, hl165_3, hi165_3, hl165_4, hi165_4⟩ := at_T37 HR1.out x5_1 p165 q165
            cases e165
            have HR165_3 := Aside0.mk hi165_3
            have HC165_3 := Aside0.mk hl165_3
            clear hi165_3 hl165_3
            have HR165_4 := Aside0.mk hi165_4
            have HC165_4 := Aside0.mk hl165_4
            clear hi165_4 hl165_4
            replace p165 := eq_true p165
            replace q165 := eq_true q165
            have p166 : 0 ≤ (x5_1 : Int) := of_decide_eq_true (by first | (with_reducible assumption) | assumption)
            have q166 : x5_1 < (l0.length : Int) := of_decide_eq_true (by first | (with_reducible assumption) | assumption)
            obtain ⟨ad166, A166_3, c166_3, A166_4, c166_4, e166, hx166_0, hx166_1, hx166_2, hx166_3, hx166_4, hl166_3, hi166_3, hl166_4, hi166_4⟩ := at_T37 HR0.out x5_1 p166 q166
            obtain rfl : ad164 = ad166 := (by injection e166)
            have HR166_3 := Aside0.mk hi166_3
            have HC166_3 := Aside0.mk hl166_3
            clear hi166_3 hl166_3
            have HR166_4 := Aside0.mk hi166_4
            have HC166_4 := Aside0.mk hl166_4
            clear hi166_4 hl166_4
            replace p166 := eq_true p166
            replace q166 := eq_true q166
            have ea_ := Option.some.inj (hx164_3.symm.trans hx166_3)
            injection ea_ with ea_ en_ ec_
            subst ea_
            subst ec_
            clear en_
            have ea_ := Option.some.inj (hx164_4.symm.trans hx166_4)
            injection ea_ with ea_ en_ ec_
            subst ea_
            subst ec_
            clear en_
            have p167 : 0 ≤ (x5_1 : Int) := of_decide_eq_true (by first | (with_reducible assumption) | assumption)
            have q167 : x5_1 < (l1.length : Int) := of_decide_eq_true (by first | (with_reducible assumption) | assumption)
            obtain ⟨ad167, A167_3, c167_3, A167_4, c167_4, e167, hx167_0, hx167_1, hx167_2, hx167_3, hx167_4, hl167_3, hi167_3, hl167_4, hi167_4⟩ := at_T37 HR1.out x5_1 p167 q167
            obtain rfl : ad165 = ad167 := (by injection e167)
            have HR167_3 := Aside0.mk hi167_3
            have HC167_3 := Aside0.mk hl167_3
            clear hi167_3 hl167_3
            have HR167_4 := Aside0.mk hi167_4
            have HC167_4 := Aside0.mk hl167_4
            clear hi167_4 hl167_4
            replace p167 := eq_true p167
            replace q167 := eq_true q167
            have ea_ := Option.some.inj (hx165_3.symm.trans hx167_3)
            injection ea_ with ea_ en_ ec_
            subst ea_
            subst ec_
            clear en_
            have ea_ := Option.some.inj (hx165_4.symm.trans hx167_4)
            injection ea_ with ea_ en_ ec_
            subst ea_
            subst ec_
            clear en_
            have p168 : 0 ≤ (x5_1 : Int) := of_decide_eq_true (by first | (with_reducible assumption) | assumption)
            have q168 : x5_1 < (l0.length : Int) := of_decide_eq_true (by first | (with_reducible assumption) | assumption)
            obtain ⟨ad168, A168_3, c168_3, A168_4, c168_4, e168, hx168_0, hx168_1, hx168_2, hx168_3, hx168_4, hl168_3, hi168_3, hl168_4, hi168_4⟩ := at_T37 HR0.out x5_1 p168 q168
            obtain rfl : ad164 = ad168 := (by injection e168)
            have HR168_3 := Aside0.mk hi168_3
            have HC168_3 := Aside0.mk hl168_3
            clear hi168_3 hl168_3
            have HR168_4 := Aside0.mk hi168_4
            have HC168_4 := Aside0.mk hl168_4
            clear hi168_4 hl168_4
            replace p168 := eq_true p168
            replace q168 := eq_true q168
            have ea_ := Option.some.inj (hx164_3.symm.trans hx168_3)
            injection ea_ with ea_ en_ ec_
            subst ea_
            subst ec_
            clear en_
            have ea_ := Option.some.inj (hx164_4.symm.trans hx168_4)
            injection ea_ with ea_ en_ ec_
            subst ea_
            subst ec_
            clear en_
            have p169 : 0 ≤ (x5_1 : Int) := of_decide_eq_true (by first | (with_reducible assumption) | assumption)
            have q169 : x5_1 < (l1.length : Int) := of_decide_eq_true (by first | (with_reducible assumption) | assumption)
            obtain ⟨ad169, A169_3, c169_3, A169_4, c169_4, e169, hx169_0, hx169_1, hx169_2, hx169_3, hx169_4, hl169_3, hi169_3, hl169_4, hi169_4⟩ := at_T37 HR1.out x5_1 p169 q169
            obtain rfl : ad165 = ad169 := (by injection e169)
            have HR169_3 := Aside0.mk hi169_3
            have HC169_3 := Aside0.mk hl169_3
            clear hi169_3 hl169_3
            have HR169_4 := Aside0.mk hi169_4
            have HC169_4 := Aside0.mk hl169_4
            clear hi169_4 hl169_4
            replace p169 := eq_true p169
            replace q169 := eq_true q169
            have ea_ := Option.some.inj (hx165_3.symm.trans hx169_3)
            injection ea_ with ea_ en_ ec_
            subst ea_
            subst ec_
            clear en_
            have ea_ := Option.some.inj (hx165_4.symm.trans hx169_4)
            injection ea_ with ea_ en_ ec_
            subst ea_
            subst ec_
            clear en_
            have p170 : 0 ≤ (x5_1 : Int) := of_decide_eq_true (by first | (with_reducible assumption) | assumption)
            have q170 : x5_1 < (l0.length : Int) := of_decide_eq_true (by first | (with_reducible assumption) | assumption)
            obtain ⟨ad170, A170_3, c170_3, A170_4, c170_4, e170, hx170_0, hx170_1, hx170_2, hx170_3, hx170_4, hl170_3, hi170_3, hl170_4, hi170_4⟩ := at_T37 HR0.out x5_1 p170 q170
            obtain rfl : ad164 = ad170 := (by injection e170)
            have HR170_3 := Aside0.mk hi170_3
            have HC170_3 := Aside0.mk hl170_3
            clear hi170_3 hl170_3
            have HR170_4 := Aside0.mk hi170_4
            have HC170_4 := Aside0.mk hl170_4
            clear hi170_4 hl170_4
            replace p170 := eq_true p170
            replace q170 := eq_true q170
            have ea_ := Option.some.inj (hx164_3.symm.trans hx170_3)
            injection ea_ with ea_ en_ ec_
            subst ea_
            subst ec_
            clear en_
            have ea_ := Option.some.inj (hx164_4.symm.trans hx170_4)
            injection ea_ with ea_ en_ ec_
            subst ea_
            subst ec_
            clear en_
            have hcv12 := Kd.C_string (P := Try.prog) (A := A164_3) (c := c164_3) Try.underlying35 Try.underlying5 Try.underlying9 HR170_3.out
            have hcw12 := fun n_ : Nat => Kd.C_string (P := Try.prog) (A := A164_3) (c := c164_3) Try.underlying35 Try.underlying5 Try.underlying9 (Kd.C_drewN (HR170_3.out) n_)
            have p171 : 0 ≤ (x5_1 : Int) := of_decide_eq_true (by first | (with_reducible assumption) | assumption)
            have q171 : x5_1 < (l1.length : Int) := of_decide_eq_true (by first | (with_reducible assumption) | assumption)
            obtain ⟨ad171, A171_3, c171_3, A171_4, c171_4, e171, hx171_0, hx171_1, hx171_2, hx171_3, hx171_4, hl171_3, hi171_3, hl171_4, hi171_4⟩ := at_T37 HR1.out x5_1 p171 q171
            obtain rfl : ad165 = ad171 := (by injection e171)
            have HR171_3 := Aside0.mk hi171_3
            have HC171_3 := Aside0.mk hl171_3
            clear hi171_3 hl171_3
            have HR171_4 := Aside0.mk hi171_4
            have HC171_4 := Aside0.mk hl171_4
            clear hi171_4 hl171_4
            replace p171 := eq_true p171
            replace q171 := eq_true q171
            have ea_ := Option.some.inj (hx165_3.symm.trans hx171_3)
            injection ea_ with ea_ en_ ec_
            subst ea_
            subst ec_
            clear en_
            have ea_ := Option.some.inj (hx165_4.symm.trans hx171_4)
            injection ea_ with ea_ en_ ec_
            subst ea_
            subst ec_
            clear en_
            have hcv13 := Kd.C_string (P := Try.prog) (A := A165_3) (c := c165_3) Try.underlying35 Try.underlying5 Try.underlying9 HR171_3.out
            have hcw13 := fun n_ : Nat => Kd.C_string (P := Try.prog) (A := A165_3) (c := c165_3) Try.underlying35 Try.underlying5 Try.underlying9 (Kd.C_drewN (HR171_3.out) n_)
            have p172 : 0 ≤ (x5_1 : Int) := of_decide_eq_true (by first | (with_reducible assumption) | assumption)
            have q172 : x5_1 < (l0.length : Int) := of_decide_eq_true (by first | (with_reducible assumption) | assumption)
            obtain ⟨ad172, A172_3, c172_3, A172_4, c172_4, e172, hx172_0, hx172_1, hx172_2, hx172_3, hx172_4, hl172_3, hi172_3, hl172_4, hi172_4⟩ := at_T37 HR0.out x5_1 p172 q172
            obtain rfl : ad164 = ad172 := (by injection e172)
            have HR172_3 := Aside0.mk hi172_3
            have HC172_3 := Aside0.mk hl172_3
            clear hi172_3 hl172_3
            have HR172_4 := Aside0.mk hi172_4
            have HC172_4 := Aside0.mk hl172_4
            clear hi172_4 hl172_4
            replace p172 := eq_true p172
            replace q172 := eq_true q172
            have ea_ := Option.some.inj (hx164_3.symm.trans hx172_3)
            injection ea_ with ea_ en_ ec_
            subst ea_
            subst ec_
            clear en_
            have ea_ := Option.some.inj (hx164_4.symm.trans hx172_4)
            injection ea_ with ea_ en_ ec_
            subst ea_
            subst ec_
            clear en_
            have hcv14 := Kd.C_string (P := Try.prog) (A := A164_4) (c := c164_4) Try.underlying35 Try.underlying5 Try.underlying9 HR172_4.out
            have hcw14 := fun n_ : Nat => Kd.C_string (P := Try.prog) (A := A164_4) (c := c164_4) Try.underlying35 Try.underlying5 Try.underlying9 (Kd.C_drewN (HR172_4.out) n_)
            have p173 : 0 ≤ (x5_1 : Int) := of_decide_eq_true (by first | (with_reducible assumption) | assumption)
            have q173 : x5_1 < (l1.length : Int) := of_decide_eq_true (by first | (with_reducible assumption) | assumption)
            obtain ⟨ad173, A173_3, c173_3, A173_4, c173_4, e173, hx173_0, hx173_1, hx173_2, hx173_3, hx173_4, hl173_3, hi173_3, hl173_4, hi173_4⟩ := at_T37 HR1.out x5_1 p173 q173
            obtain rfl : ad165 = ad173 := (by injection e173)
            have HR173_3 := Aside0.mk hi173_3
            have HC173_3 := Aside0.mk hl173_3
            clear hi173_3 hl173_3
            have HR173_4 := Aside0.mk hi173_4
            have HC173_4 := Aside0.mk hl173_4
            clear hi173_4 hl173_4
            replace p173 := eq_true p173
            replace q173 := eq_true q173
            have ea_ := Option.some.inj (hx165_3.symm.trans hx173_3)
            injection ea_ with ea_ en_ ec_
            subst ea_
            subst ec_
            clear en_
            have ea_ := Option.some.inj (hx165_4.symm.trans hx173_4)
            injection ea_ with ea_ en_ ec_
            subst ea_
            subst ec_
            clear en_
            have hcv15 := Kd.C_string (P := Try.prog) (A := A165_4) (c := c165_4) Try.underlying35 Try.underlying5 Try.underlying9 HR173_4.out
            have hcw15 := fun n_ : Nat => Kd.C_string (P := Try.prog) (A := A165_4) (c := c165_4) Try.underlying35 Try.underlying5 Try.underlying9 (Kd.C_drewN (HR173_4.out) n_)
            go_wp2
            repeat (go_quiet (fail); try go_wp2)
            go_roundg k1
            case measure => have := HK1.out; omega
            case rel => exact ⟨(wrap64 (x5_1 + 1)), (by first | rfl | (simp; done) | (simp [*]; done)), H', ⟨by have := HK1.out; omega⟩, by repeat (first | exact Drawn0.refl _ | apply Drawn0.step)⟩
           ·
            rw [if_neg c11] at H
            have c11b0 : ((strOfNums ((rd_T37 l0 x5_1).f4)).toList == (strOfNums ((rd_T37 l1 x5_1).f4)).toList) = false := beq_eq_false_iff_ne.mpr c11
            have c11b1 : ((strOfNums ((rd_T37 l0 x5_1).f4)).toList != (strOfNums ((rd_T37 l1 x5_1).f4)).toList) = true := bne_iff_ne.mpr c11
            obtain rfl := Option.some.inj H
            have p164 : 0 ≤ (x5_1 : Int) := of_decide_eq_true (by first | (with_reducible assumption) | assumption)
            have q164 : x5_1 < (l0.length : Int) := of_decide_eq_true (by first | (with_reducible assumption) | assumption)
            obtain ⟨ad164, A164_3, c164_3, A164_4, c164_4, e164, hx164_0, hx164_1, hx164_2, hx164_3, hx164_4, hl164_3, hi164_3, hl164_4, hi164_4⟩ := at_T37 HR0.out x5_1 p164 q164
            cases e164
            have HR164_3 := Aside0.mk hi164_3
            have HC164_3 := Aside0.mk hl164_3
            clear hi164_3 hl164_3
            have HR164_4 := Aside0.mk hi164_4
            have HC164_4 := Aside0.mk hl164_4
            clear hi164_4 hl164_4
            replace p164 := eq_true p164
            replace q164 := eq_true q164
            have p165 : 0 ≤ (x5_1 : Int) := of_decide_eq_true (by first | (with_reducible assumption) | assumption)
            have q165 : x5_1 < (l1.length : Int) := of_decide_eq_true (by first | (with_reducible assumption) | assumption)
            obtain ⟨ad165, A165_3, c165_3, A165_4, c165_4, e165, hx165_0, hx165_1, hx165_2, hx165_3, hx165_4, hl165_3, hi165_3, hl165_4, hi165_4⟩ := at_T37 HR1.out x5_1 p165 q165
            cases e165
            have HR165_3 := Aside0.mk hi165_3
            have HC165_3 := Aside0.mk hl165_3
            clear hi165_3 hl165_3
            have HR165_4 := Aside0.mk hi165_4
            have HC165_4 := Aside0.mk hl165_4
            clear hi165_4 hl165_4
            replace p165 := eq_true p165
            replace q165 := eq_true q165
            have p166 : 0 ≤ (x5_1 : Int) := of_decide_eq_true (by first | (with_reducible assumption) | assumption)
            have q166 : x5_1 < (l0.length : Int) := of_decide_eq_true (by first | (with_reducible assumption) | assumption)
            obtain ⟨ad166, A166_3, c166_3, A166_4, c166_4, e166, hx166_0, hx166_1, hx166_2, hx166_3, hx166_4, hl166_3, hi166_3, hl166_4, hi166_4⟩ := at_T37 HR0.out x5_1 p166 q166
            obtain rfl : ad164 = ad166 := (by injection e166)
            have HR166_3 := Aside0.mk hi166_3
            have HC166_3 := Aside0.mk hl166_3
            clear hi166_3 hl166_3
            have HR166_4 := Aside0.mk hi166_4
            have HC166_4 := Aside0.mk hl166_4
            clear hi166_4 hl166_4
            replace p166 := eq_true p166
            replace q166 := eq_true q166
            have ea_ := Option.some.inj (hx164_3.symm.trans hx166_3)
            injection ea_ with ea_ en_ ec_
            subst ea_
            subst ec_
            clear en_
            have ea_ := Option.some.inj (hx164_4.symm.trans hx166_4)
            injection ea_ with ea_ en_ ec_
            subst ea_
            subst ec_
            clear en_
            have p167 : 0 ≤ (x5_1 : Int) := of_decide_eq_true (by first | (with_reducible assumption) | assumption)
            have q167 : x5_1 < (l1.length : Int) := of_decide_eq_true (by first | (with_reducible assumption) | assumption)
            obtain ⟨ad167, A167_3, c167_3, A167_4, c167_4, e167, hx167_0, hx167_1, hx167_2, hx167_3, hx167_4, hl167_3, hi167_3, hl167_4, hi167_4⟩ := at_T37 HR1.out x5_1 p167 q167
            obtain rfl : ad165 = ad167 := (by injection e167)
            have HR167_3 := Aside0.mk hi167_3
            have HC167_3 := Aside0.mk hl167_3
            clear hi167_3 hl167_3
            have HR167_4 := Aside0.mk hi167_4
            have HC167_4 := Aside0.mk hl167_4
            clear hi167_4 hl167_4
            replace p167 := eq_true p167
            replace q167 := eq_true q167
            have ea_ := Option.some.inj (hx165_3.symm.trans hx167_3)
            injection ea_ with ea_ en_ ec_
            subst ea_
            subst ec_
            clear en_
            have ea_ := Option.some.inj (hx165_4.symm.trans hx167_4)
            injection ea_ with ea_ en_ ec_
            subst ea_
            subst ec_
            clear en_
            have p168 : 0 ≤ (x5_1 : Int) := of_decide_eq_true (by first | (with_reducible assumption) | assumption)
            have q168 : x5_1 < (l0.length : Int) := of_decide_eq_true (by first | (with_reducible assumption) | assumption)
            obtain ⟨ad168, A168_3, c168_3, A168_4, c168_4, e168, hx168_0, hx168_1, hx168_2, hx168_3, hx168_4, hl168_3, hi168_3, hl168_4, hi168_4⟩ := at_T37 HR0.out x5_1 p168 q168
            obtain rfl : ad164 = ad168 := (by injection e168)
            have HR168_3 := Aside0.mk hi168_3
            have HC168_3 := Aside0.mk hl168_3
            clear hi168_3 hl168_3
            have HR168_4 := Aside0.mk hi168_4
            have HC168_4 := Aside0.mk hl168_4
            clear hi168_4 hl168_4
            replace p168 := eq_true p168
            replace q168 := eq_true q168
            have ea_ := Option.some.inj (hx164_3.symm.trans hx168_3)
            injection ea_ with ea_ en_ ec_
            subst ea_
            subst ec_
            clear en_
            have ea_ := Option.some.inj (hx164_4.symm.trans hx168_4)
            injection ea_ with ea_ en_ ec_
            subst ea_
            subst ec_
            clear en_
            have p169 : 0 ≤ (x5_1 : Int) := of_decide_eq_true (by first | (with_reducible assumption) | assumption)
            have q169 : x5_1 < (l1.length : Int) := of_decide_eq_true (by first | (with_reducible assumption) | assumption)
            obtain ⟨ad169, A169_3, c169_3, A169_4, c169_4, e169, hx169_0, hx169_1, hx169_2, hx169_3, hx169_4, hl169_3, hi169_3, hl169_4, hi169_4⟩ := at_T37 HR1.out x5_1 p169 q169
            obtain rfl : ad165 = ad169 := (by injection e169)
            have HR169_3 := Aside0.mk hi169_3
            have HC169_3 := Aside0.mk hl169_3
            clear hi169_3 hl169_3
            have HR169_4 := Aside0.mk hi169_4
            have HC169_4 := Aside0.mk hl169_4
            clear hi169_4 hl169_4
            replace p169 := eq_true p169
            replace q169 := eq_true q169
            have ea_ := Option.some.inj (hx165_3.symm.trans hx169_3)
            injection ea_ with ea_ en_ ec_
            subst ea_
            subst ec_
            clear en_
            have ea_ := Option.some.inj (hx165_4.symm.trans hx169_4)
            injection ea_ with ea_ en_ ec_
            subst ea_
            subst ec_
            clear en_
            have p170 : 0 ≤ (x5_1 : Int) := of_decide_eq_true (by first | (with_reducible assumption) | assumption)
            have q170 : x5_1 < (l0.length : Int) := of_decide_eq_true (by first | (with_reducible assumption) | assumption)
            obtain ⟨ad170, A170_3, c170_3, A170_4, c170_4, e170, hx170_0, hx170_1, hx170_2, hx170_3, hx170_4, hl170_3, hi170_3, hl170_4, hi170_4⟩ := at_T37 HR0.out x5_1 p170 q170
            obtain rfl : ad164 = ad170 := (by injection e170)
            have HR170_3 := Aside0.mk hi170_3
            have HC170_3 := Aside0.mk hl170_3
            clear hi170_3 hl170_3
            have HR170_4 := Aside0.mk hi170_4
            have HC170_4 := Aside0.mk hl170_4
            clear hi170_4 hl170_4
            replace p170 := eq_true p170
            replace q170 := eq_true q170
            have ea_ := Option.some.inj (hx164_3.symm.trans hx170_3)
            injection ea_ with ea_ en_ ec_
            subst ea_
            subst ec_
            clear en_
            have ea_ := Option.some.inj (hx164_4.symm.trans hx170_4)
            injection ea_ with ea_ en_ ec_
            subst ea_
            subst ec_
            clear en_
            have hcv16 := Kd.C_string (P := Try.prog) (A := A164_3) (c := c164_3) Try.underlying35 Try.underlying5 Try.underlying9 HR170_3.out
            have hcw16 := fun n_ : Nat => Kd.C_string (P := Try.prog) (A := A164_3) (c := c164_3) Try.underlying35 Try.underlying5 Try.underlying9 (Kd.C_drewN (HR170_3.out) n_)
            have p171 : 0 ≤ (x5_1 : Int) := of_decide_eq_true (by first | (with_reducible assumption) | assumption)
            have q171 : x5_1 < (l1.length : Int) := of_decide_eq_true (by first | (with_reducible assumption) | assumption)
            obtain ⟨ad171, A171_3, c171_3, A171_4, c171_4, e171, hx171_0, hx171_1, hx171_2, hx171_3, hx171_4, hl171_3, hi171_3, hl171_4, hi171_4⟩ := at_T37 HR1.out x5_1 p171 q171
            obtain rfl : ad165 = ad171 := (by injection e171)
            have HR171_3 := Aside0.mk hi171_3
            have HC171_3 := Aside0.mk hl171_3
            clear hi171_3 hl171_3
            have HR171_4 := Aside0.mk hi171_4
            have HC171_4 := Aside0.mk hl171_4
            clear hi171_4 hl171_4
            replace p171 := eq_true p171
            replace q171 := eq_true q171
            have ea_ := Option.some.inj (hx165_3.symm.trans hx171_3)
            injection ea_ with ea_ en_ ec_
            subst ea_
            subst ec_
            clear en_
            have ea_ := Option.some.inj (hx165_4.symm.trans hx171_4)
            injection ea_ with ea_ en_ ec_
            subst ea_
            subst ec_
            clear en_
            have hcv17 := Kd.C_string (P := Try.prog) (A := A165_3) (c := c165_3) Try.underlying35 Try.underlying5 Try.underlying9 HR171_3.out
            have hcw17 := fun n_ : Nat => Kd.C_string (P := Try.prog) (A := A165_3) (c := c165_3) Try.underlying35 Try.underlying5 Try.underlying9 (Kd.C_drewN (HR171_3.out) n_)
            have p172 : 0 ≤ (x5_1 : Int) := of_decide_eq_true (by first | (with_reducible assumption) | assumption)
            have q172 : x5_1 < (l0.length : Int) := of_decide_eq_true (by first | (with_reducible assumption) | assumption)
            obtain ⟨ad172, A172_3, c172_3, A172_4, c172_4, e172, hx172_0, hx172_1, hx172_2, hx172_3, hx172_4, hl172_3, hi172_3, hl172_4, hi172_4⟩ := at_T37 HR0.out x5_1 p172 q172
            obtain rfl : ad164 = ad172 := (by injection e172)
            have HR172_3 := Aside0.mk hi172_3
            have HC172_3 := Aside0.mk hl172_3
            clear hi172_3 hl172_3
            have HR172_4 := Aside0.mk hi172_4
            have HC172_4 := Aside0.mk hl172_4
            clear hi172_4 hl172_4
            replace p172 := eq_true p172
            replace q172 := eq_true q172
            have ea_ := Option.some.inj (hx164_3.symm.trans hx172_3)
            injection ea_ with ea_ en_ ec_
            subst ea_
            subst ec_
            clear en_
            have ea_ := Option.some.inj (hx164_4.symm.trans hx172_4)
            injection ea_ with ea_ en_ ec_
            subst ea_
            subst ec_
            clear en_
            have hcv18 := Kd.C_string (P := Try.prog) (A := A164_4) (c := c164_4) Try.underlying35 Try.underlying5 Try.underlying9 HR172_4.out
            have hcw18 := fun n_ : Nat => Kd.C_string (P := Try.prog) (A := A164_4) (c := c164_4) Try.underlying35 Try.underlying5 Try.underlying9 (Kd.C_drewN (HR172_4.out) n_)
            have p173 : 0 ≤ (x5_1 : Int) := of_decide_eq_true (by first | (with_reducible assumption) | assumption)
            have q173 : x5_1 < (l1.length : Int) := of_decide_eq_true (by first | (with_reducible assumption) | assumption)
            obtain ⟨ad173, A173_3, c173_3, A173_4, c173_4, e173, hx173_0, hx173_1, hx173_2, hx173_3, hx173_4, hl173_3, hi173_3, hl173_4, hi173_4⟩ := at_T37 HR1.out x5_1 p173 q173
            obtain rfl : ad165 = ad173 := (by injection e173)
            have HR173_3 := Aside0.mk hi173_3
            have HC173_3 := Aside0.mk hl173_3
            clear hi173_3 hl173_3
            have HR173_4 := Aside0.mk hi173_4
            have HC173_4 := Aside0.mk hl173_4
            clear hi173_4 hl173_4
            replace p173 := eq_true p173
            replace q173 := eq_true q173
            have ea_ := Option.some.inj (hx165_3.symm.trans hx173_3)
            injection ea_ with ea_ en_ ec_
            subst ea_
            subst ec_
            clear en_
            have ea_ := Option.some.inj (hx165_4.symm.trans hx173_4)
            injection ea_ with ea_ en_ ec_
            subst ea_
            subst ec_
            clear en_
            have hcv19 := Kd.C_string (P := Try.prog) (A := A165_4) (c := c165_4) Try.underlying35 Try.underlying5 Try.underlying9 HR173_4.out
            have hcw19 := fun n_ : Nat => Kd.C_string (P := Try.prog) (A := A165_4) (c := c165_4) Try.underlying35 Try.underlying5 Try.underlying9 (Kd.C_drewN (HR173_4.out) n_)
            go_wp2
            repeat (go_quiet (fail); try go_wp2)
            go_ret
            exact ⟨by first | rfl | (simp; done) | (simp [*]; done), by repeat (first | exact Drawn0.refl _ | apply Drawn0.step)⟩
          ·
           rw [if_neg c10] at H
           have c10b0 : ((strOfNums ((rd_T37 l0 x5_1).f3)).toList == (strOfNums ((rd_T37 l1 x5_1).f3)).toList) = false := beq_eq_false_iff_ne.mpr c10
           have c10b1 : ((strOfNums ((rd_T37 l0 x5_1).f3)).toList != (strOfNums ((rd_T37 l1 x5_1).f3)).toList) = true := bne_iff_ne.mpr c10
           obtain rfl := Option.some.inj H
           have p164 : 0 ≤ (x5_1 : Int) := of_decide_eq_true (by first | (with_reducible assumption) | assumption)
           have q164 : x5_1 < (l0.length : Int) := of_decide_eq_true (by first | (with_reducible assumption) | assumption)
           obtain ⟨ad164, A164_3, c164_3, A164_4, c164_4, e164, hx164_0, hx164_1, hx164_2, hx164_3, hx164_4, hl164_3, hi164_3, hl164_4, hi164_4⟩ := at_T37 HR0.out x5_1 p164 q164
           cases e164
           have HR164_3 := Aside0.mk hi164_3
           have HC164_3 := Aside0.mk hl164_3
           clear hi164_3 hl164_3
           have HR164_4 := Aside0.mk hi164_4
           have HC164_4 := Aside0.mk hl164_4
           clear hi164_4 hl164_4
           replace p164 := eq_true p164
           replace q164 := eq_true q164
           have p165 : 0 ≤ (x5_1 : Int) := of_decide_eq_true (by first | (with_reducible assumption) | assumption)
           have q165 : x5_1 < (l1.length : Int) := of_decide_eq_true (by first | (with_reducible assumption) | assumption)
           obtain ⟨ad165, A165_3, c165_3, A165_4, c165_4, e165, hx165_0, hx165_1, hx165_2, hx165_3, hx165_4, hl165_3, hi165_3, hl165_4, hi165_4⟩ := at_T37 HR1.out x5_1 p165 q165
           cases e165
           have HR165_3 := Aside0.mk hi165_3
           have HC165_3 := Aside0.mk hl165_3
           clear hi165_3 hl165_3
           have HR165_4 := Aside0.mk hi165_4
           have HC165_4 := Aside0.mk hl165_4
           clear hi165_4 hl165_4
           replace p165 := eq_true p165
           replace q165 := eq_true q165
           have p166 : 0 ≤ (x5_1 : Int) := of_decide_eq_true (by first | (with_reducible assumption) | assumption)
           have q166 : x5_1 < (l0.length : Int) := of_decide_eq_true (by first | (with_reducible assumption) | assumption)
           obtain ⟨ad166, A166_3, c166_3, A166_4, c166_4, e166, hx166_0, hx166_1, hx166_2, hx166_3, hx166_4, hl166_3, hi166_3, hl166_4, hi166_4⟩ := at_T37 HR0.out x5_1 p166 q166
           obtain rfl : ad164 = ad166 := (by injection e166)
           have HR166_3 := Aside0.mk hi166_3
           have HC166_3 := Aside0.mk hl166_3
           clear hi166_3 hl166_3
           have HR166_4 := Aside0.mk hi166_4
           have HC166_4 := Aside0.mk hl166_4
           clear hi166_4 hl166_4
           replace p166 := eq_true p166
           replace q166 := eq_true q166
           have ea_ := Option.some.inj (hx164_3.symm.trans hx166_3)
           injection ea_ with ea_ en_ ec_
           subst ea_
           subst ec_
           clear en_
           have ea_ := Option.some.inj (hx164_4.symm.trans hx166_4)
           injection ea_ with ea_ en_ ec_
           subst ea_
           subst ec_
           clear en_
           have p167 : 0 ≤ (x5_1 : Int) := of_decide_eq_true (by first | (with_reducible assumption) | assumption)
           have q167 : x5_1 < (l1.length : Int) := of_decide_eq_true (by first | (with_reducible assumption) | assumption)
           obtain ⟨ad167, A167_3, c167_3, A167_4, c167_4, e167, hx167_0, hx167_1, hx167_2, hx167_3, hx167_4, hl167_3, hi167_3, hl167_4, hi167_4⟩ := at_T37 HR1.out x5_1 p167 q167
           obtain rfl : ad165 = ad167 := (by injection e167)
           have HR167_3 := Aside0.mk hi167_3
           have HC167_3 := Aside0.mk hl167_3
           clear hi167_3 hl167_3
           have HR167_4 := Aside0.mk hi167_4
           have HC167_4 := Aside0.mk hl167_4
           clear hi167_4 hl167_4
           replace p167 := eq_true p167
           replace q167 := eq_true q167
           have ea_ := Option.some.inj (hx165_3.symm.trans hx167_3)
           injection ea_ with ea_ en_ ec_
           subst ea_
           subst ec_
           clear en_
           have ea_ := Option.some.inj (hx165_4.symm.trans hx167_4)
           injection ea_ with ea_ en_ ec_
           subst ea_
           subst ec_
           clear en_
           have p168 : 0 ≤ (x5_1 : Int) := of_decide_eq_true (by first | (with_reducible assumption) | assumption)
           have q168 : x5_1 < (l0.length : Int) := of_decide_eq_true (by first | (with_reducible assumption) | assumption)
           obtain ⟨ad168, A168_3, c168_3, A168_4, c168_4, e168, hx168_0, hx168_1, hx168_2, hx168_3, hx168_4, hl168_3, hi168_3, hl168_4, hi168_4⟩ := at_T37 HR0.out x5_1 p168 q168
           obtain rfl : ad164 = ad168 := (by injection e168)
           have HR168_3 := Aside0.mk hi168_3
           have HC168_3 := Aside0.mk hl168_3
           clear hi168_3 hl168_3
           have HR168_4 := Aside0.mk hi168_4
           have HC168_4 := Aside0.mk hl168_4
           clear hi168_4 hl168_4
           replace p168 := eq_true p168
           replace q168 := eq_true q168
           have ea_ := Option.some.inj (hx164_3.symm.trans hx168_3)
           injection ea_ with ea_ en_ ec_
           subst ea_
           subst ec_
           clear en_
           have ea_ := Option.some.inj (hx164_4.symm.trans hx168_4)
           injection ea_ with ea_ en_ ec_
           subst ea_
           subst ec_
           clear en_
           have p169 : 0 ≤ (x5_1 : Int) := of_decide_eq_true (by first | (with_reducible assumption) | assumption)
           have q169 : x5_1 < (l1.length : Int) := of_decide_eq_true (by first | (with_reducible assumption) | assumption)
           obtain ⟨ad169, A169_3, c169_3, A169_4, c169_4, e169, hx169_0, hx169_1, hx169_2, hx169_3, hx169_4, hl169_3, hi169_3, hl169_4, hi169_4⟩ := at_T37 HR1.out x5_1 p169 q169
           obtain rfl : ad165 = ad169 := (by injection e169)
           have HR169_3 := Aside0.mk hi169_3
           have HC169_3 := Aside0.mk hl169_3
           clear hi169_3 hl169_3
           have HR169_4 := Aside0.mk hi169_4
           have HC169_4 := Aside0.mk hl169_4
           clear hi169_4 hl169_4
           replace p169 := eq_true p169
           replace q169 := eq_true q169
           have ea_ := Option.some.inj (hx165_3.symm.trans hx169_3)
           injection ea_ with ea_ en_ ec_
           subst ea_
           subst ec_
           clear en_
           have ea_ := Option.some.inj (hx165_4.symm.trans hx169_4)
           injection ea_ with ea_ en_ ec_
           subst ea_
           subst ec_
           clear en_
           have p170 : 0 ≤ (x5_1 : Int) := of_decide_eq_true (by first | (with_reducible assumption) | assumption)
           have q170 : x5_1 < (l0.length : Int) := of_decide_eq_true (by first | (with_reducible assumption) | assumption)
           obtain ⟨ad170, A170_3, c170_3, A170_4, c170_4, e170, hx170_0, hx170_1, hx170_2, hx170_3, hx170_4, hl170_3, hi170_3, hl170_4, hi170_4⟩ := at_T37 HR0.out x5_1 p170 q170
           obtain rfl : ad164 = ad170 := (by injection e170)
           have HR170_3 := Aside0.mk hi170_3
           have HC170_3 := Aside0.mk hl170_3
           clear hi170_3 hl170_3
           have HR170_4 := Aside0.mk hi170_4
           have HC170_4 := Aside0.mk hl170_4
           clear hi170_4 hl170_4
           replace p170 := eq_true p170
           replace q170 := eq_true q170
           have ea_ := Option.some.inj (hx164_3.symm.trans hx170_3)
           injection ea_ with ea_ en_ ec_
           subst ea_
           subst ec_
           clear en_
           have ea_ := Option.some.inj (hx164_4.symm.trans hx170_4)
           injection ea_ with ea_ en_ ec_
           subst ea_
           subst ec_
           clear en_
           have hcv20 := Kd.C_string (P := Try.prog) (A := A164_3) (c := c164_3) Try.underlying35 Try.underlying5 Try.underlying9 HR170_3.out
           have hcw20 := fun n_ : Nat => Kd.C_string (P := Try.prog) (A := A164_3) (c := c164_3) Try.underlying35 Try.underlying5 Try.underlying9 (Kd.C_drewN (HR170_3.out) n_)
           have p171 : 0 ≤ (x5_1 : Int) := of_decide_eq_true (by first | (with_reducible assumption) | assumption)
           have q171 : x5_1 < (l1.length : Int) := of_decide_eq_true (by first | (with_reducible assumption) | assumption)
           obtain ⟨ad171, A171_3, c171_3, A171_4, c171_4, e171, hx171_0, hx171_1, hx171_2, hx171_3, hx171_4, hl171_3, hi171_3, hl171_4, hi171_4⟩ := at_T37 HR1.out x5_1 p171 q171
           obtain rfl : ad165 = ad171 := (by injection e171)
           have HR171_3 := Aside0.mk hi171_3
           have HC171_3 := Aside0.mk hl171_3
           clear hi171_3 hl171_3
           have HR171_4 := Aside0.mk hi171_4
           have HC171_4 := Aside0.mk hl171_4
           clear hi171_4 hl171_4
           replace p171 := eq_true p171
           replace q171 := eq_true q171
           have ea_ := Option.some.inj (hx165_3.symm.trans hx171_3)
           injection ea_ with ea_ en_ ec_
           subst ea_
           subst ec_
           clear en_
           have ea_ := Option.some.inj (hx165_4.symm.trans hx171_4)
           injection ea_ with ea_ en_ ec_
           subst ea_
           subst ec_
           clear en_
           have hcv21 := Kd.C_string (P := Try.prog) (A := A165_3) (c := c165_3) Try.underlying35 Try.underlying5 Try.underlying9 HR171_3.out
           have hcw21 := fun n_ : Nat => Kd.C_string (P := Try.prog) (A := A165_3) (c := c165_3) Try.underlying35 Try.underlying5 Try.underlying9 (Kd.C_drewN (HR171_3.out) n_)
           go_wp2
           repeat (go_quiet (fail); try go_wp2)
           go_ret
           exact ⟨by first | rfl | (simp; done) | (simp [*]; done), by repeat (first | exact Drawn0.refl _ | apply Drawn0.step)⟩
         ·
          rw [if_neg c9] at H
          have c9b0 : (((rd_T37 l0 x5_1).f2) == ((rd_T37 l1 x5_1).f2)) = false := beq_eq_false_iff_ne.mpr c9
          have c9b1 : (((rd_T37 l0 x5_1).f2) != ((rd_T37 l1 x5_1).f2)) = true := bne_iff_ne.mpr c9
          obtain rfl := Option.some.inj H
          have p164 : 0 ≤ (x5_1 : Int) := of_decide_eq_true (by first | (with_reducible assumption) | assumption)
          have q164 : x5_1 < (l0.length : Int) := of_decide_eq_true (by first | (with_reducible assumption) | assumption)
          obtain ⟨ad164, A164_3, c164_3, A164_4, c164_4, e164, hx164_0, hx164_1, hx164_2, hx164_3, hx164_4, hl164_3, hi164_3, hl164_4, hi164_4⟩ := at_T37 HR0.out x5_1 p164 q164
          cases e164
          have HR164_3 := Aside0.mk hi164_3
          have HC164_3 := Aside0.mk hl164_3
          clear hi164_3 hl164_3
          have HR164_4 := Aside0.mk hi164_4
          have HC164_4 := Aside0.mk hl164_4
          clear hi164_4 hl164_4
          replace p164 := eq_true p164
          replace q164 := eq_true q164
          have p165 : 0 ≤ (x5_1 : Int) := of_decide_eq_true (by first | (with_reducible assumption) | assumption)
          have q165 : x5_1 < (l1.length : Int) := of_decide_eq_true (by first | (with_reducible assumption) | assumption)
          obtain ⟨ad165, A165_3, c165_3, A165_4, c165_4, e165, hx165_0, hx165_1, hx165_2, hx165_3, hx165_4, hl165_3, hi165_3, hl165_4, hi165_4⟩ := at_T37 HR1.out x5_1 p165 q165
          cases e165
          have HR165_3 := Aside0.mk hi165_3
          have HC165_3 := Aside0.mk hl165_3
          clear hi165_3 hl165_3
          have HR165_4 := Aside0.mk hi165_4
          have HC165_4 := Aside0.mk hl165_4
          clear hi165_4 hl165_4
          replace p165 := eq_true p165
          replace q165 := eq_true q165
          have p166 : 0 ≤ (x5_1 : Int) := of_decide_eq_true (by first | (with_reducible assumption) | assumption)
          have q166 : x5_1 < (l0.length : Int) := of_decide_eq_true (by first | (with_reducible assumption) | assumption)
          obtain ⟨ad166, A166_3, c166_3, A166_4, c166_4, e166, hx166_0, hx166_1, hx166_2, hx166_3, hx166_4, hl166_3, hi166_3, hl166_4, hi166_4⟩ := at_T37 HR0.out x5_1 p166 q166
          obtain rfl : ad164 = ad166 := (by injection e166)
          have HR166_3 := Aside0.mk hi166_3
          have HC166_3 := Aside0.mk hl166_3
          clear hi166_3 hl166_3
          have HR166_4 := Aside0.mk hi166_4
          have HC166_4 := Aside0.mk hl166_4
          clear hi166_4 hl166_4
          replace p166 := eq_true p166
          replace q166 := eq_true q166
          have ea_ := Option.some.inj (hx164_3.symm.trans hx166_3)
          injection ea_ with ea_ en_ ec_
          subst ea_
          subst ec_
          clear en_
          have ea_ := Option.some.inj (hx164_4.symm.trans hx166_4)
          injection ea_ with ea_ en_ ec_
          subst ea_
          subst ec_
          clear en_
          have p167 : 0 ≤ (x5_1 : Int) := of_decide_eq_true (by first | (with_reducible assumption) | assumption)
          have q167 : x5_1 < (l1.length : Int) := of_decide_eq_true (by first | (with_reducible assumption) | assumption)
          obtain ⟨ad167, A167_3, c167_3, A167_4, c167_4, e167, hx167_0, hx167_1, hx167_2, hx167_3, hx167_4, hl167_3, hi167_3, hl167_4, hi167_4⟩ := at_T37 HR1.out x5_1 p167 q167
          obtain rfl : ad165 = ad167 := (by injection e167)
          have HR167_3 := Aside0.mk hi167_3
          have HC167_3 := Aside0.mk hl167_3
          clear hi167_3 hl167_3
          have HR167_4 := Aside0.mk hi167_4
          have HC167_4 := Aside0.mk hl167_4
          clear hi167_4 hl167_4
          replace p167 := eq_true p167
          replace q167 := eq_true q167
          have ea_ := Option.some.inj (hx165_3.symm.trans hx167_3)
          injection ea_ with ea_ en_ ec_
          subst ea_
          subst ec_
          clear en_
          have ea_ := Option.some.inj (hx165_4.symm.trans hx167_4)
          injection ea_ with ea_ en_ ec_
          subst ea_
          subst ec_
          clear en_
          have p168 : 0 ≤ (x5_1 : Int) := of_decide_eq_true (by first | (with_reducible assumption) | assumption)
          have q168 : x5_1 < (l0.length : Int) := of_decide_eq_true (by first | (with_reducible assumption) | assumption)
          obtain ⟨ad168, A168_3, c168_3, A168_4, c168_4, e168, hx168_0, hx168_1, hx168_2, hx168_3, hx168_4, hl168_3, hi168_3, hl168_4, hi168_4⟩ := at_T37 HR0.out x5_1 p168 q168
          obtain rfl : ad164 = ad168 := (by injection e168)
          have HR168_3 := Aside0.mk hi168_3
          have HC168_3 := Aside0.mk hl168_3
          clear hi168_3 hl168_3
          have HR168_4 := Aside0.mk hi168_4
          have HC168_4 := Aside0.mk hl168_4
          clear hi168_4 hl168_4
          replace p168 := eq_true p168
          replace q168 := eq_true q168
          have ea_ := Option.some.inj (hx164_3.symm.trans hx168_3)
          injection ea_ with ea_ en_ ec_
          subst ea_
          subst ec_
          clear en_
          have ea_ := Option.some.inj (hx164_4.symm.trans hx168_4)
          injection ea_ with ea_ en_ ec_
          subst ea_
          subst ec_
          clear en_
          have p169 : 0 ≤ (x5_1 : Int) := of_decide_eq_true (by first | (with_reducible assumption) | assumption)
          have q169 : x5_1 < (l1.length : Int) := of_decide_eq_true (by first | (with_reducible assumption) | assumption)
          obtain ⟨ad169, A169_3, c169_3, A169_4, c169_4, e169, hx169_0, hx169_1, hx169_2, hx169_3, hx169_4, hl169_3, hi169_3, hl169_4, hi169_4⟩ := at_T37 HR1.out x5_1 p169 q169
          obtain rfl : ad165 = ad169 := (by injection e169)
          have HR169_3 := Aside0.mk hi169_3
          have HC169_3 := Aside0.mk hl169_3
          clear hi169_3 hl169_3
          have HR169_4 := Aside0.mk hi169_4
          have HC169_4 := Aside0.mk hl169_4
          clear hi169_4 hl169_4
          replace p169 := eq_true p169
          replace q169 := eq_true q169
          have ea_ := Option.some.inj (hx165_3.symm.trans hx169_3)
          injection ea_ with ea_ en_ ec_
          subst ea_
          subst ec_
          clear en_
          have ea_ := Option.some.inj (hx165_4.symm.trans hx169_4)
          injection ea_ with ea_ en_ ec_
          subst ea_
          subst ec_
          clear en_
          go_wp2
          repeat (go_quiet (fail); try go_wp2)
          go_ret
          exact ⟨by first | rfl | (simp; done) | (simp [*]; done), by repeat (first | exact Drawn0.refl _ | apply Drawn0.step)⟩
        ·
         rw [if_neg c8] at H
         have c8b0 : (((rd_T37 l0 x5_1).f1) == ((rd_T37 l1 x5_1).f1)) = false := beq_eq_false_iff_ne.mpr c8
         have c8b1 : (((rd_T37 l0 x5_1).f1) != ((rd_T37 l1 x5_1).f1)) = true := bne_iff_ne.mpr c8
         obtain rfl := Option.some.inj H
         have p164 : 0 ≤ (x5_1 : Int) := of_decide_eq_true (by first | (with_reducible assumption) | assumption)
         have q164 : x5_1 < (l0.length : Int) := of_decide_eq_true (by first | (with_reducible assumption) | assumption)
         obtain ⟨ad164, A164_3, c164_3, A164_4, c164_4, e164, hx164_0, hx164_1, hx164_2, hx164_3, hx164_4, hl164_3, hi164_3, hl164_4, hi164_4⟩ := at_T37 HR0.out x5_1 p164 q164
         cases e164
         have HR164_3 := Aside0.mk hi164_3
         have HC164_3 := Aside0.mk hl164_3
         clear hi164_3 hl164_3
         have HR164_4 := Aside0.mk hi164_4
         have HC164_4 := Aside0.mk hl164_4
         clear hi164_4 hl164_4
         replace p164 := eq_true p164
         replace q164 := eq_true q164
         have p165 : 0 ≤ (x5_1 : Int) := of_decide_eq_true (by first | (with_reducible assumption) | assumption)
         have q165 : x5_1 < (l1.length : Int) := of_decide_eq_true (by first | (with_reducible assumption) | assumption)
         obtain ⟨ad165, A165_3, c165_3, A165_4, c165_4, e165, hx165_0, hx165_1, hx165_2, hx165_3, hx165_4, hl165_3, hi165_3, hl165_4, hi165_4⟩ := at_T37 HR1.out x5_1 p165 q165
         cases e165
         have HR165_3 := Aside0.mk hi165_3
         have HC165_3 := Aside0.mk hl165_3
         clear hi165_3 hl165_3
         have HR165_4 := Aside0.mk hi165_4
         have HC165_4 := Aside0.mk hl165_4
         clear hi165_4 hl165_4
         replace p165 := eq_true p165
         replace q165 := eq_true q165
         have p166 : 0 ≤ (x5_1 : Int) := of_decide_eq_true (by first | (with_reducible assumption) | assumption)
         have q166 : x5_1 < (l0.length : Int) := of_decide_eq_true (by first | (with_reducible assumption) | assumption)
         obtain ⟨ad166, A166_3, c166_3, A166_4, c166_4, e166, hx166_0, hx166_1, hx166_2, hx166_3, hx166_4, hl166_3, hi166_3, hl166_4, hi166_4⟩ := at_T37 HR0.out x5_1 p166 q166
         obtain rfl : ad164 = ad166 := (by injection e166)
         have HR166_3 := Aside0.mk hi166_3
         have HC166_3 := Aside0.mk hl166_3
         clear hi166_3 hl166_3
         have HR166_4 := Aside0.mk hi166_4
         have HC166_4 := Aside0.mk hl166_4
         clear hi166_4 hl166_4
         replace p166 := eq_true p166
         replace q166 := eq_true q166
         have ea_ := Option.some.inj (hx164_3.symm.trans hx166_3)
         injection ea_ with ea_ en_ ec_
         subst ea_
         subst ec_
         clear en_
         have ea_ := Option.some.inj (hx164_4.symm.trans hx166_4)
         injection ea_ with ea_ en_ ec_
         subst ea_
         subst ec_
         clear en_
         have p167 : 0 ≤ (x5_1 : Int) := of_decide_eq_true (by first | (with_reducible assumption) | assumption)
         have q167 : x5_1 < (l1.length : Int) := of_decide_eq_true (by first | (with_reducible assumption) | assumption)
         obtain ⟨ad167, A167_3, c167_3, A167_4, c167_4, e167, hx167_0, hx167_1, hx167_2, hx167_3, hx167_4, hl167_3, hi167_3, hl167_4, hi167_4⟩ := at_T37 HR1.out x5_1 p167 q167
         obtain rfl : ad165 = ad167 := (by injection e167)
         have HR167_3 := Aside0.mk hi167_3
         have HC167_3 := Aside0.mk hl167_3
         clear hi167_3 hl167_3
         have HR167_4 := Aside0.mk hi167_4
         have HC167_4 := Aside0.mk hl167_4
         clear hi167_4 hl167_4
         replace p167 := eq_true p167
         replace q167 := eq_true q167
         have ea_ := Option.some.inj (hx165_3.symm.trans hx167_3)
         injection ea_ with ea_ en_ ec_
         subst ea_
         subst ec_
         clear en_
         have ea_ := Option.some.inj (hx165_4.symm.trans hx167_4)
         injection ea_ with ea_ en_ ec_
         subst ea_
         subst ec_
         clear en_
         go_wp2
         repeat (go_quiet (fail); try go_wp2)
         go_ret
         exact ⟨by first | rfl | (simp; done) | (simp [*]; done), by repeat (first | exact Drawn0.refl _ | apply Drawn0.step)⟩
       ·
        rw [if_neg c7] at H
        have c7b0 : (((rd_T37 l0 x5_1).f0) == ((rd_T37 l1 x5_1).f0)) = false := beq_eq_false_iff_ne.mpr c7
        have c7b1 : (((rd_T37 l0 x5_1).f0) != ((rd_T37 l1 x5_1).f0)) = true := bne_iff_ne.mpr c7
        obtain rfl := Option.some.inj H
        have p164 : 0 ≤ (x5_1 : Int) := of_decide_eq_true (by first | (with_reducible assumption) | assumption)
        have q164 : x5_1 < (l0.length : Int) := of_decide_eq_true (by first | (with_reducible assumption) | assumption)
        obtain ⟨ad164, A164_3, c164_3, A164_4, c164_4, e164, hx164_0, hx164_1, hx164_2, hx164_3, hx164_4, hl164_3, hi164_3, hl164_4, hi164_4⟩ := at_T37 HR0.out x5_1 p164 q164
        cases e164
        have HR164_3 := Aside0.mk hi164_3
        have HC164_3 := Aside0.mk hl164_3
        clear hi164_3 hl164_3
        have HR164_4 := Aside0.mk hi164_4
        have HC164_4 := Aside0.mk hl164_4
        clear hi164_4 hl164_4
        replace p164 := eq_true p164
        replace q164 := eq_true q164
        have p165 : 0 ≤ (x5_1 : Int) := of_decide_eq_true (by first | (with_reducible assumption) | assumption)
        have q165 : x5_1 < (l1.length : Int) := of_decide_eq_true (by first | (with_reducible assumption) | assumption)
        obtain ⟨ad165, A165_3, c165_3, A165_4, c165_4, e165, hx165_0, hx165_1, hx165_2, hx165_3, hx165_4, hl165_3, hi165_3, hl165_4, hi165_4⟩ := at_T37 HR1.out x5_1 p165 q165
        cases e165
        have HR165_3 := Aside0.mk hi165_3
        have HC165_3 := Aside0.mk hl165_3
        clear hi165_3 hl165_3
        have HR165_4 := Aside0.mk hi165_4
        have HC165_4 := Aside0.mk hl165_4
        clear hi165_4 hl165_4
        replace p165 := eq_true p165
        replace q165 := eq_true q165
        go_wp2
        repeat (go_quiet (fail); try go_wp2)
        go_ret
        exact ⟨by first | rfl | (simp; done) | (simp [*]; done), by repeat (first | exact Drawn0.refl _ | apply Drawn0.step)⟩
      ·
       rw [if_neg c6] at H
       exact absurd H (by simp)
     ·
      rw [if_neg c5] at H
      exact absurd H (by simp)
    ·
     rw [if_neg c4] at H
     have c4b0 : decide (x5_1 < (l0.length : Int)) = false := decide_eq_false c4
     clear c4
     obtain rfl := Option.some.inj H
     go_wp2
     repeat (go_quiet (fail); try go_wp2)
     go_ret
     exact ⟨by first | rfl | (simp; done) | (simp [*]; done), by repeat (first | exact Drawn0.refl _ | apply Drawn0.step)⟩
 ·
  rw [if_neg c3] at H
  have c3b0 : ((l0.length : Int) == (l1.length : Int)) = false := beq_eq_false_iff_ne.mpr c3
  have c3b1 : ((l0.length : Int) != (l1.length : Int)) = true := bne_iff_ne.mpr c3
  have c3b2 : (l0.length == l1.length) = false := by first | simpa using c3 | (simp at c3 ⊢; omega)
  obtain rfl := Option.some.inj H
  go_enter Try.func14, Try.ntmps14
  go_wp2
  repeat (go_quiet (fail); try go_wp2)
  go_ret
  exact ⟨by first | rfl | (simp; done) | (simp [*]; done), by repeat (first | exact Drawn0.refl _ | apply Drawn0.step)⟩

end Go.Proofs.Ythpklhkibcenoaa.Px
