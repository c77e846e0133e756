/- Order, sameness and versions: what the functions of the document compute. Conditions: those of each theorem. -/
import Derived.Test.YtobjkjmmkbhecaaCore
import Derived.Test.YtobjkjmmkbhecaaHrw
import Derived.Test.YtobjkjmmkbhecaaPx0
import Derived.Test.YtobjkjmmkbhecaaMB
import Derived.Test.YtobjkjmmkbhecaaSpecA
namespace Go.Proofs.Ytobjkjmmkbhecaa.Sk
open Go.RowKit Go.Proofs.YtobjkjmmkbhecaaW.PrintWords Go.Proofs.YtobjkjmmkbhecaaW.PrintLast Go.Proofs.YtobjkjmmkbhecaaW.PrintMore Go.Proofs.Ytobjkjmmkbhecaa.Px Go.Proofs.Ytobjkjmmkbhecaa.Sw
set_option linter.unusedVariables false
set_option linter.unusedSimpArgs false

def GE (e : S36) : Prop := Byts e.f0 ∧ Byts e.f3
theorem refLess_loop (a b : List Int) (hl : a.length ≤ 140737488355328) (d : Nat) : ∀ i : Nat, a.length - i = d → i ≤ a.length → Ev (fun k => sawyerref03_Less.l0 k a b (i : Int)) (less (a.drop i) (b.drop i)) := by
 induction d with
 | zero =>
  intro i hd hi
  have hi : i = a.length := by omega
  subst hi
  refine Ev.step (f := fun k => sawyerref03_Less.j1 k a b (a.length : Int) false) (fun k => ?_) (Ev.step (f := fun _ => some (decide ((a.length : Int) < (b.length : Int)))) (fun k => ?_) (Ev.const ?_))
  ·
   simp only [sawyerref03_Less.l0]; rw [if_neg (by omega)]
  ·
   simp only [sawyerref03_Less.j1]; rw [if_neg (by simp)]
  ·
   rw [List.drop_length]
   by_cases c : a.length < b.length
   ·
    rw [List.drop_eq_getElem_cons c]
    simp [less, c]
   ·
    rw [List.drop_eq_nil_of_le (by omega)]
    simp [less]
    omega
 | succ d ih =>
  intro i hd hi
  have hlt : i < a.length := by omega
  rw [List.drop_eq_getElem_cons hlt]
  by_cases c : i < b.length
  ·
   rw [List.drop_eq_getElem_cons c]
   refine Ev.step (f := fun k => sawyerref03_Less.j1 k a b (i : Int) true) (fun k => ?_) ?_
   ·
    simp only [sawyerref03_Less.l0]; rw [if_pos (by omega), decide_eq_true (by omega)]
   ·
    by_cases e : a[i] = b[i]
    ·
     refine Ev.step (f := fun k => sawyerref03_Less.l0 k a b ((i + 1 : Nat) : Int)) (fun k => ?_) ?_
     ·
      simp only [sawyerref03_Less.j1]
      rw [if_pos trivial, if_pos (by omega), if_pos (by omega), if_pos (by omega), rd_nat a i hlt, rd_nat b i c, if_pos e, wrap_in (by omega) (by omega)]
      rfl
     ·
      have := ih (i + 1) (by omega) (by omega)
      unfold less
      rw [if_neg (by omega), if_neg (by omega)]
      exact this
    ·
     refine Ev.step (f := fun _ => some (decide (a[i] < b[i]))) (fun k => ?_) (Ev.const ?_)
     ·
      simp only [sawyerref03_Less.j1]
      rw [if_pos trivial, if_pos (by omega), if_pos (by omega), if_pos (by omega), rd_nat a i hlt, rd_nat b i c, if_neg e]
     ·
      unfold less
      by_cases e2 : a[i] < b[i]
      ·
       rw [if_pos e2, decide_eq_true e2]
      ·
       rw [if_neg e2, if_pos (by omega), decide_eq_false e2]
  ·
   rw [show b.drop i = [] from List.drop_eq_nil_of_le (by omega)]
   refine Ev.step (f := fun k => sawyerref03_Less.j1 k a b (i : Int) false) (fun k => ?_) (Ev.step (f := fun _ => some (decide ((a.length : Int) < (b.length : Int)))) (fun k => ?_) (Ev.const ?_))
   ·
    simp only [sawyerref03_Less.l0]; rw [if_pos (by omega), decide_eq_false (by omega)]
   ·
    simp only [sawyerref03_Less.j1]; rw [if_neg (by simp)]
   ·
    simp [less]; omega
theorem refLess_f (a b : List Int) (hl : a.length ≤ 140737488355328) : Ev (fun k => sawyerref03_Less.f k a b) (less a b) := by
 unfold sawyerref03_Less.f
 have := refLess_loop a b hl a.length 0 (by omega) (by omega)
 simpa using this
theorem rdE_nat (l : List S36) (i : Nat) (h : i < l.length) : rd_T36 l (i : Int) = l[i] := by
 unfold rd_T36
 rw [List.getD_eq_getElem?_getD]
 simp [h]
def ckE (e : S36) : Bool := decide (1 ≤ e.f0.length ∧ e.f0.length ≤ 64 ∧ 0 ≤ e.f1 ∧ e.f1 ≤ 1099511627776 ∧ e.f3.length ≤ 1024 ∧ (e.f2 = true → e.f3.length = 0))
theorem ckE_iff {e : S36} : ckE e = true ↔ (1 ≤ e.f0.length ∧ e.f0.length ≤ 64 ∧ 0 ≤ e.f1 ∧ e.f1 ≤ 1099511627776 ∧ e.f3.length ≤ 1024 ∧ (e.f2 = true → e.f3.length = 0)) := by
 unfold ckE
 exact decide_eq_true_iff
theorem refCheck_f (e : S36) : sawyerref06_Check.f e.f0 e.f1 e.f2 e.f3 = some (if ckE e = true then 0 else 1) := by
 unfold sawyerref06_Check.f
 by_cases h : ckE e = true
 ·
  have h2 := ckE_iff.1 h
  obtain ⟨h3, h4, h5, h6, h7, h8⟩ := h2
  rw [if_pos h, if_neg (by omega), if_neg (by omega), if_neg (by omega), if_neg (by omega), if_neg (by omega)]
  by_cases g : e.f2 = true
  ·
   rw [if_pos g, if_neg (by have := h8 g; omega)]
  ·
   rw [if_neg g]
 ·
  rw [if_neg h]
  have h2 : ¬ _ := fun x => h (ckE_iff.2 x)
  repeat' split
  all_goals first
   | rfl
   | (exfalso; apply h2; refine ⟨by omega, by omega, by omega, by omega, by omega, fun g => ?_⟩; first | omega | (exfalso; simp_all))
def ahe (a b : S36) : Bool := less a.f0 b.f0 || (decide (a.f0 = b.f0) && decide (a.f1 > b.f1))
theorem refAhead_f {a b : S36} (ha : Byts a.f0) (hb : Byts b.f0) (hl : a.f0.length ≤ 140737488355328) : Ev (fun k => sawyerref06_Ahead.f k a.f0 a.f1 a.f2 a.f3 b.f0 b.f1 b.f2 b.f3) (ahe a b) := by
 unfold sawyerref06_Ahead.f ahe
 have hs := str_eq ha hb
 by_cases h : a.f0 = b.f0
 ·
  refine Ev.pos (by rw [h]) (Ev.const ?_)
  simp [h, less_irrefl]
 ·
  refine Ev.neg ?_ (Ev.bind (refLess_f a.f0 b.f0 hl) (Ev.const ?_))
  ·
   intro h2
   rw [h2] at hs
   simp [h] at hs
  ·
   simp [h]
def rowOk : Option S36 → List S36 → Bool
 | _, [] => true
 | p, e :: r => (ckE e && (match p with | none => true | some q => ahe q e)) && rowOk (some e) r
theorem ordered_loop (l : List S36) (hw : ∀ e ∈ l, Byts e.f0) (hl : l.length ≤ 4000000000000) (d : Nat) : ∀ (i : Nat) (p : Option S36), l.length - i = d → i ≤ l.length → (i = 0 → p = none) → (0 < i → p = some (rd_T36 l ((i : Int) - 1))) → (0 < i → ckE (rd_T36 l ((i : Int) - 1)) = true) →
  Ev (fun k => sawyerref08_Ordered.l0 k l (i : Int)) (rowOk p (l.drop i)) := by
 induction d with
 | zero =>
  intro i p hd hi h0 h1 h2
  have hi : i = l.length := by omega
  subst hi
  refine Ev.step (fun k => sawyerref08_Ordered.l0.eq_2 _ _ _) (Ev.neg (by omega) (Ev.const ?_))
  rw [List.drop_length]
  rfl
 | succ d ih =>
  intro i p hd hi h0 h1 h2
  have hlt : i < l.length := by omega
  have hm : l[i] ∈ l := List.getElem_mem hlt
  have hwi := hw _ hm
  rw [List.drop_eq_getElem_cons hlt]
  refine Ev.step (fun k => sawyerref08_Ordered.l0.eq_2 _ _ _) (Ev.pos (by omega) (Ev.pos (by omega) ?_))
  rw [rdE_nat l i hlt]
  refine Ev.bindc (refCheck_f l[i]) ?_
  unfold rowOk
  by_cases c : ckE l[i] = true
  ·
   have hn := ih (i + 1) (some l[i]) (by omega) (by omega) (by omega) (fun _ => by rw [show ((i + 1 : Nat) : Int) - 1 = (i : Int) by omega, rdE_nat l i hlt]) (fun _ => by rw [show ((i + 1 : Nat) : Int) - 1 = (i : Int) by omega, rdE_nat l i hlt]; exact c)
   rw [c]
   simp only [if_true, Bool.true_and]
   by_cases z : i = 0
   ·
    subst z
    rw [h0 rfl]
    simp only [Bool.true_and]
    refine Ev.neg (by omega) ?_
    rw [wrap_in (by omega) (by omega)]
    exact hn
   ·
    have hp := h1 (by omega)
    have hj : i - 1 < l.length := by omega
    have e1 : (i : Int) - 1 = ((i - 1 : Nat) : Int) := by omega
    have hk := h2 (by omega)
    rw [e1, rdE_nat l (i - 1) hj] at hk
    have hk2 := ckE_iff.1 hk
    rw [hp]
    refine Ev.pos (by omega) ?_
    rw [show wrap64 ((i : Int) - 1) = ((i - 1 : Nat) : Int) by rw [wrap_in (by omega) (by omega), e1], e1, rdE_nat l (i - 1) hj]
    refine Ev.pos (by omega) (Ev.pos (by omega) (Ev.bind (refAhead_f (hw _ (List.getElem_mem hj)) hwi (by omega)) ?_))
    simp only
    by_cases ca : ahe l[i - 1] l[i] = true
    ·
     refine Ev.pos ca ?_
     simp only [ca, Bool.true_and]
     rw [wrap_in (by omega) (by omega)]
     exact hn
    ·
     refine Ev.neg ca (Ev.const ?_)
     simp [ca]
  ·
   have c2 : ckE l[i] = false := by simpa using c
   rw [c2]
   exact Ev.neg (by simp) (Ev.const (by simp))
theorem sameOne_f {a b : S36} (ha : GE a) (hb : GE b) : sawyerref06_SameOne.f a.f0 a.f1 a.f2 a.f3 b.f0 b.f1 b.f2 b.f3 = some (decide (a.f0 = b.f0 ∧ a.f1 = b.f1 ∧ a.f2 = b.f2 ∧ a.f3 = b.f3)) := by
 unfold sawyerref06_SameOne.f
 have h0 := str_eq ha.1 hb.1
 have h3 := str_eq ha.2 hb.2
 by_cases c0 : a.f0 = b.f0
 ·
  rw [if_pos (by rw [c0])]
  by_cases c1 : a.f1 = b.f1
  ·
   rw [if_pos c1]
   by_cases c2 : a.f2 = b.f2
   ·
    rw [if_pos (by simp [c2]), h3]
    simp [c0, c1, c2]
   ·
    rw [if_neg (by simpa using c2)]
    simp [c2]
  ·
   rw [if_neg c1]
   simp [c1]
 ·
  rw [if_neg (fun h => by rw [h] at h0; simp [c0] at h0)]
  simp [c0]

theorem ordered_calls {w : World} {A : Option Addr} {c : Nat} {xs : List S36} (hC : Kd.C k36 w A xs.length xs) (hlc : xs.length ≤ c) (hB : ∀ e ∈ xs, Byts e.f0) (hln : xs.length ≤ 4000000000000) :
  Calls Try.prog 21 #[.slice A xs.length c] w fun ex w' => ex = .returned (.bool (rowOk none xs)) ∧ Below w.heap.size w w' := by
 have h := ordered_loop xs hB hln xs.length 0 none (by omega) (by omega) (fun _ => rfl) (fun h => absurd h (by omega)) (fun h => absurd h (by omega))
 rw [List.drop_zero] at h
 obtain ⟨K, hK⟩ := h
 exact sawyerref08_Ordered.calls K A c xs _ w hC hlc (hK K (Nat.le_refl _))
/-- The same entries. -/
theorem same_loop2 (l : List S36) (hg : ∀ e ∈ l, GE e) (hl : l.length ≤ 1000000000) (d : Nat) : ∀ i : Nat, l.length - i = d → i ≤ l.length → Ev (fun k => sawyerref06_Same.l0 k l l (i : Int)) true := by
 induction d with
 | zero =>
  intro i hd hi
  exact Ev.step (fun k => sawyerref06_Same.l0.eq_2 _ _ _ _) (Ev.neg (by omega) (Ev.const rfl))
 | succ d ih =>
  intro i hd hi
  have hlt : i < l.length := by omega
  have hm := hg _ (List.getElem_mem hlt)
  refine Ev.step (fun k => sawyerref06_Same.l0.eq_2 _ _ _ _) (Ev.pos (by omega) (Ev.pos (by omega) (Ev.pos (by omega) ?_)))
  rw [rdE_nat l i hlt]
  refine Ev.bindc (sameOne_f hm hm) (Ev.pos (by simp) ?_)
  rw [wrap_in (by omega) (by omega)]
  exact ih (i + 1) (by omega) (by omega)
theorem same_calls {w : World} {A : Option Addr} {c : Nat} {B : Option Addr} {d : Nat} {xs : List S36} (hA : Kd.C k36 w A xs.length xs) (hc : xs.length ≤ c) (hB : Kd.C k36 w B xs.length xs) (hd : xs.length ≤ d) (hg : ∀ e ∈ xs, GE e) (hln : xs.length ≤ 1000000000) :
  Calls Try.prog 12 #[.slice A xs.length c, .slice B xs.length d] w fun ex w' => ex = .returned (.bool true) ∧ Below w.heap.size w w' := by
 have h : Ev (fun k => sawyerref06_Same.f k xs xs) true := by
  unfold sawyerref06_Same.f
  exact Ev.pos rfl (same_loop2 xs hg hln xs.length 0 (by omega) (by omega))
 obtain ⟨K, hK⟩ := h
 exact sawyerref06_Same.calls K A c xs B d xs _ w hA hc hB hd (hK K (Nat.le_refl _))
theorem less_calls {w : World} {A : Option Addr} {c : Nat} {B : Option Addr} {d : Nat} {x y : List Int} (hA : Kd.C (Kd.int .u8) w A x.length x) (hc : x.length ≤ c) (hB : Kd.C (Kd.int .u8) w B y.length y) (hd : y.length ≤ d) (hl : x.length ≤ 140737488355328) :
  Calls Try.prog 24 #[.slice A x.length c, .slice B y.length d] w fun ex w' => ex = .returned (.bool (less x y)) ∧ Drawn0 w w' := by
 obtain ⟨K, hK⟩ := refLess_f x y hl
 exact sawyerref03_Less.calls K A c x B d y _ w hA hc hB hd (hK K (Nat.le_refl _))
/-- The first entry of a key that is not above a number. -/
def verM (l : List S36) (key : List Int) (seq : Int) : Option S36 := l.find? (fun e => decide (e.f0 = key ∧ e.f1 ≤ seq))
theorem version_loop (l : List S36) (key : List Int) (seq : Int) (hk : Byts key) (hg : ∀ e ∈ l, GE e ∧ e.f0.length < 140737488355328 ∧ e.f3.length < 140737488355328) (hl : l.length ≤ 1000000000) (d : Nat) : ∀ i : Nat, l.length - i = d → i ≤ l.length → Ev (fun k => sawyerref06_Version.l0 k l key seq (i : Int)) (match verM (l.drop i) key seq with | some e => (e.f0, e.f1, e.f2, e.f3, true) | none => ([], 0, false, [], false)) := by
 induction d with
 | zero =>
  intro i hd hi
  rw [List.drop_of_length_le (by omega)]
  exact Ev.step (fun k => sawyerref06_Version.l0.eq_2 _ _ _ _ _) (Ev.neg (by omega) (Ev.const rfl))
 | succ d ih =>
  intro i hd hi
  have hlt : i < l.length := by omega
  obtain ⟨hm, hm2, hm3⟩ := hg _ (List.getElem_mem hlt)
  have hn := ih (i + 1) (by omega) (by omega)
  refine Ev.step (fun k => sawyerref06_Version.l0.eq_2 _ _ _ _ _) (Ev.pos (by omega) (Ev.pos (by omega) ?_))
  rw [rdE_nat l i hlt, List.drop_eq_getElem_cons hlt]
  unfold verM at hn ⊢
  rw [List.find?_cons, wrap_in (n := (i : Int) + 1) (by omega) (by omega)]
  have hs := str_eq hm.1 hk
  by_cases h0 : l[i].f0 = key
  ·
   refine Ev.pos (by rw [h0]) ?_
   by_cases h1 : l[i].f1 ≤ seq
   ·
    refine Ev.pos h1 ?_
    rw [decide_eq_true ⟨h0, h1⟩]
    refine Ev.bindc (a := (l[i].f0, l[i].f1, l[i].f2, l[i].f3)) ?_ (Ev.const rfl)
    unfold sawyerref06_Copy.f
    simp [hm2, hm3]
   ·
    refine Ev.neg h1 ?_
    rw [decide_eq_false (fun h => h1 h.2)]
    exact hn
  ·
   refine Ev.neg (fun h2 => by rw [h2] at hs; simp [h0] at hs) ?_
   rw [decide_eq_false (fun h => h0 h.1)]
   exact hn
theorem version_calls {w : World} {A : Option Addr} {c : Nat} {B : Option Addr} {d : Nat} {xs : List S36} {key : List Int} (seq : Int) (hC : Kd.C k36 w A xs.length xs) (hlc : xs.length ≤ c) (hK : Kd.C (Kd.int .u8) w B key.length key) (hd : key.length ≤ d) (hk : Byts key) (hg : goodL xs = true) {e : S36} (he : verM xs key seq = some e) :
  Calls Try.prog 22 #[.slice A xs.length c, .slice B key.length d, .int .i64 seq] w fun ex w' => ∃ M0 m0 M3 m3, ex = .returned (.tuple #[.agg #[.slice M0 e.f0.length m0, .int .i64 e.f1, .bool e.f2, .slice M3 e.f3.length m3], .bool true]) ∧ e.f0.length ≤ m0 ∧ e.f3.length ≤ m3 ∧ Kd.C (Kd.int .u8) w' M0 e.f0.length e.f0 ∧ Kd.C (Kd.int .u8) w' M3 e.f3.length e.f3 ∧ Below w.heap.size w w' := by
 have h2 := goodL_iff.1 hg
 have h := version_loop xs key seq hk (fun e he => ⟨⟨(h2.1 e he).1.1, (h2.1 e he).1.2.1⟩, (h2.1 e he).2⟩) h2.2 xs.length 0 (by omega) (by omega)
 rw [List.drop_zero, he] at h
 obtain ⟨K, hK2⟩ := h
 refine (sawyerref06_Version.calls K A c xs B d key seq _ _ _ _ _ w hC hlc hK hd (hK2 K (Nat.le_refl _))).mono ?_
 rintro ex w' ⟨v0, v3, rfl, h0, h3, hb⟩
 obtain ⟨M0, m0, rfl⟩ := Kd.R_slice h0
 obtain ⟨M3, m3, rfl⟩ := Kd.R_slice h3
 exact ⟨M0, m0, M3, m3, rfl, (Kd.R_reads' h0).2.1, (Kd.R_reads' h3).2.1, (Kd.R_reads' h0).2.2, (Kd.R_reads' h3).2.2, hb⟩
theorem sameOne_calls {w : World} {M0 N0 M3 N3 : Option Addr} {m0 n0 m3 n3 : Nat} {e : S36} (hM0 : Kd.C (Kd.int .u8) w M0 e.f0.length e.f0) (hm0 : e.f0.length ≤ m0) (hM3 : Kd.C (Kd.int .u8) w M3 e.f3.length e.f3) (hm3 : e.f3.length ≤ m3) (hN0 : Kd.C (Kd.int .u8) w N0 e.f0.length e.f0) (hn0 : e.f0.length ≤ n0) (hN3 : Kd.C (Kd.int .u8) w N3 e.f3.length e.f3) (hn3 : e.f3.length ≤ n3) (hg : GE e) :
  Calls Try.prog 23 #[.agg #[.slice M0 e.f0.length m0, .int .i64 e.f1, .bool e.f2, .slice M3 e.f3.length m3], .agg #[.slice N0 e.f0.length n0, .int .i64 e.f1, .bool e.f2, .slice N3 e.f3.length n3]] w fun ex w' => ex = .returned (.bool true) ∧ Below w.heap.size w w' := by
 have h := sameOne_f hg hg
 rw [decide_eq_true ⟨rfl, rfl, rfl, rfl⟩] at h
 exact sawyerref06_SameOne.calls M0 m0 e.f0 e.f1 e.f2 M3 m3 e.f3 N0 n0 e.f0 e.f1 e.f2 N3 n3 e.f3 true w hM0 hm0 hM3 hm3 hN0 hn0 hN3 hn3 h
end Go.Proofs.Ytobjkjmmkbhecaa.Sk
