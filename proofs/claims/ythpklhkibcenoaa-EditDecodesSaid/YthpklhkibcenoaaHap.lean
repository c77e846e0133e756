/- edit.Apply, walked. Conditions: those of each theorem. -/
import Derived.Test.YthpklhkibcenoaaCore
import Derived.Test.YthpklhkibcenoaaHck
import Derived.Test.YthpklhkibcenoaaMF
import Derived.Test.YthpklhkibcenoaaHde
import Derived.Test.YthpklhkibcenoaaME
import Derived.Test.YthpklhkibcenoaaHfv
import Derived.Test.YthpklhkibcenoaaHma
import Derived.Test.YthpklhkibcenoaaHpl
import Derived.Test.YthpklhkibcenoaaHsf
import Derived.Test.YthpklhkibcenoaaHso
import Derived.Test.YthpklhkibcenoaaPx0
import Derived.Test.YthpklhkibcenoaaMB
import Derived.Test.YthpklhkibcenoaaSpecA
namespace Go.Proofs.Ythpklhkibcenoaa.Sk
open Go.RowKit Go.Proofs.YthpklhkibcenoaaW.PrintWords Go.Proofs.YthpklhkibcenoaaW.PrintLast Go.Proofs.YthpklhkibcenoaaW.PrintMore Go.Proofs.Ythpklhkibcenoaa.Px Go.Proofs.Ythpklhkibcenoaa.Sw
set_option linter.unusedVariables false
set_option linter.unusedSimpArgs false

def dropB (ts : List S57) : List Int → List Int → Bool
 | _, [] => true
 | pre, n :: l => !(pre.any fun p => decide (p = n)) && ts.any (fun m => m.f0 == n) && dropB ts (pre ++ [n]) l
def stayM (ts : List S57) (l : List Int) : List S57 := ts.filter (fun m => !(l.any fun p => decide (p = m.f0)))
def insM (x : S57) : List S57 → List S57
 | [] => [x]
 | y :: l => if cmpM x y < 0 then x :: y :: l else y :: insM x l
def sortM : List S57 → List S57
 | [] => []
 | x :: l => insM x (sortM l)
theorem insM_perm (x : S57) : ∀ l, (insM x l).Perm (x :: l)
 | [] => List.Perm.refl _
 | y :: l => by
  unfold insM
  split
  ·
   exact List.Perm.refl _
  ·
   exact ((insM_perm x l).cons y).trans (List.Perm.swap x y l)
theorem sortM_perm : ∀ l, (sortM l).Perm l
 | [] => List.Perm.refl _
 | x :: l => (insM_perm x (sortM l)).trans ((sortM_perm l).cons x)
theorem insM_srt {x : S57} (hx : MB x) : ∀ {l : List S57}, (∀ z ∈ l, MB z) → Srt cmpM l → Srt cmpM (insM x l)
 | [], _, _ => Srt.single x
 | y :: l, hG, hs => by
  unfold insM
  split
  ·
   rename_i hlt
   exact Srt.cons_iff.2 ⟨fun b hb => lt_of_first cmpM_ord hs hG hx hlt b hb, hs⟩
  ·
   rename_i hlt
   have h2 := Srt.cons_iff.1 hs
   refine Srt.cons_iff.2 ⟨fun b hb => ?_, insM_srt hx (fun z hz => hG z (List.mem_cons_of_mem _ hz)) h2.2⟩
   rcases List.mem_cons.1 ((insM_perm x l).mem_iff.1 hb) with e | hb'
   ·
    rw [e]; exact hlt
   ·
    exact h2.1 b hb'
theorem sortM_srt : ∀ {l : List S57}, (∀ z ∈ l, MB z) → Srt cmpM (sortM l)
 | [], _ => Srt.nil
 | x :: l, hG => insM_srt (hG x (by simp)) (fun z hz => hG z (List.mem_cons_of_mem _ ((sortM_perm l).mem_iff.1 hz))) (sortM_srt (fun z hz => hG z (List.mem_cons_of_mem _ hz)))
theorem cmpM_trans {a b c : S57} (ha : MB a) (hb : MB b) (hc : MB c) (h1 : cmpM a b < 0) (h2 : cmpM b c < 0) : cmpM a c < 0 := by
 rw [cmpM_neg ha hb] at h1
 rw [cmpM_neg hb hc] at h2
 rw [cmpM_neg ha hc]
 rcases h1 with h1 | ⟨e1, h1⟩ <;> rcases h2 with h2 | ⟨e2, h2⟩
 ·
  exact .inl (by omega)
 ·
  exact .inl (by omega)
 ·
  exact .inl (by omega)
 ·
  refine .inr ⟨by omega, ?_⟩
  rcases h1 with ⟨p1, l1⟩ | ⟨p1, l1⟩ <;> rcases h2 with ⟨p2, l2⟩ | ⟨p2, l2⟩
  ·
   exact .inl ⟨p1, less_trans l1 l2⟩
  ·
   omega
  ·
   omega
  ·
   exact .inr ⟨p1, by omega⟩
/-- What may be is in order. -/
theorem tabsB_lt {nx : Int} : ∀ {ts pre : List S57}, (∀ z ∈ pre ++ ts, MB z) → pre.Pairwise (fun a b => cmpM a b < 0) → tabsB nx pre ts = true → (pre ++ ts).Pairwise (fun a b => cmpM a b < 0)
 | [], pre, _, hp, _ => by simpa using hp
 | m :: ts, pre, hG, hp, h => by
  unfold tabsB at h
  simp only [Bool.and_eq_true] at h
  have e : pre ++ m :: ts = (pre ++ [m]) ++ ts := by simp
  rw [e] at hG ⊢
  refine tabsB_lt hG ?_ h.2
  refine List.pairwise_append.2 ⟨hp, List.pairwise_singleton _ _, fun a ha b hb => ?_⟩
  rw [List.mem_singleton.1 hb]
  have hs := h.1.2
  unfold preB at hs
  rcases ends pre with e | ⟨pre', p, e⟩
  ·
   rw [e] at ha; cases ha
  ·
   subst e
   simp only [List.getLast?_append, List.getLast?_singleton, Option.some_or] at hs
   unfold stepB at hs
   simp only [Bool.and_eq_true] at hs
   have hpm := of_decide_eq_true hs.1
   rcases List.mem_append.1 ha with ha' | ha'
   ·
    exact cmpM_trans (hG a (by simp [ha'])) (hG p (by simp)) (hG m (by simp)) ((List.pairwise_append.1 hp).2.2 a ha' p (by simp)) hpm
   ·
    rw [List.mem_singleton.1 ha']; exact hpm
theorem checkB_lt {g n l s : Int} {ts : List S57} (hG : ∀ z ∈ ts, MB z) (h : checkB g n l s ts = true) : ts.Pairwise (fun a b => cmpM a b < 0) := by
 unfold checkB at h
 simp only [Bool.and_eq_true] at h
 simpa using tabsB_lt (pre := []) (by simpa using hG) List.Pairwise.nil h.2
/-- However it was sorted: it may be, or may not be, as the sorted one; and where it may be, it is that one. -/
theorem sort_check {g n l s : Int} {xs ys : List S57} (hG : ∀ z ∈ xs, MB z) (hp : ys.Perm xs) (hs : Srt cmpM ys) : checkB g n l s ys = checkB g n l s (sortM xs) ∧ (checkB g n l s ys = true → ys = sortM xs) := by
 have hG1 : ∀ z ∈ ys, MB z := fun z hz => hG z (hp.mem_iff.1 hz)
 have hG2 : ∀ z ∈ sortM xs, MB z := fun z hz => hG z ((sortM_perm xs).mem_iff.1 hz)
 have e1 : checkB g n l s ys = true → ys = sortM xs := fun h => sorted_unique cmpM_ord (hp.trans (sortM_perm xs).symm) (checkB_lt hG1 h) (sortM_srt hG) hG1
 have e2 : checkB g n l s (sortM xs) = true → sortM xs = ys := fun h => sorted_unique cmpM_ord ((sortM_perm xs).trans hp.symm) (checkB_lt hG2 h) hs hG2
 refine ⟨?_, e1⟩
 cases h : checkB g n l s ys with
 | true => rw [← e1 h, h]
 | false =>
  cases h2 : checkB g n l s (sortM xs) with
  | false => rfl
  | true => rw [e2 h2, h] at h2; cases h2
/-- What a version becomes. -/
def applyR (a0 a1 a2 a3 : Int) (ts : List S57) (l1 : List Int) (l2 : List S57) : Int × Int × Int × Int × List S57 × Int :=
 if (checkB a0 a1 a2 a3 ts && decide (l2.length ≤ 4096) && dropB ts [] l1 && checkB (a0 + 1) a1 a2 a3 (sortM (stayM ts l1 ++ l2))) = true then (a0 + 1, a1, a2, a3, sortM (stayM ts l1 ++ l2), 0) else (0, 0, 0, 0, [], 1)

theorem tabsB_right {nx : Int} : ∀ {ts pre : List S57}, tabsB nx pre ts = true → ∀ m ∈ ts, rightM m = true
 | [], _, _, m, hm => by cases hm
 | x :: ts, pre, h, m, hm => by
  unfold tabsB at h
  simp only [Bool.and_eq_true] at h
  rcases List.mem_cons.1 hm with e | hm'
  ·
   rw [e]; exact h.1.1.1.2
  ·
   exact tabsB_right h.2 m hm'
theorem rightM_len {m : S57} (h : rightM m = true) : m.f3.length ≤ 64 ∧ m.f4.length ≤ 64 := by
 unfold rightM keyB at h
 simp only [Bool.and_eq_true, decide_eq_true_eq] at h
 exact ⟨h.1.1.2.2, h.1.2.2⟩
theorem checkB_right {g n l s : Int} {ts : List S57} (h : checkB g n l s ts = true) : ∀ m ∈ ts, rightM m = true := by
 unfold checkB at h
 simp only [Bool.and_eq_true] at h
 exact tabsB_right h.2
/-- A text of bytes that can be copied. -/
def Lens (m : S57) : Prop := m.f3.length < 140737488355328 ∧ m.f4.length < 140737488355328

theorem stay_eq (ts : List S57) (l : List Int) : ts.filter (fun e => !(decide (0 < (if l.any (fun p => decide (p = e.f0)) then (1 : Int) else 0)))) = stayM ts l := by
 unfold stayM
 congr 1
 funext e
 cases l.any (fun p => decide (p = e.f0)) <;> rfl

def lensB (m : S57) : Bool := decide (m.f3.length < 140737488355328) && decide (m.f4.length < 140737488355328)
theorem lens_iff {l : List S57} : l.all lensB = true ↔ ∀ m ∈ l, Lens m := by
 unfold lensB Lens
 rw [List.all_eq_true]
 simp
theorem i64s_iff {l : List Int} : l.all i64B = true ↔ ∀ n ∈ l, I64 n := by
 rw [List.all_eq_true]
 exact ⟨fun h n hn => i64B_iff.1 (h n hn), fun h n hn => i64B_iff.2 (h n hn)⟩

section
variable {P : Program} {ops : Array Oper} {rest : List Oper} {o : Oper} {a : Act} {Q : Exit → Act → World → Prop}
theorem row_event {W : World} (hgd : o.guard = none) {N : Tmp} (_hd : o.dst = some N) {cs : Array Value} {t : TypeId} {n : Nat}
  (hrun : (execOp a.eval o).run P W = .ok (.value (.slice (some ⟨W.heap.size, 0, none⟩) n n)) (W.alloc (.cells cs t (0, 0))))
  (h : ∀ g, g = W.heap.size → ∀ w1, w1.heap[g]? = some (.cells cs t (0, 0)) → Below W.heap.size W w1 → wpList P ops Q rest (a.put o.dst (.slice (some ⟨g, 0, none⟩) n n)) w1) : wpList P ops Q (o :: rest) a W :=
 Kd.event_run hgd hrun (h _ rfl _ (blk_new W _) (below_alloc (Below.refl _ _) _))
end
/-- What Apply has made, and what of it stands. -/
structure ApS (w W : World) (g3 g6 g8 gm : Nat) (vs : Array Value) (k : Nat) (f : Int → Int) : Prop where
 v : W.heap[g3]? = some (.cells vs 28 (0, 0))
 z : W.heap[g6]? = some (.cells #[.int .i64 0, .int .i64 0, .int .i64 0, .int .i64 0, .slice none 0 0] 28 (0, 0))
 c : W.heap[g8]? = some (.cells #[.map (some gm)] 59 (0, 0))
 m : MapI W gm k f
 b : Below w.heap.size w W
 lo : w.heap.size ≤ g3 ∧ g3 < g6 ∧ g6 < gm ∧ gm < g8
theorem ApS.below {w W W1 : World} {g3 g6 g8 gm k : Nat} {vs : Array Value} {f : Int → Int} (h : ApS w W g3 g6 g8 gm vs k f) (hb : Below W.heap.size W W1) : ApS w W1 g3 g6 g8 gm vs k f :=
 ⟨blk_below h.v hb, blk_below h.z hb, blk_below h.c hb, MapI.below h.m hb, below_step h.b hb, h.lo⟩
theorem ApS.upd {w W W1 : World} {g3 g6 g8 gm k k' : Nat} {vs : Array Value} {f f' : Int → Int} (h : ApS w W g3 g6 g8 gm vs k f) (hm : MapI W1 gm k' f') (hg : W.grownBy W1 (some gm)) : ApS w W1 g3 g6 g8 gm vs k' f' := by
 have hlo := h.lo
 exact ⟨blk_grown h.v hg (by intro he; injection he with he; omega), blk_grown h.z hg (by intro he; injection he with he; omega), blk_grown h.c hg (by intro he; injection he with he; omega), hm,
  Below.grown h.b hg h.b.size (by intro k hk; injection hk with hk; omega), hlo⟩
theorem MapI.moreI {w : World} {g : Nat} {pre : List Int} {n : Int} (h : MapI w g (pre.length + 1) (fun y => if y = n then 1 else (fun x => if pre.any (fun p => decide (p = x)) then (1 : Int) else 0) y)) :
  MapI w g (pre ++ [n]).length (fun x => if (pre ++ [n]).any (fun p => decide (p = x)) then 1 else 0) := by
 rw [List.length_append]
 refine MapI.cong h (fun x => ?_)
 show (if (pre ++ [n]).any (fun p => decide (p = x)) then (1 : Int) else 0) = if x = n then 1 else (if pre.any (fun p => decide (p = x)) then (1 : Int) else 0)
 rw [List.any_append]
 by_cases hx : x = n
 ·
  rw [if_pos hx, hx]; simp
 ·
  rw [if_neg hx]
  have hx2 : ¬ (n = x) := fun h => hx h.symm
  simp [hx2]
theorem below5 {w W : World} {g : Nat} (v0 v1 v2 v3 v4 : Value) (h : Below w.heap.size w W) (hg : w.heap.size ≤ g) : Below w.heap.size w (((((W.setCell ⟨g, 0, none⟩ v0).setCell ⟨g, 1, none⟩ v1).setCell ⟨g, 2, none⟩ v2).setCell ⟨g, 3, none⟩ v3).setCell ⟨g, 4, none⟩ v4) :=
 below_set (below_set (below_set (below_set (below_set h hg) hg) hg) hg) hg
theorem check_yes {w : World} (a0 a1 a2 a3 : Int) {A : Option Addr} {c : Nat} {ts : List S57} (hC : Kd.C k57 w A ts.length ts) (hlc : ts.length ≤ c) (hM : ∀ m ∈ ts, MB m) (h : checkB a0 a1 a2 a3 ts = true) :
  Calls Try.prog 16 #[.agg #[.int .i64 a0, .int .i64 a1, .int .i64 a2, .int .i64 a3, .slice A ts.length c]] w fun ex w' => ex = .returned (.int .i64 0) ∧ Below w.heap.size w w' :=
 (check_calls a0 a1 a2 a3 hC hlc hM).mono (fun ex w' hh => ⟨by rw [hh.1, h]; rfl, hh.2⟩)
theorem check_no {w : World} (a0 a1 a2 a3 : Int) {A : Option Addr} {c : Nat} {ts : List S57} (hC : Kd.C k57 w A ts.length ts) (hlc : ts.length ≤ c) (hM : ∀ m ∈ ts, MB m) (h : checkB a0 a1 a2 a3 ts = false) :
  Calls Try.prog 16 #[.agg #[.int .i64 a0, .int .i64 a1, .int .i64 a2, .int .i64 a3, .slice A ts.length c]] w fun ex w' => ex = .returned (.int .i64 1) ∧ Below w.heap.size w w' :=
 (check_calls a0 a1 a2 a3 hC hlc hM).mono (fun ex w' hh => ⟨by rw [hh.1, h]; rfl, hh.2⟩)

theorem at_CI {W : World} {A : Option Addr} {n : Nat} {xs : List Int} (h : Kd.C (Kd.int .i64) W A n xs) (i : Nat) (e : Int) (he : xs[i]? = some e) : ∃ ad, A = some ad ∧ W.cell? (ad.add i) = some (.int .i64 e) := by
 have hn := h.1
 have hi : i < xs.length := (List.getElem?_eq_some_iff.1 he).1
 obtain ⟨ad, e0, hc⟩ := Kd.at_int h (i : Int) (by omega) (by omega)
 rw [Int.toNat_natCast] at hc
 refine ⟨ad, e0, hc.trans ?_⟩
 unfold rd
 rw [Int.toNat_natCast, List.getD_eq_getElem?_getD, he]
 rfl

theorem rows2 {W : World} {okF : Nat → Prop} {g : Nat} {Aa Ab : Option Addr} {ca cb : Nat} {xa xb : List S57} (hg : W.heap[g]? = some (.cells #[.slice Aa xa.length ca, .slice Ab xb.length cb] 26 (0, 0))) (la : xa.length ≤ ca) (lb : xb.length ≤ cb) (ha : Kd.F k57 W okF Aa xa.length xa) (hb : Kd.F k57 W okF Ab xb.length xb) :
  Rows W okF (some ⟨g, 0, none⟩) [xa, xb] := by
 intro i xs hi
 match i, hi with
 | 0, hi =>
  obtain rfl := Option.some.inj hi
  exact ⟨_, Aa, ca, rfl, (blk_cell hg 0).trans rfl, la, ha⟩
 | 1, hi =>
  obtain rfl := Option.some.inj hi
  exact ⟨_, Ab, cb, rfl, (blk_cell hg 1).trans rfl, lb, hb⟩
 | (j + 2), hi => cases hi
theorem Chg.then_below {w w1 w2 : World} {S : Nat → Prop} (h : Chg w w1 S) (k : Below w.heap.size w1 w2) : Chg w w2 S :=
 ⟨k.os.trans h.os, k.tape.trans h.tape, k.output.trans h.output, Nat.le_trans h.kept.1 k.size, fun i hi hS => (k.block i hi).trans (h.kept.2 i hi hS)⟩
theorem below_lower {w w1 : World} {B B' : Nat} (h : Below B w w1) (hb : B' ≤ B) : Below B' w w1 := ⟨h.os, h.tape, h.output, h.size, fun i hi => h.block i (Nat.lt_of_lt_of_le hi hb)⟩
theorem keep5 (W : World) (g : Nat) (v0 v1 v2 v3 v4 : Value) : KeepBut W (((((W.setCell ⟨g, 0, none⟩ v0).setCell ⟨g, 1, none⟩ v1).setCell ⟨g, 2, none⟩ v2).setCell ⟨g, 3, none⟩ v3).setCell ⟨g, 4, none⟩ v4) g none := by
 exact KeepBut.set_ (KeepBut.set_ (KeepBut.set_ (KeepBut.set_ (KeepBut.set_ (KeepBut.of_below (Below.refl _ _) g none) 0 v0) 1 v1) 2 v2) 3 v3) 4 v4
theorem copied_f (m : S57) (h : Lens m) : edit_Meta_copied.f m.f0 m.f1 m.f2 m.f3 m.f4 = some (m.f0, m.f1, m.f2, m.f3, m.f4) := by
 unfold edit_Meta_copied.f slices_Clone_byte_byte.f
 rw [if_pos h.1, Option.bind_some, if_pos h.2, Option.bind_some]
theorem check_yesN {w : World} (a0 a1 a2 a3 : Int) {A : Option Addr} {c n : Nat} {ts : List S57} (hC : Kd.C k57 w A ts.length ts) (hn : ts.length = n) (hlc : ts.length ≤ c) (hM : ∀ m ∈ ts, MB m) (h : checkB a0 a1 a2 a3 ts = true) :
  Calls Try.prog 16 #[.agg #[.int .i64 a0, .int .i64 a1, .int .i64 a2, .int .i64 a3, .slice A n c]] w fun ex w' => ex = .returned (.int .i64 0) ∧ Below w.heap.size w w' := by
 subst hn
 exact check_yes a0 a1 a2 a3 hC hlc hM h
theorem check_noN {w : World} (a0 a1 a2 a3 : Int) {A : Option Addr} {c n : Nat} {ts : List S57} (hC : Kd.C k57 w A ts.length ts) (hn : ts.length = n) (hlc : ts.length ≤ c) (hM : ∀ m ∈ ts, MB m) (h : checkB a0 a1 a2 a3 ts = false) :
  Calls Try.prog 16 #[.agg #[.int .i64 a0, .int .i64 a1, .int .i64 a2, .int .i64 a3, .slice A n c]] w fun ex w' => ex = .returned (.int .i64 1) ∧ Below w.heap.size w w' := by
 subst hn
 exact check_no a0 a1 a2 a3 hC hlc hM h

theorem build1_run {f : Operand → Value} {o : Oper} {x : Operand} {W : World} {n0 n1 n2 : Int} {A3 A4 : Option Addr} {l3 c3 l4 c4 : Nat} (ho : o.op = .buildSlice 26 1 #[(0, x)]) (hv : f x = .agg #[.int .i64 n0, .int .i64 n1, .int .i64 n2, .slice A3 l3 c3, .slice A4 l4 c4]) :
  (execOp f o).run Try.prog W = .ok (.value (.slice (some ⟨W.heap.size, 0, none⟩) 1 1)) (W.alloc (.cells #[.int .i64 n0, .int .i64 n1, .int .i64 n2, .slice A3 l3 c3, .slice A4 l4 c4] 57 (0, 0))) := by
 have hu := Try.underlying26
 unfold execOp
 simp only [ho]
 go_simp
theorem blk_keep {w w1 : World} {g g' : Nat} {o : Obj} (h : w.heap[g]? = some o) (hk : KeepBut w w1 g' none) (hne : g ≠ g') : w1.heap[g]? = some o := (hk.2 g (blk_lt h) hne (by simp)).trans h
set_option maxHeartbeats 40000000 in
set_option maxRecDepth 100000 in
theorem apply_calls {w : World} (a0 a1 a2 a3 : Int) {A A1 A2 : Option Addr} {c c1 c2 : Nat} {ts l2 : List S57} {l1 : List Int} (hC : Kd.C k57 w A ts.length ts) (hlc : ts.length ≤ c) (hM : ∀ m ∈ ts, MB m) (hC1 : Kd.C (Kd.int .i64) w A1 l1.length l1) (hlc1 : l1.length ≤ c1) (hI : ∀ n ∈ l1, I64 n) (hL1 : l1.length ≤ 900000000) (hC2 : Kd.C k57 w A2 l2.length l2) (hlc2 : l2.length ≤ c2) (hM2 : ∀ m ∈ l2, MB m) (hZ2 : ∀ m ∈ l2, Lens m) (hFW : ts.length + l2.length < 20) :
  Calls Try.prog 11 #[.agg #[.int .i64 a0, .int .i64 a1, .int .i64 a2, .int .i64 a3, .slice A ts.length c], .slice A1 l1.length c1, .slice A2 l2.length c2] w fun ex w' => ∃ v', ex = .returned (.tuple #[.agg #[.int .i64 (applyR a0 a1 a2 a3 ts l1 l2).1, .int .i64 (applyR a0 a1 a2 a3 ts l1 l2).2.1, .int .i64 (applyR a0 a1 a2 a3 ts l1 l2).2.2.1, .int .i64 (applyR a0 a1 a2 a3 ts l1 l2).2.2.2.1, v'], .int .i64 (applyR a0 a1 a2 a3 ts l1 l2).2.2.2.2.2]) ∧ Kd.N k57 57 w' w.heap.size (fun k => w.heap.size ≤ k) v' (applyR a0 a1 a2 a3 ts l1 l2).2.2.2.2.1 ∧ Below w.heap.size w w' := by
 have huV := Try.underlying28
 have huE := Try.underlying57
 have HC := Aside0.mk hC
 clear hC
 have HLC := Aside0.mk hlc
 clear hlc
 have HM := Aside0.mk hM
 clear hM
 have HC1 := Aside0.mk hC1
 clear hC1
 have HLC1 := Aside0.mk hlc1
 clear hlc1
 have HI := Aside0.mk hI
 clear hI
 have HL1 := Aside0.mk hL1
 clear hL1
 have HC2 := Aside0.mk hC2
 clear hC2
 have HLC2 := Aside0.mk hlc2
 clear hlc2
 have HM2 := Aside0.mk hM2
 clear hM2
 have HZ2 := Aside0.mk hZ2
 clear hZ2
 have HFW := Aside0.mk hFW
 clear hFW
 cases hck : checkB a0 a1 a2 a3 ts with
 | false =>
  as_aux_lemma =>
  have HR := Aside0.mk (show applyR a0 a1 a2 a3 ts l1 l2 = (0, 0, 0, 0, [], 1) by unfold applyR; rw [hck]; rfl)
  have HCK := Aside0.mk hck
  clear hck
  go_enter Try.func11, Try.ntmps11
  go_wp2_with (first
   | ((with_reducible refine gate_dst (N := 3) rfl ?_); (try (refine gate_guard (by rfl) ?_; dsimp only)); refine box_event ?hg (N := 3) ?hd (cs := #[.int .i64 a0, .int .i64 a1, .int .i64 a2, .int .i64 a3, .slice A ts.length c]) (t := 28) ?hr ?_; (case hd => rfl); (case hg => rfl); (case hr => first | (go_simp; done) | (go_simp; rfl)); intro g3 hqg3 w1 hxg3 hbg3; have n_ := Aside0.mk hqg3; clear hqg3; have hqg3 := n_; clear n_; have n_ := Aside0.mk hxg3; clear hxg3; have hxg3 := n_; clear n_; have n_ := Aside0.mk hbg3; clear hbg3; have hbg3 := n_; clear n_; have hca0 : w1.cell? ⟨g3, 0, none⟩ = some (.int .i64 a0) := (blk_cell hxg3.out 0).trans rfl; have hca1 : w1.cell? ⟨g3, 1, none⟩ = some (.int .i64 a1) := (blk_cell hxg3.out 1).trans rfl; have hca2 : w1.cell? ⟨g3, 2, none⟩ = some (.int .i64 a2) := (blk_cell hxg3.out 2).trans rfl; have hca3 : w1.cell? ⟨g3, 3, none⟩ = some (.int .i64 a3) := (blk_cell hxg3.out 3).trans rfl; have hca4 : w1.cell? ⟨g3, 4, none⟩ = some (.slice A ts.length c) := (blk_cell hxg3.out 4).trans rfl)
   | ((with_reducible refine gate_dst (N := 6) rfl ?_); (try (refine gate_guard (by rfl) ?_; dsimp only)); refine box_event ?hg (N := 6) ?hd (cs := #[.int .i64 0, .int .i64 0, .int .i64 0, .int .i64 0, .slice none 0 0]) (t := 28) ?hr ?_; (case hd => rfl); (case hg => rfl); (case hr => first | (go_simp; done) | (go_simp; rfl)); intro g6 hqg6 w2 hxg6 hbg6; have n_ := Aside0.mk hqg6; clear hqg6; have hqg6 := n_; clear n_; have n_ := Aside0.mk hxg6; clear hxg6; have hxg6 := n_; clear n_; have n_ := Aside0.mk hbg6; clear hbg6; have hbg6 := n_; clear n_; have X3 := Aside0.mk (blk_below hxg3.out hbg6.out); have B2 := Aside0.mk (below_step hbg3.out hbg6.out); have hcb0 : w2.cell? ⟨g3, 0, none⟩ = some (.int .i64 a0) := (blk_cell X3.out 0).trans rfl; have hcb1 : w2.cell? ⟨g3, 1, none⟩ = some (.int .i64 a1) := (blk_cell X3.out 1).trans rfl; have hcb2 : w2.cell? ⟨g3, 2, none⟩ = some (.int .i64 a2) := (blk_cell X3.out 2).trans rfl; have hcb3 : w2.cell? ⟨g3, 3, none⟩ = some (.int .i64 a3) := (blk_cell X3.out 3).trans rfl; have hcb4 : w2.cell? ⟨g3, 4, none⟩ = some (.slice A ts.length c) := (blk_cell X3.out 4).trans rfl; have hcc0 : w2.cell? ⟨g6, 0, none⟩ = some (.int .i64 0) := (blk_cell hxg6.out 0).trans rfl; have hcc1 : w2.cell? ⟨g6, 1, none⟩ = some (.int .i64 0) := (blk_cell hxg6.out 1).trans rfl; have hcc2 : w2.cell? ⟨g6, 2, none⟩ = some (.int .i64 0) := (blk_cell hxg6.out 2).trans rfl; have hcc3 : w2.cell? ⟨g6, 3, none⟩ = some (.int .i64 0) := (blk_cell hxg6.out 3).trans rfl; have hcc4 : w2.cell? ⟨g6, 4, none⟩ = some (.slice none 0 0) := (blk_cell hxg6.out 4).trans rfl; have hfc0 : w2.frozen? ⟨g6, 0, none⟩ = false := blk_frozen hxg6.out 0; have hfc1 : w2.frozen? ⟨g6, 1, none⟩ = false := blk_frozen hxg6.out 1; have hfc2 : w2.frozen? ⟨g6, 2, none⟩ = false := blk_frozen hxg6.out 2; have hfc3 : w2.frozen? ⟨g6, 3, none⟩ = false := blk_frozen hxg6.out 3; have hfc4 : w2.frozen? ⟨g6, 4, none⟩ = false := blk_frozen hxg6.out 4)
   | ((with_reducible refine gate_dst (N := 16) rfl ?_); (try (refine gate_guard (by rfl) ?_; dsimp only)); refine goesL_ (some 16) rfl rfl Try.func16 (by kernel_rfl) rfl #[.agg #[.int .i64 a0, .int .i64 a1, .int .i64 a2, .int .i64 a3, .slice A ts.length c]] rfl (by (try simp only [List.map_toArray, List.map_cons, List.map_nil]); first | done | rfl) ?_; refine (check_no a0 a1 a2 a3 (Kd.C_below HC.out B2.out) HLC.out HM.out HCK.out).mono ?_; rintro ex w3 ⟨rfl, hb3⟩; refine ⟨_, rfl, ?_⟩; have HB3 := Aside0.mk (hb3); clear hb3; have Z3 := Aside0.mk (blk_below hxg6.out HB3.out); have X33 := Aside0.mk (blk_below X3.out HB3.out); have B3 := Aside0.mk (below_step B2.out HB3.out); have hcd0 : w3.cell? ⟨g6, 0, none⟩ = some (.int .i64 0) := (blk_cell Z3.out 0).trans rfl; have hcd1 : w3.cell? ⟨g6, 1, none⟩ = some (.int .i64 0) := (blk_cell Z3.out 1).trans rfl; have hcd2 : w3.cell? ⟨g6, 2, none⟩ = some (.int .i64 0) := (blk_cell Z3.out 2).trans rfl; have hcd3 : w3.cell? ⟨g6, 3, none⟩ = some (.int .i64 0) := (blk_cell Z3.out 3).trans rfl; have hcd4 : w3.cell? ⟨g6, 4, none⟩ = some (.slice none 0 0) := (blk_cell Z3.out 4).trans rfl; have hfd0 : w3.frozen? ⟨g6, 0, none⟩ = false := blk_frozen Z3.out 0; have hfd1 : w3.frozen? ⟨g6, 1, none⟩ = false := blk_frozen Z3.out 1; have hfd2 : w3.frozen? ⟨g6, 2, none⟩ = false := blk_frozen Z3.out 2; have hfd3 : w3.frozen? ⟨g6, 3, none⟩ = false := blk_frozen Z3.out 3; have hfd4 : w3.frozen? ⟨g6, 4, none⟩ = false := blk_frozen Z3.out 4))
  refine bodyPost_ret (results_ct rfl _ _ g6 28 #[.int .i64 0, .int .i64 0, .int .i64 0, .int .i64 0, .slice none 0 0] (0, 0) _ rfl (setsE Z3.out) Try.underlying28 rfl (by kernel_rfl)) rfl ?_
  exact ⟨.slice none 0 0, by rw [HR.out] <;> rfl, by rw [HR.out]; exact Kd.N_nil _ _ _ _ _, below5 _ _ _ _ _ B3.out (by have h1 := hqg3.out; have h2 := hqg6.out; have h3 := hbg3.out.size; omega)⟩
 | true =>
  have HCK := Aside0.mk hck
  by_cases hl2 : l2.length ≤ 4096
  ·
   have HL2 := Aside0.mk hl2
   have hgt : ((4096 : Int) < (l2.length : Int)) = False := eq_false (by omega)
   have HR := Aside0.mk (show applyR a0 a1 a2 a3 ts l1 l2 = if (dropB ts [] l1 && checkB (a0 + 1) a1 a2 a3 (sortM (stayM ts l1 ++ l2))) = true then (a0 + 1, a1, a2, a3, sortM (stayM ts l1 ++ l2), 0) else (0, 0, 0, 0, [], 1) by unfold applyR; rw [hck, decide_eq_true hl2]; simp)
   have HIN := Aside0.mk (show inB a0 = true ∧ ts.length ≤ 4096 by unfold checkB at hck; simp only [Bool.and_eq_true, decide_eq_true_eq] at hck; exact ⟨hck.1.1.1.1.1, hck.1.2⟩)
   clear hck hl2
   go_enter Try.func11, Try.ntmps11
   go_wp2_with (first
    | ((with_reducible refine gate_dst (N := 3) rfl ?_); (try (refine gate_guard (by rfl) ?_; dsimp only)); refine box_event ?hg (N := 3) ?hd (cs := #[.int .i64 a0, .int .i64 a1, .int .i64 a2, .int .i64 a3, .slice A ts.length c]) (t := 28) ?hr ?_; (case hd => rfl); (case hg => rfl); (case hr => first | (go_simp; done) | (go_simp; rfl)); intro g3 hqg3 w1 hxg3 hbg3; have n_ := Aside0.mk hqg3; clear hqg3; have hqg3 := n_; clear n_; have n_ := Aside0.mk hxg3; clear hxg3; have hxg3 := n_; clear n_; have n_ := Aside0.mk hbg3; clear hbg3; have hbg3 := n_; clear n_; have hca0 : w1.cell? ⟨g3, 0, none⟩ = some (.int .i64 a0) := (blk_cell hxg3.out 0).trans rfl; have hca1 : w1.cell? ⟨g3, 1, none⟩ = some (.int .i64 a1) := (blk_cell hxg3.out 1).trans rfl; have hca2 : w1.cell? ⟨g3, 2, none⟩ = some (.int .i64 a2) := (blk_cell hxg3.out 2).trans rfl; have hca3 : w1.cell? ⟨g3, 3, none⟩ = some (.int .i64 a3) := (blk_cell hxg3.out 3).trans rfl; have hca4 : w1.cell? ⟨g3, 4, none⟩ = some (.slice A ts.length c) := (blk_cell hxg3.out 4).trans rfl)
    | ((with_reducible refine gate_dst (N := 6) rfl ?_); (try (refine gate_guard (by rfl) ?_; dsimp only)); refine box_event ?hg (N := 6) ?hd (cs := #[.int .i64 0, .int .i64 0, .int .i64 0, .int .i64 0, .slice none 0 0]) (t := 28) ?hr ?_; (case hd => rfl); (case hg => rfl); (case hr => first | (go_simp; done) | (go_simp; rfl)); intro g6 hqg6 w2 hxg6 hbg6; have n_ := Aside0.mk hqg6; clear hqg6; have hqg6 := n_; clear n_; have n_ := Aside0.mk hxg6; clear hxg6; have hxg6 := n_; clear n_; have n_ := Aside0.mk hbg6; clear hbg6; have hbg6 := n_; clear n_; have X3 := Aside0.mk (blk_below hxg3.out hbg6.out); have B2 := Aside0.mk (below_step hbg3.out hbg6.out); have hcb0 : w2.cell? ⟨g3, 0, none⟩ = some (.int .i64 a0) := (blk_cell X3.out 0).trans rfl; have hcb1 : w2.cell? ⟨g3, 1, none⟩ = some (.int .i64 a1) := (blk_cell X3.out 1).trans rfl; have hcb2 : w2.cell? ⟨g3, 2, none⟩ = some (.int .i64 a2) := (blk_cell X3.out 2).trans rfl; have hcb3 : w2.cell? ⟨g3, 3, none⟩ = some (.int .i64 a3) := (blk_cell X3.out 3).trans rfl; have hcb4 : w2.cell? ⟨g3, 4, none⟩ = some (.slice A ts.length c) := (blk_cell X3.out 4).trans rfl; have hcc0 : w2.cell? ⟨g6, 0, none⟩ = some (.int .i64 0) := (blk_cell hxg6.out 0).trans rfl; have hcc1 : w2.cell? ⟨g6, 1, none⟩ = some (.int .i64 0) := (blk_cell hxg6.out 1).trans rfl; have hcc2 : w2.cell? ⟨g6, 2, none⟩ = some (.int .i64 0) := (blk_cell hxg6.out 2).trans rfl; have hcc3 : w2.cell? ⟨g6, 3, none⟩ = some (.int .i64 0) := (blk_cell hxg6.out 3).trans rfl; have hcc4 : w2.cell? ⟨g6, 4, none⟩ = some (.slice none 0 0) := (blk_cell hxg6.out 4).trans rfl; have hfc0 : w2.frozen? ⟨g6, 0, none⟩ = false := blk_frozen hxg6.out 0; have hfc1 : w2.frozen? ⟨g6, 1, none⟩ = false := blk_frozen hxg6.out 1; have hfc2 : w2.frozen? ⟨g6, 2, none⟩ = false := blk_frozen hxg6.out 2; have hfc3 : w2.frozen? ⟨g6, 3, none⟩ = false := blk_frozen hxg6.out 3; have hfc4 : w2.frozen? ⟨g6, 4, none⟩ = false := blk_frozen hxg6.out 4)
    | ((with_reducible refine gate_dst (N := 16) rfl ?_); (try (refine gate_guard (by rfl) ?_; dsimp only)); refine goesL_ (some 16) rfl rfl Try.func16 (by kernel_rfl) rfl #[.agg #[.int .i64 a0, .int .i64 a1, .int .i64 a2, .int .i64 a3, .slice A ts.length c]] rfl (by (try simp only [List.map_toArray, List.map_cons, List.map_nil]); first | done | rfl) ?_; refine (check_yes a0 a1 a2 a3 (Kd.C_below HC.out B2.out) HLC.out HM.out HCK.out).mono ?_; rintro ex w3 ⟨rfl, hb3⟩; refine ⟨_, rfl, ?_⟩; have HB3 := Aside0.mk (hb3); clear hb3; have Z3 := Aside0.mk (blk_below hxg6.out HB3.out); have X33 := Aside0.mk (blk_below X3.out HB3.out); have B3 := Aside0.mk (below_step B2.out HB3.out); have hcd0 : w3.cell? ⟨g6, 0, none⟩ = some (.int .i64 0) := (blk_cell Z3.out 0).trans rfl; have hcd1 : w3.cell? ⟨g6, 1, none⟩ = some (.int .i64 0) := (blk_cell Z3.out 1).trans rfl; have hcd2 : w3.cell? ⟨g6, 2, none⟩ = some (.int .i64 0) := (blk_cell Z3.out 2).trans rfl; have hcd3 : w3.cell? ⟨g6, 3, none⟩ = some (.int .i64 0) := (blk_cell Z3.out 3).trans rfl; have hcd4 : w3.cell? ⟨g6, 4, none⟩ = some (.slice none 0 0) := (blk_cell Z3.out 4).trans rfl; have hfd0 : w3.frozen? ⟨g6, 0, none⟩ = false := blk_frozen Z3.out 0; have hfd1 : w3.frozen? ⟨g6, 1, none⟩ = false := blk_frozen Z3.out 1; have hfd2 : w3.frozen? ⟨g6, 2, none⟩ = false := blk_frozen Z3.out 2; have hfd3 : w3.frozen? ⟨g6, 3, none⟩ = false := blk_frozen Z3.out 3; have hfd4 : w3.frozen? ⟨g6, 4, none⟩ = false := blk_frozen Z3.out 4)
    | ((with_reducible refine gate_dst (N := 24) rfl ?_); refine makeMap_event rfl rfl ?_; intro gm hqm w4 hmp hbm; have n_ := Aside0.mk hqm; clear hqm; have hqm := n_; clear n_; have n_ := Aside0.mk hmp; clear hmp; have hmp := n_; clear n_; have n_ := Aside0.mk hbm; clear hbm; have hbm := n_; clear n_)
    | ((with_reducible refine gate_dst (N := 8) rfl ?_); (try (refine gate_guard (by rfl) ?_; dsimp only)); refine box_event ?hg (N := 8) ?hd (cs := #[.map none]) (t := 59) ?hr ?_; (case hd => rfl); (case hg => rfl); (case hr => first | (go_simp; done) | (go_simp; rfl)); intro g8 hqg8 w5 hxg8 hbg8; have n_ := Aside0.mk hqg8; clear hqg8; have hqg8 := n_; clear n_; have n_ := Aside0.mk hxg8; clear hxg8; have hxg8 := n_; clear n_; have n_ := Aside0.mk hbg8; clear hbg8; have hbg8 := n_; clear n_; have hce0 : w5.cell? ⟨g8, 0, none⟩ = some (.map none) := (blk_cell hxg8.out 0).trans rfl; have hfe0 : w5.frozen? ⟨g8, 0, none⟩ = false := blk_frozen hxg8.out 0))
   clear hgt hca0 hca1 hca2 hca3 hca4 hcb0 hcb1 hcb2 hcb3 hcb4 hcc0 hcc1 hcc2 hcc3 hcc4 hcd0 hcd1 hcd2 hcd3 hcd4 hfc0 hfc1 hfc2 hfc3 hfc4 hfd0 hfd1 hfd2 hfd3 hfd4
   have HGG := Aside0.mk (show w.heap.size ≤ g3 ∧ g3 < g6 ∧ g6 < gm ∧ gm < g8 by have e1 := hqg3.out; have e2 := hqg6.out; have e3 := hqm.out; have e4 := hqg8.out; have e5 := blk_lt hxg3.out; have e6 := blk_lt hxg6.out; have e7 := HB3.out.size; have e8 := hmp.out.lt; omega)
   have S0 := Aside0.mk (show ApS w (w5.setCell ⟨g8, 0, none⟩ (.map (some gm))) g3 g6 g8 gm #[.int .i64 a0, .int .i64 a1, .int .i64 a2, .int .i64 a3, .slice A ts.length c] 0 (fun x => if ([] : List Int).any (fun p => decide (p = x)) then 1 else 0) from
    ⟨blk_far (blk_below (blk_below X33.out hbm.out) hbg8.out) (by have h := HGG.out; show g3 ≠ g8; omega) _, blk_far (blk_below (blk_below Z3.out hbm.out) hbg8.out) (by have h := HGG.out; show g6 ≠ g8; omega) _, blk_put hxg8.out 0 _ rfl,
     MapI.step (MapI.below hmp.out hbg8.out) (Below.heap_setCell _ _ _ _ (by have h := HGG.out; show gm ≠ g8; omega)), below_set (below_step (below_step B3.out hbm.out) hbg8.out) (by have h := HGG.out; omega), HGG.out⟩)
   clear hce0 hfe0
   generalize (w5.setCell ⟨g8, 0, none⟩ (.map (some gm))) = W0 at S0 ⊢
   go_loopg [27] l1.length (fun kq v27 w' => ∃ pre post : List Int, v27 = .int .i64 (pre.length : Int) ∧ Aside0 (kq = post.length) ∧ Aside0 (l1 = pre ++ post ∧ dropB ts [] l1 = dropB ts pre post) ∧ Aside0 (ApS w w' g3 g6 g8 gm #[.int .i64 a0, .int .i64 a1, .int .i64 a2, .int .i64 a3, .slice A ts.length c] pre.length (fun x => if pre.any (fun p => decide (p = x)) then 1 else 0)))
   case atStart => exact ⟨[], l1, rfl, ⟨rfl⟩, ⟨rfl, rfl⟩, S0⟩
   case round =>
    clear S0 HGG hqg3 hxg3 hbg3 hqg6 hxg6 hbg6 X3 B2 HB3 Z3 X33 B3 hqm hmp hbm hqg8 hxg8 hbg8
    obtain ⟨pre, post, rfl, HK, HP, HS⟩ := hrel
    cases gk with
    | zero =>
     have hp1 : l1 = pre := by
      have h1 := List.length_eq_zero_iff.1 HK.out.symm
      have h2 := HP.out.1
      rw [h1, List.append_nil] at h2
      exact h2
     have hd1 : dropB ts [] l1 = true := by
      have h1 := List.length_eq_zero_iff.1 HK.out.symm
      have h2 := HP.out.2
      rw [h1] at h2
      exact h2
     have HR2 := Aside0.mk (show applyR a0 a1 a2 a3 ts l1 l2 = if checkB (a0 + 1) a1 a2 a3 (sortM (stayM ts l1 ++ l2)) = true then (a0 + 1, a1, a2, a3, sortM (stayM ts l1 ++ l2), 0) else (0, 0, 0, 0, [], 1) by rw [HR.out, hd1]; simp)
     clear HR hd1 HP HK
     subst hp1
     have hlt : (l1.length < l1.length) = False := eq_false (by omega)
     have h0l : 0 ≤ a0 := by have h := HIN.out.1; unfold inB at h; exact (of_decide_eq_true h).1
     have h0h : a0 ≤ 1099511627776 := by have h := HIN.out.1; unfold inB at h; exact (of_decide_eq_true h).2
     have hg3 := HS.out.v
     have hcp0 : wr.cell? ⟨g3, 0, none⟩ = some (.int .i64 a0) := (blk_cell hg3 0).trans rfl
     have hcp1 : wr.cell? ⟨g3, 1, none⟩ = some (.int .i64 a1) := (blk_cell hg3 1).trans rfl
     have hcp2 : wr.cell? ⟨g3, 2, none⟩ = some (.int .i64 a2) := (blk_cell hg3 2).trans rfl
     have hcp3 : wr.cell? ⟨g3, 3, none⟩ = some (.int .i64 a3) := (blk_cell hg3 3).trans rfl
     have hcp4 : wr.cell? ⟨g3, 4, none⟩ = some (.slice A ts.length c) := (blk_cell hg3 4).trans rfl
     clear hg3
     have HXL := Aside0.mk (show [stayM ts l1, l2].flatten.length ≤ 1000000000 by have h1 := HIN.out.2; have h2 := HL2.out; have h3 := List.length_filter_le (fun m => !(l1.any fun p => decide (p = m.f0))) ts; show (stayM ts l1 ++ (l2 ++ [])).length ≤ _; unfold stayM; simp only [List.length_append, List.length_nil]; omega)
     have TOK49 : True := trivial
     have TOK54 : True := trivial
     go_wp2_with (first
      | ((with_reducible refine gate_dst (N := 11) rfl ?_); (try (refine gate_guard (by rfl) ?_; dsimp only)); refine box_event ?hg (N := 11) ?hd (cs := #[.int .i64 0, .int .i64 0, .int .i64 0, .int .i64 0, .slice none 0 0]) (t := 28) ?hr ?_; (case hd => rfl); (case hg => rfl); (case hr => first | (go_simp; done) | (go_simp; rfl)); intro g11 hqg11 w6 hxg11 hbg11; have n_ := Aside0.mk hqg11; clear hqg11; have hqg11 := n_; clear n_; have n_ := Aside0.mk hxg11; clear hxg11; have hxg11 := n_; clear n_; have n_ := Aside0.mk hbg11; clear hbg11; have hbg11 := n_; clear n_; have hcm0 : w6.cell? ⟨g11, 0, none⟩ = some (.int .i64 0) := (blk_cell hxg11.out 0).trans rfl; have hcm1 : w6.cell? ⟨g11, 1, none⟩ = some (.int .i64 0) := (blk_cell hxg11.out 1).trans rfl; have hcm2 : w6.cell? ⟨g11, 2, none⟩ = some (.int .i64 0) := (blk_cell hxg11.out 2).trans rfl; have hcm3 : w6.cell? ⟨g11, 3, none⟩ = some (.int .i64 0) := (blk_cell hxg11.out 3).trans rfl; have hcm4 : w6.cell? ⟨g11, 4, none⟩ = some (.slice none 0 0) := (blk_cell hxg11.out 4).trans rfl; have hfm0 : w6.frozen? ⟨g11, 0, none⟩ = false := blk_frozen hxg11.out 0; have hfm1 : w6.frozen? ⟨g11, 1, none⟩ = false := blk_frozen hxg11.out 1; have hfm2 : w6.frozen? ⟨g11, 2, none⟩ = false := blk_frozen hxg11.out 2; have hfm3 : w6.frozen? ⟨g11, 3, none⟩ = false := blk_frozen hxg11.out 3; have hfm4 : w6.frozen? ⟨g11, 4, none⟩ = false := blk_frozen hxg11.out 4)
      | ((with_reducible refine gate_dst (N := 49) rfl ?_); have t_ := TOK49; clear t_ TOK49; have X7 := Aside0.mk (setsE (v0 := .int .i64 a0) (v1 := .int .i64 a1) (v2 := .int .i64 a2) (v3 := .int .i64 a3) (v4 := .slice A ts.length c) hxg11.out); have B7 := Aside0.mk (show Below wr.heap.size wr (((((w6.setCell ⟨g11, 0, none⟩ (.int .i64 a0)).setCell ⟨g11, 1, none⟩ (.int .i64 a1)).setCell ⟨g11, 2, none⟩ (.int .i64 a2)).setCell ⟨g11, 3, none⟩ (.int .i64 a3)).setCell ⟨g11, 4, none⟩ (.slice A ts.length c)) from below5 _ _ _ _ _ hbg11.out (Nat.le_of_eq hqg11.out.symm)); clear hcm0 hfm0 hcm1 hfm1 hcm2 hfm2 hcm3 hfm3 hcm4 hfm4 hxg11 hbg11; generalize (((((w6.setCell ⟨g11, 0, none⟩ (.int .i64 a0)).setCell ⟨g11, 1, none⟩ (.int .i64 a1)).setCell ⟨g11, 2, none⟩ (.int .i64 a2)).setCell ⟨g11, 3, none⟩ (.int .i64 a3)).setCell ⟨g11, 4, none⟩ (.slice A ts.length c)) = w7 at X7 B7 ⊢; have hcn0 : w7.cell? ⟨g11, 0, none⟩ = some (.int .i64 a0) := (blk_cell X7.out 0).trans rfl; have hcn1 : w7.cell? ⟨g11, 1, none⟩ = some (.int .i64 a1) := (blk_cell X7.out 1).trans rfl; have hcn2 : w7.cell? ⟨g11, 2, none⟩ = some (.int .i64 a2) := (blk_cell X7.out 2).trans rfl; have hcn3 : w7.cell? ⟨g11, 3, none⟩ = some (.int .i64 a3) := (blk_cell X7.out 3).trans rfl; have hcn4 : w7.cell? ⟨g11, 4, none⟩ = some (.slice A ts.length c) := (blk_cell X7.out 4).trans rfl; have hfn0 : w7.frozen? ⟨g11, 0, none⟩ = false := blk_frozen X7.out 0; have hfn1 : w7.frozen? ⟨g11, 1, none⟩ = false := blk_frozen X7.out 1; have hfn2 : w7.frozen? ⟨g11, 2, none⟩ = false := blk_frozen X7.out 2; have hfn3 : w7.frozen? ⟨g11, 3, none⟩ = false := blk_frozen X7.out 3; have hfn4 : w7.frozen? ⟨g11, 4, none⟩ = false := blk_frozen X7.out 4)
      | ((with_reducible refine gate_dst (N := 54) rfl ?_); have t_ := TOK54; clear t_ TOK54; have X8 := Aside0.mk (show ((w7.setCell ⟨g11, 0, none⟩ (.int .i64 (a0 + 1))).setCell ⟨g11, 4, none⟩ (.slice none 0 0)).heap[g11]? = some (.cells #[.int .i64 (a0 + 1), .int .i64 a1, .int .i64 a2, .int .i64 a3, .slice none 0 0] 28 (0, 0)) from blk_put (blk_put X7.out 0 (.int .i64 (a0 + 1)) rfl) 4 (.slice none 0 0) rfl); have B8 := Aside0.mk (show Below wr.heap.size wr ((w7.setCell ⟨g11, 0, none⟩ (.int .i64 (a0 + 1))).setCell ⟨g11, 4, none⟩ (.slice none 0 0)) from below_set (below_set B7.out (Nat.le_of_eq hqg11.out.symm)) (Nat.le_of_eq hqg11.out.symm)); clear X7 B7 hcn0 hfn0 hcn1 hfn1 hcn2 hfn2 hcn3 hfn3 hcn4 hfn4; generalize ((w7.setCell ⟨g11, 0, none⟩ (.int .i64 (a0 + 1))).setCell ⟨g11, 4, none⟩ (.slice none 0 0)) = w8 at X8 B8 ⊢; have S8 := Aside0.mk (HS.out.below B8.out); have Q8 := Aside0.mk (show g8 < g11 ∧ g11 < w8.heap.size ∧ w.heap.size ≤ g11 by have h1 := hqg11.out; have h2 := blk_lt HS.out.c; have h3 := blk_lt X8.out; have h4 := HS.out.lo; omega); have hco0 : w8.cell? ⟨g3, 0, none⟩ = some (.int .i64 a0) := (blk_cell S8.out.v 0).trans rfl; have hco1 : w8.cell? ⟨g3, 1, none⟩ = some (.int .i64 a1) := (blk_cell S8.out.v 1).trans rfl; have hco2 : w8.cell? ⟨g3, 2, none⟩ = some (.int .i64 a2) := (blk_cell S8.out.v 2).trans rfl; have hco3 : w8.cell? ⟨g3, 3, none⟩ = some (.int .i64 a3) := (blk_cell S8.out.v 3).trans rfl; have hco4 : w8.cell? ⟨g3, 4, none⟩ = some (.slice A ts.length c) := (blk_cell S8.out.v 4).trans rfl)
      | ((with_reducible refine gate_dst (N := 56) rfl ?_); (try (refine gate_guard (by rfl) ?_; dsimp only)); refine goesL_ (some 56) rfl rfl Try.func31 (by kernel_rfl) rfl #[.slice A ts.length c] rfl (by (try simp only [List.map_toArray, List.map_cons, List.map_nil]); first | done | rfl) ?_; refine (clone_calls (okF := fun k => k < w.heap.size) (Kd.F_below (Kd.C_F k57_heap HC.out) S8.out.b) (by have h := HIN.out.2; omega)).mono ?_; rintro ex w9 ⟨v9, rfl, hn9, hb9⟩; refine ⟨_, rfl, ?_⟩; have n_ := Aside0.mk hn9; clear hn9; have hn9 := n_; clear n_; have n_ := Aside0.mk hb9; clear hb9; have hb9 := n_; clear n_; have S9 := Aside0.mk (S8.out.below hb9.out))
      | ((with_reducible refine gate_dst (N := 58) rfl ?_); (try (refine gate_guard (by rfl) ?_; dsimp only)); refine goesL_ (some 58) rfl rfl Try.func30 (by kernel_rfl) rfl #[v9, .func (.func 32) #[] #[.pointer (some ⟨g8, 0, none⟩)]] rfl (by (try simp only [List.map_toArray, List.map_cons, List.map_nil]); first | done | rfl) ?_; refine (delete_calls hn9.out (by have h := HIN.out.2; omega) HM.out 32 Try.f32 _ Try.func32 (by kernel_rfl) rfl (gone_says S9.out.c S9.out.m _ (fun he => by have h1 := Kd.N_base hn9.out _ he.symm; have h2 := blk_lt S8.out.c; omega) (fun he => by have h1 := Kd.N_base hn9.out _ he.symm; have h2 := S8.out.m.lt; omega))).mono ?_; rintro ex w10 ⟨v10, rfl, hn10, hch10⟩; refine ⟨_, rfl, ?_⟩; have hst : ts.filter (fun e => !(decide (0 < (if l1.any (fun p => decide (p = e.f0)) then (1 : Int) else 0)))) = stayM ts l1 := stay_eq ts l1; rw [hst] at hn10; clear hst; obtain ⟨A10, c10, rfl⟩ := Kd.N_slice hn10; have n_ := Aside0.mk hn10; clear hn10; have hn10 := n_; clear n_; have n_ := Aside0.mk hch10; clear hch10; have hch10 := n_; clear n_; have B10 := Aside0.mk (below_weaken hb9.out (Nat.le_refl _) (Chg.below hch10.out (base := w8.heap.size) (fun k hk => Kd.N_base hn9.out k hk.symm) hb9.out.size)); have S10 := Aside0.mk (S8.out.below B10.out); have X10 := Aside0.mk (blk_below X8.out B10.out))
      | ((with_reducible refine gate_dst (N := 61) rfl ?_); (try (refine gate_guard (by rfl) ?_; dsimp only)); refine row_event ?hg (N := 61) ?hd (cs := #[.slice A10 (stayM ts l1).length c10, .slice A2 l2.length c2]) (t := 26) (n := 2) ?hr ?_; (case hd => rfl); (case hg => rfl); (case hr => first | (go_simp; done) | (go_simp; rfl)); intro g61 hq61 w11 hx61 hb61; have n_ := Aside0.mk hq61; clear hq61; have hq61 := n_; clear n_; have n_ := Aside0.mk hx61; clear hx61; have hx61 := n_; clear n_; have n_ := Aside0.mk hb61; clear hb61; have hb61 := n_; clear n_)
      | ((with_reducible refine gate_dst (N := 62) rfl ?_); (try (refine gate_guard (by rfl) ?_; dsimp only)); refine goesL_ (some 62) rfl rfl Try.func33 (by kernel_rfl) rfl #[.slice (some ⟨g61, 0, none⟩) 2 2] rfl (by (try simp only [List.map_toArray, List.map_cons, List.map_nil]); first | done | rfl) ?_; refine (concat_calls (xss := [stayM ts l1, l2]) (okF := fun k => k < w.heap.size ∨ w8.heap.size ≤ k) (rows2 hx61.out (Kd.N_reads' hn10.out).2.1 HLC2.out (Kd.F_mono (Kd.F_below (Kd.N_F hn10.out) hb61.out) (fun k hk => hk.imp (fun h => h.1) id)) (Kd.F_mono (Kd.F_below (Kd.C_F k57_heap HC2.out) (below_step S10.out.b hb61.out)) (fun k hk => .inl hk))) HXL.out (by show 2 ≤ 1000000000; omega)).mono ?_; rintro ex w12 ⟨v12, rfl, hn12, hb12⟩; refine ⟨_, rfl, ?_⟩; obtain ⟨xs, hxs⟩ : ∃ xs, xs = [stayM ts l1, l2].flatten := ⟨_, rfl⟩; rw [← hxs] at hn12; obtain ⟨A12, c12, rfl⟩ := Kd.N_slice hn12; have n_ := Aside0.mk hxs; clear hxs; have hxs := n_; clear n_; have n_ := Aside0.mk hn12; clear hn12; have hn12 := n_; clear n_; have n_ := Aside0.mk hb12; clear hb12; have hb12 := n_; clear n_; have B12 := Aside0.mk (below_step hb61.out hb12.out); have S12 := Aside0.mk (S10.out.below B12.out); have X12 := Aside0.mk (blk_below X10.out B12.out); have Q12 := Aside0.mk (show w8.heap.size ≤ w11.heap.size ∧ w11.heap.size ≤ w12.heap.size by have h1 := B10.out.size; have h2 := hb61.out.size; have h3 := hb12.out.size; omega)))
     clear hcp0 hco0 hcp1 hco1 hcp2 hco2 hcp3 hco3 hcp4 hco4
     have HXS := Aside0.mk (show xs = stayM ts l1 ++ l2 by rw [hxs.out]; simp)
     have HXM := Aside0.mk (show ∀ m ∈ xs, MB m ∧ Lens m by
      intro m hm
      rw [HXS.out] at hm
      rcases List.mem_append.1 hm with hm | hm
      ·
       have hm := (List.mem_filter.1 hm).1
       have h1 := rightM_len (checkB_right HCK.out m hm)
       exact ⟨HM.out m hm, by unfold Lens; omega⟩
      ·
       exact ⟨HM2.out m hm, HZ2.out m hm⟩)
     have HXF := Aside0.mk (show xs.length < 20 by rw [HXS.out]; unfold stayM; have h1 := HFW.out; have h3 := List.length_filter_le (fun m => !(l1.any fun p => decide (p = m.f0))) ts; simp only [List.length_append]; omega)
     have HXN := Aside0.mk (show xs.length ≤ 1000000000 by rw [hxs.out]; exact HXL.out)
     clear hxs HXL
     go_loopg [64] xs.length (fun kq v64 w' => ∃ (pre post : List S57) (Av : Option Addr) (cv : Nat), v64 = .int .i64 (pre.length : Int) ∧ Aside0 (kq = post.length) ∧ Aside0 (xs = pre ++ post) ∧ Aside0 (w'.heap[g11]? = some (.cells #[.int .i64 (a0 + 1), .int .i64 a1, .int .i64 a2, .int .i64 a3, .slice Av pre.length cv] 28 (0, 0))) ∧ Aside0 (Kd.N k57 57 w' w12.heap.size (fun k => w12.heap.size ≤ k) (.slice Av pre.length cv) pre) ∧ Aside0 (Chg w12 w' (fun k => k = g11)))
     case atStart => exact ⟨[], xs, none, 0, rfl, ⟨rfl⟩, ⟨rfl⟩, X12, ⟨Kd.N_nil _ _ _ _ _⟩, ⟨Chg.refl _ _⟩⟩
     case round =>
      obtain ⟨pre, post, Av, cv, rfl, HK, HP, HX, HN, HCH⟩ := hrel
      clear hlt
      cases gk with
      | zero =>
       as_aux_lemma =>
       have HPE := Aside0.mk (show xs = pre by rw [HP.out, List.length_eq_zero_iff.1 HK.out.symm, List.append_nil])
       clear HP HK
       obtain rfl := HPE.out
       clear HPE
       have hlt : (xs.length < xs.length) = False := eq_false (by omega)
       have hcs4 : wr.cell? ⟨g11, 4, none⟩ = some (.slice Av xs.length cv) := (blk_cell HX.out 4).trans rfl
       go_upto_region 21 with (first
        | ((with_reducible refine gate_dst (N := 78) rfl ?_); (try (refine gate_guard (by rfl) ?_; dsimp only)); refine goesL_ (some 78) rfl rfl Try.func35 (by kernel_rfl) rfl #[.slice Av xs.length cv, .func (.func 36) #[] #[]] rfl (by (try simp only [List.map_toArray, List.map_cons, List.map_nil]); first | done | rfl) ?_; refine (sort_few HN.out HXF.out cmpM_ord (fun z hz => (HXM.out z hz).1) 36 Try.f36 #[] Try.func36 (by kernel_rfl) rfl (cmp_says _ _)).mono ?_; rintro ex w20 ⟨rfl, ⟨ys, hpm, hsr, hny⟩, hch⟩; refine ⟨_, rfl, ?_⟩; have X20 := Aside0.mk (blk_kept HX.out hch.kept (fun he => by have h1 := Kd.N_base HN.out g11 he.symm; have h2 := Q8.out; have h3 := Q12.out; omega)); have HYL := Aside0.mk hpm.length_eq; have SC := Aside0.mk (sort_check (g := a0 + 1) (n := a1) (l := a2) (s := a3) (fun z hz => (HXM.out z hz).1) hpm hsr); have HYM := Aside0.mk (show ∀ z ∈ ys, MB z from fun z hz => (HXM.out z (hpm.mem_iff.1 hz)).1); have Z20 := Aside0.mk (blk_kept (blk_kept S12.out.z HCH.out.kept (fun he => by have h1 := Q8.out; have h2 := S12.out.lo; omega)) hch.kept (fun he => by have h1 := Kd.N_base HN.out g6 he.symm; have h2 := blk_lt S12.out.z; omega)); have B20 := Aside0.mk (below_weaken (below_weaken S12.out.b (Nat.le_refl _) (Chg.below HCH.out (base := w.heap.size) (fun k hk => by have h1 := Q8.out; omega) S12.out.b.size)) (Nat.le_refl _) (Chg.below hch (base := w.heap.size) (fun k hk => Nat.le_trans S12.out.b.size (Kd.N_base HN.out k hk.symm)) (Nat.le_trans S12.out.b.size HCH.out.kept.1))); have n_ := Aside0.mk hny; clear hny; have hny := n_; clear n_; clear hpm hsr hch; have hcu0 : w20.cell? ⟨g11, 0, none⟩ = some (.int .i64 (a0 + 1)) := (blk_cell X20.out 0).trans rfl; have hcu1 : w20.cell? ⟨g11, 1, none⟩ = some (.int .i64 a1) := (blk_cell X20.out 1).trans rfl; have hcu2 : w20.cell? ⟨g11, 2, none⟩ = some (.int .i64 a2) := (blk_cell X20.out 2).trans rfl; have hcu3 : w20.cell? ⟨g11, 3, none⟩ = some (.int .i64 a3) := (blk_cell X20.out 3).trans rfl; have hcu4 : w20.cell? ⟨g11, 4, none⟩ = some (.slice Av xs.length cv) := (blk_cell X20.out 4).trans rfl))
       clear hlt hcs4
       cases hck2 : checkB (a0 + 1) a1 a2 a3 ys with
       | false =>
        have HR3 := Aside0.mk (show applyR a0 a1 a2 a3 ts l1 l2 = (0, 0, 0, 0, [], 1) by rw [HR2.out, ← HXS.out, ← SC.out.1, hck2]; rfl)
        have HCK2 := Aside0.mk hck2
        clear hck2
        go_wp2_with (first
         | ((with_reducible refine gate_dst (N := 80) rfl ?_); (try (refine gate_guard (by rfl) ?_; dsimp only)); refine goesL_ (some 80) rfl rfl Try.func16 (by kernel_rfl) rfl #[.agg #[.int .i64 (a0 + 1), .int .i64 a1, .int .i64 a2, .int .i64 a3, .slice Av xs.length cv]] rfl (by (try simp only [List.map_toArray, List.map_cons, List.map_nil]); first | done | rfl) ?_; refine (check_noN (a0 + 1) a1 a2 a3 (Kd.N_reads' hny.out).2.2 HYL.out (Nat.le_trans (Nat.le_of_eq HYL.out) (Kd.N_reads' hny.out).2.1) HYM.out HCK2.out).mono ?_; rintro ex w21 ⟨rfl, hb21⟩; refine ⟨_, rfl, ?_⟩; have hb21 := Aside0.mk hb21; have Z21 := Aside0.mk (blk_below Z20.out hb21.out); have X21 := Aside0.mk (blk_below X20.out hb21.out); have B21 := Aside0.mk (below_step B20.out hb21.out); have hcw0 : w21.cell? ⟨g6, 0, none⟩ = some (.int .i64 0) := (blk_cell Z21.out 0).trans rfl; have hcw1 : w21.cell? ⟨g6, 1, none⟩ = some (.int .i64 0) := (blk_cell Z21.out 1).trans rfl; have hcw2 : w21.cell? ⟨g6, 2, none⟩ = some (.int .i64 0) := (blk_cell Z21.out 2).trans rfl; have hcw3 : w21.cell? ⟨g6, 3, none⟩ = some (.int .i64 0) := (blk_cell Z21.out 3).trans rfl; have hcw4 : w21.cell? ⟨g6, 4, none⟩ = some (.slice none 0 0) := (blk_cell Z21.out 4).trans rfl; have hfw0 : w21.frozen? ⟨g6, 0, none⟩ = false := blk_frozen Z21.out 0; have hfw1 : w21.frozen? ⟨g6, 1, none⟩ = false := blk_frozen Z21.out 1; have hfw2 : w21.frozen? ⟨g6, 2, none⟩ = false := blk_frozen Z21.out 2; have hfw3 : w21.frozen? ⟨g6, 3, none⟩ = false := blk_frozen Z21.out 3; have hfw4 : w21.frozen? ⟨g6, 4, none⟩ = false := blk_frozen Z21.out 4; have hcx0 : w21.cell? ⟨g11, 0, none⟩ = some (.int .i64 (a0 + 1)) := (blk_cell X21.out 0).trans rfl; have hcx1 : w21.cell? ⟨g11, 1, none⟩ = some (.int .i64 a1) := (blk_cell X21.out 1).trans rfl; have hcx2 : w21.cell? ⟨g11, 2, none⟩ = some (.int .i64 a2) := (blk_cell X21.out 2).trans rfl; have hcx3 : w21.cell? ⟨g11, 3, none⟩ = some (.int .i64 a3) := (blk_cell X21.out 3).trans rfl; have hcx4 : w21.cell? ⟨g11, 4, none⟩ = some (.slice Av xs.length cv) := (blk_cell X21.out 4).trans rfl))
        refine bodyPost_ret (results_ct rfl _ _ g6 28 #[.int .i64 0, .int .i64 0, .int .i64 0, .int .i64 0, .slice none 0 0] (0, 0) _ rfl (setsE Z21.out) Try.underlying28 rfl (by kernel_rfl)) rfl ?_
        exact ⟨.slice none 0 0, by rw [HR3.out] <;> rfl, by rw [HR3.out]; exact Kd.N_nil _ _ _ _ _, below5 _ _ _ _ _ B21.out (by have h1 := S12.out.lo; omega)⟩
       | true =>
        have HR3 := Aside0.mk (show applyR a0 a1 a2 a3 ts l1 l2 = (a0 + 1, a1, a2, a3, ys, 0) by rw [HR2.out, ← HXS.out, ← SC.out.1, hck2, if_pos rfl, ← SC.out.2 hck2])
        have HCK2 := Aside0.mk hck2
        clear hck2
        go_wp2_with (first
         | ((with_reducible refine gate_dst (N := 80) rfl ?_); (try (refine gate_guard (by rfl) ?_; dsimp only)); refine goesL_ (some 80) rfl rfl Try.func16 (by kernel_rfl) rfl #[.agg #[.int .i64 (a0 + 1), .int .i64 a1, .int .i64 a2, .int .i64 a3, .slice Av xs.length cv]] rfl (by (try simp only [List.map_toArray, List.map_cons, List.map_nil]); first | done | rfl) ?_; refine (check_yesN (a0 + 1) a1 a2 a3 (Kd.N_reads' hny.out).2.2 HYL.out (Nat.le_trans (Nat.le_of_eq HYL.out) (Kd.N_reads' hny.out).2.1) HYM.out HCK2.out).mono ?_; rintro ex w21 ⟨rfl, hb21⟩; refine ⟨_, rfl, ?_⟩; have hb21 := Aside0.mk hb21; have Z21 := Aside0.mk (blk_below Z20.out hb21.out); have X21 := Aside0.mk (blk_below X20.out hb21.out); have B21 := Aside0.mk (below_step B20.out hb21.out); have hcw0 : w21.cell? ⟨g6, 0, none⟩ = some (.int .i64 0) := (blk_cell Z21.out 0).trans rfl; have hcw1 : w21.cell? ⟨g6, 1, none⟩ = some (.int .i64 0) := (blk_cell Z21.out 1).trans rfl; have hcw2 : w21.cell? ⟨g6, 2, none⟩ = some (.int .i64 0) := (blk_cell Z21.out 2).trans rfl; have hcw3 : w21.cell? ⟨g6, 3, none⟩ = some (.int .i64 0) := (blk_cell Z21.out 3).trans rfl; have hcw4 : w21.cell? ⟨g6, 4, none⟩ = some (.slice none 0 0) := (blk_cell Z21.out 4).trans rfl; have hfw0 : w21.frozen? ⟨g6, 0, none⟩ = false := blk_frozen Z21.out 0; have hfw1 : w21.frozen? ⟨g6, 1, none⟩ = false := blk_frozen Z21.out 1; have hfw2 : w21.frozen? ⟨g6, 2, none⟩ = false := blk_frozen Z21.out 2; have hfw3 : w21.frozen? ⟨g6, 3, none⟩ = false := blk_frozen Z21.out 3; have hfw4 : w21.frozen? ⟨g6, 4, none⟩ = false := blk_frozen Z21.out 4; have hcx0 : w21.cell? ⟨g11, 0, none⟩ = some (.int .i64 (a0 + 1)) := (blk_cell X21.out 0).trans rfl; have hcx1 : w21.cell? ⟨g11, 1, none⟩ = some (.int .i64 a1) := (blk_cell X21.out 1).trans rfl; have hcx2 : w21.cell? ⟨g11, 2, none⟩ = some (.int .i64 a2) := (blk_cell X21.out 2).trans rfl; have hcx3 : w21.cell? ⟨g11, 3, none⟩ = some (.int .i64 a3) := (blk_cell X21.out 3).trans rfl; have hcx4 : w21.cell? ⟨g11, 4, none⟩ = some (.slice Av xs.length cv) := (blk_cell X21.out 4).trans rfl))
        refine bodyPost_ret (results_ct rfl _ _ g6 28 #[.int .i64 (a0 + 1), .int .i64 a1, .int .i64 a2, .int .i64 a3, .slice Av xs.length cv] (0, 0) _ rfl (setsE Z21.out) Try.underlying28 rfl (by kernel_rfl)) rfl ?_
        exact ⟨.slice Av xs.length cv, by rw [HR3.out] <;> rfl, by rw [HR3.out]; exact Kd.N_lower (Kd.N_mono (Kd.N_keep (Kd.N_below hny.out hb21.out) (keep5 _ _ _ _ _ _ _) (fun k hk he => by have h1 := blk_lt S12.out.z; omega)) (fun k hk => Nat.le_trans S12.out.b.size hk)) S12.out.b.size, below5 _ _ _ _ _ B21.out (by have h1 := S12.out.lo; omega)⟩
      | succ k1 =>
       as_aux_lemma =>
       obtain ⟨m, post', rfl⟩ : ∃ m p, post = m :: p := by
        cases post with
        | nil => exact absurd HK.out (by simp)
        | cons m p => exact ⟨m, p, rfl⟩
       have hlt : (pre.length < xs.length) = True := eq_true (by rw [HP.out]; simp)
       have HPL := Aside0.mk (show pre.length < 1000000000 by have h1 := HXN.out; have h2 := congrArg List.length HP.out; simp only [List.length_append, List.length_cons] at h2; omega)
       have HLM := Aside0.mk (HXM.out m (by rw [HP.out]; simp)).2
       have HWK := Aside0.mk (wadd1 (x := pre.length) (z := pre.length + 1) rfl (by have h1 := HPL.out; omega))
       have HPX := Aside0.mk (show xs = pre ++ [m] ++ post' by rw [HP.out]; simp)
       have HR12 := Aside0.mk (Kd.N_kept hn12.out HCH.out.kept (fun k hk he => by
        have h1 := Q8.out
        have h2 := Q12.out
        rcases hk with hk | hk
        ·
         rcases hk.1 with h3 | h3 <;> omega
        ·
         omega))
       obtain ⟨ad, M3, e3, M4, e4, hA, hd0, hd1, hd2, hd3, hd4, hE_⟩ := at_CE (Kd.N_reads' HR12.out).2.2 pre.length m (by rw [HP.out]; exact get_app _ _ _)
       subst hA
       have hRM := Aside0.mk hE_
       clear hE_
       go_wp2_with ((with_reducible refine gate_dst (N := 14) rfl ?_); (try (refine gate_guard (by rfl) ?_; dsimp only)); refine box_event ?hg (N := 14) ?hd (cs := #[.int .i64 0, .int .i64 0, .int .i64 0, .slice none 0 0, .slice none 0 0]) (t := 57) ?hr ?_; (case hd => rfl); (case hg => rfl); (case hr => first | (go_simp; done) | (go_simp; rfl)); intro g14 hqg14 w13 hxg14 hbg14; have n_ := Aside0.mk hqg14; clear hqg14; have hqg14 := n_; clear n_; have n_ := Aside0.mk hxg14; clear hxg14; have hxg14 := n_; clear n_; have n_ := Aside0.mk hbg14; clear hbg14; have hbg14 := n_; clear n_; have hcr0 : w13.cell? ⟨g14, 0, none⟩ = some (.int .i64 0) := (blk_cell hxg14.out 0).trans rfl; have hcr1 : w13.cell? ⟨g14, 1, none⟩ = some (.int .i64 0) := (blk_cell hxg14.out 1).trans rfl; have hcr2 : w13.cell? ⟨g14, 2, none⟩ = some (.int .i64 0) := (blk_cell hxg14.out 2).trans rfl; have hcr3 : w13.cell? ⟨g14, 3, none⟩ = some (.slice none 0 0) := (blk_cell hxg14.out 3).trans rfl; have hcr4 : w13.cell? ⟨g14, 4, none⟩ = some (.slice none 0 0) := (blk_cell hxg14.out 4).trans rfl; have hfr0 : w13.frozen? ⟨g14, 0, none⟩ = false := blk_frozen hxg14.out 0; have hfr1 : w13.frozen? ⟨g14, 1, none⟩ = false := blk_frozen hxg14.out 1; have hfr2 : w13.frozen? ⟨g14, 2, none⟩ = false := blk_frozen hxg14.out 2; have hfr3 : w13.frozen? ⟨g14, 3, none⟩ = false := blk_frozen hxg14.out 3; have hfr4 : w13.frozen? ⟨g14, 4, none⟩ = false := blk_frozen hxg14.out 4)
       have X13 := Aside0.mk (blk_keep (blk_below HX.out hbg14.out) (keep5 w13 g14 (.int .i64 m.f0) (.int .i64 m.f1) (.int .i64 m.f2) (.slice M3 m.f3.length e3) (.slice M4 m.f4.length e4)) (fun he => by have h1 := blk_lt HX.out; have h2 := hqg14.out; omega))
       have Y13 := Aside0.mk (setsE (v0 := .int .i64 m.f0) (v1 := .int .i64 m.f1) (v2 := .int .i64 m.f2) (v3 := .slice M3 m.f3.length e3) (v4 := .slice M4 m.f4.length e4) hxg14.out)
       have N13 := Aside0.mk (Kd.N_keep (Kd.N_below (Kd.N_bound HN.out) hbg14.out) (keep5 w13 g14 (.int .i64 m.f0) (.int .i64 m.f1) (.int .i64 m.f2) (.slice M3 m.f3.length e3) (.slice M4 m.f4.length e4)) (fun k hk he => by have h1 := hqg14.out; have h2 := hk.2; omega))
       have B13 := Aside0.mk (show Below wr.heap.size wr (((((w13.setCell ⟨g14, 0, none⟩ (.int .i64 m.f0)).setCell ⟨g14, 1, none⟩ (.int .i64 m.f1)).setCell ⟨g14, 2, none⟩ (.int .i64 m.f2)).setCell ⟨g14, 3, none⟩ (.slice M3 m.f3.length e3)).setCell ⟨g14, 4, none⟩ (.slice M4 m.f4.length e4)) from below5 _ _ _ _ _ hbg14.out (Nat.le_of_eq hqg14.out.symm))
       have B13r := Aside0.mk (show Below wr.heap.size wr (((((w13.setCell ⟨g14, 0, none⟩ (.int .i64 m.f0)).setCell ⟨g14, 1, none⟩ (.int .i64 m.f1)).setCell ⟨g14, 2, none⟩ (.int .i64 m.f2)).setCell ⟨g14, 3, none⟩ (.slice M3 m.f3.length e3)).setCell ⟨g14, 4, none⟩ (.slice M4 m.f4.length e4)) from below5 _ _ _ _ _ hbg14.out (Nat.le_of_eq hqg14.out.symm))
       clear hd0 hd1 hd2 hd3 hd4 hcr0 hfr0 hcr1 hfr1 hcr2 hfr2 hcr3 hfr3 hcr4 hfr4
       refine s_ 8 [7] (fun w' => w'.cell? ⟨g11, 4, none⟩ = some (.slice Av pre.length cv) ∧ w'.cell? ⟨g14, 0, none⟩ = some (.int .i64 m.f0) ∧ w'.cell? ⟨g14, 1, none⟩ = some (.int .i64 m.f1) ∧ w'.cell? ⟨g14, 2, none⟩ = some (.int .i64 m.f2) ∧ w'.cell? ⟨g14, 3, none⟩ = some (.slice M3 m.f3.length e3) ∧ w'.cell? ⟨g14, 4, none⟩ = some (.slice M4 m.f4.length e4)) (hS := ⟨(blk_cell (blk_drew X13.out) 4).trans rfl, (blk_cell (blk_drew Y13.out) 0).trans rfl, (blk_cell (blk_drew Y13.out) 1).trans rfl, (blk_cell (blk_drew Y13.out) 2).trans rfl, (blk_cell (blk_drew Y13.out) 3).trans rfl, (blk_cell (blk_drew Y13.out) 4).trans rfl⟩) (h := fun hHeld => ?_)
       have X14 := Aside0.mk (blk_drew X13.out)
       have Y14 := Aside0.mk (blk_drew Y13.out)
       have N14 := Aside0.mk (Kd.N_drew N13.out)
       have B14 := Aside0.mk (below_drew B13.out)
       have B14r := Aside0.mk (below_drew B13r.out)
       have Q14 := Aside0.mk (show wr.heap.size ≤ (((((w13.setCell ⟨g14, 0, none⟩ (.int .i64 m.f0)).setCell ⟨g14, 1, none⟩ (.int .i64 m.f1)).setCell ⟨g14, 2, none⟩ (.int .i64 m.f2)).setCell ⟨g14, 3, none⟩ (.slice M3 m.f3.length e3)).setCell ⟨g14, 4, none⟩ (.slice M4 m.f4.length e4)).drew.heap.size ∧ wr.heap.size ≤ g14 from ⟨B14r.out.size, by have h := hqg14.out; omega⟩)
       clear X13 Y13 N13 B13 B13r
       generalize (((((w13.setCell ⟨g14, 0, none⟩ (.int .i64 m.f0)).setCell ⟨g14, 1, none⟩ (.int .i64 m.f1)).setCell ⟨g14, 2, none⟩ (.int .i64 m.f2)).setCell ⟨g14, 3, none⟩ (.slice M3 m.f3.length e3)).setCell ⟨g14, 4, none⟩ (.slice M4 m.f4.length e4)).drew = w14 at X14 Y14 N14 B14 B14r Q14 hHeld ⊢
       refine p_ 0 68 (bb 8 1) (h := ?_)
       refine t_ 1 69 (bb 8 3) hHeld (h := ?_)
       refine t_ 2 70 (bb 8 7) hHeld (h := ?_)
       refine n_ 3 71 (bb 8 15) (h := fun K hK => ?_)
       refine goes_ Try.func34 (by kernel_rfl) rfl #[.agg #[.int .i64 m.f0, .int .i64 m.f1, .int .i64 m.f2, .slice M3 m.f3.length e3, .slice M4 m.f4.length e4]] (by rfl) rfl rfl (by (try simp only [List.map_toArray, List.map_cons, List.map_nil]); first | done | rfl) ?_
       refine (edit_Meta_copied.calls m.f0 m.f1 m.f2 M3 e3 m.f3 M4 e4 m.f4 m.f0 m.f1 m.f2 m.f3 m.f4 w14 (Kd.C_below hRM.out.2.1 B14.out) hRM.out.1 (Kd.C_below hRM.out.2.2.2 B14.out) hRM.out.2.2.1 (copied_f m HLM.out)).mono ?_
       rintro ex w15 ⟨v3, v4, rfl, ho3, ho4, hb15⟩
       refine ⟨_, rfl, ?_⟩
       obtain ⟨D3, q3, rfl⟩ := Kd.R_slice ho3
       obtain ⟨D4, q4, rfl⟩ := Kd.R_slice ho4
       have F3 := Aside0.mk (Kd.F_mono (ok' := fun k => w14.heap.size ≤ k) (Kd.R_F (Kd.R_bound ho3)) (fun _ hk => hk.2.1))
       have F4 := Aside0.mk (Kd.F_mono (ok' := fun k => w14.heap.size ≤ k) (Kd.R_F (Kd.R_bound ho4)) (fun _ hk => hk.2.1))
       have L3 := Aside0.mk (Kd.R_reads' ho3).2.1
       have L4 := Aside0.mk (Kd.R_reads' ho4).2.1
       have hb15 := Aside0.mk hb15
       clear ho3 ho4
       have X15 := Aside0.mk (blk_below X14.out hb15.out)
       have Y15 := Aside0.mk (blk_below Y14.out hb15.out)
       have N15 := Aside0.mk (Kd.N_below N14.out hb15.out)
       have B15 := Aside0.mk (below_step B14r.out hb15.out)
       refine hK.out _ _ ⟨(blk_cell X15.out 4).trans rfl, (blk_cell Y15.out 0).trans rfl, (blk_cell Y15.out 1).trans rfl, (blk_cell Y15.out 2).trans rfl, (blk_cell Y15.out 3).trans rfl, (blk_cell Y15.out 4).trans rfl⟩ (fun hHeld => ?_)
       clear hK K
       refine m_ 71 (h := ?_)
       refine n_ 4 72 (bb 8 31) (h := fun K hK => ?_)
       refine value_ (w1 := w15.alloc (.cells #[.int .i64 m.f0, .int .i64 m.f1, .int .i64 m.f2, .slice D3 m.f3.length q3, .slice D4 m.f4.length q4] 57 (0, 0))) (v := .slice (some ⟨w15.heap.size, 0, none⟩) 1 1) (by rfl) rfl (build1_run (x := .tmp 71) rfl rfl) ?_
       refine hK.out _ _ ⟨(blk_cell (blk_alloc X15.out _) 4).trans rfl, (blk_cell (blk_alloc Y15.out _) 0).trans rfl, (blk_cell (blk_alloc Y15.out _) 1).trans rfl, (blk_cell (blk_alloc Y15.out _) 2).trans rfl, (blk_cell (blk_alloc Y15.out _) 3).trans rfl, (blk_cell (blk_alloc Y15.out _) 4).trans rfl⟩ (fun hHeld => ?_)
       clear hK K
       refine m_ 72 (h := ?_)
       refine n_ 5 73 (bb 8 63) (h := fun K hK => ?_)
       refine Kd.N_append_step k57 (w0 := wr) w12.heap.size (by rfl) (.tmp 69) (.tmp 72) 26 57 (.agg #[.int .i64 0, .int .i64 0, .int .i64 0, .slice none 0 0, .slice none 0 0]) 72 rfl Try.underlying26 info57 rfl (by decide) (by omega) (.slice Av pre.length cv) pre m [.int .i64 m.f0, .int .i64 m.f1, .int .i64 m.f2, .slice D3 m.f3.length q3, .slice D4 m.f4.length q4] (fun k => w12.heap.size ≤ k) (fun k => wr.heap.size ≤ k) rfl rfl ?aP ?aH ?aF ?aO ?aB ?aS ?aL ?_
       case aP => exact k57_mkF _ _ m L3.out (Kd.F_mono F3.out (fun k hk => Nat.le_trans Q14.out.1 hk)) L4.out (Kd.F_mono F4.out (fun k hk => Nat.le_trans Q14.out.1 hk))
       case aH => exact fun k hk => ⟨Nat.le_trans HCH.out.kept.1 hk, fun he => by have h1 := Kd.N_lt HN.out k he.symm; omega⟩
       case aF => exact fun k hk => by have h1 := HCH.out.kept.1; have h2 := B15.out.size; omega
       case aO => exact Kd.N_mono N15.out (fun _ hk => hk.1)
       case aB => exact below_lower B15.out HCH.out.kept.1
       case aS => exact Nat.le_trans HCH.out.kept.1 B15.out.size
       case aL => have h1 := HPL.out; omega
       intro v16 w16 hn16 hb16 hgr16 hat16
       obtain ⟨A16, c16, rfl⟩ := Kd.N_slice hn16
       have hn16 := Aside0.mk hn16
       have hb16 := Aside0.mk hb16
       have X16 := Aside0.mk (blk_grown X15.out hgr16 (fun he => by have h1 := Kd.N_base HN.out g11 he.symm; have h2 := Q12.out; have h3 := Q8.out; omega))
       have Y16 := Aside0.mk (blk_grown Y15.out hgr16 (fun he => by have h1 := Kd.N_lt HN.out g14 he.symm; have h2 := Q14.out; omega))
       clear hgr16 hat16
       refine hK.out _ _ ⟨(blk_cell X16.out 4).trans rfl, (blk_cell Y16.out 0).trans rfl, (blk_cell Y16.out 1).trans rfl, (blk_cell Y16.out 2).trans rfl, (blk_cell Y16.out 3).trans rfl, (blk_cell Y16.out 4).trans rfl⟩ (fun hHeld => ?_)
       clear hK K
       refine m_ 73 (h := ?_)
       have hcv4 : w16.cell? ⟨g11, 4, none⟩ = some (.slice Av pre.length cv) := (blk_cell X16.out 4).trans rfl
       have hfv4 : w16.frozen? ⟨g11, 4, none⟩ = false := blk_frozen X16.out 4
       refine p_ 6 74 (bb 8 127) (h := ?_)
       refine l_ 7 (bb 8 255) (h := ?_)
       refine d_ (h := ?_)
       go_wp2
       go_roundg k1
       case measure => exact Nat.lt_succ_self _
       case rel => exact ⟨pre ++ [m], post', A16, c16, by first | rfl | (rw [HWK.out, List.length_append]; rfl) | (rw [List.length_append]; rfl), ⟨by have h1 := HK.out; simp only [List.length_cons] at h1; omega⟩, ⟨HPX.out⟩, ⟨blk_put X16.out 4 _ (by rw [List.length_append]; rfl)⟩, ⟨Kd.N_far hn16.out (fun k hk => by show k ≠ g11; have h1 := Q8.out; have h2 := Q12.out; omega) _⟩, ⟨Chg.set (Chg.then_below HCH.out hb16.out) (.inl rfl) _⟩⟩
    | succ k1 =>
     obtain ⟨n, post', rfl⟩ : ∃ m p, post = m :: p := by
      cases post with
      | nil => exact absurd HK.out (by simp)
      | cons m p => exact ⟨m, p, rfl⟩
     have hlt : (pre.length < l1.length) = True := eq_true (by rw [HP.out.1]; simp)
     have HPL := Aside0.mk (show pre.length < 900000000 by have h1 := HL1.out; have h2 := congrArg List.length HP.out.1; simp only [List.length_append, List.length_cons] at h2; omega)
     have HNB := Aside0.mk (HI.out n (by rw [HP.out.1]; simp))
     have HWK := Aside0.mk (wadd1 (x := pre.length) (z := pre.length + 1) rfl (by have h1 := HPL.out; omega))
     have HNX := Aside0.mk (show dropB ts [] l1 = (!(pre.any fun p => decide (p = n)) && ts.any (fun m => m.f0 == n) && dropB ts (pre ++ [n]) post') from HP.out.2)
     have HPX := Aside0.mk (show l1 = pre ++ [n] ++ post' by rw [HP.out.1]; simp)
     obtain ⟨ad, eA, hd0⟩ := at_CI HC1.out pre.length n (by rw [HP.out.1]; exact get_app _ _ _)
     subst eA
     have hm0 := pw_cell_below HS.out.b hd0
     clear hd0
     have TOK31 : True := trivial
     cases hdup : pre.any (fun p => decide (p = n)) with
     | true =>
      as_aux_lemma =>
      have HR2 := Aside0.mk (show applyR a0 a1 a2 a3 ts l1 l2 = (0, 0, 0, 0, [], 1) by rw [HR.out, HNX.out, hdup]; rfl)
      have HDUP := Aside0.mk hdup
      clear hdup
      go_wp2_with (first
       | ((with_reducible refine gate_dst (N := 10) rfl ?_); (try (refine gate_guard (by rfl) ?_; dsimp only)); refine box_event ?hg (N := 10) ?hd (cs := #[.int .i64 0]) (t := 3) ?hr ?_; (case hd => rfl); (case hg => rfl); (case hr => first | (go_simp; done) | (go_simp; rfl)); intro g10 hqg10 w6 hxg10 hbg10; have n_ := Aside0.mk hqg10; clear hqg10; have hqg10 := n_; clear n_; have n_ := Aside0.mk hxg10; clear hxg10; have hxg10 := n_; clear n_; have n_ := Aside0.mk hbg10; clear hbg10; have hbg10 := n_; clear n_; have hcf0 : w6.cell? ⟨g10, 0, none⟩ = some (.int .i64 0) := (blk_cell hxg10.out 0).trans rfl; have hff0 : w6.frozen? ⟨g10, 0, none⟩ = false := blk_frozen hxg10.out 0)
       | ((with_reducible refine gate_dst (N := 31) rfl ?_); have t_ := TOK31; clear t_ TOK31; have X7 := Aside0.mk (show (w6.setCell ⟨g10, 0, none⟩ (.int .i64 n)).heap[g10]? = some (.cells #[.int .i64 n] 3 (0, 0)) from blk_put hxg10.out 0 (.int .i64 n) rfl); have S7 := Aside0.mk (show ApS w (w6.setCell ⟨g10, 0, none⟩ (.int .i64 n)) g3 g6 g8 gm #[.int .i64 a0, .int .i64 a1, .int .i64 a2, .int .i64 a3, .slice A ts.length c] pre.length (fun x => if pre.any (fun p => decide (p = x)) then 1 else 0) from HS.out.below (below_set hbg10.out (Nat.le_of_eq hqg10.out.symm))); have Q7 := Aside0.mk (show gm < g10 by have h1 := hqg10.out; have h2 := HS.out.m.lt; omega); clear hcf0 hff0 hxg10 hbg10; generalize (w6.setCell ⟨g10, 0, none⟩ (.int .i64 n)) = w7 at X7 S7 ⊢; have hcg0 : w7.cell? ⟨g10, 0, none⟩ = some (.int .i64 n) := (blk_cell X7.out 0).trans rfl; have hcg1 : w7.cell? ⟨g8, 0, none⟩ = some (.map (some gm)) := (blk_cell S7.out.c 0).trans rfl)
       | ((with_reducible refine gate_dst (N := 33) rfl ?_); refine lookup_event rfl (.tmp 31) (.tmp 32) rfl rfl S7.out.m n HNB.out.1 HNB.out.2 rfl (c0 := 1) (by show (if pre.any (fun p => decide (p = n)) then (1 : Int) else 0) = _; rw [HDUP.out]; rfl) ?_)
       | ((with_reducible refine gate_ (.mapUpdate 59 (.tmp 31) (.tmp 32) (.tmp 34)) rfl ?_); refine update_event rfl (.tmp 31) (.tmp 32) (.tmp 34) rfl rfl S7.out.m (by have h := HPL.out; omega) n (2) HNB.out.1 HNB.out.2 (by omega) (by omega) rfl rfl ?_; intro w8 hm8 hg8_; have S8 := Aside0.mk (S7.out.upd hm8 hg8_); have X8 := Aside0.mk (blk_grown X7.out hg8_ (by intro he; injection he with he; have h1 := Q7.out; omega)); clear hm8 hg8_; have hch0 : w8.cell? ⟨g10, 0, none⟩ = some (.int .i64 n) := (blk_cell X8.out 0).trans rfl; have hch1 : w8.cell? ⟨g8, 0, none⟩ = some (.map (some gm)) := (blk_cell S8.out.c 0).trans rfl; have hci0 : w8.cell? ⟨g3, 0, none⟩ = some (.int .i64 a0) := (blk_cell S8.out.v 0).trans rfl; have hci1 : w8.cell? ⟨g3, 1, none⟩ = some (.int .i64 a1) := (blk_cell S8.out.v 1).trans rfl; have hci2 : w8.cell? ⟨g3, 2, none⟩ = some (.int .i64 a2) := (blk_cell S8.out.v 2).trans rfl; have hci3 : w8.cell? ⟨g3, 3, none⟩ = some (.int .i64 a3) := (blk_cell S8.out.v 3).trans rfl; have hci4 : w8.cell? ⟨g3, 4, none⟩ = some (.slice A ts.length c) := (blk_cell S8.out.v 4).trans rfl; have hcj0 : w8.cell? ⟨g6, 0, none⟩ = some (.int .i64 0) := (blk_cell S8.out.z 0).trans rfl; have hcj1 : w8.cell? ⟨g6, 1, none⟩ = some (.int .i64 0) := (blk_cell S8.out.z 1).trans rfl; have hcj2 : w8.cell? ⟨g6, 2, none⟩ = some (.int .i64 0) := (blk_cell S8.out.z 2).trans rfl; have hcj3 : w8.cell? ⟨g6, 3, none⟩ = some (.int .i64 0) := (blk_cell S8.out.z 3).trans rfl; have hcj4 : w8.cell? ⟨g6, 4, none⟩ = some (.slice none 0 0) := (blk_cell S8.out.z 4).trans rfl; have hfj0 : w8.frozen? ⟨g6, 0, none⟩ = false := blk_frozen S8.out.z 0; have hfj1 : w8.frozen? ⟨g6, 1, none⟩ = false := blk_frozen S8.out.z 1; have hfj2 : w8.frozen? ⟨g6, 2, none⟩ = false := blk_frozen S8.out.z 2; have hfj3 : w8.frozen? ⟨g6, 3, none⟩ = false := blk_frozen S8.out.z 3; have hfj4 : w8.frozen? ⟨g6, 4, none⟩ = false := blk_frozen S8.out.z 4)
       | ((with_reducible refine gate_dst (N := 37) rfl ?_); refine lookup_event rfl (.tmp 35) (.tmp 36) rfl rfl S8.out.m n HNB.out.1 HNB.out.2 rfl (c0 := 2) (by exact if_pos rfl) ?_))
      refine bodyPost_ret (results_ct rfl _ _ g6 28 #[.int .i64 0, .int .i64 0, .int .i64 0, .int .i64 0, .slice none 0 0] (0, 0) _ rfl (setsE S8.out.z) Try.underlying28 rfl (by kernel_rfl)) rfl ?_
      exact ⟨.slice none 0 0, by rw [HR2.out] <;> rfl, by rw [HR2.out]; exact Kd.N_nil _ _ _ _ _, below5 _ _ _ _ _ S8.out.b (by have h1 := S8.out.lo; omega)⟩
     | false =>
      have HDUP := Aside0.mk hdup
      cases hany : ts.any (fun m => m.f0 == n) with
      | false =>
       as_aux_lemma =>
       have HR2 := Aside0.mk (show applyR a0 a1 a2 a3 ts l1 l2 = (0, 0, 0, 0, [], 1) by rw [HR.out, HNX.out, hdup, hany]; rfl)
       have HANY := Aside0.mk hany
       clear hany hdup
       go_wp2_with (first
        | ((with_reducible refine gate_dst (N := 10) rfl ?_); (try (refine gate_guard (by rfl) ?_; dsimp only)); refine box_event ?hg (N := 10) ?hd (cs := #[.int .i64 0]) (t := 3) ?hr ?_; (case hd => rfl); (case hg => rfl); (case hr => first | (go_simp; done) | (go_simp; rfl)); intro g10 hqg10 w6 hxg10 hbg10; have n_ := Aside0.mk hqg10; clear hqg10; have hqg10 := n_; clear n_; have n_ := Aside0.mk hxg10; clear hxg10; have hxg10 := n_; clear n_; have n_ := Aside0.mk hbg10; clear hbg10; have hbg10 := n_; clear n_; have hcf0 : w6.cell? ⟨g10, 0, none⟩ = some (.int .i64 0) := (blk_cell hxg10.out 0).trans rfl; have hff0 : w6.frozen? ⟨g10, 0, none⟩ = false := blk_frozen hxg10.out 0)
        | ((with_reducible refine gate_dst (N := 31) rfl ?_); have t_ := TOK31; clear t_ TOK31; have X7 := Aside0.mk (show (w6.setCell ⟨g10, 0, none⟩ (.int .i64 n)).heap[g10]? = some (.cells #[.int .i64 n] 3 (0, 0)) from blk_put hxg10.out 0 (.int .i64 n) rfl); have S7 := Aside0.mk (show ApS w (w6.setCell ⟨g10, 0, none⟩ (.int .i64 n)) g3 g6 g8 gm #[.int .i64 a0, .int .i64 a1, .int .i64 a2, .int .i64 a3, .slice A ts.length c] pre.length (fun x => if pre.any (fun p => decide (p = x)) then 1 else 0) from HS.out.below (below_set hbg10.out (Nat.le_of_eq hqg10.out.symm))); have Q7 := Aside0.mk (show gm < g10 by have h1 := hqg10.out; have h2 := HS.out.m.lt; omega); clear hcf0 hff0 hxg10 hbg10; generalize (w6.setCell ⟨g10, 0, none⟩ (.int .i64 n)) = w7 at X7 S7 ⊢; have hcg0 : w7.cell? ⟨g10, 0, none⟩ = some (.int .i64 n) := (blk_cell X7.out 0).trans rfl; have hcg1 : w7.cell? ⟨g8, 0, none⟩ = some (.map (some gm)) := (blk_cell S7.out.c 0).trans rfl)
        | ((with_reducible refine gate_dst (N := 33) rfl ?_); refine lookup_event rfl (.tmp 31) (.tmp 32) rfl rfl S7.out.m n HNB.out.1 HNB.out.2 rfl (c0 := 0) (by show (if pre.any (fun p => decide (p = n)) then (1 : Int) else 0) = _; rw [HDUP.out]; rfl) ?_)
        | ((with_reducible refine gate_ (.mapUpdate 59 (.tmp 31) (.tmp 32) (.tmp 34)) rfl ?_); refine update_event rfl (.tmp 31) (.tmp 32) (.tmp 34) rfl rfl S7.out.m (by have h := HPL.out; omega) n (1) HNB.out.1 HNB.out.2 (by omega) (by omega) rfl rfl ?_; intro w8 hm8 hg8_; have S8 := Aside0.mk (S7.out.upd hm8 hg8_); have X8 := Aside0.mk (blk_grown X7.out hg8_ (by intro he; injection he with he; have h1 := Q7.out; omega)); clear hm8 hg8_; have hch0 : w8.cell? ⟨g10, 0, none⟩ = some (.int .i64 n) := (blk_cell X8.out 0).trans rfl; have hch1 : w8.cell? ⟨g8, 0, none⟩ = some (.map (some gm)) := (blk_cell S8.out.c 0).trans rfl; have hci0 : w8.cell? ⟨g3, 0, none⟩ = some (.int .i64 a0) := (blk_cell S8.out.v 0).trans rfl; have hci1 : w8.cell? ⟨g3, 1, none⟩ = some (.int .i64 a1) := (blk_cell S8.out.v 1).trans rfl; have hci2 : w8.cell? ⟨g3, 2, none⟩ = some (.int .i64 a2) := (blk_cell S8.out.v 2).trans rfl; have hci3 : w8.cell? ⟨g3, 3, none⟩ = some (.int .i64 a3) := (blk_cell S8.out.v 3).trans rfl; have hci4 : w8.cell? ⟨g3, 4, none⟩ = some (.slice A ts.length c) := (blk_cell S8.out.v 4).trans rfl; have hcj0 : w8.cell? ⟨g6, 0, none⟩ = some (.int .i64 0) := (blk_cell S8.out.z 0).trans rfl; have hcj1 : w8.cell? ⟨g6, 1, none⟩ = some (.int .i64 0) := (blk_cell S8.out.z 1).trans rfl; have hcj2 : w8.cell? ⟨g6, 2, none⟩ = some (.int .i64 0) := (blk_cell S8.out.z 2).trans rfl; have hcj3 : w8.cell? ⟨g6, 3, none⟩ = some (.int .i64 0) := (blk_cell S8.out.z 3).trans rfl; have hcj4 : w8.cell? ⟨g6, 4, none⟩ = some (.slice none 0 0) := (blk_cell S8.out.z 4).trans rfl; have hfj0 : w8.frozen? ⟨g6, 0, none⟩ = false := blk_frozen S8.out.z 0; have hfj1 : w8.frozen? ⟨g6, 1, none⟩ = false := blk_frozen S8.out.z 1; have hfj2 : w8.frozen? ⟨g6, 2, none⟩ = false := blk_frozen S8.out.z 2; have hfj3 : w8.frozen? ⟨g6, 3, none⟩ = false := blk_frozen S8.out.z 3; have hfj4 : w8.frozen? ⟨g6, 4, none⟩ = false := blk_frozen S8.out.z 4)
        | ((with_reducible refine gate_dst (N := 37) rfl ?_); refine lookup_event rfl (.tmp 35) (.tmp 36) rfl rfl S8.out.m n HNB.out.1 HNB.out.2 rfl (c0 := 1) (by exact if_pos rfl) ?_)
        | ((with_reducible refine gate_dst (N := 43) rfl ?_); (try (refine gate_guard (by rfl) ?_; dsimp only)); refine goesL_ (some 43) rfl rfl Try.func28 (by kernel_rfl) rfl #[.slice A ts.length c, .func (.func 29) #[] #[.pointer (some ⟨g10, 0, none⟩)]] rfl (by (try simp only [List.map_toArray, List.map_cons, List.map_nil]); first | done | rfl) ?_; refine (contains_calls (Kd.C_below HC.out S8.out.b) (by have h := HIN.out.2; omega) HM.out 29 Try.f29 _ Try.func29 (by kernel_rfl) rfl (has_says X8.out (fun _ => False) (fun h => h) MB)).mono ?_; rintro ex w9 ⟨he, hb9⟩; rw [HANY.out] at he; subst he; refine ⟨_, rfl, ?_⟩; have S9 := Aside0.mk (S8.out.below hb9); clear hb9; have hck0 : w9.cell? ⟨g6, 0, none⟩ = some (.int .i64 0) := (blk_cell S9.out.z 0).trans rfl; have hck1 : w9.cell? ⟨g6, 1, none⟩ = some (.int .i64 0) := (blk_cell S9.out.z 1).trans rfl; have hck2 : w9.cell? ⟨g6, 2, none⟩ = some (.int .i64 0) := (blk_cell S9.out.z 2).trans rfl; have hck3 : w9.cell? ⟨g6, 3, none⟩ = some (.int .i64 0) := (blk_cell S9.out.z 3).trans rfl; have hck4 : w9.cell? ⟨g6, 4, none⟩ = some (.slice none 0 0) := (blk_cell S9.out.z 4).trans rfl; have hfk0 : w9.frozen? ⟨g6, 0, none⟩ = false := blk_frozen S9.out.z 0; have hfk1 : w9.frozen? ⟨g6, 1, none⟩ = false := blk_frozen S9.out.z 1; have hfk2 : w9.frozen? ⟨g6, 2, none⟩ = false := blk_frozen S9.out.z 2; have hfk3 : w9.frozen? ⟨g6, 3, none⟩ = false := blk_frozen S9.out.z 3; have hfk4 : w9.frozen? ⟨g6, 4, none⟩ = false := blk_frozen S9.out.z 4))
       refine bodyPost_ret (results_ct rfl _ _ g6 28 #[.int .i64 0, .int .i64 0, .int .i64 0, .int .i64 0, .slice none 0 0] (0, 0) _ rfl (setsE S9.out.z) Try.underlying28 rfl (by kernel_rfl)) rfl ?_
       exact ⟨.slice none 0 0, by rw [HR2.out] <;> rfl, by rw [HR2.out]; exact Kd.N_nil _ _ _ _ _, below5 _ _ _ _ _ S9.out.b (by have h1 := S9.out.lo; omega)⟩
      | true =>
       as_aux_lemma =>
       have HN2 := Aside0.mk (show dropB ts [] l1 = dropB ts (pre ++ [n]) post' by rw [HNX.out, hdup, hany]; rfl)
       have HANY := Aside0.mk hany
       clear hany hdup
       go_wp2_with (first
        | ((with_reducible refine gate_dst (N := 10) rfl ?_); (try (refine gate_guard (by rfl) ?_; dsimp only)); refine box_event ?hg (N := 10) ?hd (cs := #[.int .i64 0]) (t := 3) ?hr ?_; (case hd => rfl); (case hg => rfl); (case hr => first | (go_simp; done) | (go_simp; rfl)); intro g10 hqg10 w6 hxg10 hbg10; have n_ := Aside0.mk hqg10; clear hqg10; have hqg10 := n_; clear n_; have n_ := Aside0.mk hxg10; clear hxg10; have hxg10 := n_; clear n_; have n_ := Aside0.mk hbg10; clear hbg10; have hbg10 := n_; clear n_; have hcf0 : w6.cell? ⟨g10, 0, none⟩ = some (.int .i64 0) := (blk_cell hxg10.out 0).trans rfl; have hff0 : w6.frozen? ⟨g10, 0, none⟩ = false := blk_frozen hxg10.out 0)
        | ((with_reducible refine gate_dst (N := 31) rfl ?_); have t_ := TOK31; clear t_ TOK31; have X7 := Aside0.mk (show (w6.setCell ⟨g10, 0, none⟩ (.int .i64 n)).heap[g10]? = some (.cells #[.int .i64 n] 3 (0, 0)) from blk_put hxg10.out 0 (.int .i64 n) rfl); have S7 := Aside0.mk (show ApS w (w6.setCell ⟨g10, 0, none⟩ (.int .i64 n)) g3 g6 g8 gm #[.int .i64 a0, .int .i64 a1, .int .i64 a2, .int .i64 a3, .slice A ts.length c] pre.length (fun x => if pre.any (fun p => decide (p = x)) then 1 else 0) from HS.out.below (below_set hbg10.out (Nat.le_of_eq hqg10.out.symm))); have Q7 := Aside0.mk (show gm < g10 by have h1 := hqg10.out; have h2 := HS.out.m.lt; omega); clear hcf0 hff0 hxg10 hbg10; generalize (w6.setCell ⟨g10, 0, none⟩ (.int .i64 n)) = w7 at X7 S7 ⊢; have hcg0 : w7.cell? ⟨g10, 0, none⟩ = some (.int .i64 n) := (blk_cell X7.out 0).trans rfl; have hcg1 : w7.cell? ⟨g8, 0, none⟩ = some (.map (some gm)) := (blk_cell S7.out.c 0).trans rfl)
        | ((with_reducible refine gate_dst (N := 33) rfl ?_); refine lookup_event rfl (.tmp 31) (.tmp 32) rfl rfl S7.out.m n HNB.out.1 HNB.out.2 rfl (c0 := 0) (by show (if pre.any (fun p => decide (p = n)) then (1 : Int) else 0) = _; rw [HDUP.out]; rfl) ?_)
        | ((with_reducible refine gate_ (.mapUpdate 59 (.tmp 31) (.tmp 32) (.tmp 34)) rfl ?_); refine update_event rfl (.tmp 31) (.tmp 32) (.tmp 34) rfl rfl S7.out.m (by have h := HPL.out; omega) n (1) HNB.out.1 HNB.out.2 (by omega) (by omega) rfl rfl ?_; intro w8 hm8 hg8_; have S8 := Aside0.mk (S7.out.upd hm8 hg8_); have X8 := Aside0.mk (blk_grown X7.out hg8_ (by intro he; injection he with he; have h1 := Q7.out; omega)); clear hm8 hg8_; have hch0 : w8.cell? ⟨g10, 0, none⟩ = some (.int .i64 n) := (blk_cell X8.out 0).trans rfl; have hch1 : w8.cell? ⟨g8, 0, none⟩ = some (.map (some gm)) := (blk_cell S8.out.c 0).trans rfl; have hci0 : w8.cell? ⟨g3, 0, none⟩ = some (.int .i64 a0) := (blk_cell S8.out.v 0).trans rfl; have hci1 : w8.cell? ⟨g3, 1, none⟩ = some (.int .i64 a1) := (blk_cell S8.out.v 1).trans rfl; have hci2 : w8.cell? ⟨g3, 2, none⟩ = some (.int .i64 a2) := (blk_cell S8.out.v 2).trans rfl; have hci3 : w8.cell? ⟨g3, 3, none⟩ = some (.int .i64 a3) := (blk_cell S8.out.v 3).trans rfl; have hci4 : w8.cell? ⟨g3, 4, none⟩ = some (.slice A ts.length c) := (blk_cell S8.out.v 4).trans rfl; have hcj0 : w8.cell? ⟨g6, 0, none⟩ = some (.int .i64 0) := (blk_cell S8.out.z 0).trans rfl; have hcj1 : w8.cell? ⟨g6, 1, none⟩ = some (.int .i64 0) := (blk_cell S8.out.z 1).trans rfl; have hcj2 : w8.cell? ⟨g6, 2, none⟩ = some (.int .i64 0) := (blk_cell S8.out.z 2).trans rfl; have hcj3 : w8.cell? ⟨g6, 3, none⟩ = some (.int .i64 0) := (blk_cell S8.out.z 3).trans rfl; have hcj4 : w8.cell? ⟨g6, 4, none⟩ = some (.slice none 0 0) := (blk_cell S8.out.z 4).trans rfl; have hfj0 : w8.frozen? ⟨g6, 0, none⟩ = false := blk_frozen S8.out.z 0; have hfj1 : w8.frozen? ⟨g6, 1, none⟩ = false := blk_frozen S8.out.z 1; have hfj2 : w8.frozen? ⟨g6, 2, none⟩ = false := blk_frozen S8.out.z 2; have hfj3 : w8.frozen? ⟨g6, 3, none⟩ = false := blk_frozen S8.out.z 3; have hfj4 : w8.frozen? ⟨g6, 4, none⟩ = false := blk_frozen S8.out.z 4)
        | ((with_reducible refine gate_dst (N := 37) rfl ?_); refine lookup_event rfl (.tmp 35) (.tmp 36) rfl rfl S8.out.m n HNB.out.1 HNB.out.2 rfl (c0 := 1) (by exact if_pos rfl) ?_)
        | ((with_reducible refine gate_dst (N := 43) rfl ?_); (try (refine gate_guard (by rfl) ?_; dsimp only)); refine goesL_ (some 43) rfl rfl Try.func28 (by kernel_rfl) rfl #[.slice A ts.length c, .func (.func 29) #[] #[.pointer (some ⟨g10, 0, none⟩)]] rfl (by (try simp only [List.map_toArray, List.map_cons, List.map_nil]); first | done | rfl) ?_; refine (contains_calls (Kd.C_below HC.out S8.out.b) (by have h := HIN.out.2; omega) HM.out 29 Try.f29 _ Try.func29 (by kernel_rfl) rfl (has_says X8.out (fun _ => False) (fun h => h) MB)).mono ?_; rintro ex w9 ⟨he, hb9⟩; rw [HANY.out] at he; subst he; refine ⟨_, rfl, ?_⟩; have S9 := Aside0.mk (S8.out.below hb9); clear hb9; have hck0 : w9.cell? ⟨g6, 0, none⟩ = some (.int .i64 0) := (blk_cell S9.out.z 0).trans rfl; have hck1 : w9.cell? ⟨g6, 1, none⟩ = some (.int .i64 0) := (blk_cell S9.out.z 1).trans rfl; have hck2 : w9.cell? ⟨g6, 2, none⟩ = some (.int .i64 0) := (blk_cell S9.out.z 2).trans rfl; have hck3 : w9.cell? ⟨g6, 3, none⟩ = some (.int .i64 0) := (blk_cell S9.out.z 3).trans rfl; have hck4 : w9.cell? ⟨g6, 4, none⟩ = some (.slice none 0 0) := (blk_cell S9.out.z 4).trans rfl; have hfk0 : w9.frozen? ⟨g6, 0, none⟩ = false := blk_frozen S9.out.z 0; have hfk1 : w9.frozen? ⟨g6, 1, none⟩ = false := blk_frozen S9.out.z 1; have hfk2 : w9.frozen? ⟨g6, 2, none⟩ = false := blk_frozen S9.out.z 2; have hfk3 : w9.frozen? ⟨g6, 3, none⟩ = false := blk_frozen S9.out.z 3; have hfk4 : w9.frozen? ⟨g6, 4, none⟩ = false := blk_frozen S9.out.z 4))
       go_roundg k1
       case measure => exact Nat.lt_succ_self _
       case rel => exact ⟨pre ++ [n], post', by first | rfl | (rw [HWK.out, List.length_append]; rfl) | (rw [List.length_append]; rfl), ⟨by have h1 := HK.out; simp only [List.length_cons] at h1; omega⟩, ⟨HPX.out, HN2.out⟩, ⟨⟨S9.out.v, S9.out.z, S9.out.c, MapI.moreI S9.out.m, S9.out.b, S9.out.lo⟩⟩⟩
  ·
   as_aux_lemma =>
   have hgt : ((4096 : Int) < (l2.length : Int)) = True := eq_true (by omega)
   have HR := Aside0.mk (show applyR a0 a1 a2 a3 ts l1 l2 = (0, 0, 0, 0, [], 1) by unfold applyR; rw [hck, decide_eq_false hl2]; rfl)
   clear hck hl2
   go_enter Try.func11, Try.ntmps11
   go_wp2_with (first
    | ((with_reducible refine gate_dst (N := 3) rfl ?_); (try (refine gate_guard (by rfl) ?_; dsimp only)); refine box_event ?hg (N := 3) ?hd (cs := #[.int .i64 a0, .int .i64 a1, .int .i64 a2, .int .i64 a3, .slice A ts.length c]) (t := 28) ?hr ?_; (case hd => rfl); (case hg => rfl); (case hr => first | (go_simp; done) | (go_simp; rfl)); intro g3 hqg3 w1 hxg3 hbg3; have n_ := Aside0.mk hqg3; clear hqg3; have hqg3 := n_; clear n_; have n_ := Aside0.mk hxg3; clear hxg3; have hxg3 := n_; clear n_; have n_ := Aside0.mk hbg3; clear hbg3; have hbg3 := n_; clear n_; have hca0 : w1.cell? ⟨g3, 0, none⟩ = some (.int .i64 a0) := (blk_cell hxg3.out 0).trans rfl; have hca1 : w1.cell? ⟨g3, 1, none⟩ = some (.int .i64 a1) := (blk_cell hxg3.out 1).trans rfl; have hca2 : w1.cell? ⟨g3, 2, none⟩ = some (.int .i64 a2) := (blk_cell hxg3.out 2).trans rfl; have hca3 : w1.cell? ⟨g3, 3, none⟩ = some (.int .i64 a3) := (blk_cell hxg3.out 3).trans rfl; have hca4 : w1.cell? ⟨g3, 4, none⟩ = some (.slice A ts.length c) := (blk_cell hxg3.out 4).trans rfl)
    | ((with_reducible refine gate_dst (N := 6) rfl ?_); (try (refine gate_guard (by rfl) ?_; dsimp only)); refine box_event ?hg (N := 6) ?hd (cs := #[.int .i64 0, .int .i64 0, .int .i64 0, .int .i64 0, .slice none 0 0]) (t := 28) ?hr ?_; (case hd => rfl); (case hg => rfl); (case hr => first | (go_simp; done) | (go_simp; rfl)); intro g6 hqg6 w2 hxg6 hbg6; have n_ := Aside0.mk hqg6; clear hqg6; have hqg6 := n_; clear n_; have n_ := Aside0.mk hxg6; clear hxg6; have hxg6 := n_; clear n_; have n_ := Aside0.mk hbg6; clear hbg6; have hbg6 := n_; clear n_; have X3 := Aside0.mk (blk_below hxg3.out hbg6.out); have B2 := Aside0.mk (below_step hbg3.out hbg6.out); have hcb0 : w2.cell? ⟨g3, 0, none⟩ = some (.int .i64 a0) := (blk_cell X3.out 0).trans rfl; have hcb1 : w2.cell? ⟨g3, 1, none⟩ = some (.int .i64 a1) := (blk_cell X3.out 1).trans rfl; have hcb2 : w2.cell? ⟨g3, 2, none⟩ = some (.int .i64 a2) := (blk_cell X3.out 2).trans rfl; have hcb3 : w2.cell? ⟨g3, 3, none⟩ = some (.int .i64 a3) := (blk_cell X3.out 3).trans rfl; have hcb4 : w2.cell? ⟨g3, 4, none⟩ = some (.slice A ts.length c) := (blk_cell X3.out 4).trans rfl; have hcc0 : w2.cell? ⟨g6, 0, none⟩ = some (.int .i64 0) := (blk_cell hxg6.out 0).trans rfl; have hcc1 : w2.cell? ⟨g6, 1, none⟩ = some (.int .i64 0) := (blk_cell hxg6.out 1).trans rfl; have hcc2 : w2.cell? ⟨g6, 2, none⟩ = some (.int .i64 0) := (blk_cell hxg6.out 2).trans rfl; have hcc3 : w2.cell? ⟨g6, 3, none⟩ = some (.int .i64 0) := (blk_cell hxg6.out 3).trans rfl; have hcc4 : w2.cell? ⟨g6, 4, none⟩ = some (.slice none 0 0) := (blk_cell hxg6.out 4).trans rfl; have hfc0 : w2.frozen? ⟨g6, 0, none⟩ = false := blk_frozen hxg6.out 0; have hfc1 : w2.frozen? ⟨g6, 1, none⟩ = false := blk_frozen hxg6.out 1; have hfc2 : w2.frozen? ⟨g6, 2, none⟩ = false := blk_frozen hxg6.out 2; have hfc3 : w2.frozen? ⟨g6, 3, none⟩ = false := blk_frozen hxg6.out 3; have hfc4 : w2.frozen? ⟨g6, 4, none⟩ = false := blk_frozen hxg6.out 4)
    | ((with_reducible refine gate_dst (N := 16) rfl ?_); (try (refine gate_guard (by rfl) ?_; dsimp only)); refine goesL_ (some 16) rfl rfl Try.func16 (by kernel_rfl) rfl #[.agg #[.int .i64 a0, .int .i64 a1, .int .i64 a2, .int .i64 a3, .slice A ts.length c]] rfl (by (try simp only [List.map_toArray, List.map_cons, List.map_nil]); first | done | rfl) ?_; refine (check_yes a0 a1 a2 a3 (Kd.C_below HC.out B2.out) HLC.out HM.out HCK.out).mono ?_; rintro ex w3 ⟨rfl, hb3⟩; refine ⟨_, rfl, ?_⟩; have HB3 := Aside0.mk (hb3); clear hb3; have Z3 := Aside0.mk (blk_below hxg6.out HB3.out); have X33 := Aside0.mk (blk_below X3.out HB3.out); have B3 := Aside0.mk (below_step B2.out HB3.out); have hcd0 : w3.cell? ⟨g6, 0, none⟩ = some (.int .i64 0) := (blk_cell Z3.out 0).trans rfl; have hcd1 : w3.cell? ⟨g6, 1, none⟩ = some (.int .i64 0) := (blk_cell Z3.out 1).trans rfl; have hcd2 : w3.cell? ⟨g6, 2, none⟩ = some (.int .i64 0) := (blk_cell Z3.out 2).trans rfl; have hcd3 : w3.cell? ⟨g6, 3, none⟩ = some (.int .i64 0) := (blk_cell Z3.out 3).trans rfl; have hcd4 : w3.cell? ⟨g6, 4, none⟩ = some (.slice none 0 0) := (blk_cell Z3.out 4).trans rfl; have hfd0 : w3.frozen? ⟨g6, 0, none⟩ = false := blk_frozen Z3.out 0; have hfd1 : w3.frozen? ⟨g6, 1, none⟩ = false := blk_frozen Z3.out 1; have hfd2 : w3.frozen? ⟨g6, 2, none⟩ = false := blk_frozen Z3.out 2; have hfd3 : w3.frozen? ⟨g6, 3, none⟩ = false := blk_frozen Z3.out 3; have hfd4 : w3.frozen? ⟨g6, 4, none⟩ = false := blk_frozen Z3.out 4))
   refine bodyPost_ret (results_ct rfl _ _ g6 28 #[.int .i64 0, .int .i64 0, .int .i64 0, .int .i64 0, .slice none 0 0] (0, 0) _ rfl (setsE Z3.out) Try.underlying28 rfl (by kernel_rfl)) rfl ?_
   exact ⟨.slice none 0 0, by rw [HR.out] <;> rfl, by rw [HR.out]; exact Kd.N_nil _ _ _ _ _, below5 _ _ _ _ _ B3.out (by have h1 := hqg3.out; have h2 := hqg6.out; have h3 := hbg3.out.size; omega)⟩
end Go.Proofs.Ythpklhkibcenoaa.Sk
