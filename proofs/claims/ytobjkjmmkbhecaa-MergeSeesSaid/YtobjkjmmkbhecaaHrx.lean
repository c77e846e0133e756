/- What comes in as entries, or as rows of entries, opened, with the sizes of its rows. Conditions: those of each theorem. -/
import Derived.Test.YtobjkjmmkbhecaaPx0
import Derived.Test.YtobjkjmmkbhecaaHrw
import Derived.Deep.Slices
import Derived.ChangeShapes
import Derived.SizedLaws
namespace Go.Proofs.Ytobjkjmmkbhecaa.Rw
open Go.ChangeShapes Go.WideShapes Go.RowKit Go.Proofs.Ytobjkjmmkbhecaa.Px Go.Proofs.YtobjkjmmkbhecaaW.PrintWords Go.Proofs.Ytobjkjmmkbhecaa.Sk Go.Proofs.Ytobjkjmmkbhecaa.Sw
set_option linter.unusedVariables false
theorem cells_bytes : Try.prog.cellsOf 34 = 1 := by kernel_rfl
theorem cells_int : Try.prog.cellsOf 3 = 1 := by kernel_rfl
theorem cells_bool : Try.prog.cellsOf 4 = 1 := by kernel_rfl
theorem cells_u8 : Try.prog.cellsOf 5 = 1 := by kernel_rfl
theorem cells_entry : Try.prog.cellsOf 36 = 4 := by kernel_rfl
theorem cells_row : Try.prog.cellsOf 24 = 1 := by kernel_rfl
theorem bytes_u8 : Try.prog.bytesOf 5 = 1 := by kernel_rfl
theorem bytes_entry : Try.prog.bytesOf 36 = 64 := by kernel_rfl
theorem bytes_row : Try.prog.bytesOf 24 = 24 := by kernel_rfl
instance : Inhabited S36 := ⟨⟨[], 0, false, []⟩⟩
theorem byts_wf {l : List Int} (h : ∀ x ∈ l, (Lit.int .u8 x).wf = true) : Byts l := byts_of_wf h
theorem i64_wf {n : Int} (h : (Lit.int .i64 n).wf = true) : I64 n := by
 have e1 : IntKind.i64.min = -9223372036854775808 := rfl
 have e2 : IntKind.i64.max = 9223372036854775807 := rfl
 simp [Lit.wf] at h
 unfold I64
 omega
/-- An entry that may come in. -/
def In (e : S36) : Prop := EB e ∧ e.f0.length < 140737488355328 ∧ e.f3.length < 140737488355328
section
variable {H : Type} {enc : TypeId × Value → H} {W : World}
/-- A row of bytes out of one cell. -/
theorem open_bytes {n : Nat} {v : Value} {y : DataW H × List MemPlace} (h : DataW.trod enc Try.prog W 0 (fun _ => true) true n 34 [v] = some y) :
  ∃ (l : List Int) (A : Option Addr) (c : Nat), v = .slice A l.length c ∧ l.length ≤ c ∧ Kd.C (Kd.int .u8) W A l.length l ∧ ∀ x ∈ l, (Lit.int .u8 x).wf = true := by
 have fin : ∀ (a : Option Addr) (len cap : Nat) (zs : List Int), ((a = none ∧ len = 0 ∧ cap = 0 ∧ zs = []) ∨ ∃ x, a = some x ∧ len ≤ cap ∧ cap ≤ maxLen ∧ zs.length = cap ∧ (∀ i, i < zs.length → W.cell? (x.add i) = some (.int .u8 (zs.getD i 0))) ∧ ∀ n ∈ zs, (Lit.int .u8 n).wf = true) → v = .slice a len cap →
   ∃ (l : List Int) (A : Option Addr) (c : Nat), v = .slice A l.length c ∧ l.length ≤ c ∧ Kd.C (Kd.int .u8) W A l.length l ∧ ∀ x ∈ l, (Lit.int .u8 x).wf = true := by
  intro a len cap zs hz hv
  obtain ⟨l, rfl, hr, _, hw, hc⟩ := ReadsInt.ofRowC hz
  exact ⟨l, a, cap, hv, hc, Kd.C_of_reads (d := (0 : Int)) (h1 := fun _ => rfl) hr, hw⟩
 rcases open_ints Try.underlying34 Try.underlying5 cells_u8 h with ⟨hcs, _⟩ | ⟨x, l, c, zs, hcs, _, hl, hm, hz, _, hcell, hwz⟩
 ·
  simp only [List.cons.injEq, and_true] at hcs
  exact fin none 0 0 [] (.inl ⟨rfl, rfl, rfl, rfl⟩) hcs
 ·
  simp only [List.cons.injEq, and_true] at hcs
  exact fin _ _ _ zs (.inr ⟨_, rfl, hl, hm, by simpa using hz, hcell, hwz⟩) hcs
def Small (P : Program) (t : TypeId) (d : DataW H) : Prop := (DataW.weights P t d).all (· ≤ reachBytes) = true
theorem small_of {P : Program} {ts : List TypeId} {ds : List (DataW H)} (hsz : (DataW.weightsEach P ts ds).all (· ≤ reachBytes) = true) {j : Nat} {t : TypeId} {d : DataW H} (ht : ts[j]? = some t) (hd : ds[j]? = some d) : Small P t d :=
 List.all_eq_true.2 (fun n hn => List.all_eq_true.1 hsz n (DataW.weights_mem_each ht hd n hn))
theorem small_all {P : Program} {e : TypeId} : ∀ (l : List (DataW H)), (DataW.weightsAll P e l).all (· ≤ reachBytes) = true → ∀ d ∈ l, Small P e d
 | [], _, d, hd => by cases hd
 | a :: r, h, d, hd => by
  simp only [DataW.weightsAll, List.all_append, Bool.and_eq_true] at h
  rcases List.mem_cons.1 hd with rfl | hd
  ·
   exact h.1
  ·
   exact small_all r h.2 d hd
theorem small_slice {P : Program} {t e : TypeId} {els sp : List (DataW H)} (ht : P.underlying t = some (.slice e)) (h : Small P t (.slice els sp)) : (els.length + sp.length) * P.bytesOf e ≤ reachBytes ∧ ∀ d ∈ els, Small P e d := by
 unfold Small at h
 simp only [DataW.weights, ht, List.all_cons, List.all_append, Bool.and_eq_true, decide_eq_true_eq] at h
 exact ⟨h.1, small_all els h.2.1⟩
theorem small_bytes {n : Nat} {l : List Int} {A : Option Addr} {c : Nat} {y : DataW H × List MemPlace} (h : DataW.trod enc Try.prog W 0 (fun _ => true) true n 34 [.slice A l.length c] = some y) (hz : Small Try.prog 34 y.1) : l.length ≤ 140737488351232 := by
 have hrb : reachBytes = 140737488351232 := rfl
 rcases open_ints Try.underlying34 Try.underlying5 cells_u8 h with ⟨hcs, _⟩ | ⟨x, len, cap, zs, hcs, _, hl, hm, hzl, hy, _, _⟩
 ·
  simp only [List.cons.injEq, and_true, Value.slice.injEq] at hcs
  omega
 ·
  simp only [List.cons.injEq, and_true, Value.slice.injEq] at hcs
  obtain ⟨_, h1, _⟩ := hcs
  rw [hy] at hz
  have h2 := (small_slice Try.underlying34 hz).1
  rw [bytes_u8] at h2
  have h3 : (lits (H := H) .u8 (zs.take len)).length = min len zs.length := by simp [lits]
  have h4 : zs.length = cap := by simpa using hzl
  omega

theorem open_entryS {n : Nat} {cs : List Value} {y : DataW H × List MemPlace} (h : DataW.trod enc Try.prog W 0 (fun _ => true) true n 36 cs = some y) (hz : Small Try.prog 36 y.1) : ∃ e : S36, k36.K W e cs ∧ In e := by
 obtain ⟨xs, k, hk, hxy, hcl, hxl, hf⟩ := DataW.trod_struct Try.underlying36 h
 rw [cells_entry] at hcl
 rw [hxy] at hz
 have g0 := hf 0 _ rfl
 have g1 := hf 1 _ rfl
 have g2 := hf 2 _ rfl
 have g3 := hf 3 _ rfl
 match xs, hxl, cs, hcl with
 | [y0, y1, y2, y3], _, [v0, v1, v2, v3], _ =>
  simp [cells_bytes, cells_int, cells_bool] at g0 g1 g2 g3
  unfold Small at hz
  simp only [List.map_cons, List.map_nil, DataW.weights, Try.underlying36, DataW.weightsEach, List.all_append, Bool.and_eq_true] at hz
  obtain ⟨l0, A0, c0, rfl, hc0, hr0, hw0⟩ := open_bytes g0
  obtain ⟨l3, A3, c3, rfl, hc3, hr3, hw3⟩ := open_bytes g3
  have z0 := small_bytes g0 hz.1
  have z3 := small_bytes g3 hz.2.2.2.1
  obtain ⟨m, e1, _, hw1⟩ := DataW.trod_int Try.underlying3 g1
  obtain ⟨b, e2, _⟩ := DataW.trod_bool Try.underlying4 g2
  simp only [List.cons.injEq, and_true] at e1 e2
  subst e1
  subst e2
  exact ⟨⟨l0, m, b, l3⟩, k36_mk W ⟨l0, m, b, l3⟩ hc0 hr0 hc3 hr3, ⟨byts_wf hw0, byts_wf hw3, i64_wf hw1⟩, by show l0.length < _; omega, by show l3.length < _; omega⟩

theorem open_entriesS {fuel : Nat} {a : Option Addr} {len cap : Nat} {x : DataW H × List MemPlace} (h : DataW.trod enc Try.prog W 0 (fun _ => true) true fuel 24 [.slice a len cap] = some x) (hz : Small Try.prog 24 x.1) :
  ∃ l : List S36, len = l.length ∧ Kd.C k36 W a l.length l ∧ l.length ≤ cap ∧ l.length ≤ 2199023255488 ∧ ∀ e ∈ l, In e := by
 have hmx : maxLen = 9223372036854775807 := rfl
 have hrb : reachBytes = 140737488351232 := rfl
 rcases Go.Deep.open_slice Try.underlying24 h with ⟨hcs, _⟩ | ⟨ad, len', cap', m, n, D, Pl, hcs, _, hl, hm, hmm, hxx, hx⟩
 ·
  simp only [List.cons.injEq, and_true, Value.slice.injEq] at hcs
  obtain ⟨rfl, rfl, rfl⟩ := hcs
  exact ⟨[], rfl, Kd.C_nil _ _, Nat.le_refl _, Nat.zero_le _, (fun e he => by cases he)⟩
 ·
  simp only [List.cons.injEq, and_true, Value.slice.injEq] at hcs
  obtain ⟨rfl, rfl, rfl⟩ := hcs
  have hlm : len ≤ m := by rw [hmm]; split <;> omega
  rw [hxx] at hz
  have hsz := (small_slice Try.underlying24 hz).1
  have hsm := (small_slice Try.underlying24 hz).2
  rw [bytes_entry] at hsz
  have hlen72 : len ≤ 2199023255488 := by
   simp only [List.length_map, List.length_range] at hsz
   omega
  have each : ∀ i, i < len → ∃ e : S36, (∃ c, c.length = 4 ∧ (k36).K W e c ∧ ∀ j u, c[j]? = some u → W.cell? (ad.add (i * 4 + j)) = some u) ∧ In e := by
   intro i hi
   obtain ⟨cs', h1, h2⟩ := hx i (by omega)
   rw [cells_entry] at h1
   obtain ⟨_, hlen, hcell⟩ := World.cells?_some h1
   obtain ⟨e, hK, hw⟩ := open_entryS h2 (hsm _ (List.mem_map.2 ⟨i, List.mem_range.2 hi, rfl⟩))
   refine ⟨e, ⟨cs', hlen, hK, fun j u hu => ?_⟩, hw⟩
   have hj : j < cs'.length := (List.getElem?_eq_some_iff.1 hu).1
   have := hcell j (by omega)
   rw [Go.Deep.add_add] at this
   rw [this, hu]
  obtain ⟨f, hfx⟩ := Go.Deep.choose_lt each
  refine ⟨(List.range len).map f, by simp, ⟨rfl, ?_, fun _ => ⟨ad, rfl, fun j p hj => ?_⟩⟩, by simpa using hl, by simpa using hlen72, fun e he => ?_⟩
  ·
   simp only [List.length_map, List.length_range]
   omega
  ·
   have hjl : j < len := by simpa using (List.getElem?_eq_some_iff.1 hj).1
   simp [hjl] at hj
   subst hj
   obtain ⟨⟨c, h1, h2, h3⟩, _⟩ := hfx j hjl
   exact ⟨c, h1, h2, h3⟩
  ·
   simp only [List.mem_map, List.mem_range] at he
   obtain ⟨i, hi, rfl⟩ := he
   exact (hfx i hi).2

/-- A row that may come in. -/
def InL (l : List S36) : Prop := l.length ≤ 2199023255488 ∧ ∀ e ∈ l, In e
theorem open_rowS {n : Nat} {v : Value} {y : DataW H × List MemPlace} (h : DataW.trod enc Try.prog W 0 (fun _ => true) true n 24 [v] = some y) (hz : Small Try.prog 24 y.1) : ∃ l : List S36, (Kd.slice 36 k36).K W l [v] ∧ InL l := by
 obtain ⟨a, len, cap, rfl⟩ : ∃ a len cap, v = .slice a len cap := by
  rcases Go.Deep.open_slice Try.underlying24 h with ⟨hcs, _⟩ | ⟨ad, len', cap', m, n, D, Pl, hcs, _⟩
  ·
   simp only [List.cons.injEq, and_true] at hcs; exact ⟨_, _, _, hcs⟩
  ·
   simp only [List.cons.injEq, and_true] at hcs; exact ⟨_, _, _, hcs⟩
 obtain ⟨l, rfl, hC, hc, hl, hg⟩ := open_entriesS h hz
 exact ⟨l, ⟨a, cap, rfl, hc, hC⟩, hl, hg⟩

theorem open_rowsS {fuel : Nat} {a : Option Addr} {len cap : Nat} {x : DataW H × List MemPlace} (h : DataW.trod enc Try.prog W 0 (fun _ => true) true fuel 22 [.slice a len cap] = some x) (hz : Small Try.prog 22 x.1) :
  ∃ l : List (List S36), len = l.length ∧ Kd.C (Kd.slice 36 k36) W a l.length l ∧ l.length ≤ cap ∧ l.length ≤ 5864062014634 ∧ ∀ e ∈ l, InL e := by
 have hmx : maxLen = 9223372036854775807 := rfl
 have hrb : reachBytes = 140737488351232 := rfl
 rcases Go.Deep.open_slice Try.underlying22 h with ⟨hcs, _⟩ | ⟨ad, len', cap', m, n, D, Pl, hcs, _, hl, hm, hmm, hxx, hx⟩
 ·
  simp only [List.cons.injEq, and_true, Value.slice.injEq] at hcs
  obtain ⟨rfl, rfl, rfl⟩ := hcs
  exact ⟨[], rfl, Kd.C_nil _ _, Nat.le_refl _, Nat.zero_le _, (fun e he => by cases he)⟩
 ·
  simp only [List.cons.injEq, and_true, Value.slice.injEq] at hcs
  obtain ⟨rfl, rfl, rfl⟩ := hcs
  have hlm : len ≤ m := by rw [hmm]; split <;> omega
  rw [hxx] at hz
  have hsz := (small_slice Try.underlying22 hz).1
  have hsm := (small_slice Try.underlying22 hz).2
  rw [bytes_row] at hsz
  have hlen72 : len ≤ 5864062014634 := by
   simp only [List.length_map, List.length_range] at hsz
   omega
  have each : ∀ i, i < len → ∃ e : (List S36), (∃ c, c.length = 1 ∧ ((Kd.slice 36 k36)).K W e c ∧ ∀ j u, c[j]? = some u → W.cell? (ad.add (i * 1 + j)) = some u) ∧ InL e := by
   intro i hi
   obtain ⟨cs', h1, h2⟩ := hx i (by omega)
   rw [cells_row] at h1
   obtain ⟨_, hlen, hcell⟩ := World.cells?_some h1
   obtain ⟨v, rfl⟩ : ∃ v, cs' = [v] := by
    match cs', hlen with
    | [v], _ => exact ⟨v, rfl⟩
   obtain ⟨e, hK, hw⟩ := open_rowS h2 (hsm _ (List.mem_map.2 ⟨i, List.mem_range.2 hi, rfl⟩))
   refine ⟨e, ⟨[v], hlen, hK, fun j u hu => ?_⟩, hw⟩
   have hj : j < [v].length := (List.getElem?_eq_some_iff.1 hu).1
   have := hcell j (by omega)
   rw [Go.Deep.add_add] at this
   rw [this, hu]
  obtain ⟨f, hfx⟩ := Go.Deep.choose_lt each
  refine ⟨(List.range len).map f, by simp, ⟨rfl, ?_, fun _ => ⟨ad, rfl, fun j p hj => ?_⟩⟩, by simpa using hl, by simpa using hlen72, fun e he => ?_⟩
  ·
   simp only [List.length_map, List.length_range]
   omega
  ·
   have hjl : j < len := by simpa using (List.getElem?_eq_some_iff.1 hj).1
   simp [hjl] at hj
   subst hj
   obtain ⟨⟨c, h1, h2, h3⟩, _⟩ := hfx j hjl
   exact ⟨c, h1, h2, h3⟩
  ·
   simp only [List.mem_map, List.mem_range] at he
   obtain ⟨i, hi, rfl⟩ := he
   exact (hfx i hi).2
end
end Go.Proofs.Ytobjkjmmkbhecaa.Rw
