/- What comes in as a slice of entries, opened: each entry's cells, and its two rows of bytes. -/
import Derived.Test.YtjlkcidohabcfaaPx0
import Derived.Test.YtjlkcidohabcfaaHab
import Derived.Deep.Slices
import Derived.ChangeShapes
namespace Go.Proofs.Ytjlkcidohabcfaa.Rw
open Go.Proofs.Ytjlkcidohabcfaa.Sk
open Go.ChangeShapes Go.WideShapes Go.RowKit Go.Proofs.Ytjlkcidohabcfaa.Px Go.Proofs.YtjlkcidohabcfaaW.PrintWords
set_option linter.unusedVariables false
set_option linter.unusedSimpArgs false
theorem cells_bytes : Try.prog.cellsOf 32 = 1 := by kernel_rfl
theorem cells_int : Try.prog.cellsOf 3 = 1 := by kernel_rfl
theorem cells_bool : Try.prog.cellsOf 4 = 1 := by kernel_rfl
theorem cells_u8 : Try.prog.cellsOf 5 = 1 := by kernel_rfl
theorem cells_op : Try.prog.cellsOf 36 = 8 := by kernel_rfl
theorem cells_entry : Try.prog.cellsOf 34 = 4 := by kernel_rfl
section
variable {H : Type} {enc : TypeId × Value → H} {W : World}
/-- A row of bytes out of one cell. -/
theorem open_bytes {n : Nat} {v : Value} {y : DataW H × List MemPlace} (h : DataW.trod enc Try.prog W 0 (fun _ => true) true n 32 [v] = some y) :
    ∃ (l : List Int) (A : Option Addr) (c : Nat), v = .slice A l.length c ∧ l.length ≤ c ∧ Kd.C (Kd.int .u8) W A l.length l ∧ ∀ x ∈ l, (Lit.int .u8 x).wf = true := by
  have fin : ∀ (a : Option Addr) (len cap : Nat) (zs : List Int), ((a = none ∧ len = 0 ∧ cap = 0 ∧ zs = []) ∨ ∃ x, a = some x ∧ len ≤ cap ∧ cap ≤ maxLen ∧ zs.length = cap ∧ (∀ i, i < zs.length → W.cell? (x.add i) = some (.int .u8 (zs.getD i 0))) ∧ ∀ n ∈ zs, (Lit.int .u8 n).wf = true) → v = .slice a len cap →
      ∃ (l : List Int) (A : Option Addr) (c : Nat), v = .slice A l.length c ∧ l.length ≤ c ∧ Kd.C (Kd.int .u8) W A l.length l ∧ ∀ x ∈ l, (Lit.int .u8 x).wf = true := by
    intro a len cap zs hz hv
    obtain ⟨l, rfl, hr, _, hw, hc⟩ := ReadsInt.ofRowC hz
    exact ⟨l, a, cap, hv, hc, Kd.C_of_reads (d := (0 : Int)) (h1 := fun _ => rfl) hr, hw⟩
  rcases open_ints Try.underlying32 Try.underlying5 cells_u8 h with ⟨hcs, _⟩ | ⟨x, l, c, zs, hcs, _, hl, hm, hz, _, hcell, hwz⟩
  · simp only [List.cons.injEq, and_true] at hcs
    exact fin none 0 0 [] (.inl ⟨rfl, rfl, rfl, rfl⟩) hcs
  · simp only [List.cons.injEq, and_true] at hcs
    exact fin _ _ _ zs (.inr ⟨_, rfl, hl, hm, by simpa using hz, hcell, hwz⟩) hcs
instance : Inhabited S34 := ⟨⟨[], 0, false, []⟩⟩
def Well (e : S34) : Prop := (∀ b ∈ e.f0, (Lit.int .u8 b).wf = true) ∧ (Lit.int .i64 e.f1).wf = true ∧ ∀ b ∈ e.f3, (Lit.int .u8 b).wf = true
theorem open_entry {n : Nat} {cs : List Value} {y : DataW H × List MemPlace} (h : DataW.trod enc Try.prog W 0 (fun _ => true) true n 34 cs = some y) : ∃ e : S34, k34.K W e cs ∧ Well e := by
  obtain ⟨xs, k, hk, hxy, hcl, hxl, hf⟩ := DataW.trod_struct Try.underlying34 h
  rw [cells_entry] at hcl
  have g0 := hf 0 _ rfl
  have g1 := hf 1 _ rfl
  have g2 := hf 2 _ rfl
  have g3 := hf 3 _ rfl
  match xs, hxl, cs, hcl with
  | [y0, y1, y2, y3], _, [v0, v1, v2, v3], _ =>
    simp [cells_bytes, cells_int, cells_bool] at g0 g1 g2 g3
    obtain ⟨l0, A0, c0, rfl, hc0, hr0, hw0⟩ := open_bytes g0
    obtain ⟨l3, A3, c3, rfl, hc3, hr3, hw3⟩ := open_bytes g3
    obtain ⟨m, e1, _, hw1⟩ := DataW.trod_int Try.underlying3 g1
    obtain ⟨b, e2, _⟩ := DataW.trod_bool Try.underlying4 g2
    simp only [List.cons.injEq, and_true] at e1 e2
    subst e1
    subst e2
    exact ⟨⟨l0, m, b, l3⟩, k34_mk W ⟨l0, m, b, l3⟩ hc0 hr0 hc3 hr3, hw0, hw1, hw3⟩
def WellO (o : SOp) : Prop := Well o.e ∧ (∀ b ∈ o.hi, (Lit.int .u8 b).wf = true) ∧ (Lit.int .i64 o.n).wf = true
theorem WellO.good {o : SOp} (h : WellO o) : GoodO o := ⟨⟨Sw.byts_of_wf h.1.1, Sw.byts_of_wf h.1.2.2⟩, Sw.byts_of_wf h.2.1, Sw.i64_of_wf h.2.2⟩
theorem open_op {n : Nat} {cs : List Value} {y : DataW H × List MemPlace} (h : DataW.trod enc Try.prog W 0 (fun _ => true) true n 36 cs = some y) : ∃ o : SOp, kOp.K W o cs ∧ WellO o := by
  obtain ⟨xs, k, hk, hxy, hcl, hxl, hf⟩ := DataW.trod_struct Try.underlying36 h
  rw [cells_op] at hcl
  have g0 := hf 0 _ rfl
  have g1 := hf 1 _ rfl
  have g2 := hf 2 _ rfl
  have g3 := hf 3 _ rfl
  have g4 := hf 4 _ rfl
  match xs, hxl, cs, hcl with
  | [y0, y1, y2, y3, y4], _, [v0, v1, v2, v3, v4, v5, v6, v7], _ =>
    simp [cells_bytes, cells_int, cells_bool, cells_entry] at g0 g1 g2 g3 g4
    obtain ⟨m0, e0, _, hw0⟩ := DataW.trod_int Try.underlying3 g0
    obtain ⟨m1, e1, _, hw1⟩ := DataW.trod_int Try.underlying3 g1
    obtain ⟨m2, e2, _, hw2⟩ := DataW.trod_int Try.underlying3 g2
    obtain ⟨e, hK, hW⟩ := open_entry g3
    obtain ⟨l4, A4, c4, rfl, hc4, hr4, hw4⟩ := open_bytes g4
    simp only [List.cons.injEq, and_true] at e0 e1 e2
    subst e0
    subst e1
    subst e2
    exact ⟨⟨m0, m1, m2, e, l4⟩, ⟨_, _, rfl, rfl, ⟨_, _, rfl, rfl, ⟨_, _, rfl, rfl, ⟨_, _, rfl, hK, ⟨A4, c4, rfl, hc4, hr4⟩⟩⟩⟩⟩, hW, hw4, hw2⟩
theorem open_ops {fuel : Nat} {a : Option Addr} {len cap : Nat} {x : DataW H × List MemPlace} (h : DataW.trod enc Try.prog W 0 (fun _ => true) true fuel 22 [.slice a len cap] = some x) :
    ∃ l : List SOp, len = l.length ∧ Kd.C kOp W a l.length l ∧ l.length ≤ cap ∧ ∀ e ∈ l, WellO e := by
  rcases Go.Deep.open_slice Try.underlying22 h with ⟨hcs, _⟩ | ⟨ad, len', cap', m, n, D, Pl, hcs, _, hl, hm, hmm, _, hx⟩
  · simp only [List.cons.injEq, and_true, Value.slice.injEq] at hcs
    obtain ⟨rfl, rfl, rfl⟩ := hcs
    exact ⟨[], rfl, Kd.C_nil _ _, Nat.le_refl _, fun e he => by cases he⟩
  · simp only [List.cons.injEq, and_true, Value.slice.injEq] at hcs
    obtain ⟨rfl, rfl, rfl⟩ := hcs
    have hlm : len ≤ m := by rw [hmm]; split <;> omega
    have each : ∀ i, i < len → ∃ e : SOp, (∃ c, c.length = 8 ∧ kOp.K W e c ∧ ∀ j u, c[j]? = some u → W.cell? (ad.add (i * 8 + j)) = some u) ∧ WellO e := by
      intro i hi
      obtain ⟨cs', h1, h2⟩ := hx i (by omega)
      rw [cells_op] at h1
      obtain ⟨_, hlen, hcell⟩ := World.cells?_some h1
      obtain ⟨e, hK, hw⟩ := open_op h2
      refine ⟨e, ⟨cs', hlen, hK, fun j u hu => ?_⟩, hw⟩
      have hj : j < cs'.length := (List.getElem?_eq_some_iff.1 hu).1
      have := hcell j (by omega)
      rw [Go.Deep.add_add] at this
      rw [this, hu]
    have : Inhabited SOp := ⟨zOp⟩
    obtain ⟨f, hfx⟩ := Go.Deep.choose_lt each
    refine ⟨(List.range len).map f, by simp, ⟨rfl, ?_, fun _ => ⟨ad, rfl, fun j p hj => ?_⟩⟩, by simpa using hl, fun e he => ?_⟩
    · have : maxLen = 9223372036854775807 := rfl
      simp only [List.length_map, List.length_range]
      omega
    · have hjl : j < len := by simpa using (List.getElem?_eq_some_iff.1 hj).1
      simp [hjl] at hj
      subst hj
      obtain ⟨⟨c, h1, h2, h3⟩, _⟩ := hfx j hjl
      exact ⟨c, h1, h2, h3⟩
    · simp only [List.mem_map, List.mem_range] at he
      obtain ⟨i, hi, rfl⟩ := he
      exact (hfx i hi).2
end
end Go.Proofs.Ytjlkcidohabcfaa.Rw
