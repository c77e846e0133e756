/- What comes in as a version or as notes, opened, with the sizes of its rows. Conditions: those of each theorem. -/
import Derived.Test.YthpklhkibcenoaaPx0
import Derived.Test.YthpklhkibcenoaaHto
import Derived.Test.YthpklhkibcenoaaHrb
import Derived.Deep.Slices
import Derived.ChangeShapes
import Derived.SizedLaws
namespace Go.Proofs.Ythpklhkibcenoaa.Rw
open Go.ChangeShapes Go.WideShapes Go.RowKit Go.Proofs.Ythpklhkibcenoaa.Px Go.Proofs.YthpklhkibcenoaaW.PrintWords Go.Proofs.Ythpklhkibcenoaa.Sk Go.Proofs.Ythpklhkibcenoaa.Sw
set_option linter.unusedVariables false
theorem cells_bytes : Try.prog.cellsOf 35 = 1 := by kernel_rfl
theorem cells_int : Try.prog.cellsOf 3 = 1 := by kernel_rfl
theorem cells_u8 : Try.prog.cellsOf 5 = 1 := by kernel_rfl
theorem cells_metas : Try.prog.cellsOf 22 = 1 := by kernel_rfl
theorem cells_meta : Try.prog.cellsOf 37 = 5 := by kernel_rfl
theorem cells_version : Try.prog.cellsOf 24 = 5 := by kernel_rfl
theorem bytes_u8 : Try.prog.bytesOf 5 = 1 := by kernel_rfl
theorem bytes_meta : Try.prog.bytesOf 37 = 72 := by kernel_rfl
instance : Inhabited S37 := ⟨⟨0, 0, 0, [], []⟩⟩
section
variable {H : Type} {enc : TypeId × Value → H} {W : World}
/-- A row of bytes out of one cell. -/
theorem open_bytes {n : Nat} {v : Value} {y : DataW H × List MemPlace} (h : DataW.trod enc Try.prog W 0 (fun _ => true) true n 35 [v] = some y) :
  ∃ (l : List Int) (A : Option Addr) (c : Nat), v = .slice A l.length c ∧ l.length ≤ c ∧ Kd.C (Kd.int .u8) W A l.length l ∧ ∀ x ∈ l, (Lit.int .u8 x).wf = true := by
 have fin : ∀ (a : Option Addr) (len cap : Nat) (zs : List Int), ((a = none ∧ len = 0 ∧ cap = 0 ∧ zs = []) ∨ ∃ x, a = some x ∧ len ≤ cap ∧ cap ≤ maxLen ∧ zs.length = cap ∧ (∀ i, i < zs.length → W.cell? (x.add i) = some (.int .u8 (zs.getD i 0))) ∧ ∀ n ∈ zs, (Lit.int .u8 n).wf = true) → v = .slice a len cap →
   ∃ (l : List Int) (A : Option Addr) (c : Nat), v = .slice A l.length c ∧ l.length ≤ c ∧ Kd.C (Kd.int .u8) W A l.length l ∧ ∀ x ∈ l, (Lit.int .u8 x).wf = true := by
  intro a len cap zs hz hv
  obtain ⟨l, rfl, hr, _, hw, hc⟩ := ReadsInt.ofRowC hz
  exact ⟨l, a, cap, hv, hc, Kd.C_of_reads (d := (0 : Int)) (h1 := fun _ => rfl) hr, hw⟩
 rcases open_ints Try.underlying35 Try.underlying5 cells_u8 h with ⟨hcs, _⟩ | ⟨x, l, c, zs, hcs, _, hl, hm, hz, _, hcell, hwz⟩
 ·
  simp only [List.cons.injEq, and_true] at hcs
  exact fin none 0 0 [] (.inl ⟨rfl, rfl, rfl, rfl⟩) hcs
 ·
  simp only [List.cons.injEq, and_true] at hcs
  exact fin _ _ _ zs (.inr ⟨_, rfl, hl, hm, by simpa using hz, hcell, hwz⟩) hcs
def Small (P : Program) (t : TypeId) (d : DataW H) : Prop := (DataW.weights P t d).all (· ≤ reachBytes) = true
theorem small_of {P : Program} {ts : List TypeId} {ds : List (DataW H)} (hsz : (DataW.weightsEach P ts ds).all (· ≤ reachBytes) = true) {j : Nat} {t : TypeId} {d : DataW H} (ht : ts[j]? = some t) (hd : ds[j]? = some d) : Small P t d :=
 List.all_eq_true.2 (fun n hn => List.all_eq_true.1 hsz n (DataW.weights_mem_each ht hd n hn))
theorem small_all {P : Program} {e : TypeId} : ∀ (l : List (DataW H)), (DataW.weightsAll P e l).all (· ≤ reachBytes) = true → ∀ d ∈ l, Small P e d
 | [], _, d, hd => by cases hd
 | a :: r, h, d, hd => by
  simp only [DataW.weightsAll, List.all_append, Bool.and_eq_true] at h
  rcases List.mem_cons.1 hd with rfl | hd
  ·
   exact h.1
  ·
   exact small_all r h.2 d hd
theorem small_slice {P : Program} {t e : TypeId} {els sp : List (DataW H)} (ht : P.underlying t = some (.slice e)) (h : Small P t (.slice els sp)) : (els.length + sp.length) * P.bytesOf e ≤ reachBytes ∧ ∀ d ∈ els, Small P e d := by
 unfold Small at h
 simp only [DataW.weights, ht, List.all_cons, List.all_append, Bool.and_eq_true, decide_eq_true_eq] at h
 exact ⟨h.1, small_all els h.2.1⟩
theorem small_bytes {n : Nat} {l : List Int} {A : Option Addr} {c : Nat} {y : DataW H × List MemPlace} (h : DataW.trod enc Try.prog W 0 (fun _ => true) true n 35 [.slice A l.length c] = some y) (hz : Small Try.prog 35 y.1) : l.length ≤ 140737488351232 := by
 have hrb : reachBytes = 140737488351232 := rfl
 rcases open_ints Try.underlying35 Try.underlying5 cells_u8 h with ⟨hcs, _⟩ | ⟨x, len, cap, zs, hcs, _, hl, hm, hzl, hy, _, _⟩
 ·
  simp only [List.cons.injEq, and_true, Value.slice.injEq] at hcs
  omega
 ·
  simp only [List.cons.injEq, and_true, Value.slice.injEq] at hcs
  obtain ⟨_, h1, _⟩ := hcs
  rw [hy] at hz
  have h2 := (small_slice Try.underlying35 hz).1
  rw [bytes_u8] at h2
  have h3 : (lits (H := H) .u8 (zs.take len)).length = min len zs.length := by simp [lits]
  have h4 : zs.length = cap := by simpa using hzl
  omega

theorem open_metaS {n : Nat} {cs : List Value} {y : DataW H × List MemPlace} (h : DataW.trod enc Try.prog W 0 (fun _ => true) true n 37 cs = some y) (hz : Small Try.prog 37 y.1) : ∃ e : S37, k37.K W e cs ∧ RB e ∧ RZ e := by
 obtain ⟨xs, k, hk, hxy, hcl, hxl, hf⟩ := DataW.trod_struct Try.underlying37 h
 rw [cells_meta] at hcl
 rw [hxy] at hz
 have g0 := hf 0 _ rfl
 have g1 := hf 1 _ rfl
 have g2 := hf 2 _ rfl
 have g3 := hf 3 _ rfl
 have g4 := hf 4 _ rfl
 match xs, hxl, cs, hcl with
 | [y0, y1, y2, y3, y4], _, [v0, v1, v2, v3, v4], _ =>
  simp [cells_bytes, cells_int] at g0 g1 g2 g3 g4
  unfold Small at hz
  simp only [List.map_cons, List.map_nil, DataW.weights, Try.underlying37, DataW.weightsEach, List.all_append, Bool.and_eq_true] at hz
  obtain ⟨l3, A3, c3, rfl, hc3, hr3, hw3⟩ := open_bytes g3
  obtain ⟨l4, A4, c4, rfl, hc4, hr4, hw4⟩ := open_bytes g4
  have z3 := small_bytes g3 hz.2.2.2.1
  have z4 := small_bytes g4 hz.2.2.2.2.1
  obtain ⟨m0, e0, _, hw0⟩ := DataW.trod_int Try.underlying3 g0
  obtain ⟨m1, e1, _, hw1⟩ := DataW.trod_int Try.underlying3 g1
  obtain ⟨m2, e2, _, hw2⟩ := DataW.trod_int Try.underlying3 g2
  simp only [List.cons.injEq, and_true] at e0 e1 e2
  subst e0
  subst e1
  subst e2
  exact ⟨⟨m0, m1, m2, l3, l4⟩, k37_mk W ⟨m0, m1, m2, l3, l4⟩ hc3 hr3 hc4 hr4, ⟨byts_of_wf hw3, byts_of_wf hw4, i64_of_wf hw0⟩, z3, z4⟩
theorem open_metasS {fuel : Nat} {a : Option Addr} {len cap : Nat} {x : DataW H × List MemPlace} (h : DataW.trod enc Try.prog W 0 (fun _ => true) true fuel 22 [.slice a len cap] = some x) (hz : Small Try.prog 22 x.1) :
  ∃ l : List S37, len = l.length ∧ Kd.C k37 W a l.length l ∧ l.length ≤ cap ∧ l.length ≤ 1954687338211 ∧ (∀ e ∈ l, RB e) ∧ ∀ e ∈ l, RZ e := by
 have hmx : maxLen = 9223372036854775807 := rfl
 have hrb : reachBytes = 140737488351232 := rfl
 rcases Go.Deep.open_slice Try.underlying22 h with ⟨hcs, _⟩ | ⟨ad, len', cap', m, n, D, Pl, hcs, _, hl, hm, hmm, hxx, hx⟩
 ·
  simp only [List.cons.injEq, and_true, Value.slice.injEq] at hcs
  obtain ⟨rfl, rfl, rfl⟩ := hcs
  exact ⟨[], rfl, Kd.C_nil _ _, Nat.le_refl _, Nat.zero_le _, (fun e he => by cases he), fun e he => by cases he⟩
 ·
  simp only [List.cons.injEq, and_true, Value.slice.injEq] at hcs
  obtain ⟨rfl, rfl, rfl⟩ := hcs
  have hlm : len ≤ m := by rw [hmm]; split <;> omega
  rw [hxx] at hz
  have hsz := (small_slice Try.underlying22 hz).1
  have hsm := (small_slice Try.underlying22 hz).2
  rw [bytes_meta] at hsz
  have hlen72 : len ≤ 1954687338211 := by
   simp only [List.length_map, List.length_range] at hsz
   omega
  have each : ∀ i, i < len → ∃ e : S37, (∃ c, c.length = 5 ∧ k37.K W e c ∧ ∀ j u, c[j]? = some u → W.cell? (ad.add (i * 5 + j)) = some u) ∧ RB e ∧ RZ e := by
   intro i hi
   obtain ⟨cs', h1, h2⟩ := hx i (by omega)
   rw [cells_meta] at h1
   obtain ⟨_, hlen, hcell⟩ := World.cells?_some h1
   obtain ⟨e, hK, hw⟩ := open_metaS h2 (hsm _ (List.mem_map.2 ⟨i, List.mem_range.2 hi, rfl⟩))
   refine ⟨e, ⟨cs', hlen, hK, fun j u hu => ?_⟩, hw⟩
   have hj : j < cs'.length := (List.getElem?_eq_some_iff.1 hu).1
   have := hcell j (by omega)
   rw [Go.Deep.add_add] at this
   rw [this, hu]
  obtain ⟨f, hfx⟩ := Go.Deep.choose_lt each
  refine ⟨(List.range len).map f, by simp, ⟨rfl, ?_, fun _ => ⟨ad, rfl, fun j p hj => ?_⟩⟩, by simpa using hl, by simpa using hlen72, fun e he => ?_, fun e he => ?_⟩
  ·
   simp only [List.length_map, List.length_range]
   omega
  ·
   have hjl : j < len := by simpa using (List.getElem?_eq_some_iff.1 hj).1
   simp [hjl] at hj
   subst hj
   obtain ⟨⟨c, h1, h2, h3⟩, _⟩ := hfx j hjl
   exact ⟨c, h1, h2, h3⟩
  ·
   simp only [List.mem_map, List.mem_range] at he
   obtain ⟨i, hi, rfl⟩ := he
   exact (hfx i hi).2.1
  ·
   simp only [List.mem_map, List.mem_range] at he
   obtain ⟨i, hi, rfl⟩ := he
   exact (hfx i hi).2.2
theorem open_version {r : Reach} {b0 : Nat} {v : Value} {d : DataW H} {p : List MemPlace} (hv : Value.okWide Try.prog W r b0 24 v) (h : DataW.Trod enc Try.prog W 0 (fun _ => true) true 24 v d p) (hz : Small Try.prog 24 d) :
  ∃ (g n s q : Int) (A : Option Addr) (c : Nat) (l : List S37), v = .agg #[.int .i64 g, .int .i64 n, .int .i64 s, .int .i64 q, .slice A l.length c] ∧ Kd.C k37 W A l.length l ∧ l.length ≤ c ∧ l.length ≤ 1954687338211 ∧ (∀ e ∈ l, RB e) ∧ (∀ e ∈ l, RZ e) ∧ I64 g ∧ I64 n ∧ I64 s ∧ I64 q := by
 obtain ⟨cs, rfl, hsz⟩ := okWide_struct Try.underlying24 hv
 obtain ⟨l⟩ := cs
 match l, hsz.trans cells_version with
 | [v0, v1, v2, v3, v4], _ =>
  obtain ⟨fuel, hf⟩ := h
  obtain ⟨xs, k, hk, hxy, hcl, hxl, hg⟩ := DataW.trod_struct Try.underlying24 hf
  have g0 := hg 0 _ rfl
  have g1 := hg 1 _ rfl
  have g2 := hg 2 _ rfl
  have g3 := hg 3 _ rfl
  have g4 := hg 4 _ rfl
  match xs, hxl with
  | [y0, y1, y2, y3, y4], _ =>
   simp [cells_metas, cells_int, Value.cells] at g0 g1 g2 g3 g4
   simp only [Prod.mk.injEq] at hxy
   rw [hxy.1] at hz
   unfold Small at hz
   simp only [List.map_cons, List.map_nil, DataW.weights, Try.underlying24, DataW.weightsEach, List.all_append, Bool.and_eq_true] at hz
   obtain ⟨m0, e0, _, hw0⟩ := DataW.trod_int Try.underlying3 g0
   obtain ⟨m1, e1, _, hw1⟩ := DataW.trod_int Try.underlying3 g1
   obtain ⟨m2, e2, _, hw2⟩ := DataW.trod_int Try.underlying3 g2
   obtain ⟨m3, e3, _, hw3⟩ := DataW.trod_int Try.underlying3 g3
   simp only [List.cons.injEq, and_true] at e0 e1 e2 e3
   subst e0
   subst e1
   subst e2
   subst e3
   obtain ⟨a, len, cap, rfl⟩ : ∃ a len cap, v4 = .slice a len cap := by
    rcases Go.Deep.open_slice Try.underlying22 g4 with ⟨hcs, _⟩ | ⟨ad, len', cap', m, n, D, Pl, hcs, _⟩
    ·
     simp only [List.cons.injEq, and_true] at hcs
     exact ⟨_, _, _, hcs⟩
    ·
     simp only [List.cons.injEq, and_true] at hcs
     exact ⟨_, _, _, hcs⟩
   obtain ⟨lm, rfl, hC, hc, hl, hB, hZ⟩ := open_metasS g4 hz.2.2.2.2.1
   exact ⟨m0, m1, m2, m3, a, cap, lm, rfl, hC, hc, hl, hB, hZ, i64_of_wf hw0, i64_of_wf hw1, i64_of_wf hw2, i64_of_wf hw3⟩
end
end Go.Proofs.Ythpklhkibcenoaa.Rw
