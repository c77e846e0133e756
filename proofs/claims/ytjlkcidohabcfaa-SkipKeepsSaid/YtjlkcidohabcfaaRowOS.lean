/- What comes in as a slice of entries, opened, with the sizes of its rows. -/
import Derived.Test.YtjlkcidohabcfaaRowO
import Derived.SizedLaws
namespace Go.Proofs.Ytjlkcidohabcfaa.Rw
open Go.Proofs.Ytjlkcidohabcfaa.Sk
open Go.ChangeShapes Go.WideShapes Go.RowKit Go.Proofs.Ytjlkcidohabcfaa.Px Go.Proofs.YtjlkcidohabcfaaW.PrintWords
set_option linter.unusedVariables false
set_option linter.unusedSimpArgs false
theorem bytes_u8 : Try.prog.bytesOf 5 = 1 := by kernel_rfl
section
variable {H : Type} {enc : TypeId × Value → H} {W : World}
def Small (P : Program) (t : TypeId) (d : DataW H) : Prop := (DataW.weights P t d).all (· ≤ reachBytes) = true
theorem small_of {P : Program} {ts : List TypeId} {ds : List (DataW H)} (hsz : (DataW.weightsEach P ts ds).all (· ≤ reachBytes) = true) {j : Nat} {t : TypeId} {d : DataW H} (ht : ts[j]? = some t) (hd : ds[j]? = some d) : Small P t d :=
  List.all_eq_true.2 (fun n hn => List.all_eq_true.1 hsz n (DataW.weights_mem_each ht hd n hn))
theorem small_all {P : Program} {e : TypeId} : ∀ (l : List (DataW H)), (DataW.weightsAll P e l).all (· ≤ reachBytes) = true → ∀ d ∈ l, Small P e d
  | [], _, d, hd => by cases hd
  | a :: r, h, d, hd => by
    simp only [DataW.weightsAll, List.all_append, Bool.and_eq_true] at h
    rcases List.mem_cons.1 hd with rfl | hd
    · exact h.1
    · exact small_all r h.2 d hd
theorem small_slice {P : Program} {t e : TypeId} {els sp : List (DataW H)} (ht : P.underlying t = some (.slice e)) (h : Small P t (.slice els sp)) : (els.length + sp.length) * P.bytesOf e ≤ reachBytes ∧ ∀ d ∈ els, Small P e d := by
  unfold Small at h
  simp only [DataW.weights, ht, List.all_cons, List.all_append, Bool.and_eq_true, decide_eq_true_eq] at h
  exact ⟨h.1, small_all els h.2.1⟩
theorem small_bytes {n : Nat} {l : List Int} {A : Option Addr} {c : Nat} {y : DataW H × List MemPlace} (h : DataW.trod enc Try.prog W 0 (fun _ => true) true n 32 [.slice A l.length c] = some y) (hz : Small Try.prog 32 y.1) : l.length ≤ 140737488351232 := by
  have hrb : reachBytes = 140737488351232 := rfl
  rcases open_ints Try.underlying32 Try.underlying5 cells_u8 h with ⟨hcs, _⟩ | ⟨x, len, cap, zs, hcs, _, hl, hm, hzl, hy, _, _⟩
  · simp only [List.cons.injEq, and_true, Value.slice.injEq] at hcs
    omega
  · simp only [List.cons.injEq, and_true, Value.slice.injEq] at hcs
    obtain ⟨_, h1, _⟩ := hcs
    rw [hy] at hz
    have h2 := (small_slice Try.underlying32 hz).1
    rw [bytes_u8] at h2
    have h3 : (lits (H := H) .u8 (zs.take len)).length = min len zs.length := by simp [lits]
    have h4 : zs.length = cap := by simpa using hzl
    omega
def Lim (e : S34) : Prop := e.f0.length ≤ 140737488351232 ∧ e.f3.length ≤ 140737488351232
theorem open_entryS {n : Nat} {cs : List Value} {y : DataW H × List MemPlace} (h : DataW.trod enc Try.prog W 0 (fun _ => true) true n 34 cs = some y) (hz : Small Try.prog 34 y.1) : ∃ e : S34, k34.K W e cs ∧ Well e ∧ Lim e := by
  obtain ⟨xs, k, hk, hxy, hcl, hxl, hf⟩ := DataW.trod_struct Try.underlying34 h
  rw [cells_entry] at hcl
  rw [hxy] at hz
  have g0 := hf 0 _ rfl
  have g1 := hf 1 _ rfl
  have g2 := hf 2 _ rfl
  have g3 := hf 3 _ rfl
  match xs, hxl, cs, hcl with
  | [y0, y1, y2, y3], _, [v0, v1, v2, v3], _ =>
    simp [cells_bytes, cells_int, cells_bool] at g0 g1 g2 g3
    unfold Small at hz
    simp only [List.map_cons, List.map_nil, DataW.weights, Try.underlying34, DataW.weightsEach, List.all_append, Bool.and_eq_true] at hz
    obtain ⟨l0, A0, c0, rfl, hc0, hr0, hw0⟩ := open_bytes g0
    obtain ⟨l3, A3, c3, rfl, hc3, hr3, hw3⟩ := open_bytes g3
    have z0 := small_bytes g0 hz.1
    have z3 := small_bytes g3 hz.2.2.2.1
    obtain ⟨m, e1, _, hw1⟩ := DataW.trod_int Try.underlying3 g1
    obtain ⟨b, e2, _⟩ := DataW.trod_bool Try.underlying4 g2
    simp only [List.cons.injEq, and_true] at e1 e2
    subst e1
    subst e2
    exact ⟨⟨l0, m, b, l3⟩, k34_mk W ⟨l0, m, b, l3⟩ hc0 hr0 hc3 hr3, ⟨hw0, hw1, hw3⟩, z0, z3⟩
theorem open_opS {n : Nat} {cs : List Value} {y : DataW H × List MemPlace} (h : DataW.trod enc Try.prog W 0 (fun _ => true) true n 36 cs = some y) (hz : Small Try.prog 36 y.1) : ∃ o : SOp, kOp.K W o cs ∧ WellO o ∧ Lim o.e := by
  obtain ⟨xs, k, hk, hxy, hcl, hxl, hf⟩ := DataW.trod_struct Try.underlying36 h
  rw [cells_op] at hcl
  rw [hxy] at hz
  have g0 := hf 0 _ rfl
  have g1 := hf 1 _ rfl
  have g2 := hf 2 _ rfl
  have g3 := hf 3 _ rfl
  have g4 := hf 4 _ rfl
  match xs, hxl, cs, hcl with
  | [y0, y1, y2, y3, y4], _, [v0, v1, v2, v3, v4, v5, v6, v7], _ =>
    simp [cells_bytes, cells_int, cells_bool, cells_entry] at g0 g1 g2 g3 g4
    obtain ⟨m0, e0, _, hw0⟩ := DataW.trod_int Try.underlying3 g0
    obtain ⟨m1, e1, _, hw1⟩ := DataW.trod_int Try.underlying3 g1
    obtain ⟨m2, e2, _, hw2⟩ := DataW.trod_int Try.underlying3 g2
    unfold Small at hz
    simp only [List.map_cons, List.map_nil, DataW.weights, Try.underlying36, DataW.weightsEach, List.all_append, Bool.and_eq_true] at hz
    obtain ⟨e, hK, hW, hLm⟩ := open_entryS g3 hz.2.2.2.1
    obtain ⟨l4, A4, c4, rfl, hc4, hr4, hw4⟩ := open_bytes g4
    simp only [List.cons.injEq, and_true] at e0 e1 e2
    subst e0
    subst e1
    subst e2
    exact ⟨⟨m0, m1, m2, e, l4⟩, ⟨_, _, rfl, rfl, ⟨_, _, rfl, rfl, ⟨_, _, rfl, rfl, ⟨_, _, rfl, hK, ⟨A4, c4, rfl, hc4, hr4⟩⟩⟩⟩⟩, ⟨hW, hw4, hw2⟩, hLm⟩
theorem open_opsS {fuel : Nat} {a : Option Addr} {len cap : Nat} {x : DataW H × List MemPlace} (h : DataW.trod enc Try.prog W 0 (fun _ => true) true fuel 22 [.slice a len cap] = some x) (hz : Small Try.prog 22 x.1) :
    ∃ l : List SOp, len = l.length ∧ Kd.C kOp W a l.length l ∧ l.length ≤ cap ∧ (∀ e ∈ l, WellO e) ∧ ∀ e ∈ l, Lim e.e := by
  rcases Go.Deep.open_slice Try.underlying22 h with ⟨hcs, _⟩ | ⟨ad, len', cap', m, n, D, Pl, hcs, _, hl, hm, hmm, hxx, hx⟩
  · simp only [List.cons.injEq, and_true, Value.slice.injEq] at hcs
    obtain ⟨rfl, rfl, rfl⟩ := hcs
    exact ⟨[], rfl, Kd.C_nil _ _, Nat.le_refl _, (fun e he => by cases he), fun e he => by cases he⟩
  · simp only [List.cons.injEq, and_true, Value.slice.injEq] at hcs
    obtain ⟨rfl, rfl, rfl⟩ := hcs
    have hlm : len ≤ m := by rw [hmm]; split <;> omega
    rw [hxx] at hz
    have hsm := (small_slice Try.underlying22 hz).2
    have each : ∀ i, i < len → ∃ e : SOp, (∃ c, c.length = 8 ∧ kOp.K W e c ∧ ∀ j u, c[j]? = some u → W.cell? (ad.add (i * 8 + j)) = some u) ∧ WellO e ∧ Lim e.e := by
      intro i hi
      obtain ⟨cs', h1, h2⟩ := hx i (by omega)
      rw [cells_op] at h1
      obtain ⟨_, hlen, hcell⟩ := World.cells?_some h1
      obtain ⟨e, hK, hw⟩ := open_opS h2 (hsm _ (List.mem_map.2 ⟨i, List.mem_range.2 hi, rfl⟩))
      refine ⟨e, ⟨cs', hlen, hK, fun j u hu => ?_⟩, hw⟩
      have hj : j < cs'.length := (List.getElem?_eq_some_iff.1 hu).1
      have := hcell j (by omega)
      rw [Go.Deep.add_add] at this
      rw [this, hu]
    have : Inhabited SOp := ⟨zOp⟩
    obtain ⟨f, hfx⟩ := Go.Deep.choose_lt each
    refine ⟨(List.range len).map f, by simp, ⟨rfl, ?_, fun _ => ⟨ad, rfl, fun j p hj => ?_⟩⟩, by simpa using hl, fun e he => ?_, fun e he => ?_⟩
    · have : maxLen = 9223372036854775807 := rfl
      simp only [List.length_map, List.length_range]
      omega
    · have hjl : j < len := by simpa using (List.getElem?_eq_some_iff.1 hj).1
      simp [hjl] at hj
      subst hj
      obtain ⟨⟨c, h1, h2, h3⟩, _⟩ := hfx j hjl
      exact ⟨c, h1, h2, h3⟩
    · simp only [List.mem_map, List.mem_range] at he
      obtain ⟨i, hi, rfl⟩ := he
      exact (hfx i hi).2.1
    · simp only [List.mem_map, List.mem_range] at he
      obtain ⟨i, hi, rfl⟩ := he
      exact (hfx i hi).2.2
end
end Go.Proofs.Ytjlkcidohabcfaa.Rw
