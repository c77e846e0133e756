/- Rows of elements: how they are read, and function values over them. Conditions: those of each theorem. -/
import Derived.Test.YthpklhkibcenoaaCore
import Derived.Test.YthpklhkibcenoaaPx0
import Derived.Test.YthpklhkibcenoaaHw
namespace Go.Proofs.Ythpklhkibcenoaa.Sk
open Go.RowKit Go.Proofs.YthpklhkibcenoaaW.PrintWords Go.Proofs.YthpklhkibcenoaaW.PrintLast Go.Proofs.YthpklhkibcenoaaW.PrintMore Go.Proofs.Ythpklhkibcenoaa.Px Go.Proofs.Ythpklhkibcenoaa.Sw
set_option linter.unusedVariables false
set_option linter.unusedSimpArgs false

theorem k57_C {W : World} {e : S57} {A3 : Option Addr} {c3 : Nat} {A4 : Option Addr} {c4 : Nat} (h : k57.K W e [.int .i64 e.f0, .int .i64 e.f1, .int .i64 e.f2, .slice A3 e.f3.length c3, .slice A4 e.f4.length c4]) : e.f3.length ≤ c3 ∧ Kd.C (Kd.int .u8) W A3 e.f3.length e.f3 ∧ e.f4.length ≤ c4 ∧ Kd.C (Kd.int .u8) W A4 e.f4.length e.f4 := by
 obtain ⟨B3, d3, B4, d4, he, l3, g3, l4, g4⟩ := k57_open h
 simp only [List.cons.injEq, Value.slice.injEq, true_and, and_true] at he
 obtain ⟨⟨rfl, rfl⟩, ⟨rfl, rfl⟩⟩ := he
 exact ⟨l3, g3, l4, g4⟩
/-- Element i of a row of the call's own. -/
theorem at_NE {W : World} {base n cap : Nat} {ok : Nat → Prop} {ad : Addr} {xs : List S57} (h : Kd.N k57 57 W base ok (.slice (some ad) n cap) xs) (i : Nat) (e : S57) (he : xs[i]? = some e) :
  ∃ A3 c3 A4 c4, W.cell? (ad.add (i * 5)) = some (.int .i64 e.f0) ∧ W.cell? ⟨(ad.add (i * 5)).block, (ad.add (i * 5)).off + 1, none⟩ = some (.int .i64 e.f1) ∧ W.cell? ⟨(ad.add (i * 5)).block, (ad.add (i * 5)).off + 2, none⟩ = some (.int .i64 e.f2) ∧ W.cell? ⟨(ad.add (i * 5)).block, (ad.add (i * 5)).off + 3, none⟩ = some (.slice A3 e.f3.length c3) ∧ W.cell? ⟨(ad.add (i * 5)).block, (ad.add (i * 5)).off + 4, none⟩ = some (.slice A4 e.f4.length c4) ∧
   Kd.FK k57 W (fun k => ok k ∧ k ≠ ad.block) e [.int .i64 e.f0, .int .i64 e.f1, .int .i64 e.f2, .slice A3 e.f3.length c3, .slice A4 e.f4.length c4] := by
 have hn := (Kd.N_reads' h).1
 have hi : i < xs.length := (List.getElem?_eq_some_iff.1 he).1
 obtain ⟨c, _, hFK, hcc⟩ := Kd.N_get h e (i : Int) (by omega) (by omega)
 rw [Int.toNat_natCast, List.getD_eq_getElem?_getD, he] at hFK
 replace hFK : Kd.FK k57 W _ e c := hFK
 obtain ⟨A3, c3, A4, c4, rfl, l3, g3, l4, g4⟩ := k57_open (Kd.FK_now hFK)
 have hc : ∀ j u, ([.int .i64 e.f0, .int .i64 e.f1, .int .i64 e.f2, .slice A3 e.f3.length c3, .slice A4 e.f4.length c4] : List Value)[j]? = some u → W.cell? (ad.add (i * 5 + j)) = some u := by
  intro j u hu
  have := hcc j u hu
  rwa [Int.toNat_natCast] at this
 refine ⟨A3, c3, A4, c4, hc 0 _ rfl, by rw [← add_field _ _ 1 (by omega)]; exact hc 1 _ rfl, by rw [← add_field _ _ 2 (by omega)]; exact hc 2 _ rfl, by rw [← add_field _ _ 3 (by omega)]; exact hc 3 _ rfl, by rw [← add_field _ _ 4 (by omega)]; exact hc 4 _ rfl, Kd.FK_mono hFK (fun k hk => ⟨hk.1, fun he => hk.2 (by rw [he]; rfl)⟩)⟩
/-- The same of a row that is only read. -/
theorem at_CE {W : World} {A : Option Addr} {n : Nat} {xs : List S57} (h : Kd.C k57 W A n xs) (i : Nat) (e : S57) (he : xs[i]? = some e) :
  ∃ ad A3 c3 A4 c4, A = some ad ∧ W.cell? (ad.add (i * 5)) = some (.int .i64 e.f0) ∧ W.cell? ⟨(ad.add (i * 5)).block, (ad.add (i * 5)).off + 1, none⟩ = some (.int .i64 e.f1) ∧ W.cell? ⟨(ad.add (i * 5)).block, (ad.add (i * 5)).off + 2, none⟩ = some (.int .i64 e.f2) ∧ W.cell? ⟨(ad.add (i * 5)).block, (ad.add (i * 5)).off + 3, none⟩ = some (.slice A3 e.f3.length c3) ∧ W.cell? ⟨(ad.add (i * 5)).block, (ad.add (i * 5)).off + 4, none⟩ = some (.slice A4 e.f4.length c4) ∧ e.f3.length ≤ c3 ∧ Kd.C (Kd.int .u8) W A3 e.f3.length e.f3 ∧ e.f4.length ≤ c4 ∧ Kd.C (Kd.int .u8) W A4 e.f4.length e.f4 := by
 have hn := h.1
 have hi : i < xs.length := (List.getElem?_eq_some_iff.1 he).1
 obtain ⟨ad, c, e0, _, hK, hc0⟩ := Kd.C_get h e (i : Int) (by omega) (by omega)
 rw [Int.toNat_natCast, List.getD_eq_getElem?_getD, he] at hK
 replace hK : k57.K W e c := hK
 obtain ⟨A3, c3, A4, c4, rfl, l3, g3, l4, g4⟩ := k57_open hK
 have hc : ∀ j u, ([.int .i64 e.f0, .int .i64 e.f1, .int .i64 e.f2, .slice A3 e.f3.length c3, .slice A4 e.f4.length c4] : List Value)[j]? = some u → W.cell? (ad.add (i * 5 + j)) = some u := by
  intro j u hu
  have := hc0 j u hu
  rwa [Int.toNat_natCast] at this
 exact ⟨ad, A3, c3, A4, c4, e0, hc 0 _ rfl, by rw [← add_field _ _ 1 (by omega)]; exact hc 1 _ rfl, by rw [← add_field _ _ 2 (by omega)]; exact hc 2 _ rfl, by rw [← add_field _ _ 3 (by omega)]; exact hc 3 _ rfl, by rw [← add_field _ _ 4 (by omega)]; exact hc 4 _ rfl, l3, g3, l4, g4⟩
/-- A function value that says of each element of G whether it is so, wherever all but S is kept. -/
def Says1 (w : World) (S : Nat → Prop) (G : S57 → Prop) (fid : Nat) (caps : Array Value) (q : S57 → Bool) : Prop :=
 ∀ (e : S57) (A3 : Option Addr) (c3 : Nat) (A4 : Option Addr) (c4 : Nat) (w1 : World), G e → Kept w w1 S → e.f3.length ≤ c3 → Kd.C (Kd.int .u8) w1 A3 e.f3.length e.f3 → e.f4.length ≤ c4 → Kd.C (Kd.int .u8) w1 A4 e.f4.length e.f4 →
  Calls Try.prog fid (#[.agg #[.int .i64 e.f0, .int .i64 e.f1, .int .i64 e.f2, .slice A3 e.f3.length c3, .slice A4 e.f4.length c4]] ++ caps) w1 fun ex w' => ex = .returned (.bool (q e)) ∧ Below w1.heap.size w1 w'
/-- A function value that says of two elements of G how they go. -/
def Says2 (w : World) (S : Nat → Prop) (G : S57 → Prop) (fid : Nat) (caps : Array Value) (q : S57 → S57 → Int) : Prop :=
 ∀ (e u : S57) (A3 : Option Addr) (c3 : Nat) (A4 : Option Addr) (c4 : Nat) (B3 : Option Addr) (d3 : Nat) (B4 : Option Addr) (d4 : Nat) (w1 : World), G e → G u → Kept w w1 S → e.f3.length ≤ c3 → Kd.C (Kd.int .u8) w1 A3 e.f3.length e.f3 → e.f4.length ≤ c4 → Kd.C (Kd.int .u8) w1 A4 e.f4.length e.f4 → u.f3.length ≤ d3 → Kd.C (Kd.int .u8) w1 B3 u.f3.length u.f3 → u.f4.length ≤ d4 → Kd.C (Kd.int .u8) w1 B4 u.f4.length u.f4 →
  Calls Try.prog fid (#[.agg #[.int .i64 e.f0, .int .i64 e.f1, .int .i64 e.f2, .slice A3 e.f3.length c3, .slice A4 e.f4.length c4], .agg #[.int .i64 u.f0, .int .i64 u.f1, .int .i64 u.f2, .slice B3 u.f3.length d3, .slice B4 u.f4.length d4]] ++ caps) w1 fun ex w' => ex = .returned (.int .i64 (q e u)) ∧ Below w1.heap.size w1 w'
theorem Says1.kept {w w1 : World} {S : Nat → Prop} {G : S57 → Prop} {fid : Nat} {caps : Array Value} {q : S57 → Bool} (h : Says1 w S G fid caps q) (hk : Kept w w1 S) : Says1 w1 S G fid caps q :=
 fun e A3 c3 A4 c4 w2 h1 h2 => h e A3 c3 A4 c4 w2 h1 (hk.then_ h2 (fun _ h => .inl h))
theorem Says2.kept {w w1 : World} {S : Nat → Prop} {G : S57 → Prop} {fid : Nat} {caps : Array Value} {q : S57 → S57 → Int} (h : Says2 w S G fid caps q) (hk : Kept w w1 S) : Says2 w1 S G fid caps q :=
 fun e u A3 c3 A4 c4 B3 d3 B4 d4 w2 h1 h2 h3 => h e u A3 c3 A4 c4 B3 d3 B4 d4 w2 h1 h2 (hk.then_ h3 (fun _ h => .inl h))
theorem ht_E : (Try.prog.info? 57).map (·.size) = some k57.sz := by kernel_rfl
theorem one_E (e : S57) (A3 : Option Addr) (c3 : Nat) (A4 : Option Addr) (c4 : Nat) : (.agg #[.int .i64 e.f0, .int .i64 e.f1, .int .i64 e.f2, .slice A3 e.f3.length c3, .slice A4 e.f4.length c4] : Value).cells.toList = [.int .i64 e.f0, .int .i64 e.f1, .int .i64 e.f2, .slice A3 e.f3.length c3, .slice A4 e.f4.length c4] := rfl
end Go.Proofs.Ythpklhkibcenoaa.Sk
