/- Words of ours beside the print's: a row of the call's own told as one that is only read; a constant text's bytes. -/
import Derived.Test.YtmkojpkajlpokaaWMore
import Derived.Test.YtmkojpkajlpokaaWGuard
import Derived.Lib.SlBytesConst
set_option linter.unusedVariables false
namespace Go.Proofs.YtmkojpkajlpokaaW.PrintWords
open Go.RowKit
/-- A row of the call's own, told as one that is only read. -/
theorem Kd.V_of_R {α : Type} {d : Kd α} {e base : Nat} {ok : Nat → Prop} {W : World} {v : Value} {xs : List α} (h : d.R e W base ok v xs) : Kd.V d e W base (fun k_ => base ≤ k_) v xs :=
  Kd.V_mono (Kd.R_V (Kd.R_bound h)) (fun _ hk => hk.2.1)
section
variable {P : Program} {ops : Array Oper} {rest : List Oper} {o o2 : Oper} {a : Act} {Q : Exit → Act → World → Prop}
/-- The conversion of a constant's row, in a world that has drawn. -/
theorem run_convert_const_drewN (w : World) (m : Nat) (t e : TypeId) (C : Array Value) (n c : Nat) (ht : P.underlying t = some (.slice e)) (he : P.underlying e = some (.int .u8)) :
    (convert t t (.slice (some ⟨w.heap.size, 0, none⟩) n c)).run P ((w.drewN m).alloc (.cells C e)) = .ok (.slice (some ⟨w.heap.size, 0, none⟩) n c) ((w.drewN m).alloc (.cells C e (C.size, C.size + 1))) :=
  Lib.run_convert_bytes_const (w.drewN m) t e C n c ht he
theorem run_convert_const_drew (w : World) (t e : TypeId) (C : Array Value) (n c : Nat) (ht : P.underlying t = some (.slice e)) (he : P.underlying e = some (.int .u8)) :
    (convert t t (.slice (some ⟨w.heap.size, 0, none⟩) n c)).run P (w.drew.alloc (.cells C e)) = .ok (.slice (some ⟨w.heap.size, 0, none⟩) n c) (w.drew.alloc (.cells C e (C.size, C.size + 1))) :=
  Lib.run_convert_bytes_const w.drew t e C n c ht he
/-- '[]byte("..")' of a constant: the literal's row and, behind it, its conversion to its own type, both in one step. What comes of it is only read. -/
theorem Kd.V_const {w0 W : World} (base e t : Nat) (hgd : o.guard = none) {N N2 : Tmp} (_hd : o.dst = some N) (hd2 : o2.dst = some N2) (xs : List Int) {ok : Nat → Prop} (hne : 0 < xs.length) (hm : xs.length ≤ 9223372036854775807)
    (hrun : (execOp a.eval o).run P W = .ok (.value (.slice (some ⟨W.heap.size, 0, none⟩) xs.length xs.length)) (W.alloc (.cells (xs.map (Value.int .u8)).toArray e)))
    (hw2 : ∀ v : Value, Region.wanted o2 (yielded ops (a.put o.dst v).tmps) = true)
    (hrun2 : (execOp (a.put o.dst (.slice (some ⟨W.heap.size, 0, none⟩) xs.length xs.length)).eval o2).run P (W.alloc (.cells (xs.map (Value.int .u8)).toArray e)) = .ok (.value (.slice (some ⟨W.heap.size, 0, none⟩) xs.length xs.length)) (W.alloc (.cells (xs.map (Value.int .u8)).toArray e (xs.length, xs.length + 1))))
    (hfresh : ∀ k, W.heap.size ≤ k → ok k) (HB : Below base w0 W) (hbase : base ≤ W.heap.size)
    (h : ∀ v1 w1, Kd.V (Kd.int .u8) e w1 base ok v1 xs → Below base w0 w1 → W.grownBy w1 none → (∃ b, v1.ownBlock = some b ∧ W.heap.size ≤ b) → wpList P ops Q rest ((a.put o.dst v1).put o2.dst v1) w1) : wpList P ops Q (o :: o2 :: rest) a W := by
  refine event_run hgd hrun ?_
  refine gate_guard (hw2 _) ?_
  refine event_run (o := { o2 with guard := none }) rfl hrun2 ?_
  refine h _ _ (Kd.V_mk (Nat.le_refl _) ?_) (HB.alloc hbase _) (World.grownBy_alloc W _ none) ⟨W.heap.size, by simp [Value.ownBlock], Nat.le_refl _⟩
  intro W' hW'
  have hk : W'.heap[W.heap.size]? = some (.cells (xs.map (Value.int .u8)).toArray e (xs.length, xs.length + 1)) := by
    have h1 : (W.alloc (.cells (xs.map (Value.int .u8)).toArray e (xs.length, xs.length + 1))).heap[W.heap.size]? = some (.cells (xs.map (Value.int .u8)).toArray e (xs.length, xs.length + 1)) := heap_alloc_new W _
    have h2 : W.heap.size < (W.alloc (.cells (xs.map (Value.int .u8)).toArray e (xs.length, xs.length + 1))).heap.size := (Array.getElem?_eq_some_iff.1 h1).1
    rw [hW' W.heap.size (hfresh _ (Nat.le_refl _)) h2, h1]
  refine ⟨rfl, hm, fun _ => ⟨_, rfl, fun j p hj => ⟨[.int .u8 p], rfl, rfl, fun i u hu => ?_⟩⟩⟩
  obtain ⟨hjl, hjp⟩ := List.getElem?_eq_some_iff.1 hj
  cases i with
  | succ i => simp at hu
  | zero =>
    simp only [List.getElem?_cons_zero, Option.some.injEq] at hu
    subst hu
    have hs : (Kd.int IntKind.u8).sz = 1 := rfl
    simp only [World.cell?, Addr.add, hs, Nat.mul_one, Nat.add_zero]
    by_cases hj0 : j = 0
    · subst hj0
      simp [hk, hj]
    · simp [hj0, hk, hj]
end
end Go.Proofs.YtmkojpkajlpokaaW.PrintWords
