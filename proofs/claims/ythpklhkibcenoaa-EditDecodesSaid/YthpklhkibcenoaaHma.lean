/- A map of numbers of the call's own: what is found in it. Conditions: those of each theorem. -/
import Derived.Carry
import Derived.Maps.Own
import Derived.Maps.OwnOps
import Derived.Maps.Views
import Derived.Test.YthpklhkibcenoaaPx0
import Derived.Test.YthpklhkibcenoaaCore
import Derived.Test.YthpklhkibcenoaaSpecA
import Derived.Test.YthpklhkibcenoaaME
namespace Go.Proofs.Ythpklhkibcenoaa.Sk
open Go.RowKit Go.Proofs.YthpklhkibcenoaaW.PrintWords Go.Proofs.YthpklhkibcenoaaW.PrintLast Go.Proofs.YthpklhkibcenoaaW.PrintMore Go.Proofs.Ythpklhkibcenoaa.Px Go.Proofs.Ythpklhkibcenoaa.Sw
set_option linter.unusedVariables false
set_option linter.unusedSimpArgs false
open Go.Maps
/-- Block g is a map of at most n entries; what is found at x is f x. -/
def MapI (w : World) (g n : Nat) (f : Int → Int) : Prop := ∃ D : DataW Unit, w.ownsMap Try.prog 3 (plainElem Try.prog 3) g n D ∧ IsMap D ∧ ∀ x, (Lit.int .i64 x).wf = true → D.atKey (.int .i64 x) (.lit (.int .i64 0)) = .lit (.int .i64 (f x))
theorem i64_wf {x : Int} (h0 : -9223372036854775808 ≤ x) (h1 : x ≤ 9223372036854775807) : (Lit.int .i64 x).wf = true := WalkArith.wf_i64 ⟨h0, h1⟩
theorem MapI.made (w : World) : MapI (w.alloc (.map #[] 0)) w.heap.size 0 (fun _ => 0) :=
 ⟨.map [], World.ownsMap_made w Try.prog 3 (plainElem Try.prog 3), ⟨_, rfl⟩, fun x _ => rfl⟩
theorem MapI.step {w w1 : World} {g n : Nat} {f : Int → Int} (h : MapI w g n f) (hb : w1.heap[g]? = w.heap[g]?) : MapI w1 g n f := by
 obtain ⟨D, ⟨es, clock, h1, h2⟩, h3⟩ := h
 exact ⟨D, ⟨es, clock, hb.trans h1, h2⟩, h3⟩
theorem MapI.lt {w : World} {g n : Nat} {f : Int → Int} (h : MapI w g n f) : g < w.heap.size := by
 obtain ⟨D, ⟨es, clock, h1, h2⟩, h3⟩ := h
 exact blk_lt h1
theorem MapI.below {w w1 : World} {g n : Nat} {f : Int → Int} (h : MapI w g n f) (hb : Below w.heap.size w w1) : MapI w1 g n f := h.step (hb.block g h.lt)
theorem MapI.cong {w : World} {g n : Nat} {f f' : Int → Int} (h : MapI w g n f) (he : ∀ x, f' x = f x) : MapI w g n f' := by
 have : f' = f := funext he
 rw [this]; exact h
theorem zero_int (w : World) : (zeroValue 3).run Try.prog w = .ok (.int .i64 0) w := by kernel_rfl
theorem keyed_int : Keyed Try.prog 3 := int_keyed Try.underlying3
section
variable {ops : Array Oper} {rest : List Oper} {o : Oper} {a : Act} {Q : Exit → Act → World → Prop}
theorem makeMap_event {w : World} (hg : o.guard = none) (hop : o.op = Op.makeMap 59 none) (h : ∀ g, g = w.heap.size → ∀ w1, MapI w1 g 0 (fun _ => 0) → Below w.heap.size w w1 → wpList Try.prog ops Q rest (a.put o.dst (.map (some g))) w1) : wpList Try.prog ops Q (o :: rest) a w := by
 refine Kd.event_run (v := .map (some w.heap.size)) (w1 := w.alloc (.map #[] 0)) hg ?_ (h _ rfl _ (MapI.made w) (below_alloc (Below.refl _ _) _))
 unfold execOp
 simp only [hop]
 simp only [Sem.run_bind, Result.andThen_ok, Sem.run_pure, Option.map_none]
 rfl
theorem lookup_event {w : World} {g n : Nat} {f : Int → Int} (hg : o.guard = none) (m x : Operand) (hop : o.op = Op.lookup 59 m x false) (hm : a.eval m = .map (some g)) (h : MapI w g n f) (key : Int) (h0 : -9223372036854775808 ≤ key) (h1 : key ≤ 9223372036854775807) (hx : a.eval x = .int .i64 key) {c0 : Int} (hc0 : f key = c0)
  (hK : wpList Try.prog ops Q rest (a.put o.dst (.int .i64 c0)) w) : wpList Try.prog ops Q (o :: rest) a w := by
 obtain ⟨D, hown, hm2, hat⟩ := h
 refine wpList_lookup_own_int w hg m x 59 hop 3 3 .i64 keyed_int Try.underlying59 Try.underlying3 (zero_int w) g n D hm hown _ _ hx (keyOf_int_mk Try.underlying3 (i64_wf h0 h1)) ?_
 intro c hc _
 have h2 := hat key (i64_wf h0 h1)
 rw [hc] at h2
 injection h2 with h2
 injection h2 with _ h2
 rw [h2, hc0]
 exact hK
theorem update_event {w : World} {g n : Nat} {f : Int → Int} (hg : o.guard = none) (m x v : Operand) (hop : o.op = Op.mapUpdate 59 m x v) (hm : a.eval m = .map (some g)) (h : MapI w g n f) (hn : n < 1000000000) (key val : Int) (h0 : -9223372036854775808 ≤ key) (h1 : key ≤ 9223372036854775807) (h2 : -9223372036854775808 ≤ val) (h3 : val ≤ 9223372036854775807) (hx : a.eval x = .int .i64 key) (hv : a.eval v = .int .i64 val)
  (hK : ∀ w', MapI w' g (n + 1) (fun y => if y = key then val else f y) → w.grownBy w' (some g) → wpList Try.prog ops Q rest (a.put o.dst undef) w') : wpList Try.prog ops Q (o :: rest) a w := by
 obtain ⟨D, hown, hm2, hat⟩ := h
 refine wpList_mapUpdate_own w hg m x v 59 hop 3 3 keyed_int Try.underlying59 (plainElem Try.prog 3) g n D hm hown (by unfold maxLen; omega) _ _ _ hx hv (keyOf_int_mk Try.underlying3 (i64_wf h0 h1)) _ [] (plainElem_int Try.underlying3 (i64_wf h2 h3)) ?_
 intro w' ho hgr
 refine hK w' ⟨_, ho, ?_, fun y hy => ?_⟩ hgr
 ·
  exact hm2.put _ _
 ·
  show (D.put (.int .i64 key) (.lit (.int .i64 val))).atKey (.int .i64 y) (.lit (.int .i64 0)) = .lit (.int .i64 (if y = key then val else f y))
  by_cases hyk : y = key
  ·
   subst hyk
   rw [if_pos rfl]
   exact atKey_put_same hm2 (by trivial) _ _
  ·
   rw [if_neg hyk, atKey_put_other (by intro he; injection he with _ he; exact hyk he)]
   exact hat y hy
end
end Go.Proofs.Ythpklhkibcenoaa.Sk
