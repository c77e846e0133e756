/- Entries and their order in plain Lean. Conditions: those of each theorem. -/
import Derived.Test.YtobjkjmmkbhecaaCore
import Derived.Test.YtobjkjmmkbhecaaME
import Derived.Test.YtobjkjmmkbhecaaHso
import Derived.Test.YtobjkjmmkbhecaaPx0
import Derived.Test.YtobjkjmmkbhecaaMA
namespace Go.Proofs.Ytobjkjmmkbhecaa.Sk
open Go.RowKit Go.Proofs.YtobjkjmmkbhecaaW.PrintWords Go.Proofs.YtobjkjmmkbhecaaW.PrintLast Go.Proofs.YtobjkjmmkbhecaaW.PrintMore Go.Proofs.Ytobjkjmmkbhecaa.Px Go.Proofs.Ytobjkjmmkbhecaa.Sw
set_option linter.unusedVariables false
set_option linter.unusedSimpArgs false

def I64 (n : Int) : Prop := -9223372036854775808 ≤ n ∧ n ≤ 9223372036854775807
/-- An entry of bytes. -/
def EB (e : S36) : Prop := Byts e.f0 ∧ Byts e.f3 ∧ I64 e.f1
def cmpI (a b : Int) : Int := if a < b then -1 else if a > b then 1 else 0
theorem cmpI_neg {a b : Int} : cmpI a b < 0 ↔ a < b := by
 unfold cmpI
 split
 ·
  simp_all
 ·
  split <;> simp_all
theorem cmpI_zero {a b : Int} : cmpI a b = 0 ↔ a = b := by
 unfold cmpI
 split
 ·
  constructor <;> intro h <;> omega
 ·
  split
  ·
   constructor <;> intro h <;> omega
  ·
   constructor <;> intro h <;> omega
def cmpB (a b : List Int) : Int := Lib.compareBytes (Lib.bytesOf a) (Lib.bytesOf b)
theorem cmpB_neg {a b : List Int} (ha : Byts a) (hb : Byts b) : cmpB a b < 0 ↔ less a b = true := by
 have h := compare_less ha hb
 unfold cmpB
 constructor
 ·
  intro h2; rw [← h]; exact decide_eq_true h2
 ·
  intro h2; rw [← h] at h2; exact of_decide_eq_true h2
theorem isNaN_f (a : Int) : cmp_isNaN_int.f a = some false := by
 show some (a != a) = _
 simp
theorem cmpI_f (a b : Int) : cmp_Compare_int.f a b = some (cmpI a b) := by
 unfold cmp_Compare_int.f cmpI
 simp only [isNaN_f, Option.bind_some]
 rw [if_neg (by simp), if_neg (by simp)]
 split
 ·
  rfl
 ·
  split <;> rfl
theorem or2_f (k : Nat) (a b : Int) : cmp_Or_int.f (k + 3) [a, b] = some (if a = 0 then b else a) := by
 unfold cmp_Or_int.f
 simp only [cmp_Or_int.l0, List.length_cons, List.length_nil]
 rw [if_pos (by omega), if_pos (by omega), if_pos (by omega)]
 have e0 : rd ([a, b] : List Int) 0 = a := rfl
 rw [e0]
 by_cases ha : a = 0
 ·
  rw [if_pos ha, if_pos ha]
  have w1 : wrap64 (0 + 1) = 1 := by rw [wrap_in (by omega) (by omega)]; rfl
  rw [w1, if_pos (by omega), if_pos (by omega), if_pos (by omega)]
  have e1 : rd ([a, b] : List Int) 1 = b := rfl
  rw [e1]
  by_cases hb : b = 0
  ·
   rw [if_pos hb]
   have w2 : wrap64 (1 + 1) = 2 := by rw [wrap_in (by omega) (by omega)]; rfl
   rw [w2, if_neg (by omega), hb]
  ·
   rw [if_neg hb]
 ·
  rw [if_neg ha, if_neg ha]

theorem cmpB_zero : ∀ {a b : List Int}, Byts a → Byts b → (cmpB a b = 0 ↔ a = b) := by
 intro a b ha hb
 constructor
 ·
  intro h
  by_cases e : a = b
  ·
   exact e
  ·
   rcases less_total e with h2 | h2
   ·
    have := (cmpB_neg ha hb).2 h2; omega
   ·
    exfalso
    have key : ∀ (x y : List UInt8), Lib.compareBytes x y = 0 → x = y := by
     intro x
     induction x with
     | nil => intro y h; cases y with
          | nil => rfl
          | cons b y => simp [Lib.compareBytes] at h
     | cons a x ih =>
      intro y h
      cases y with
      | nil => simp [Lib.compareBytes] at h
      | cons b y =>
       rw [Lib.compareBytes] at h
       by_cases h1 : a < b
       ·
        rw [if_pos h1] at h; omega
       ·
        rw [if_neg h1] at h
        by_cases h3 : b < a
        ·
         rw [if_pos h3] at h; omega
        ·
         rw [if_neg h3] at h
         have e2 : a = b := by
          rw [UInt8.lt_iff_toNat_lt] at h1 h3
          exact UInt8.toNat_inj.1 (by omega)
         rw [e2, ih y h]
    exact e ((bytesOf_inj ha hb).1 (key _ _ h))
 ·
  intro h
  subst h
  have key : ∀ (x : List UInt8), Lib.compareBytes x x = 0 := by
   intro x
   induction x with
   | nil => rfl
   | cons a x ih =>
    rw [Lib.compareBytes, if_neg (by simp [UInt8.lt_iff_toNat_lt]), if_neg (by simp [UInt8.lt_iff_toNat_lt]), ih]
  exact key _
/-- How entries go: by their keys, the later ones first. -/
def cmpE (x y : S36) : Int := if cmpB x.f0 y.f0 = 0 then cmpI y.f1 x.f1 else cmpB x.f0 y.f0
theorem cmpE_neg {x y : S36} (hx : EB x) (hy : EB y) : cmpE x y < 0 ↔ less x.f0 y.f0 = true ∨ x.f0 = y.f0 ∧ y.f1 < x.f1 := by
 unfold cmpE
 by_cases h : x.f0 = y.f0
 ·
  rw [if_pos ((cmpB_zero hx.1 hy.1).2 h), cmpI_neg]
  constructor
  ·
   intro h2; exact .inr ⟨h, h2⟩
  ·
   rintro (h2 | h2)
   ·
    rw [h, less_irrefl] at h2; cases h2
   ·
    exact h2.2
 ·
  rw [if_neg (fun h2 => h ((cmpB_zero hx.1 hy.1).1 h2)), cmpB_neg hx.1 hy.1]
  constructor
  ·
   exact .inl
  ·
   rintro (h2 | h2)
   ·
    exact h2
   ·
    exact absurd h2.1 h
theorem cmpE_zero {x y : S36} (hx : EB x) (hy : EB y) : cmpE x y = 0 ↔ x.f0 = y.f0 ∧ x.f1 = y.f1 := by
 unfold cmpE
 by_cases h : x.f0 = y.f0
 ·
  rw [if_pos ((cmpB_zero hx.1 hy.1).2 h), cmpI_zero]
  constructor
  ·
   intro h2; exact ⟨h, h2.symm⟩
  ·
   intro h2; exact h2.2.symm
 ·
  rw [if_neg (fun h2 => h ((cmpB_zero hx.1 hy.1).1 h2))]
  constructor
  ·
   intro h2; exact absurd ((cmpB_zero hx.1 hy.1).1 h2) h
  ·
   intro h2; exact absurd h2.1 h
/-- Entries' order is one. -/
theorem cmpE_ord : POrd EB cmpE := by
 refine ⟨fun a b c ha hb hc h1 h2 h3 => ?_, fun a b ha hb h1 h2 => ?_⟩
 ·
  rw [cmpE_neg hb ha] at h1
  rw [cmpE_neg hc hb] at h2
  rw [cmpE_neg hc ha] at h3
  by_cases e1 : b.f0 = a.f0
  ·
   by_cases e2 : c.f0 = b.f0
   ·
    rcases h3 with h3 | ⟨_, h3⟩
    ·
     rw [e2, e1, less_irrefl] at h3; cases h3
    ·
     have h4 : ¬ a.f1 < b.f1 := fun h => h1 (.inr ⟨e1, h⟩)
     have h5 : ¬ b.f1 < c.f1 := fun h => h2 (.inr ⟨e2, h⟩)
     omega
   ·
    rcases less_total e2 with h | h
    ·
     exact h2 (.inl h)
    ·
     rcases h3 with h3 | ⟨e3, _⟩
     ·
      rw [← e1, less_asymm h] at h3; cases h3
     ·
      exact e2 (e3.trans e1.symm)
  ·
   rcases less_total e1 with h | h
   ·
    exact h1 (.inl h)
   ·
    by_cases e2 : c.f0 = b.f0
    ·
     rcases h3 with h3 | ⟨e3, _⟩
     ·
      rw [e2, less_asymm h] at h3; cases h3
     ·
      exact e1 (e2.symm.trans e3)
    ·
     rcases less_total e2 with k | k
     ·
      exact h2 (.inl k)
     ·
      have hac := less_trans h k
      rcases h3 with h3 | ⟨e3, _⟩
      ·
       rw [less_asymm hac] at h3; cases h3
      ·
       rw [e3, less_irrefl] at hac; cases hac
 ·
  rw [cmpE_neg ha hb] at h1
  rw [cmpE_neg hb ha] at h2
  rcases h1 with h1 | ⟨e1, h1⟩ <;> rcases h2 with h2 | ⟨e2, h2⟩
  ·
   rw [less_asymm h1] at h2; cases h2
  ·
   rw [e2, less_irrefl] at h1; cases h1
  ·
   rw [e1, less_irrefl] at h2; cases h2
  ·
   omega
theorem eqv_key {x y : S36} (hx : EB x) (hy : EB y) : eqv cmpE x y = true ↔ x.f0 = y.f0 ∧ x.f1 = y.f1 := by
 rw [eqv_iff, cmpE_neg hx hy, cmpE_neg hy hx]
 constructor
 ·
  rintro ⟨h1, h2⟩
  have e : x.f0 = y.f0 := by
   by_cases e : x.f0 = y.f0
   ·
    exact e
   ·
    rcases less_total e with h | h
    ·
     exact absurd (.inl h) h1
    ·
     exact absurd (.inl h) h2
  refine ⟨e, ?_⟩
  have h3 : ¬ y.f1 < x.f1 := fun h => h1 (.inr ⟨e, h⟩)
  have h4 : ¬ x.f1 < y.f1 := fun h => h2 (.inr ⟨e.symm, h⟩)
  omega
 ·
  rintro ⟨e1, e2⟩
  rw [e1, e2, less_irrefl]
  simp
theorem compareE_f (k : Nat) (x y : S36) : merge_compare.f (k + 3) x.f0 x.f1 x.f2 x.f3 y.f0 y.f1 y.f2 y.f3 = some (cmpE x y) := by
 unfold merge_compare.f cmpE
 show (cmp_Compare_int.f y.f1 x.f1).bind _ = _
 rw [cmpI_f, Option.bind_some, or2_f]
 rfl
/-- merge.compare says how entries go. -/
theorem cmp_says (w : World) (S : Nat → Prop) : Says2 w S EB 28 #[] cmpE := by
 intro e u A0 c0 A3 c3 B0 d0 B3 d3 w1 he hu hk l0 g0 l3 g3 m0 k0 m3 k3
 exact merge_compare.calls 3 A0 c0 e.f0 e.f1 e.f2 A3 c3 e.f3 B0 d0 u.f0 u.f1 u.f2 B3 d3 u.f3 _ w1 g0 l0 g3 l3 k0 m0 k3 m3 (compareE_f 0 e u)
end Go.Proofs.Ytobjkjmmkbhecaa.Sk
