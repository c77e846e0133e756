/- What the laws on dropping share. Conditions: those of each theorem. -/
import Derived.Test.YthpklhkibcenoaaCore
import Derived.Test.YthpklhkibcenoaaHap
import Derived.Test.YthpklhkibcenoaaHpl
import Derived.Test.YthpklhkibcenoaaHto
import Derived.Test.YthpklhkibcenoaaPx0
import Derived.Test.YthpklhkibcenoaaHrb
namespace Go.Proofs.Ythpklhkibcenoaa.Sk
open Go.RowKit Go.Proofs.YthpklhkibcenoaaW.PrintWords Go.Proofs.YthpklhkibcenoaaW.PrintLast Go.Proofs.YthpklhkibcenoaaW.PrintMore Go.Proofs.Ythpklhkibcenoaa.Px Go.Proofs.Ythpklhkibcenoaa.Sw
set_option linter.unusedVariables false
set_option linter.unusedSimpArgs false

theorem tabsB_nodup {nx : Int} : ∀ {ts pre : List S57}, (pre.map (·.f0)).Nodup → tabsB nx pre ts = true → ((pre ++ ts).map (·.f0)).Nodup
 | [], pre, hp, _ => by simpa using hp
 | m :: ts, pre, hp, h => by
  unfold tabsB at h
  simp only [Bool.and_eq_true, Bool.not_eq_true', List.any_eq_false, decide_eq_true_eq] at h
  have e : pre ++ m :: ts = (pre ++ [m]) ++ ts := by simp
  rw [e]
  refine tabsB_nodup ?_ h.2
  rw [List.map_append, List.nodup_append]
  refine ⟨hp, by simp, fun a ha b hb => ?_⟩
  obtain ⟨p, hp1, rfl⟩ := List.mem_map.1 ha
  simp only [List.map_cons, List.map_nil, List.mem_singleton] at hb
  rw [hb]
  exact h.1.1.1.1 p hp1
theorem checkB_nodup {g n s q : Int} {ts : List S57} (h : checkB g n s q ts = true) : (ts.map (·.f0)).Nodup := by
 unfold checkB at h
 simp only [Bool.and_eq_true] at h
 simpa using tabsB_nodup (pre := []) (by simp) h.2
theorem dropB_of (T : List S57) : ∀ (l pre : List Int), (pre ++ l).Nodup → (∀ n ∈ l, T.any (fun m => m.f0 == n) = true) → dropB T pre l = true
 | [], _, _, _ => rfl
 | n :: l, pre, hn, ha => by
  unfold dropB
  have h1 := List.nodup_append.1 hn
  have h2 : (pre.any fun p => decide (p = n)) = false := by
   rw [List.any_eq_false]
   intro p hp
   have := h1.2.2 p hp n (by simp)
   simpa using this
  rw [h2, ha n (by simp), dropB_of T l (pre ++ [n]) (by simpa using hn) (fun x hx => ha x (List.mem_cons_of_mem _ hx))]
  rfl
theorem any_mem {T : List S57} {m : S57} (h : m ∈ T) : T.any (fun x => x.f0 == m.f0) = true := List.any_eq_true.2 ⟨m, h, by simp⟩
theorem i64_mb {l : List S57} (hM : ∀ m ∈ l, MB m) : ∀ n ∈ l.map (·.f0), I64 n := by
 intro n hn
 obtain ⟨m, hm, rfl⟩ := List.mem_map.1 hn
 exact (hM m hm).2.2
theorem map_f0 (l : List S37) : (l.map toM).map (·.f0) = l.map (·.f0) := by rw [List.map_map]; rfl
end Go.Proofs.Ythpklhkibcenoaa.Sk
