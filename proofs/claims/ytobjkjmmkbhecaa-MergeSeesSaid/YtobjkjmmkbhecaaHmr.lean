/- Merge, walked. Conditions: those of each theorem. -/
import Derived.Test.YtobjkjmmkbhecaaCore
import Derived.Test.YtobjkjmmkbhecaaMF
import Derived.Test.YtobjkjmmkbhecaaHco
import Derived.Test.YtobjkjmmkbhecaaHcp
import Derived.Test.YtobjkjmmkbhecaaHm1
import Derived.Test.YtobjkjmmkbhecaaHpl
import Derived.Test.YtobjkjmmkbhecaaHso
import Derived.Test.YtobjkjmmkbhecaaHst
import Derived.Test.YtobjkjmmkbhecaaME
import Derived.Test.YtobjkjmmkbhecaaPx0
namespace Go.Proofs.Ytobjkjmmkbhecaa.Sk
open Go.RowKit Go.Proofs.YtobjkjmmkbhecaaW.PrintWords Go.Proofs.YtobjkjmmkbhecaaW.PrintLast Go.Proofs.YtobjkjmmkbhecaaW.PrintMore Go.Proofs.Ytobjkjmmkbhecaa.Px Go.Proofs.Ytobjkjmmkbhecaa.Sw
set_option linter.unusedVariables false
set_option linter.unusedSimpArgs false
set_option maxHeartbeats 4000000 in
set_option maxRecDepth 100000 in
theorem merge_calls {w : World} {A : Option Addr} {c : Nat} {xss : List (List S36)} {okF : Nat → Prop} (hR : Rows w okF A xss) (hl : xss.flatten.length ≤ 1000000000) (hl2 : xss.length ≤ 1000000000) (hb : ∀ e ∈ xss.flatten, e.f0.length < 140737488355328 ∧ e.f3.length < 140737488355328) (hE : ∀ e ∈ xss.flatten, EB e) :
  Calls Try.prog 13 #[.slice A xss.length c] w fun ex w' => ∃ v', ex = .returned v' ∧ Kd.N k36 36 w' w.heap.size (fun k => (okF k ∧ k < w.heap.size) ∨ w.heap.size ≤ k) v' (putAll cmpE xss.flatten) ∧ Below w.heap.size w w' := by
 have CP := Aside0.mk (copies_calls (c := c) hR hl hl2 hb)
 have HL := Aside0.mk hl
 have HG := Aside0.mk hE
 clear hR hl hl2 hb hE
 go_enter Try.func13, Try.ntmps13
 go_wp2_with (first
  | ((with_reducible refine gate_dst (N := 5) rfl ?_); (try (refine gate_guard (by rfl) ?_; dsimp only)); refine goesL_ (some 5) rfl rfl Try.func26 (by kernel_rfl) rfl #[.slice A xss.length c] rfl (by (try simp only [List.map_toArray, List.map_cons, List.map_nil]); first | done | rfl) ?_; refine (CP.out).mono ?_; rintro ex w1 ⟨v1, rfl, hn1, hb1⟩; refine ⟨_, rfl, ?_⟩; have n_ := Aside0.mk hn1; clear hn1; have hn1 := n_; clear n_; have n_ := Aside0.mk hb1; clear hb1; have hb1 := n_; clear n_)
  | ((with_reducible refine gate_dst (N := 7) rfl ?_); (try (refine gate_guard (by rfl) ?_; dsimp only)); refine goesL_ (some 7) rfl rfl Try.func27 (by kernel_rfl) rfl #[v1, .func (.func 28) #[] #[]] rfl (by (try simp only [List.map_toArray, List.map_cons, List.map_nil]); first | done | rfl) ?_; refine (sort_calls hn1.out HL.out cmpE_ord HG.out 28 Try.f28 #[] Try.func28 (by kernel_rfl) rfl (cmp_says _ _)).mono ?_; rintro ex w2 ⟨rfl, ⟨ys, hst, hsr, hn2⟩, hch2⟩; refine ⟨_, rfl, ?_⟩; have n_ := Aside0.mk hst; clear hst; have hst := n_; clear n_; have n_ := Aside0.mk hsr; clear hsr; have hsr := n_; clear n_; have n_ := Aside0.mk hn2; clear hn2; have hn2 := n_; clear n_; have n_ := Aside0.mk hch2; clear hch2; have hch2 := n_; clear n_)
  | ((with_reducible refine gate_dst (N := 9) rfl ?_); (try (refine gate_guard (by rfl) ?_; dsimp only)); refine goesL_ (some 9) rfl rfl Try.func29 (by kernel_rfl) rfl #[v1, .func (.func 30) #[] #[]] rfl (by (try simp only [List.map_toArray, List.map_cons, List.map_nil]); first | done | rfl) ?_; refine (compact_calls hn2.out (G := EB) (fun e he => HG.out e (hst.out.mem_iff.1 he)) 30 Try.f30 #[] Try.func30 (by kernel_rfl) rfl (same_says _ _)).mono ?_; rintro ex w3 ⟨v3, rfl, hn3, hch3⟩; refine ⟨_, rfl, ?_⟩; have n_ := Aside0.mk hn3; clear hn3; have hn3 := n_; clear n_; have n_ := Aside0.mk hch3; clear hch3; have hch3 := n_; clear n_))
 go_ret
 have gy : ∀ z ∈ ys, EB z := fun e he => HG.out e (hst.out.mem_iff.1 he)
 refine ⟨_, rfl, ?_, ?_⟩
 ·
  rw [← runs_putAll cmpE_ord hsr.out hst.out HG.out, ← runs_uniq gy]
  exact hn3.out
 ·
  have hB : ∀ k, some k = v1.ownBlock → w.heap.size ≤ k := fun k hk => Kd.N_base hn1.out k hk.symm
  have c1 := (Chg.of_below hb1.out (fun _ => False)).trans hch2.out (fun k hk => .inr (hB k hk))
  exact (c1.trans hch3.out (fun k hk => .inr (hB k hk))).below (fun _ hk => hk.elim) (Nat.le_refl _)
end Go.Proofs.Ytobjkjmmkbhecaa.Sk
