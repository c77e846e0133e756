/- The skip list's towers: the words by which its memory is told. Conditions: those of each theorem. -/
import Derived.Test.YtjlkcidohabcfaaPx4
import Derived.Test.YtjlkcidohabcfaaPx5
import Derived.Test.YtjlkcidohabcfaaH0
import Derived.Test.YtjlkcidohabcfaaHp
import Derived.Test.YtjlkcidohabcfaaHq
import Derived.Test.YtjlkcidohabcfaaHr
import Derived.Test.YtjlkcidohabcfaaHu
namespace Go.Proofs.Ytjlkcidohabcfaa.Sk
open Go.RowKit Go.Proofs.YtjlkcidohabcfaaW.PrintWords Go.Proofs.YtjlkcidohabcfaaW.PrintLast Go.Proofs.YtjlkcidohabcfaaW.PrintMore Go.Proofs.Ytjlkcidohabcfaa.Px
set_option linter.unusedVariables false
set_option linter.unusedSimpArgs false

open Go.Proofs.Ytjlkcidohabcfaa.Sw
attribute [local go_sem] max2_int min2_int max_two min_two max_three min_three max_four min_four
def levT (T : List Tw) (h : Int) : List S34 := (T.filter (fun t => decide (h ≤ t.h))).map (fun t => t.e)
theorem outs_all (Z : List (Nat × Tw)) : outs qA Z = Z.map (fun p => p.2.e) := by
  unfold outs
  rw [show Z.takeWhile (fun p => qA p.2.e) = Z from ?_]
  induction Z with
  | nil => rfl
  | cons z Z ih => rw [List.takeWhile_cons_of_pos rfl, ih]
theorem levT_of {N : List (Nat × Tw)} {height : Int} {j : Nat} (hT : FitT (N.map Prod.snd)) (hj : (j : Int) = max height 1 - 1) : outs qA (N.filter (tall j)) = levT (N.map Prod.snd) height := by
  rw [outs_all]
  unfold levT
  rw [List.filter_map, List.map_map]
  have : N.filter (tall j) = N.filter ((fun t => decide (height ≤ t.h)) ∘ Prod.snd) := by
    apply List.filter_congr
    intro p hp
    have h1 := (hT.at_ hp).2.2.1
    unfold tall
    simp only [Function.comp]
    congr 1
    apply propext
    omega
  rw [this]
  rfl
theorem levT_none {T : List Tw} {height : Int} (hT : FitT T) (hj : 12 < height) : levT T height = [] := by
  unfold levT
  rw [List.map_eq_nil_iff, List.filter_eq_nil_iff]
  intro t ht
  have := (hT.ok t ht).2.2.2
  simp
  omega
theorem SLat.row {w : World} {K : Nat → Prop} {g : Nat} {N : List (Nat × Tw)} {nx : Nat → Nat → Option Nat} {cnt sz : Int} (hS : SLat w K g N nx cnt sz) {j : Nat} (hj : j < 12) : Row nx j (N.filter (tall j)) := Row.of_way hS hj (OnWay.first N g qA j)
theorem SLat.first {w : World} {K : Nat → Prop} {g : Nat} {N : List (Nat × Tw)} {nx : Nat → Nat → Option Nat} {cnt sz : Int} (hS : SLat w K g N nx cnt sz) {j : Nat} (hj : j < 12) : nx g j = (N.filter (tall j)).head?.map Prod.fst := (OnWay.next hS hj (OnWay.first N g qA j)).trans List.head?_map
set_option maxHeartbeats 4000000 in
set_option maxRecDepth 100000 in
theorem level_calls {w : World} {K : Nat → Prop} {g : Nat} {N : List (Nat × Tw)} {nx : Nat → Nat → Option Nat} {cnt sz : Int} (hS : SLat w K g N nx cnt sz) (hT : FitT (N.map Prod.snd)) (hlen : N.length ≤ 1000000) (height : Int) (hh : height ≤ 9223372036854775807) :
    Calls Try.prog 23 #[.pointer (some ⟨g, 0, none⟩), .int .i64 height] w fun ex w' => ∃ v, ex = .returned v ∧ Kd.N k34 34 w' w.heap.size (fun k => w.heap.size ≤ k) v (levT (N.map Prod.snd) height) ∧ Below w.heap.size w w' := by
  have hu61 := Try.underlying61
  have hu59 := Try.underlying59
  have hu57 := Try.underlying57
  by_cases h1 : height < 1
  · have hlt := eq_true h1
    have hw0 : wrap64 0 = 0 := wrap_in (by omega) (by omega)
    have HLV := Aside0.mk (levT_of (height := height) (j := 0) hT (by omega))
    obtain ⟨o, ho⟩ : ∃ o, o = nx g 0 := ⟨_, rfl⟩
    have hcg : w.cell? ⟨g, 5, none⟩ = some (pv o) := (hS.cell (j := 0) (by simp) (by omega)).trans (by rw [ho])
    have HO := Aside0.mk (ho.trans (hS.first (by omega)))
    clear ho
    have HS := Aside0.mk hS
    have HT := Aside0.mk hT
    have HLEN := Aside0.mk hlen
    clear hS hT hlen hh h1
    go_enter Try.func23, Try.ntmps23
    go_wp2_with ((with_reducible refine gate_callee (f := 38) rfl ?_); (try (refine gate_guard (by rfl) ?_; dsimp only)); refine goesL_ (some 23) rfl rfl Try.func38 (by kernel_rfl) rfl #[pv o, .int .i64 0, .func (.func 44) #[] #[]] rfl (by (try simp only [List.map_toArray, List.map_cons, List.map_nil]); first | done | rfl) ?_; refine (calls_of_args (by first | (rw [HO.out, hwr]; done) | (rw [HO.out] <;> rfl)) (along_calls HS.out HT.out HLEN.out 0 (by omega) (N.filter (tall 0)) (fun p hp => (List.mem_filter.1 hp).1) (List.length_filter_le _ _) (HS.out.row (by omega)) qA 44 _ #[] Try.func44 (by kernel_rfl) rfl (so_all w N))).mono ?_; rintro ex w2 ⟨v, rfl, hn2, hb2⟩; refine ⟨_, rfl, ?_⟩; rw [HLV.out] at hn2; have n_ := Aside0.mk hn2; clear hn2; have hn2 := n_; clear n_; have n_ := Aside0.mk hb2; clear hb2; have hb2 := n_; clear n_)
    go_ret
    exact ⟨v, rfl, hn2.out, hb2.out⟩
  · have hlt := eq_false h1
    obtain ⟨j, hj⟩ : ∃ j : Nat, (j : Int) = height - 1 := ⟨(height - 1).toNat, by omega⟩
    have hwr : wrap64 (height - 1) = (j : Int) := by rw [hj]; exact wrap_in (by omega) (by omega)
    by_cases h12 : j < 12
    · have hd : decide (12 ≤ (j : Int)) = false := decide_eq_false (by omega)
      have hj1 : (j : Int) < 12 := by omega
      have HLV := Aside0.mk (levT_of (height := height) (j := j) hT (by omega))
      obtain ⟨o, ho⟩ : ∃ o, o = nx g j := ⟨_, rfl⟩
      have hcg : w.cell? ⟨g, 5 + j, none⟩ = some (pv o) := (hS.cell (by simp) h12).trans (by rw [ho])
      have HO := Aside0.mk (ho.trans (hS.first h12))
      clear ho
      have HS := Aside0.mk hS
      have HT := Aside0.mk hT
      have HLEN := Aside0.mk hlen
      have HJ := Aside0.mk h12
      clear hS hT hlen h12 hj hh h1
      go_enter Try.func23, Try.ntmps23
      go_wp2_with ((with_reducible refine gate_callee (f := 38) rfl ?_); (try (refine gate_guard (by rfl) ?_; dsimp only)); refine goesL_ (some 23) rfl rfl Try.func38 (by kernel_rfl) rfl #[pv o, .int .i64 (wrap64 (height - 1)), .func (.func 44) #[] #[]] rfl (by (try simp only [List.map_toArray, List.map_cons, List.map_nil]); first | done | rfl) ?_; refine (calls_of_args (by first | (rw [HO.out, hwr]; done) | (rw [HO.out] <;> rfl)) (along_calls HS.out HT.out HLEN.out j HJ.out (N.filter (tall j)) (fun p hp => (List.mem_filter.1 hp).1) (List.length_filter_le _ _) (HS.out.row HJ.out) qA 44 _ #[] Try.func44 (by kernel_rfl) rfl (so_all w N))).mono ?_; rintro ex w2 ⟨v, rfl, hn2, hb2⟩; refine ⟨_, rfl, ?_⟩; rw [HLV.out] at hn2; have n_ := Aside0.mk hn2; clear hn2; have hn2 := n_; clear n_; have n_ := Aside0.mk hb2; clear hb2; have hb2 := n_; clear n_)
      go_ret
      exact ⟨v, rfl, hn2.out, hb2.out⟩
    · have hd : decide (12 ≤ (j : Int)) = true := decide_eq_true (by omega)
      have HLV := Aside0.mk (levT_none (height := height) hT (by omega))
      clear h12 hj hh h1
      go_enter Try.func23, Try.ntmps23
      go_wp2
      go_ret
      exact ⟨_, rfl, HLV.out ▸ Kd.N_nil _ _ _ _ _, Below.refl _ _⟩

set_option maxHeartbeats 4000000 in
set_option maxRecDepth 100000 in
theorem all_calls {w : World} {K : Nat → Prop} {g : Nat} {N : List (Nat × Tw)} {nx : Nat → Nat → Option Nat} {cnt sz : Int} (hS : SLat w K g N nx cnt sz) (hT : FitT (N.map Prod.snd)) (hlen : N.length ≤ 1000000) :
    Calls Try.prog 19 #[.pointer (some ⟨g, 0, none⟩)] w fun ex w' => ∃ v, ex = .returned v ∧ Kd.N k34 34 w' w.heap.size (fun k => w.heap.size ≤ k) v ((N.map Prod.snd).map (fun t => t.e)) ∧ Below w.heap.size w w' := by
  have HLV := Aside0.mk (show levT (N.map Prod.snd) 1 = (N.map Prod.snd).map (fun t => t.e) by
    unfold levT
    rw [List.filter_eq_self.2 (fun t ht => decide_eq_true (hT.ok t ht).2.2.1)])
  have HS := Aside0.mk hS
  have HT := Aside0.mk hT
  have HLEN := Aside0.mk hlen
  clear hS hT hlen
  go_enter Try.func19, Try.ntmps19
  go_wp2_with ((with_reducible refine gate_callee (f := 23) rfl ?_); (try (refine gate_guard (by rfl) ?_; dsimp only)); refine goesL_ (some 4) rfl rfl Try.func23 (by kernel_rfl) rfl #[.pointer (some ⟨g, 0, none⟩), .int .i64 1] rfl (by (try simp only [List.map_toArray, List.map_cons, List.map_nil]); first | done | rfl) ?_; refine (level_calls HS.out HT.out HLEN.out 1 (by omega)).mono ?_; rintro ex w2 ⟨v, rfl, hn2, hb2⟩; refine ⟨_, rfl, ?_⟩; rw [HLV.out] at hn2; have n_ := Aside0.mk hn2; clear hn2; have hn2 := n_; clear n_; have n_ := Aside0.mk hb2; clear hb2; have hb2 := n_; clear n_)
  go_ret
  exact ⟨v, rfl, hn2.out, hb2.out⟩

set_option maxHeartbeats 4000000 in
set_option maxRecDepth 100000 in
theorem count_calls {w : World} {K : Nat → Prop} {g : Nat} {N : List (Nat × Tw)} {nx : Nat → Nat → Option Nat} {cnt sz : Int} (hS : SLat w K g N nx cnt sz) :
    Calls Try.prog 15 #[.pointer (some ⟨g, 0, none⟩)] w fun ex w' => ex = .returned (.int .i64 cnt) ∧ Below w.heap.size w w' := by
  have hu61 := Try.underlying61
  have hc : w.cell? ⟨g, 17, none⟩ = some (.int .i64 cnt) := (blk_cell hS.head 17).trans rfl
  clear hS
  go_enter Try.func15, Try.ntmps15
  go_wp2
  go_ret
  exact ⟨rfl, Below.refl _ _⟩
theorem count_nil (w : World) : Calls Try.prog 15 #[.pointer none] w fun ex w' => ex = .returned (.int .i64 0) ∧ Below w.heap.size w w' := by
  go_enter Try.func15, Try.ntmps15
  go_wp2
  go_ret
  exact ⟨rfl, Below.refl _ _⟩

set_option maxHeartbeats 4000000 in
set_option maxRecDepth 100000 in
theorem size_calls {w : World} {K : Nat → Prop} {g : Nat} {N : List (Nat × Tw)} {nx : Nat → Nat → Option Nat} {cnt sz : Int} (hS : SLat w K g N nx cnt sz) :
    Calls Try.prog 16 #[.pointer (some ⟨g, 0, none⟩)] w fun ex w' => ex = .returned (.int .i64 sz) ∧ Below w.heap.size w w' := by
  have hu61 := Try.underlying61
  have hc : w.cell? ⟨g, 18, none⟩ = some (.int .i64 sz) := (blk_cell hS.head 18).trans rfl
  clear hS
  go_enter Try.func16, Try.ntmps16
  go_wp2
  go_ret
  exact ⟨rfl, Below.refl _ _⟩
theorem size_nil (w : World) : Calls Try.prog 16 #[.pointer none] w fun ex w' => ex = .returned (.int .i64 0) ∧ Below w.heap.size w w' := by
  go_enter Try.func16, Try.ntmps16
  go_wp2
  go_ret
  exact ⟨rfl, Below.refl _ _⟩

set_option maxHeartbeats 4000000 in
set_option maxRecDepth 100000 in
theorem new_calls (w : World) :
    Calls Try.prog 11 #[] w fun ex w' => ex = .returned (.pointer (some ⟨w.heap.size, 0, none⟩)) ∧ SLat w' (fun _ => False) w.heap.size [] (fun _ _ => none) 0 0 ∧ Below w.heap.size w w' ∧ w.heap.size < w'.heap.size := by
  go_enter Try.func11, Try.ntmps11
  go_wp2_with ((with_reducible refine gate_dst (N := 2) rfl ?_); (try (refine gate_guard (by rfl) ?_; dsimp only)); refine box_event ?hg (N := 2) ?hd (cs := #[.slice none 0 0, .int .i64 0, .bool false, .slice none 0 0, .int .i64 0, .pointer none, .pointer none, .pointer none, .pointer none, .pointer none, .pointer none, .pointer none, .pointer none, .pointer none, .pointer none, .pointer none, .pointer none, .int .i64 0, .int .i64 0]) (t := 61) ?hr ?_; (case hd => rfl); (case hg => rfl); (case hr => first | (go_simp; done) | (go_simp; rfl)); intro g3 hqg3 w1 hxg3 hbg3; have n_ := Aside0.mk hqg3; clear hqg3; have hqg3 := n_; clear n_; have n_ := Aside0.mk hxg3; clear hxg3; have hxg3 := n_; clear n_; have n_ := Aside0.mk hbg3; clear hbg3; have hbg3 := n_; clear n_)
  go_ret
  have hq := hqg3.out
  subst hq
  exact ⟨rfl, ⟨hxg3.out, fun p hp => by (cases hp), fun j hj => rfl, by simp, fun k hk => hk.elim⟩, hbg3.out, blk_lt hxg3.out⟩

set_option maxHeartbeats 4000000 in
set_option maxRecDepth 100000 in
theorem level_nil (w : World) (height : Int) : Calls Try.prog 23 #[.pointer none, .int .i64 height] w fun ex w' => ex = .returned (.slice none 0 0) ∧ Below w.heap.size w w' := by
  by_cases h1 : height < 1
  · have hlt := eq_true h1
    clear h1
    go_enter Try.func23, Try.ntmps23
    go_wp2
    go_ret
    exact ⟨rfl, Below.refl _ _⟩
  · have hlt := eq_false h1
    clear h1
    go_enter Try.func23, Try.ntmps23
    go_wp2
    go_ret
    exact ⟨rfl, Below.refl _ _⟩
theorem all_nil (w : World) : Calls Try.prog 19 #[.pointer none] w fun ex w' => ex = .returned (.slice none 0 0) ∧ Below w.heap.size w w' := by
  go_enter Try.func19, Try.ntmps19
  go_wp2_with ((with_reducible refine gate_callee (f := 23) rfl ?_); (try (refine gate_guard (by rfl) ?_; dsimp only)); refine goesL_ (some 4) rfl rfl Try.func23 (by kernel_rfl) rfl #[.pointer none, .int .i64 1] rfl (by (try simp only [List.map_toArray, List.map_cons, List.map_nil]); first | done | rfl) ?_; refine (level_nil w 1).mono ?_; rintro ex w2 ⟨rfl, hb2⟩; refine ⟨_, rfl, ?_⟩; have n_ := Aside0.mk hb2; clear hb2; have hb2 := n_; clear n_)
  go_ret
  exact ⟨rfl, hb2.out⟩
end Go.Proofs.Ytjlkcidohabcfaa.Sk
