/- Building the skip list's words for memory that grows. Conditions: those of each theorem. -/
import Derived.Test.YtjlkcidohabcfaaPx4
import Derived.Test.YtjlkcidohabcfaaPx5
import Derived.Test.YtjlkcidohabcfaaH0
import Derived.Test.YtjlkcidohabcfaaHp
import Derived.Test.YtjlkcidohabcfaaHq
import Derived.Test.YtjlkcidohabcfaaHr
namespace Go.Proofs.Ytjlkcidohabcfaa.Sk
open Go.RowKit Go.Proofs.YtjlkcidohabcfaaW.PrintWords Go.Proofs.YtjlkcidohabcfaaW.PrintLast Go.Proofs.YtjlkcidohabcfaaW.PrintMore Go.Proofs.Ytjlkcidohabcfaa.Px
set_option linter.unusedVariables false
set_option linter.unusedSimpArgs false

open Go.Proofs.Ytjlkcidohabcfaa.Sw
/-- What lies in memory, whatever the pointers are. -/
structure Mem (w : World) (K : Nat → Prop) (g : Nat) (N : List (Nat × Tw)) (nx : Nat → Nat → Option Nat) (cnt sz : Int) : Prop where
  head : w.heap[g]? = some (.cells (hcells (nx g) cnt sz) 61 (0, 0))
  node : ∀ p, p ∈ N → NodeF w K p.1 p.2 (nx p.1)
  nd : (g :: N.map Prod.fst).Nodup
  far : ∀ k, K k → k ∉ g :: N.map Prod.fst
def upd (nx : Nat → Nat → Option Nat) (c j : Nat) (v : Option Nat) : Nat → Nat → Option Nat := fun b => if b = c then put1 (nx b) j v else nx b
section
variable {w w1 : World} {K : Nat → Prop} {g : Nat} {N : List (Nat × Tw)} {nx : Nat → Nat → Option Nat} {cnt sz : Int}
theorem SLat.mem (h : SLat w K g N nx cnt sz) : Mem w K g N nx cnt sz := ⟨h.head, h.node, h.nd, h.far⟩
theorem Mem.step (h : Mem w K g N nx cnt sz) (hb : ∀ b, b ∈ g :: N.map Prod.fst → w1.heap[b]? = w.heap[b]?) (hK : ∀ k, K k → k < w.heap.size → w1.heap[k]? = w.heap[k]?) : Mem w1 K g N nx cnt sz :=
  ⟨(hb g (by simp)).trans h.head, fun p hp => (h.node p hp).step (hb p.1 (List.mem_cons_of_mem _ (List.mem_map_of_mem hp))) hK, h.nd, h.far⟩
theorem Mem.lt (h : Mem w K g N nx cnt sz) : ∀ b, b ∈ g :: N.map Prod.fst → b < w.heap.size := by
  intro b hb
  rcases List.mem_cons.1 hb with rfl | hb
  · exact blk_lt h.head
  · obtain ⟨p, hp, rfl⟩ := List.mem_map.1 hb
    exact (h.node p hp).lt
theorem Mem.below (h : Mem w K g N nx cnt sz) (hb : Below w.heap.size w w1) : Mem w1 K g N nx cnt sz := h.step (fun b hm => hb.block b (h.lt b hm)) (fun k _ hlt => hb.block k hlt)
theorem Mem.drew (h : Mem w K g N nx cnt sz) : Mem w.drew K g N nx cnt sz := h.below (below_drew (Below.refl _ _))
theorem Mem.cell (h : Mem w K g N nx cnt sz) {b : Nat} (hb : b ∈ g :: N.map Prod.fst) {j : Nat} (hj : j < 12) : w.cell? ⟨b, 5 + j, none⟩ = some (pv (nx b j)) := by
  rcases List.mem_cons.1 hb with rfl | hb
  · exact (blk_cell h.head (5 + j)).trans (hcells_at _ _ _ j hj)
  · obtain ⟨p, hp, rfl⟩ := List.mem_map.1 hb
    obtain ⟨A0, c0, A3, c3, h0, _⟩ := h.node p hp
    exact (blk_cell h0 (5 + j)).trans (tcells_at _ _ _ _ _ _ j hj)
theorem Mem.froz (h : Mem w K g N nx cnt sz) {b : Nat} (hb : b ∈ g :: N.map Prod.fst) (i : Nat) : w.frozen? ⟨b, i, none⟩ = false := by
  rcases List.mem_cons.1 hb with rfl | hb
  · exact blk_frozen h.head i
  · obtain ⟨p, hp, rfl⟩ := List.mem_map.1 hb
    obtain ⟨A0, c0, A3, c3, h0, _⟩ := h.node p hp
    exact blk_frozen h0 i
/-- A pointer is turned. -/
theorem Mem.put (h : Mem w K g N nx cnt sz) {c : Nat} (hc : c ∈ g :: N.map Prod.fst) {j : Nat} (hj : j < 12) (v : Option Nat) : Mem (w.setCell ⟨c, 5 + j, none⟩ (pv v)) K g N (upd nx c j v) cnt sz := by
  have hK : ∀ k, K k → k < w.heap.size → (w.setCell ⟨c, 5 + j, none⟩ (pv v)).heap[k]? = w.heap[k]? := fun k hk _ => Below.heap_setCell w ⟨c, 5 + j, none⟩ _ k (fun e => h.far k hk (by rw [show k = c from e]; exact hc))
  refine ⟨?_, fun p hp => ?_, h.nd, h.far⟩
  · by_cases e : g = c
    · subst e
      rw [blk_set h.head (5 + j) _, hcells_put _ _ _ _ j hj]
      unfold upd
      rw [if_pos rfl]
    · rw [Below.heap_setCell w ⟨c, 5 + j, none⟩ _ g e, h.head]
      unfold upd
      rw [if_neg e]
  · by_cases e : p.1 = c
    · obtain ⟨A0, c0, A3, c3, h0, h1, h2, h3, h4⟩ := h.node p hp
      refine ⟨A0, c0, A3, c3, ?_, h1, Kd.F_step h2 hK, h3, Kd.F_step h4 hK⟩
      have h5 := blk_set h0 (5 + j) (pv v)
      rw [tcells_put _ _ _ _ _ _ _ j hj, e] at h5
      rw [e, h5]
      unfold upd
      rw [if_pos rfl]
    · have h5 := (h.node p hp).step (Below.heap_setCell w ⟨c, 5 + j, none⟩ (pv v) p.1 e) hK
      unfold upd
      rw [if_neg e]
      exact h5
theorem Mem.count (h : Mem w K g N nx cnt sz) (c' : Int) : Mem (w.setCell ⟨g, 17, none⟩ (.int .i64 c')) K g N nx c' sz := by
  have hK : ∀ k, k ≠ g → (w.setCell ⟨g, 17, none⟩ (.int .i64 c')).heap[k]? = w.heap[k]? := fun k hk => Below.heap_setCell w ⟨g, 17, none⟩ _ k hk
  have hn := List.nodup_cons.1 h.nd
  exact ⟨blk_put h.head 17 _ rfl, fun p hp => (h.node p hp).step (hK p.1 (fun e => hn.1 (by rw [← e]; exact List.mem_map_of_mem hp))) (fun k hk _ => hK k (fun e => h.far k hk (by rw [e]; simp))), h.nd, h.far⟩
theorem Mem.size (h : Mem w K g N nx cnt sz) (c' : Int) : Mem (w.setCell ⟨g, 18, none⟩ (.int .i64 c')) K g N nx cnt c' := by
  have hK : ∀ k, k ≠ g → (w.setCell ⟨g, 18, none⟩ (.int .i64 c')).heap[k]? = w.heap[k]? := fun k hk => Below.heap_setCell w ⟨g, 18, none⟩ _ k hk
  have hn := List.nodup_cons.1 h.nd
  exact ⟨blk_put h.head 18 _ rfl, fun p hp => (h.node p hp).step (hK p.1 (fun e => hn.1 (by rw [← e]; exact List.mem_map_of_mem hp))) (fun k hk _ => hK k (fun e => h.far k hk (by rw [e]; simp))), h.nd, h.far⟩
/-- The pointers, when n levels have got the new tower b. -/
def nxN (nx : Nat → Nat → Option Nat) (pdj : Nat → Nat) (b n : Nat) : Nat → Nat → Option Nat := fun c j => if j < n then put1 (put1 (fun x => nx x j) b (nx (pdj j) j)) (pdj j) (some b) c else put1 (fun x => nx x j) b none c
theorem nxN_step {pdj : Nat → Nat} {b n : Nat} (hne : pdj n ≠ b) : upd (upd (nxN nx pdj b n) b n (nxN nx pdj b n (pdj n) n)) (pdj n) n (some b) = nxN nx pdj b (n + 1) := by
  funext c j
  unfold upd nxN put1
  by_cases hj : j = n
  · subst hj
    by_cases h1 : c = pdj j
    · subst h1
      simp
    · by_cases h2 : c = b
      · subst h2
        simp [h1, hne]
      · simp [h1, h2]
  · by_cases h3 : j < n
    · have h4 : j < n + 1 := by omega
      by_cases h1 : c = pdj n
      · subst h1
        simp [hj, hne, h3, h4]
      · by_cases h2 : c = b
        · subst h2
          simp [hj, h1, h3, h4]
        · simp [h1, h2, h3, h4]
    · have h4 : ¬ j < n + 1 := by omega
      by_cases h1 : c = pdj n
      · subst h1
        simp [hj, hne, h3, h4]
      · by_cases h2 : c = b
        · subst h2
          simp [hj, h1, h3, h4]
        · simp [h1, h2, h3, h4]
/-- A new tower, of which nothing is known yet. -/
theorem Mem.add (h : Mem w K g N nx cnt sz) {K' : Nat → Prop} {b : Nat} {t : Tw} {pdj : Nat → Nat} (hb : b ∉ g :: N.map Prod.fst) (hK : ∀ k, K k → K' k) (hf : ∀ k, K' k → k ∉ g :: N.map Prod.fst ∧ k ≠ b) (hn : NodeF w K' b t (fun _ => none)) : Mem w K' g (N ++ [(b, t)]) (nxN nx pdj b 0) cnt sz := by
  have e : ∀ c, c ≠ b → nxN nx pdj b 0 c = nx c := fun c hc => by
    funext j
    unfold nxN
    rw [if_neg (by omega), put1_far hc]
  have hgb : g ≠ b := fun e => hb (by rw [e]; simp)
  refine ⟨by rw [e g hgb]; exact h.head, fun p hp => ?_, ?_, fun k hk => ?_⟩
  · rcases List.mem_append.1 hp with hp | hp
    · rw [e p.1 (fun e => hb (List.mem_cons_of_mem _ (by rw [← e]; exact List.mem_map_of_mem hp)))]
      exact (h.node p hp).mono hK
    · rw [List.mem_singleton.1 hp]
      have : nxN nx pdj b 0 b = fun _ => none := by
        funext j
        unfold nxN
        rw [if_neg (by omega), put1_same]
      show NodeF w K' b t (nxN nx pdj b 0 b)
      rw [this]
      exact hn
  · rw [List.map_append, ← List.cons_append]
    refine List.nodup_append.2 ⟨h.nd, by simp, ?_⟩
    intro x hx y hy hxy
    simp only [List.map_cons, List.map_nil, List.mem_singleton] at hy
    exact hb (by rw [← hy, ← hxy]; exact hx)
  · rw [List.map_append, ← List.cons_append]
    intro hm
    rcases List.mem_append.1 hm with hm | hm
    · exact (hf k hk).1 hm
    · simp only [List.map_cons, List.map_nil, List.mem_singleton] at hm
      exact (hf k hk).2 hm
end
/-- Where an entry goes. -/
def insT (T : List Tw) (t : Tw) : List Tw := T.filter (fun x => qB t.e.f0 t.e.f1 x.e) ++ t :: T.filter (fun x => !qB t.e.f0 t.e.f1 x.e)
theorem SLat.insert {w w1 : World} {K K' : Nat → Prop} {g : Nat} {N : List (Nat × Tw)} {nx : Nat → Nat → Option Nat} {cnt sz cnt' sz' : Int} {b n : Nat} {t : Tw} (hS : SLat w K g N nx cnt sz) (hT : FitT (N.map Prod.snd)) (hn : (n : Int) = t.h) (hn12 : n ≤ 12)
    (hM : Mem w1 K' g (N ++ [(b, t)]) (nxN nx (pd N g (qB t.e.f0 t.e.f1)) b n) cnt' sz') :
    SLat w1 K' g (N.filter (fun p => qB t.e.f0 t.e.f1 p.2.e) ++ (b, t) :: N.filter (fun p => !qB t.e.f0 t.e.f1 p.2.e)) (nxN nx (pd N g (qB t.e.f0 t.e.f1)) b n) cnt' sz' := by
  have hdn := hT.down (q := qB t.e.f0 t.e.f1) (fun a c h h2 => qB_down h h2)
  have hspl : N = N.filter (fun p => qB t.e.f0 t.e.f1 p.2.e) ++ N.filter (fun p => !qB t.e.f0 t.e.f1 p.2.e) := by
    have h0 := OnWay.pd (g := g) hdn 0
    obtain ⟨X, h1, h2, h3⟩ := h0
    rw [hT.low] at h1
    have hX : N.filter (fun p => qB t.e.f0 t.e.f1 p.2.e) = X := by
      conv => lhs; rw [h1]
      rw [List.filter_append, List.filter_eq_self.2 h3, List.filter_filter]
      have : N.filter (fun a => qB t.e.f0 t.e.f1 a.2.e && !qB t.e.f0 t.e.f1 a.2.e) = [] := by
        rw [List.filter_eq_nil_iff]
        intro a _
        simp
      rw [this, List.append_nil]
    rw [hX]
    exact h1
  obtain ⟨X, hX⟩ : ∃ X, X = N.filter (fun p => qB t.e.f0 t.e.f1 p.2.e) := ⟨_, rfl⟩
  obtain ⟨Y, hY⟩ : ∃ Y, Y = N.filter (fun p => !qB t.e.f0 t.e.f1 p.2.e) := ⟨_, rfl⟩
  have hpd : ∀ j, pd N g (qB t.e.f0 t.e.f1) j = endOf g ((X.filter (tall j)).map Prod.fst) := by
    intro j
    unfold pd
    rw [hX, List.filter_filter, List.filter_filter]
    congr 2
    apply List.filter_congr
    intro p _
    exact Bool.and_comm _ _
  rw [← hX, ← hY] at hspl ⊢
  have hperm : ∀ p, p ∈ X ++ (b, t) :: Y ↔ p ∈ N ++ [(b, t)] := by
    intro p
    rw [hspl]
    simp only [List.mem_append, List.mem_cons, List.mem_singleton]
    constructor
    · rintro (h | h | h)
      · exact .inl (.inl h)
      · exact .inr (.inl h)
      · exact .inl (.inr h)
    · rintro ((h | h) | h | h)
      · exact .inl h
      · exact .inr (.inr h)
      · exact .inr (.inl h)
      · cases h
  have hmem : ∀ c, c ∈ g :: (X ++ (b, t) :: Y).map Prod.fst ↔ c ∈ g :: (N ++ [(b, t)]).map Prod.fst := by
    intro c
    simp only [List.mem_cons, List.mem_map]
    exact ⟨fun h => h.imp id (fun ⟨p, hp, e⟩ => ⟨p, (hperm p).1 hp, e⟩), fun h => h.imp id (fun ⟨p, hp, e⟩ => ⟨p, (hperm p).2 hp, e⟩)⟩
  have hbN : b ∉ g :: N.map Prod.fst := by
    have := hM.nd
    rw [List.map_append, ← List.cons_append] at this
    intro hb
    exact (List.nodup_append.1 this).2.2 b hb b (by simp) rfl
  refine ⟨hM.head, fun p hp => hM.node p ((hperm p).1 hp), fun j hj => ?_, ?_, fun k hk hm => hM.far k hk ((hmem k).1 hm)⟩
  · have hc := hS.chain j hj
    have hnd : (g :: lev N j).Nodup := by
      refine List.Nodup.sublist ?_ hS.nd
      exact List.Sublist.cons_cons _ ((List.filter_sublist (l := N)).map _)
    have hbj : b ∉ g :: lev N j := by
      intro hm
      apply hbN
      rcases List.mem_cons.1 hm with h | h
      · rw [h]; simp
      · obtain ⟨p, hp, e⟩ := List.mem_map.1 h
        exact List.mem_cons_of_mem _ (List.mem_map.2 ⟨p, (List.mem_filter.1 hp).1, e⟩)
    have hl : lev N j = (X.filter (tall j)).map Prod.fst ++ (Y.filter (tall j)).map Prod.fst := by
      unfold lev
      rw [hspl, List.filter_append, List.map_append]
    by_cases h1 : j < n
    · have e1 : lev (X ++ (b, t) :: Y) j = (X.filter (tall j)).map Prod.fst ++ b :: (Y.filter (tall j)).map Prod.fst := by
        unfold lev
        rw [List.filter_append, List.filter_cons_of_pos (by unfold tall; exact decide_eq_true (by show (j : Int) < t.h; omega)), List.map_append, List.map_cons]
      rw [e1]
      rw [hl] at hc hnd hbj
      have h2 := Chain.insert hc hnd hbj
      refine h2.cong (fun c _ => ?_)
      unfold nxN
      rw [if_pos h1, hpd j]
    · have e1 : lev (X ++ (b, t) :: Y) j = lev N j := by
        rw [hl]
        unfold lev
        rw [List.filter_append, List.filter_cons_of_neg (by unfold tall; simp only [decide_eq_true_eq]; show ¬ (j : Int) < t.h; omega), List.map_append]
      rw [e1]
      refine hc.cong (fun c hm => ?_)
      unfold nxN
      rw [if_neg h1, put1_far (fun e => hbj (by rw [← e]; exact hm))]
  · have h1 := hM.nd
    refine (List.Perm.nodup_iff ?_).2 h1
    refine List.Perm.cons _ (List.Perm.map _ ?_)
    rw [hspl, List.append_assoc]
    exact List.Perm.append_left _ (List.perm_append_comm (l₁ := [(b, t)]))
end Go.Proofs.Ytjlkcidohabcfaa.Sk
