/- The skip list's Put as one contract: what it leaves is the list with the entry put in. Conditions: those of each theorem. -/
import Derived.Test.YtjlkcidohabcfaaPx4
import Derived.Test.YtjlkcidohabcfaaPx5
import Derived.Test.YtjlkcidohabcfaaPx13
import Derived.Test.YtjlkcidohabcfaaH0
import Derived.Test.YtjlkcidohabcfaaHp
import Derived.Test.YtjlkcidohabcfaaHq
import Derived.Test.YtjlkcidohabcfaaHr
import Derived.Test.YtjlkcidohabcfaaHm
import Derived.Test.YtjlkcidohabcfaaHv
import Derived.Test.YtjlkcidohabcfaaHw
import Derived.Test.YtjlkcidohabcfaaHx
namespace Go.Proofs.Ytjlkcidohabcfaa.Sk
open Go.RowKit Go.Proofs.YtjlkcidohabcfaaW.PrintWords Go.Proofs.YtjlkcidohabcfaaW.PrintLast Go.Proofs.YtjlkcidohabcfaaW.PrintMore Go.Proofs.Ytjlkcidohabcfaa.Px
set_option linter.unusedVariables false
set_option linter.unusedSimpArgs false

open Go.Proofs.Ytjlkcidohabcfaa.Sw
def samev (e : S34) (t : Tw) : Bool := decide (t.e.f0 = e.f0) && decide (t.e.f1 = e.f1)
def putOk (T : List Tw) (e : S34) (h : Int) : Bool := okE e && decide (1 ≤ h) && decide (h ≤ 12) && !T.any (samev e)
def putT (T : List Tw) (e : S34) (h : Int) : List Tw := if putOk T e h = true then insT T ⟨e, h⟩ else T
theorem qB_ahe (t : Tw) (e : S34) : qB e.f0 e.f1 t.e = ahe t.e e := rfl
theorem ahe_irrefl (e : S34) : ahe e e = false := by
  unfold ahe
  simp [less_irrefl]
theorem ahe_trans {a b c : S34} (h : ahe a b = true) (h2 : ahe b c = true) : ahe a c = true := qB_down (k := c.f0) (s := c.f1) h h2
theorem ahe_total {a b : S34} (h : ¬ (a.f0 = b.f0 ∧ a.f1 = b.f1)) : ahe a b = true ∨ ahe b a = true := by
  unfold ahe
  by_cases h0 : a.f0 = b.f0
  · have h1 : a.f1 ≠ b.f1 := fun e => h ⟨h0, e⟩
    rw [h0]
    simp only [decide_true, Bool.true_and, Bool.or_eq_true, decide_eq_true_eq]
    omega
  · rcases less_total h0 with h1 | h1
    · exact .inl (by rw [h1]; rfl)
    · exact .inr (by rw [h1]; rfl)
theorem ahe_same {a b e : S34} (h0 : a.f0 = b.f0) (h1 : a.f1 = b.f1) : ahe a e = ahe b e := by
  unfold ahe
  rw [h0, h1]
theorem spl {T : List Tw} (hT : T.Pairwise (fun a b => ahe a.e b.e = true)) (e : S34) : T.filter (fun x => qB e.f0 e.f1 x.e) ++ T.filter (fun x => !qB e.f0 e.f1 x.e) = T := by
  induction T with
  | nil => rfl
  | cons a L ih =>
    obtain ⟨h1, h2⟩ := List.pairwise_cons.1 hT
    by_cases c : qB e.f0 e.f1 a.e = true
    · rw [List.filter_cons_of_pos (by exact c), List.filter_cons_of_neg (by simp [c]), List.cons_append, ih h2]
    · have hn : L.filter (fun x => qB e.f0 e.f1 x.e) = [] := by
        rw [List.filter_eq_nil_iff]
        exact fun p hm hq => c (qB_down (h1 p hm) hq)
      have ha : L.filter (fun x => !qB e.f0 e.f1 x.e) = L := by
        rw [List.filter_eq_self]
        intro p hm
        simp only [Bool.not_eq_true']
        exact Bool.eq_false_iff.2 (fun hq => c (qB_down (h1 p hm) hq))
      rw [List.filter_cons_of_neg (by simpa using c), hn, List.nil_append, List.filter_cons_of_pos (by simpa using c), ha]
theorem insT_perm {T : List Tw} (hT : T.Pairwise (fun a b => ahe a.e b.e = true)) (t : Tw) : (insT T t).Perm (t :: T) := by
  unfold insT
  refine List.perm_middle.trans ?_
  rw [spl hT t.e]
theorem FitT.ins {T : List Tw} (hT : FitT T) {e : S34} {h : Int} (hg : Sw.Good e) (hp : putOk T e h = true) : FitT (insT T ⟨e, h⟩) := by
  unfold putOk at hp
  simp only [Bool.and_eq_true, decide_eq_true_eq, Bool.not_eq_true'] at hp
  obtain ⟨⟨⟨h1, h2⟩, h3⟩, h4⟩ := hp
  have hs := spl hT.srt e
  refine ⟨?_, fun t ht => ?_⟩
  · unfold insT
    have hs2 := hT.srt
    rw [← hs] at hs2
    obtain ⟨p1, p2, p3⟩ := List.pairwise_append.1 hs2
    refine List.pairwise_append.2 ⟨p1, List.pairwise_cons.2 ⟨fun y hy => ?_, p2⟩, fun x hx y hy => ?_⟩
    · obtain ⟨hyT, hq⟩ := List.mem_filter.1 hy
      have hne : ¬ (y.e.f0 = e.f0 ∧ y.e.f1 = e.f1) := fun hh => by
        have := List.any_eq_false.1 h4 y hyT
        apply this
        unfold samev
        simp [hh.1, hh.2]
      rcases ahe_total hne with ha | ha
      · rw [← qB_ahe] at ha
        show ahe e y.e = true
        simp only [Bool.not_eq_true'] at hq
        rw [ha] at hq
        cases hq
      · exact ha
    · rcases List.mem_cons.1 hy with rfl | hy
      · exact (List.mem_filter.1 hx).2
      · exact p3 x hx y hy
  · rcases List.mem_cons.1 ((insT_perm hT.srt _).mem_iff.1 ht) with rfl | ht
    · exact ⟨h1, hg, h2, h3⟩
    · exact hT.ok t ht
theorem FitT.put {T : List Tw} (hT : FitT T) {e : S34} {h : Int} (hg : Sw.Good e) : FitT (putT T e h) := by
  unfold putT
  split
  · exact hT.ins hg (by assumption)
  · exact hT
theorem FitT.nil : FitT [] := ⟨List.Pairwise.nil, fun t ht => by cases ht⟩
theorem sum_perm {l l' : List Int} (h : l.Perm l') : l.sum = l'.sum := by
  induction h with
  | nil => rfl
  | cons x _ ih => simp [ih]
  | swap x y l => simp only [List.sum_cons]; omega
  | trans _ _ ih1 ih2 => exact ih1.trans ih2
theorem sizeT_ins {T : List Tw} (hT : T.Pairwise (fun a b => ahe a.e b.e = true)) (t : Tw) : sizeT (insT T t) = sizeT T + ((t.e.f0.length : Int) + t.e.f3.length + 8) := by
  unfold sizeT
  rw [sum_perm ((insT_perm hT t).map _), List.map_cons, List.sum_cons]
  omega
theorem len_ins {T : List Tw} (hT : T.Pairwise (fun a b => ahe a.e b.e = true)) (t : Tw) : (insT T t).length = T.length + 1 := by
  rw [(insT_perm hT t).length_eq, List.length_cons]
theorem len_put {T : List Tw} (hT : FitT T) (e : S34) (h : Int) : (putT T e h).length ≤ T.length + 1 := by
  unfold putT
  split
  · rw [len_ins hT.srt]
    exact Nat.le_refl _
  · omega
theorem sizeT_bd : ∀ {T : List Tw}, (∀ t, t ∈ T → okE t.e = true) → 0 ≤ sizeT T ∧ sizeT T ≤ 1096 * T.length
  | [], _ => by simp [sizeT]
  | t :: T, h => by
    have ih := sizeT_bd (T := T) (fun x hx => h x (List.mem_cons_of_mem _ hx))
    have h1 := okE_iff.1 (h t (by simp))
    have e : sizeT (t :: T) = (t.e.f0.length : Int) + t.e.f3.length + 8 + sizeT T := by
      unfold sizeT
      rw [List.map_cons, List.sum_cons]
    rw [e]
    have h2 : t.e.f0.length ≤ 64 := h1.2.1
    have h3 : t.e.f3.length ≤ 1024 := h1.2.2.2.2.1
    clear h1
    simp only [List.length_cons]
    omega
/-- The head of what isn't ahead of e is e itself, if any is. -/
theorem dup_head {T : List Tw} (hT : FitT T) {e : S34} (h : T.any (samev e) = true) : ∃ y Y, T.filter (fun x => !qB e.f0 e.f1 x.e) = y :: Y ∧ y.e.f0 = e.f0 ∧ y.e.f1 = e.f1 := by
  obtain ⟨t, ht, hs⟩ := List.any_eq_true.1 h
  unfold samev at hs
  simp only [Bool.and_eq_true, decide_eq_true_eq] at hs
  have hq : qB e.f0 e.f1 t.e = false := by
    have h1 := ahe_irrefl t.e
    unfold qB
    unfold ahe at h1
    rw [← hs.1, ← hs.2]
    exact h1
  have hm : t ∈ T.filter (fun x => !qB e.f0 e.f1 x.e) := List.mem_filter.2 ⟨ht, by rw [hq]; rfl⟩
  cases hf : T.filter (fun x => !qB e.f0 e.f1 x.e) with
  | nil => rw [hf] at hm; cases hm
  | cons y Y =>
    refine ⟨y, Y, rfl, ?_⟩
    rw [hf] at hm
    rcases List.mem_cons.1 hm with rfl | hm
    · exact hs
    · have hp := hT.srt.filter (fun x => !qB e.f0 e.f1 x.e)
      rw [hf] at hp
      have h1 := (List.pairwise_cons.1 hp).1 t hm
      have h2 : y ∈ T.filter (fun x => !qB e.f0 e.f1 x.e) := by rw [hf]; simp
      have h3 := (List.mem_filter.1 h2).2
      have h4 : ahe y.e e = true := by
        have : ahe y.e t.e = ahe y.e e := by
          unfold ahe
          rw [hs.1, hs.2]
        rw [← this]
        exact h1
      rw [qB_ahe, h4] at h3
      cases h3
theorem map_filter_snd (N : List (Nat × Tw)) (q : S34 → Bool) : (N.map Prod.snd).filter (fun t => q t.e) = (N.filter (fun p => q p.2.e)).map Prod.snd := by
  rw [List.filter_map]
  rfl
/-- What Put leaves. -/
def PutEnd (w w' : World) (base g : Nat) (D : Nat → Prop) (T : List Tw) : Prop := ∃ D1 : Nat → Prop, SL w' base D1 g T ∧ (∀ k, D1 k → D k ∨ w.heap.size ≤ k) ∧ (∀ k, D1 k → k < w'.heap.size) ∧ Chg w w' D
theorem SL.base_le {w : World} {base : Nat} {D : Nat → Prop} {g : Nat} {T : List Tw} (h : SL w base D g T) : base ≤ g ∧ g < w.heap.size ∧ D g := by
  obtain ⟨K, N, nx, h0, h1, h2, h3, h4⟩ := h
  exact ⟨h4 g (h3 g (by simp)), h0.lt g (by simp), h3 g (by simp)⟩
theorem PutEnd.same {w w' : World} {base g : Nat} {D : Nat → Prop} {T : List Tw} (h : SL w base D g T) (hb : Below w.heap.size w w') : PutEnd w w' base g D T :=
  ⟨_, h.bound.below hb, fun k hk => .inl hk.1, fun k hk => Nat.lt_of_lt_of_le hk.2 hb.size, Chg.of_below hb D⟩
set_option maxHeartbeats 4000000 in
set_option maxRecDepth 100000 in
theorem put_calls {w : World} {base : Nat} {D : Nat → Prop} {g : Nat} {T : List Tw} (h : SL w base D g T) (hT : FitT T) (hlen : T.length ≤ 1000000) (A0 : Option Addr) (c0 : Nat) (e : S34) (A3 : Option Addr) (c3 : Nat) (hr0 : Kd.C (Kd.int .u8) w A0 e.f0.length e.f0) (hc0 : e.f0.length ≤ c0) (hr3 : Kd.C (Kd.int .u8) w A3 e.f3.length e.f3) (hc3 : e.f3.length ≤ c3) (hgd : Sw.Good e) (height : Int) :
    Calls Try.prog 21 #[.pointer (some ⟨g, 0, none⟩), .agg #[.slice A0 e.f0.length c0, .int .i64 e.f1, .bool e.f2, .slice A3 e.f3.length c3], .int .i64 height] w fun ex w' => ex = .returned (.int .i64 (if putOk T e height = true then 0 else 1)) ∧ PutEnd w w' base g D (putT T e height) := by
  have hbase := h.base_le
  by_cases hok : okE e = true ∧ 1 ≤ height ∧ height ≤ 12
  · obtain ⟨hk, hh1, hh2⟩ := hok
    obtain ⟨n, hn⟩ : ∃ n : Nat, (n : Int) = height := ⟨height.toNat, by omega⟩
    subst hn
    have hn1 : 1 ≤ n := by omega
    have hn12 : n ≤ 12 := by omega
    have h' := h
    obtain ⟨K, N, nx, hS, hN, hKD, hgD, hDb⟩ := h'
    have hTN : FitT (N.map Prod.snd) := by rw [hN]; exact hT
    have hbd := sizeT_bd (T := T) (fun t ht => (hT.ok t ht).1)
    have hY := map_filter_snd N (fun x => !qB e.f0 e.f1 x)
    rw [hN] at hY
    by_cases hany : T.any (samev e) = true
    · have hp : putOk T e n = false := by
        unfold putOk
        rw [hany]
        simp
      obtain ⟨y, Y, hf, hy0, hy1⟩ := dup_head hT hany
      rw [hf] at hY
      cases hf2 : N.filter (fun p => !qB e.f0 e.f1 p.2.e) with
      | nil => rw [hf2] at hY; cases hY
      | cons z Z =>
        rw [hf2, List.map_cons] at hY
        injection hY with hz hZ
        rw [hz] at hy0 hy1
        refine (put_dup hS hTN (fun k hk => (hKD k hk).2) A0 c0 e A3 c3 hr0 hc0 hr3 hc3 hk hgd n hn1 hn12 (by omega) (by omega) z Z hf2 (decide_eq_true hy0) hy1).mono ?_
        rintro ex w' ⟨rfl, hb⟩
        refine ⟨by rw [hp]; rfl, ?_⟩
        unfold putT
        rw [hp, if_neg (by simp)]
        exact PutEnd.same h hb
    · have hany' : T.any (samev e) = false := Bool.eq_false_iff.2 hany
      have hp : putOk T e n = true := by
        unfold putOk
        rw [hany', hk]
        simp
        omega
      have key : ∀ (ex : Ending) (w' : World), (ex = .returned (.int .i64 0) ∧ ∃ b K' nx', SLat w' K' g (N.filter (fun p => qB e.f0 e.f1 p.2.e) ++ (b, ⟨e, (n : Int)⟩) :: N.filter (fun p => !qB e.f0 e.f1 p.2.e)) nx' ((T.length : Int) + 1) (sizeT T + (e.f0.length + e.f3.length + 8)) ∧ (∀ k, K' k → (K k ∨ w.heap.size ≤ k) ∧ k < w'.heap.size) ∧ w.heap.size ≤ b ∧ Chg w w' (fun k => k ∈ g :: N.map Prod.fst)) →
          ex = .returned (.int .i64 (if putOk T e n = true then 0 else 1)) ∧ PutEnd w w' base g D (putT T e n) := by
        rintro ex w' ⟨rfl, b, K', nx', hS', hK', hb, hch⟩
        refine ⟨by rw [hp]; rfl, ?_⟩
        unfold putT
        rw [hp, if_pos rfl]
        have hm : (N.filter (fun p => qB e.f0 e.f1 p.2.e) ++ (b, (⟨e, (n : Int)⟩ : Tw)) :: N.filter (fun p => !qB e.f0 e.f1 p.2.e)).map Prod.snd = insT T ⟨e, n⟩ := by
          unfold insT
          rw [← hN, map_filter_snd N (fun x => qB e.f0 e.f1 x), map_filter_snd N (fun x => !qB e.f0 e.f1 x), List.map_append, List.map_cons]
        have hlt : w.heap.size ≤ w'.heap.size := hch.kept.1
        refine ⟨fun k => (D k ∧ k < w.heap.size) ∨ (w.heap.size ≤ k ∧ k < w'.heap.size), ⟨K', _, nx', ?_, hm, fun k hk => ?_, fun c hc => ?_, fun k hk => ?_⟩, fun k hk => hk.imp (fun h1 => h1.1) (fun h1 => h1.1), fun k hk => ?_, hch.mono (fun k hk => hgD k hk)⟩
        · rw [len_ins hT.srt, sizeT_ins hT.srt]
          exact hS'
        · obtain ⟨h1, h2⟩ := hK' k hk
          exact ⟨h1.elim (fun h1 => .inl (hKD k h1)) (fun h1 => .inr ⟨h1, h2⟩), h2⟩
        · have hc2 := hS'.lt c hc
          by_cases hcw : w.heap.size ≤ c
          · exact .inr ⟨hcw, hc2⟩
          · refine .inl ⟨hgD c ?_, by omega⟩
            rcases List.mem_cons.1 hc with rfl | hc
            · simp
            · rw [List.map_append, List.map_cons] at hc
              rcases List.mem_append.1 hc with hc | hc
              · obtain ⟨p, hp1, hp2⟩ := List.mem_map.1 hc
                exact List.mem_cons_of_mem _ (List.mem_map.2 ⟨p, (List.mem_filter.1 hp1).1, hp2⟩)
              · rcases List.mem_cons.1 hc with rfl | hc
                · exact absurd hb hcw
                · obtain ⟨p, hp1, hp2⟩ := List.mem_map.1 hc
                  exact List.mem_cons_of_mem _ (List.mem_map.2 ⟨p, (List.mem_filter.1 hp1).1, hp2⟩)
        · rcases hk with hk | hk
          · exact hDb k hk.1
          · omega
        · rcases hk with hk | hk <;> omega
      cases hf2 : N.filter (fun p => !qB e.f0 e.f1 p.2.e) with
      | nil =>
        refine (put_new_nil hS hTN (fun k hk => (hKD k hk).2) A0 c0 e A3 c3 hr0 hc0 hr3 hc3 hk hgd n hn1 hn12 (by omega) (by omega) hf2).mono ?_
        exact key
      | cons z Z =>
        have hz : z.2 ∈ T := by
          rw [← hN]
          have : z ∈ N.filter (fun p => !qB e.f0 e.f1 p.2.e) := by rw [hf2]; simp
          exact List.mem_map_of_mem (List.mem_filter.1 this).1
        have hne := List.any_eq_false.1 hany' z.2 hz
        unfold samev at hne
        simp only [Bool.and_eq_true, decide_eq_true_eq, not_and] at hne
        by_cases hkey : z.2.e.f0 = e.f0
        · refine (put_new_seq hS hTN (fun k hk => (hKD k hk).2) A0 c0 e A3 c3 hr0 hc0 hr3 hc3 hk hgd n hn1 hn12 (by omega) (by omega) z Z hf2 (decide_eq_true hkey) (hne hkey)).mono ?_
          exact key
        · refine (put_new_key hS hTN (fun k hk => (hKD k hk).2) A0 c0 e A3 c3 hr0 hc0 hr3 hc3 hk hgd n hn1 hn12 (by omega) (by omega) z Z hf2 (decide_eq_false hkey)).mono ?_
          exact key
  · have hp : putOk T e height = false := by
      rw [Bool.eq_false_iff]
      intro hp
      unfold putOk at hp
      simp only [Bool.and_eq_true, decide_eq_true_eq] at hp
      exact hok ⟨hp.1.1.1, hp.1.1.2, hp.1.2⟩
    refine (put_bad g A0 c0 e A3 c3 hr0 hc0 hr3 hc3 height ?_).mono ?_
    · by_cases h1 : okE e = true
      · by_cases h2 : 1 ≤ height
        · exact .inr (.inr (by
            have h3 : ¬ height ≤ 12 := fun h3 => hok ⟨h1, h2, h3⟩
            omega))
        · exact .inr (.inl (by omega))
      · exact .inl (Bool.eq_false_iff.2 h1)
    · rintro ex w' ⟨rfl, hb⟩
      refine ⟨by rw [hp]; rfl, ?_⟩
      unfold putT
      rw [hp, if_neg (by simp)]
      exact PutEnd.same h hb
end Go.Proofs.Ytjlkcidohabcfaa.Sk
