/- Entries as records of the model: reading, shapes and their order. Conditions: those of each theorem. -/
import Derived.Test.YtjlkcidohabcfaaPx4
import Derived.Test.YtjlkcidohabcfaaPx5
import Derived.Test.YtjlkcidohabcfaaH0
import Derived.Test.YtjlkcidohabcfaaHp
import Derived.Test.YtjlkcidohabcfaaHq
namespace Go.Proofs.Ytjlkcidohabcfaa.Sk
open Go.RowKit Go.Proofs.YtjlkcidohabcfaaW.PrintWords Go.Proofs.YtjlkcidohabcfaaW.PrintLast Go.Proofs.YtjlkcidohabcfaaW.PrintMore Go.Proofs.Ytjlkcidohabcfaa.Px
set_option linter.unusedVariables false
set_option linter.unusedSimpArgs false

open Go.Proofs.Ytjlkcidohabcfaa.Sw
/-- Rows of an entry that is a copy, in memory from b on. -/
def EntV (w : World) (b : Nat) (v0 v3 : Value) (e : S34) : Prop := Kd.V (Kd.int .u8) 5 w b (fun k => b ≤ k) v0 e.f0 ∧ Kd.V (Kd.int .u8) 5 w b (fun k => b ≤ k) v3 e.f3
theorem EntV.below {w w1 : World} {b : Nat} {v0 v3 : Value} {e : S34} (h : EntV w b v0 v3 e) (hb : Below w.heap.size w w1) : EntV w1 b v0 v3 e := ⟨Kd.V_below h.1 hb, Kd.V_below h.2 hb⟩
theorem EntV.lower {w : World} {b b' : Nat} {v0 v3 : Value} {e : S34} (h : EntV w b v0 v3 e) (hb : b' ≤ b) : EntV w b' v0 v3 e := ⟨Kd.V_mono h.1 (fun _ hk => Nat.le_trans hb hk), Kd.V_mono h.2 (fun _ hk => Nat.le_trans hb hk)⟩
theorem copiedC {w : World} {A0 A3 : Option Addr} {c0 c3 : Nat} {e : S34} (h0 : Kd.C (Kd.int .u8) w A0 e.f0.length e.f0) (g0 : e.f0.length ≤ c0) (h3 : Kd.C (Kd.int .u8) w A3 e.f3.length e.f3) (g3 : e.f3.length ≤ c3) (l0 : e.f0.length ≤ 140737488351232) (l3 : e.f3.length ≤ 140737488351232) :
    Calls Try.prog 35 #[.agg #[.slice A0 e.f0.length c0, .int .i64 e.f1, .bool e.f2, .slice A3 e.f3.length c3]] w fun ex w' => ∃ v0 v3, ex = .returned (.agg #[v0, .int .i64 e.f1, .bool e.f2, v3]) ∧ EntV w' w.heap.size v0 v3 e ∧ Below w.heap.size w w' :=
  (skip_copied.calls A0 c0 e.f0 e.f1 e.f2 A3 c3 e.f3 _ _ _ _ w h0 g0 h3 g3 (copied_f l0 l3)).mono (by
    rintro ex w' ⟨v0, v3, rfl, hr0, hr3, hb⟩
    exact ⟨v0, v3, rfl, ⟨Kd.V_of_R hr0, Kd.V_of_R hr3⟩, hb⟩)
/-- Entries in order, each one that may be. -/
structure FitT (T : List Tw) : Prop where
  srt : T.Pairwise (fun a b => ahe a.e b.e = true)
  ok : ∀ t, t ∈ T → okE t.e = true ∧ Sw.Good t.e ∧ 1 ≤ t.h ∧ t.h ≤ 12
theorem okE_len {e : S34} (h : okE e = true) : e.f0.length ≤ 140737488351232 ∧ e.f3.length ≤ 140737488351232 := by
  have := okE_iff.1 h
  omega
theorem ahe_less {a b : S34} (h : ahe a b = true) : less b.f0 a.f0 = false := by
  unfold ahe at h
  rcases Bool.or_eq_true _ _ ▸ h with h | h
  · exact less_asymm h
  · simp only [Bool.and_eq_true, decide_eq_true_eq] at h
    rw [h.1]
    exact less_irrefl _
theorem qF_down {k : List Int} {a b : S34} (h : ahe a b = true) (hb : qF k b = true) : qF k a = true := by
  unfold qF at hb ⊢
  unfold ahe at h
  rcases Bool.or_eq_true _ _ ▸ h with h | h
  · exact less_trans h hb
  · simp only [Bool.and_eq_true, decide_eq_true_eq] at h
    rw [h.1]
    exact hb
theorem qB_down {k : List Int} {s : Int} {a b : S34} (h : ahe a b = true) (hb : qB k s b = true) : qB k s a = true := by
  unfold qB at hb ⊢
  unfold ahe at h
  simp only [Bool.or_eq_true, Bool.and_eq_true, decide_eq_true_eq] at h hb ⊢
  rcases h with h | h
  · rcases hb with hb | hb
    · exact .inl (less_trans h hb)
    · exact .inl (hb.1 ▸ h)
  · rcases hb with hb | hb
    · exact .inl (h.1 ▸ hb)
    · exact .inr ⟨h.1.trans hb.1, by omega⟩
theorem FitT.down {N : List (Nat × Tw)} (h : FitT (N.map Prod.snd)) {q : S34 → Bool} (hq : ∀ a b, ahe a b = true → q b = true → q a = true) : N.Pairwise (fun a b => q b.2.e = true → q a.2.e = true) :=
  (List.pairwise_map.1 h.srt).imp (fun {a b} hab => hq a.2.e b.2.e hab)
theorem FitT.at_ {N : List (Nat × Tw)} (h : FitT (N.map Prod.snd)) {p : Nat × Tw} (hp : p ∈ N) : okE p.2.e = true ∧ Sw.Good p.2.e ∧ 1 ≤ p.2.h ∧ p.2.h ≤ 12 := h.ok p.2 (List.mem_map_of_mem hp)
theorem FitT.low {N : List (Nat × Tw)} (h : FitT (N.map Prod.snd)) : N.filter (tall 0) = N := List.filter_eq_self.2 (fun p hp => by
  unfold tall
  have := (h.at_ hp).2.2.1
  exact decide_eq_true (by omega))
section
variable {w : World} {K : Nat → Prop} {g : Nat} {N : List (Nat × Tw)} {nx : Nat → Nat → Option Nat} {cnt sz : Int} {q : S34 → Bool}
theorem OnWay.pd (hp : N.Pairwise (fun a b => q b.2.e = true → q a.2.e = true)) (j : Nat) : OnWay N g q j (pd N g q j) ((N.filter (tall j)).filter (fun p => !q p.2.e)) := by
  have key : ∀ L : List (Nat × Tw), L.Pairwise (fun a b => q b.2.e = true → q a.2.e = true) → L = L.filter (fun p => q p.2.e) ++ L.filter (fun p => !q p.2.e) := by
    intro L
    induction L with
    | nil => intro _; rfl
    | cons a L ih =>
      intro h
      obtain ⟨h1, h2⟩ := List.pairwise_cons.1 h
      by_cases c : q a.2.e = true
      · rw [List.filter_cons_of_pos (by exact c), List.filter_cons_of_neg (by simp [c]), List.cons_append, ← ih h2]
      · have hn : L.filter (fun p => q p.2.e) = [] := by
          rw [List.filter_eq_nil_iff]
          exact fun p hm hq => c (h1 p hm hq)
        have ha : L.filter (fun p => !q p.2.e) = L := by
          rw [List.filter_eq_self]
          intro p hm
          simp only [Bool.not_eq_true']
          exact Bool.eq_false_iff.2 (fun hq => c (h1 p hm hq))
        rw [List.filter_cons_of_neg (by simpa using c), hn, List.nil_append, List.filter_cons_of_pos (by simpa using c), ha]
  exact ⟨_, key _ (hp.filter _), rfl, fun p hm => (List.mem_filter.1 hm).2⟩
end
/-- A key's version: the first entry that isn't ahead of it, if it is of the key. -/
def getN (T : List Tw) (k : List Int) (s : Int) : S34 × Bool :=
  match (T.filter (fun t => !qB k s t.e)).head? with
  | none => (z34, false)
  | some t => if t.e.f0 = k then (t.e, true) else (z34, false)
theorem filter_map_snd (N : List (Nat × Tw)) (q : S34 → Bool) : (N.map Prod.snd).filter (fun t => q t.e) = (N.filter (fun p => q p.2.e)).map Prod.snd := by
  rw [List.filter_map]
  rfl
theorem so_before {w : World} {ga gb : Nat} {A1 : Option Addr} {c1 : Nat} {kk : List Int} {sq : Int} {N : List (Nat × Tw)} (hT : FitT (N.map Prod.snd))
    (hga : w.heap[ga]? = some (.cells #[.slice A1 kk.length c1] 32 (0, 0))) (hgb : w.heap[gb]? = some (.cells #[.int .i64 sq] 3 (0, 0))) (hr1 : Kd.C (Kd.int .u8) w A1 kk.length kk) (hc1 : kk.length ≤ c1) (hk : Byts kk) : SoAt w N 48 #[.pointer (some ⟨ga, 0, none⟩), .pointer (some ⟨gb, 0, none⟩)] (qB kk sq) := fun p A0 c0 A3 c3 w1 hp hb hc hr => before_one ga gb A0 c0 p.2.e A3 c3 A1 c1 kk sq w1 (blk_below hga hb) (blk_below hgb hb) hr hc (hT.at_ hp).2.1.1 (Kd.C_below hr1 hb) hc1 hk
theorem so_from {w : World} {ga : Nat} {A1 : Option Addr} {c1 : Nat} {kk : List Int} {N : List (Nat × Tw)} (hT : FitT (N.map Prod.snd))
    (hga : w.heap[ga]? = some (.cells #[.slice A1 kk.length c1] 32 (0, 0))) (hr1 : Kd.C (Kd.int .u8) w A1 kk.length kk) (hc1 : kk.length ≤ c1) (hk : Byts kk) : SoAt w N 36 #[.pointer (some ⟨ga, 0, none⟩)] (qF kk) := fun p A0 c0 A3 c3 w1 hp hb hc hr => scan_one ga A0 c0 p.2.e A3 c3 A1 c1 kk w1 (blk_below hga hb) hr hc (hT.at_ hp).2.1.1 (Kd.C_below hr1 hb) hc1 hk
theorem so_to {w : World} {ga : Nat} {A1 : Option Addr} {c1 : Nat} {kk : List Int} {N : List (Nat × Tw)} (hT : FitT (N.map Prod.snd))
    (hga : w.heap[ga]? = some (.cells #[.slice A1 kk.length c1] 32 (0, 0))) (hr1 : Kd.C (Kd.int .u8) w A1 kk.length kk) (hc1 : kk.length ≤ c1) (hk : Byts kk) : SoAt w N 39 #[.pointer (some ⟨ga, 0, none⟩)] (qT kk) := fun p A0 c0 A3 c3 w1 hp hb hc hr => scan_two ga A0 c0 p.2.e A3 c3 A1 c1 kk w1 (blk_below hga hb) hr hc (hT.at_ hp).2.1.1 (Kd.C_below hr1 hb) hc1 hk
theorem so_all (w : World) (N : List (Nat × Tw)) : SoAt w N 44 #[] qA := fun p A0 c0 A3 c3 w1 hp hb hc hr => level_one A0 c0 p.2.e A3 c3 w1
theorem pcells_at (N : List (Nat × Tw)) (g : Nat) (q : S34 → Bool) : ∀ j : Nat, j < 12 → (pcells N g q)[j]? = some (.pointer (some ⟨pd N g q j, 0, none⟩)) := lt12 ⟨rfl, rfl, rfl, rfl, rfl, rfl, rfl, rfl, rfl, rfl, rfl, rfl⟩
theorem info56 : (Try.prog.info? 56).map (fun i => (i.zero, i.size, i.bytes)) = some (some (.pointer none), 1, 8) := by kernel_rfl
theorem idx57 (N : List (Nat × Tw)) (g : Nat) (q : S34 → Bool) (w : World) (j : Nat) (hj : j < 12) : (Instr.index 57 (.agg (pcells N g q)) (.int .i64 (j : Int))).run Try.prog w = .ok (.pointer (some ⟨pd N g q j, 0, none⟩)) w := by
  have hu57 := Try.underlying57
  obtain ⟨i0, hi0, _, hsz0, _⟩ := info_parts info56
  simp [Instr.index, run_underlying hu57, asIntOf, go_sem, sizeOf, typeInfo, hi0, hsz0]
  rw [if_pos hj, pcells_at N g q j hj]
  rfl

theorem sets4 {w : World} {g9 : Nat} {c0 c1 c2 c3 a b c d : Value} {t : TypeId} (h : w.heap[g9]? = some (.cells #[c0, c1, c2, c3] t (0, 0))) : ((((w.setCell ⟨g9, 0, none⟩ a).setCell ⟨g9, 1, none⟩ b).setCell ⟨g9, 2, none⟩ c).setCell ⟨g9, 3, none⟩ d).heap[g9]? = some (.cells #[a, b, c, d] t (0, 0)) :=
  blk_put (cs := #[a, b, c, c3]) (blk_put (cs := #[a, b, c2, c3]) (blk_put (cs := #[a, c1, c2, c3]) (blk_put (cs := #[c0, c1, c2, c3]) h 0 a rfl) 1 b rfl) 2 c rfl) 3 d rfl
theorem below4 {w0 w : World} {g9 : Nat} (h : Below w0.heap.size w0 w) (hg : w0.heap.size ≤ g9) (a b c d : Value) : Below w0.heap.size w0 ((((w.setCell ⟨g9, 0, none⟩ a).setCell ⟨g9, 1, none⟩ b).setCell ⟨g9, 2, none⟩ c).setCell ⟨g9, 3, none⟩ d) :=
  below_set (below_set (below_set (below_set h hg) hg) hg) hg
theorem EntV.far4 {w : World} {b g : Nat} {v0 v3 : Value} {e : S34} (h : EntV w b v0 v3 e) (hg : g < b) (a1 a2 a3 a4 : Value) : EntV ((((w.setCell ⟨g, 0, none⟩ a1).setCell ⟨g, 1, none⟩ a2).setCell ⟨g, 2, none⟩ a3).setCell ⟨g, 3, none⟩ a4) b v0 v3 e := by
  have key : ∀ {w : World} {v : Value} {xs : List Int} (i : Nat) (u : Value), Kd.V (Kd.int .u8) 5 w b (fun k => b ≤ k) v xs → Kd.V (Kd.int .u8) 5 (w.setCell ⟨g, i, none⟩ u) b (fun k => b ≤ k) v xs := fun i u hv => Kd.V_far hv (fun k hk => by show k ≠ g; omega) u
  exact ⟨key 3 _ (key 2 _ (key 1 _ (key 0 _ h.1))), key 3 _ (key 2 _ (key 1 _ (key 0 _ h.2)))⟩
theorem EntV.nil (w : World) (b : Nat) : EntV w b (.slice none 0 0) (.slice none 0 0) z34 := ⟨Kd.V_nil _ _ _ _ _, Kd.V_nil _ _ _ _ _⟩
set_option maxHeartbeats 4000000 in
set_option maxRecDepth 100000 in
theorem get_calls {w : World} {K : Nat → Prop} {g : Nat} {N : List (Nat × Tw)} {nx : Nat → Nat → Option Nat} {cnt sz : Int} (hS : SLat w K g N nx cnt sz) (hT : FitT (N.map Prod.snd)) (A1 : Option Addr) (c1 : Nat) (kk : List Int) (sq : Int) (hr1 : Kd.C (Kd.int .u8) w A1 kk.length kk) (hc1 : kk.length ≤ c1) (hk : Byts kk) :
    Calls Try.prog 20 #[.pointer (some ⟨g, 0, none⟩), .slice A1 kk.length c1, .int .i64 sq] w fun ex w' => ∃ v0 v3, ex = .returned (.tuple #[.agg #[v0, .int .i64 (getN (N.map Prod.snd) kk sq).1.f1, .bool (getN (N.map Prod.snd) kk sq).1.f2, v3], .bool (getN (N.map Prod.snd) kk sq).2]) ∧ EntV w' w.heap.size v0 v3 (getN (N.map Prod.snd) kk sq).1 ∧ Below w.heap.size w w' := by
  have hu34 := Try.underlying34
  have hu57 := Try.underlying57
  have hu59 := Try.underlying59
  have HP := Aside0.mk (hT.down (q := qB kk sq) (fun a b h h2 => qB_down h h2))
  have HPD := Aside0.mk (OnWay.pd (g := g) HP.out 0)
  have HNX := Aside0.mk (HPD.out.next hS (by omega))
  rw [hT.low] at HPD HNX
  unfold getN
  rw [filter_map_snd N (fun e => !qB kk sq e), List.head?_map]
  have HS := Aside0.mk hS
  have HT := Aside0.mk hT
  have HR1 := Aside0.mk hr1
  clear hr1
  have HC1 := Aside0.mk hc1
  clear hc1
  have HK := Aside0.mk hk
  clear hk
  clear hS hT
  have hix : ∀ w, (Instr.index 57 (.agg (pcells N g (qB kk sq))) (.int .i64 0)).run Try.prog w = .ok (.pointer (some ⟨pd N g (qB kk sq) 0, 0, none⟩)) w := fun w => idx57 N g (qB kk sq) w 0 (by omega)
  obtain ⟨Y, hY⟩ : ∃ Y, Y = N.filter (fun p => !qB kk sq p.2.e) := ⟨_, rfl⟩
  rw [← hY] at HPD HNX ⊢
  have HY := Aside0.mk hY
  clear hY
  cases Y with
  | nil =>
    go_enter Try.func20, Try.ntmps20
    go_wp2_with (first
      | ((with_reducible refine gate_dst (N := 6) rfl ?_); (try (refine gate_guard (by rfl) ?_; dsimp only)); refine box_event ?hg (N := 6) ?hd (cs := #[.slice none 0 0, .int .i64 0, .bool false, .slice none 0 0]) (t := 34) ?hr ?_; (case hd => rfl); (case hg => rfl); (case hr => first | (go_simp; done) | (go_simp; rfl)); intro g6 hqg6 w1 hxg6 hbg6; have n_ := Aside0.mk hqg6; clear hqg6; have hqg6 := n_; clear n_; have n_ := Aside0.mk hxg6; clear hxg6; have hxg6 := n_; clear n_; have n_ := Aside0.mk hbg6; clear hbg6; have hbg6 := n_; clear n_; have hcz0 : w1.cell? ⟨g6, 0, none⟩ = some (.slice none 0 0) := (blk_cell hxg6.out 0).trans rfl; have hcz1 : w1.cell? ⟨g6, 1, none⟩ = some (.int .i64 0) := (blk_cell hxg6.out 1).trans rfl; have hcz2 : w1.cell? ⟨g6, 2, none⟩ = some (.bool false) := (blk_cell hxg6.out 2).trans rfl; have hcz3 : w1.cell? ⟨g6, 3, none⟩ = some (.slice none 0 0) := (blk_cell hxg6.out 3).trans rfl; have hfz0 : w1.frozen? ⟨g6, 0, none⟩ = false := blk_frozen hxg6.out 0; have hfz1 : w1.frozen? ⟨g6, 1, none⟩ = false := blk_frozen hxg6.out 1; have hfz2 : w1.frozen? ⟨g6, 2, none⟩ = false := blk_frozen hxg6.out 2; have hfz3 : w1.frozen? ⟨g6, 3, none⟩ = false := blk_frozen hxg6.out 3)
      | ((with_reducible refine gate_callee (f := 33) rfl ?_); (try (refine gate_guard (by rfl) ?_; dsimp only)); refine goesL_ (some 15) rfl rfl Try.func33 (by kernel_rfl) rfl #[.slice A1 kk.length c1, .int .i64 sq] rfl (by (try simp only [List.map_toArray, List.map_cons, List.map_nil]); first | done | rfl) ?_; refine (before_calls A1 c1 kk sq w1).mono ?_; rintro ex w2 ⟨ga, gb, rfl, hga, hgb, hla, hlb, hb2⟩; refine ⟨_, rfl, ?_⟩; have n_ := Aside0.mk hga; clear hga; have hga := n_; clear n_; have n_ := Aside0.mk hgb; clear hgb; have hgb := n_; clear n_; have n_ := Aside0.mk hb2; clear hb2; have hb2 := n_; clear n_; clear hla hlb; have B12 := Aside0.mk (below_step hbg6.out hb2.out); have S2 := Aside0.mk (HS.out.below B12.out))
      | ((with_reducible refine gate_callee (f := 32) rfl ?_); (try (refine gate_guard (by rfl) ?_; dsimp only)); refine goesL_ (some 16) rfl rfl Try.func32 (by kernel_rfl) rfl #[.pointer (some ⟨g, 0, none⟩), .func (.func 48) #[] #[.pointer (some ⟨ga, 0, none⟩), .pointer (some ⟨gb, 0, none⟩)]] rfl (by (try simp only [List.map_toArray, List.map_cons, List.map_nil]); first | done | rfl) ?_; refine (path_calls S2.out (qB kk sq) HP.out 48 _ _ Try.func48 (by kernel_rfl) rfl (so_before HT.out hga.out hgb.out (Kd.C_below HR1.out B12.out) HC1.out HK.out)).mono ?_; rintro ex w3 ⟨rfl, hb3⟩; refine ⟨_, rfl, ?_⟩; have n_ := Aside0.mk hb3; clear hb3; have hb3 := n_; clear n_; have B13 := Aside0.mk (below_step B12.out hb3.out); have S3 := Aside0.mk (HS.out.below B13.out); have hcn : w3.cell? ⟨pd N g (qB kk sq) 0, 5, none⟩ = some (.pointer none) := (S3.out.cell HPD.out.mem (j := 0) (by omega)).trans (congrArg (fun x => some (pv x)) HNX.out); have X3 := Aside0.mk (blk_below hxg6.out (below_step hb2.out hb3.out)); have hcy0 : w3.cell? ⟨g6, 0, none⟩ = some (.slice none 0 0) := (blk_cell X3.out 0).trans rfl; have hcy1 : w3.cell? ⟨g6, 1, none⟩ = some (.int .i64 0) := (blk_cell X3.out 1).trans rfl; have hcy2 : w3.cell? ⟨g6, 2, none⟩ = some (.bool false) := (blk_cell X3.out 2).trans rfl; have hcy3 : w3.cell? ⟨g6, 3, none⟩ = some (.slice none 0 0) := (blk_cell X3.out 3).trans rfl; have hfy0 : w3.frozen? ⟨g6, 0, none⟩ = false := blk_frozen X3.out 0; have hfy1 : w3.frozen? ⟨g6, 1, none⟩ = false := blk_frozen X3.out 1; have hfy2 : w3.frozen? ⟨g6, 2, none⟩ = false := blk_frozen X3.out 2; have hfy3 : w3.frozen? ⟨g6, 3, none⟩ = false := blk_frozen X3.out 3))
    have G60 := Aside0.mk (show w.heap.size ≤ g6 from by have h1 := hqg6.out; omega)
    refine bodyPost_ret (results_ct rfl _ _ g6 34 #[.slice none 0 0, .int .i64 0, .bool false, .slice none 0 0] (0, 0) _ rfl (sets4 X3.out) Try.underlying34 rfl (by kernel_rfl)) rfl ?_
    exact ⟨_, _, rfl, EntV.nil _ _, below4 B13.out G60.out _ _ _ _⟩
  | cons y Y =>
    have HYN := Aside0.mk HPD.out.in_
    have HYO := Aside0.mk (HT.out.at_ HYN.out)
    by_cases hk : y.2.e.f0 = kk
    · have hkd : decide (y.2.e.f0 = kk) = true := decide_eq_true hk
      have HKD := Aside0.mk hkd
      simp only [List.head?_cons, Option.map_some, if_pos hk]
      clear hk hkd
      go_enter Try.func20, Try.ntmps20
      go_wp2_with (first
        | ((with_reducible refine gate_dst (N := 6) rfl ?_); (try (refine gate_guard (by rfl) ?_; dsimp only)); refine box_event ?hg (N := 6) ?hd (cs := #[.slice none 0 0, .int .i64 0, .bool false, .slice none 0 0]) (t := 34) ?hr ?_; (case hd => rfl); (case hg => rfl); (case hr => first | (go_simp; done) | (go_simp; rfl)); intro g6 hqg6 w1 hxg6 hbg6; have n_ := Aside0.mk hqg6; clear hqg6; have hqg6 := n_; clear n_; have n_ := Aside0.mk hxg6; clear hxg6; have hxg6 := n_; clear n_; have n_ := Aside0.mk hbg6; clear hbg6; have hbg6 := n_; clear n_; have hcz0 : w1.cell? ⟨g6, 0, none⟩ = some (.slice none 0 0) := (blk_cell hxg6.out 0).trans rfl; have hcz1 : w1.cell? ⟨g6, 1, none⟩ = some (.int .i64 0) := (blk_cell hxg6.out 1).trans rfl; have hcz2 : w1.cell? ⟨g6, 2, none⟩ = some (.bool false) := (blk_cell hxg6.out 2).trans rfl; have hcz3 : w1.cell? ⟨g6, 3, none⟩ = some (.slice none 0 0) := (blk_cell hxg6.out 3).trans rfl; have hfz0 : w1.frozen? ⟨g6, 0, none⟩ = false := blk_frozen hxg6.out 0; have hfz1 : w1.frozen? ⟨g6, 1, none⟩ = false := blk_frozen hxg6.out 1; have hfz2 : w1.frozen? ⟨g6, 2, none⟩ = false := blk_frozen hxg6.out 2; have hfz3 : w1.frozen? ⟨g6, 3, none⟩ = false := blk_frozen hxg6.out 3)
        | ((with_reducible refine gate_callee (f := 33) rfl ?_); (try (refine gate_guard (by rfl) ?_; dsimp only)); refine goesL_ (some 15) rfl rfl Try.func33 (by kernel_rfl) rfl #[.slice A1 kk.length c1, .int .i64 sq] rfl (by (try simp only [List.map_toArray, List.map_cons, List.map_nil]); first | done | rfl) ?_; refine (before_calls A1 c1 kk sq w1).mono ?_; rintro ex w2 ⟨ga, gb, rfl, hga, hgb, hla, hlb, hb2⟩; refine ⟨_, rfl, ?_⟩; have n_ := Aside0.mk hga; clear hga; have hga := n_; clear n_; have n_ := Aside0.mk hgb; clear hgb; have hgb := n_; clear n_; have n_ := Aside0.mk hb2; clear hb2; have hb2 := n_; clear n_; clear hla hlb; have B12 := Aside0.mk (below_step hbg6.out hb2.out); have S2 := Aside0.mk (HS.out.below B12.out))
        | ((with_reducible refine gate_callee (f := 32) rfl ?_); (try (refine gate_guard (by rfl) ?_; dsimp only)); refine goesL_ (some 16) rfl rfl Try.func32 (by kernel_rfl) rfl #[.pointer (some ⟨g, 0, none⟩), .func (.func 48) #[] #[.pointer (some ⟨ga, 0, none⟩), .pointer (some ⟨gb, 0, none⟩)]] rfl (by (try simp only [List.map_toArray, List.map_cons, List.map_nil]); first | done | rfl) ?_; refine (path_calls S2.out (qB kk sq) HP.out 48 _ _ Try.func48 (by kernel_rfl) rfl (so_before HT.out hga.out hgb.out (Kd.C_below HR1.out B12.out) HC1.out HK.out)).mono ?_; rintro ex w3 ⟨rfl, hb3⟩; refine ⟨_, rfl, ?_⟩; have n_ := Aside0.mk hb3; clear hb3; have hb3 := n_; clear n_; have B13 := Aside0.mk (below_step B12.out hb3.out); have S3 := Aside0.mk (HS.out.below B13.out); have hcn : w3.cell? ⟨pd N g (qB kk sq) 0, 5, none⟩ = some (.pointer (some ⟨y.1, 0, none⟩)) := (S3.out.cell HPD.out.mem (j := 0) (by omega)).trans (congrArg (fun x => some (pv x)) HNX.out); obtain ⟨A0, c0, A3, c3, hy0, hy1, hy2, hy3, hy4⟩ := S3.out.node y HYN.out; have n_ := Aside0.mk hy0; clear hy0; have hy0 := n_; clear n_; have n_ := Aside0.mk hy1; clear hy1; have hy1 := n_; clear n_; have n_ := Aside0.mk hy2; clear hy2; have hy2 := n_; clear n_; have n_ := Aside0.mk hy3; clear hy3; have hy3 := n_; clear n_; have n_ := Aside0.mk hy4; clear hy4; have hy4 := n_; clear n_; have hcd0 : w3.cell? ⟨y.1, 0, none⟩ = some (.slice A0 y.2.e.f0.length c0) := (blk_cell hy0.out 0).trans rfl; have hcd1 : w3.cell? ⟨y.1, 1, none⟩ = some (.int .i64 y.2.e.f1) := (blk_cell hy0.out 1).trans rfl; have hcd2 : w3.cell? ⟨y.1, 2, none⟩ = some (.bool y.2.e.f2) := (blk_cell hy0.out 2).trans rfl; have hcd3 : w3.cell? ⟨y.1, 3, none⟩ = some (.slice A3 y.2.e.f3.length c3) := (blk_cell hy0.out 3).trans rfl; have X3 := Aside0.mk (blk_below hxg6.out (below_step hb2.out hb3.out)); have hcy0 : w3.cell? ⟨g6, 0, none⟩ = some (.slice none 0 0) := (blk_cell X3.out 0).trans rfl; have hcy1 : w3.cell? ⟨g6, 1, none⟩ = some (.int .i64 0) := (blk_cell X3.out 1).trans rfl; have hcy2 : w3.cell? ⟨g6, 2, none⟩ = some (.bool false) := (blk_cell X3.out 2).trans rfl; have hcy3 : w3.cell? ⟨g6, 3, none⟩ = some (.slice none 0 0) := (blk_cell X3.out 3).trans rfl; have hfy0 : w3.frozen? ⟨g6, 0, none⟩ = false := blk_frozen X3.out 0; have hfy1 : w3.frozen? ⟨g6, 1, none⟩ = false := blk_frozen X3.out 1; have hfy2 : w3.frozen? ⟨g6, 2, none⟩ = false := blk_frozen X3.out 2; have hfy3 : w3.frozen? ⟨g6, 3, none⟩ = false := blk_frozen X3.out 3)
        | ((with_reducible refine gate_callee (f := 34) rfl ?_); (try (refine gate_guard (by rfl) ?_; dsimp only)); refine goesL_ (some 31) rfl rfl Try.func34 (by kernel_rfl) rfl #[.slice A0 y.2.e.f0.length c0, .slice A1 kk.length c1] rfl (by (try simp only [List.map_toArray, List.map_cons, List.map_nil]); first | done | rfl) ?_; refine (equalC (Kd.F_now hy2.out) hy1.out HYO.out.2.1.1 (Kd.C_below HR1.out B13.out) HC1.out HK.out).mono ?_; rintro ex w4 ⟨rfl, hb4⟩; refine ⟨_, rfl, ?_⟩; rw [HKD.out]; have n_ := Aside0.mk hb4; clear hb4; have hb4 := n_; clear n_; have B14 := Aside0.mk (below_step B13.out hb4.out); have X4 := Aside0.mk (blk_below X3.out hb4.out); have hcx0 : w4.cell? ⟨g6, 0, none⟩ = some (.slice none 0 0) := (blk_cell X4.out 0).trans rfl; have hcx1 : w4.cell? ⟨g6, 1, none⟩ = some (.int .i64 0) := (blk_cell X4.out 1).trans rfl; have hcx2 : w4.cell? ⟨g6, 2, none⟩ = some (.bool false) := (blk_cell X4.out 2).trans rfl; have hcx3 : w4.cell? ⟨g6, 3, none⟩ = some (.slice none 0 0) := (blk_cell X4.out 3).trans rfl; have hfx0 : w4.frozen? ⟨g6, 0, none⟩ = false := blk_frozen X4.out 0; have hfx1 : w4.frozen? ⟨g6, 1, none⟩ = false := blk_frozen X4.out 1; have hfx2 : w4.frozen? ⟨g6, 2, none⟩ = false := blk_frozen X4.out 2; have hfx3 : w4.frozen? ⟨g6, 3, none⟩ = false := blk_frozen X4.out 3; have D4 := Aside0.mk (blk_below hy0.out hb4.out); have hce0 : w4.cell? ⟨y.1, 0, none⟩ = some (.slice A0 y.2.e.f0.length c0) := (blk_cell D4.out 0).trans rfl; have hce1 : w4.cell? ⟨y.1, 1, none⟩ = some (.int .i64 y.2.e.f1) := (blk_cell D4.out 1).trans rfl; have hce2 : w4.cell? ⟨y.1, 2, none⟩ = some (.bool y.2.e.f2) := (blk_cell D4.out 2).trans rfl; have hce3 : w4.cell? ⟨y.1, 3, none⟩ = some (.slice A3 y.2.e.f3.length c3) := (blk_cell D4.out 3).trans rfl)
        | ((with_reducible refine gate_callee (f := 35) rfl ?_); (try (refine gate_guard (by rfl) ?_; dsimp only)); refine goesL_ (some 39) rfl rfl Try.func35 (by kernel_rfl) rfl #[.agg #[.slice A0 y.2.e.f0.length c0, .int .i64 y.2.e.f1, .bool y.2.e.f2, .slice A3 y.2.e.f3.length c3]] rfl (by (try simp only [List.map_toArray, List.map_cons, List.map_nil]); first | done | rfl) ?_; refine (copiedC (Kd.C_below (Kd.F_now hy2.out) hb4.out) hy1.out (Kd.C_below (Kd.F_now hy4.out) hb4.out) hy3.out (okE_len HYO.out.1).1 (okE_len HYO.out.1).2).mono ?_; rintro ex w5 ⟨v0, v3, rfl, hv5, hb5⟩; refine ⟨_, rfl, ?_⟩; obtain ⟨⟨P0, d0, rfl, hl0, hF0⟩, ⟨P3, d3, rfl, hl3, hF3⟩⟩ := hv5; have n_ := Aside0.mk hl0; clear hl0; have hl0 := n_; clear n_; have n_ := Aside0.mk hF0; clear hF0; have hF0 := n_; clear n_; have n_ := Aside0.mk hl3; clear hl3; have hl3 := n_; clear n_; have n_ := Aside0.mk hF3; clear hF3; have hF3 := n_; clear n_; have n_ := Aside0.mk hb5; clear hb5; have hb5 := n_; clear n_; have B15 := Aside0.mk (below_step B14.out hb5.out); have X5 := Aside0.mk (blk_below X4.out hb5.out); have hcw0 : w5.cell? ⟨g6, 0, none⟩ = some (.slice none 0 0) := (blk_cell X5.out 0).trans rfl; have hcw1 : w5.cell? ⟨g6, 1, none⟩ = some (.int .i64 0) := (blk_cell X5.out 1).trans rfl; have hcw2 : w5.cell? ⟨g6, 2, none⟩ = some (.bool false) := (blk_cell X5.out 2).trans rfl; have hcw3 : w5.cell? ⟨g6, 3, none⟩ = some (.slice none 0 0) := (blk_cell X5.out 3).trans rfl; have hfw0 : w5.frozen? ⟨g6, 0, none⟩ = false := blk_frozen X5.out 0; have hfw1 : w5.frozen? ⟨g6, 1, none⟩ = false := blk_frozen X5.out 1; have hfw2 : w5.frozen? ⟨g6, 2, none⟩ = false := blk_frozen X5.out 2; have hfw3 : w5.frozen? ⟨g6, 3, none⟩ = false := blk_frozen X5.out 3))
      have G60 := Aside0.mk (show w.heap.size ≤ g6 from by have h1 := hqg6.out; omega)
      refine bodyPost_ret (results_ct rfl _ _ g6 34 #[.slice P0 y.2.e.f0.length d0, .int .i64 y.2.e.f1, .bool y.2.e.f2, .slice P3 y.2.e.f3.length d3] (0, 0) _ rfl (sets4 X5.out) Try.underlying34 rfl (by kernel_rfl)) rfl ?_
      have hz6 := blk_lt hxg6.out
      have hz4 := (below_step hb2.out (below_step hb3.out hb4.out)).size
      exact ⟨_, _, rfl, ((show EntV w5 w4.heap.size _ _ y.2.e from ⟨⟨P0, d0, rfl, hl0.out, hF0.out⟩, ⟨P3, d3, rfl, hl3.out, hF3.out⟩⟩).far4 (by omega) _ _ _ _).lower B14.out.size, below4 B15.out G60.out _ _ _ _⟩
    · have hkd : decide (y.2.e.f0 = kk) = false := decide_eq_false hk
      have HKD := Aside0.mk hkd
      simp only [List.head?_cons, Option.map_some, if_neg hk]
      clear hk hkd
      go_enter Try.func20, Try.ntmps20
      go_wp2_with (first
        | ((with_reducible refine gate_dst (N := 6) rfl ?_); (try (refine gate_guard (by rfl) ?_; dsimp only)); refine box_event ?hg (N := 6) ?hd (cs := #[.slice none 0 0, .int .i64 0, .bool false, .slice none 0 0]) (t := 34) ?hr ?_; (case hd => rfl); (case hg => rfl); (case hr => first | (go_simp; done) | (go_simp; rfl)); intro g6 hqg6 w1 hxg6 hbg6; have n_ := Aside0.mk hqg6; clear hqg6; have hqg6 := n_; clear n_; have n_ := Aside0.mk hxg6; clear hxg6; have hxg6 := n_; clear n_; have n_ := Aside0.mk hbg6; clear hbg6; have hbg6 := n_; clear n_; have hcz0 : w1.cell? ⟨g6, 0, none⟩ = some (.slice none 0 0) := (blk_cell hxg6.out 0).trans rfl; have hcz1 : w1.cell? ⟨g6, 1, none⟩ = some (.int .i64 0) := (blk_cell hxg6.out 1).trans rfl; have hcz2 : w1.cell? ⟨g6, 2, none⟩ = some (.bool false) := (blk_cell hxg6.out 2).trans rfl; have hcz3 : w1.cell? ⟨g6, 3, none⟩ = some (.slice none 0 0) := (blk_cell hxg6.out 3).trans rfl; have hfz0 : w1.frozen? ⟨g6, 0, none⟩ = false := blk_frozen hxg6.out 0; have hfz1 : w1.frozen? ⟨g6, 1, none⟩ = false := blk_frozen hxg6.out 1; have hfz2 : w1.frozen? ⟨g6, 2, none⟩ = false := blk_frozen hxg6.out 2; have hfz3 : w1.frozen? ⟨g6, 3, none⟩ = false := blk_frozen hxg6.out 3)
        | ((with_reducible refine gate_callee (f := 33) rfl ?_); (try (refine gate_guard (by rfl) ?_; dsimp only)); refine goesL_ (some 15) rfl rfl Try.func33 (by kernel_rfl) rfl #[.slice A1 kk.length c1, .int .i64 sq] rfl (by (try simp only [List.map_toArray, List.map_cons, List.map_nil]); first | done | rfl) ?_; refine (before_calls A1 c1 kk sq w1).mono ?_; rintro ex w2 ⟨ga, gb, rfl, hga, hgb, hla, hlb, hb2⟩; refine ⟨_, rfl, ?_⟩; have n_ := Aside0.mk hga; clear hga; have hga := n_; clear n_; have n_ := Aside0.mk hgb; clear hgb; have hgb := n_; clear n_; have n_ := Aside0.mk hb2; clear hb2; have hb2 := n_; clear n_; clear hla hlb; have B12 := Aside0.mk (below_step hbg6.out hb2.out); have S2 := Aside0.mk (HS.out.below B12.out))
        | ((with_reducible refine gate_callee (f := 32) rfl ?_); (try (refine gate_guard (by rfl) ?_; dsimp only)); refine goesL_ (some 16) rfl rfl Try.func32 (by kernel_rfl) rfl #[.pointer (some ⟨g, 0, none⟩), .func (.func 48) #[] #[.pointer (some ⟨ga, 0, none⟩), .pointer (some ⟨gb, 0, none⟩)]] rfl (by (try simp only [List.map_toArray, List.map_cons, List.map_nil]); first | done | rfl) ?_; refine (path_calls S2.out (qB kk sq) HP.out 48 _ _ Try.func48 (by kernel_rfl) rfl (so_before HT.out hga.out hgb.out (Kd.C_below HR1.out B12.out) HC1.out HK.out)).mono ?_; rintro ex w3 ⟨rfl, hb3⟩; refine ⟨_, rfl, ?_⟩; have n_ := Aside0.mk hb3; clear hb3; have hb3 := n_; clear n_; have B13 := Aside0.mk (below_step B12.out hb3.out); have S3 := Aside0.mk (HS.out.below B13.out); have hcn : w3.cell? ⟨pd N g (qB kk sq) 0, 5, none⟩ = some (.pointer (some ⟨y.1, 0, none⟩)) := (S3.out.cell HPD.out.mem (j := 0) (by omega)).trans (congrArg (fun x => some (pv x)) HNX.out); obtain ⟨A0, c0, A3, c3, hy0, hy1, hy2, hy3, hy4⟩ := S3.out.node y HYN.out; have n_ := Aside0.mk hy0; clear hy0; have hy0 := n_; clear n_; have n_ := Aside0.mk hy1; clear hy1; have hy1 := n_; clear n_; have n_ := Aside0.mk hy2; clear hy2; have hy2 := n_; clear n_; have n_ := Aside0.mk hy3; clear hy3; have hy3 := n_; clear n_; have n_ := Aside0.mk hy4; clear hy4; have hy4 := n_; clear n_; have hcd0 : w3.cell? ⟨y.1, 0, none⟩ = some (.slice A0 y.2.e.f0.length c0) := (blk_cell hy0.out 0).trans rfl; have hcd1 : w3.cell? ⟨y.1, 1, none⟩ = some (.int .i64 y.2.e.f1) := (blk_cell hy0.out 1).trans rfl; have hcd2 : w3.cell? ⟨y.1, 2, none⟩ = some (.bool y.2.e.f2) := (blk_cell hy0.out 2).trans rfl; have hcd3 : w3.cell? ⟨y.1, 3, none⟩ = some (.slice A3 y.2.e.f3.length c3) := (blk_cell hy0.out 3).trans rfl; have X3 := Aside0.mk (blk_below hxg6.out (below_step hb2.out hb3.out)); have hcy0 : w3.cell? ⟨g6, 0, none⟩ = some (.slice none 0 0) := (blk_cell X3.out 0).trans rfl; have hcy1 : w3.cell? ⟨g6, 1, none⟩ = some (.int .i64 0) := (blk_cell X3.out 1).trans rfl; have hcy2 : w3.cell? ⟨g6, 2, none⟩ = some (.bool false) := (blk_cell X3.out 2).trans rfl; have hcy3 : w3.cell? ⟨g6, 3, none⟩ = some (.slice none 0 0) := (blk_cell X3.out 3).trans rfl; have hfy0 : w3.frozen? ⟨g6, 0, none⟩ = false := blk_frozen X3.out 0; have hfy1 : w3.frozen? ⟨g6, 1, none⟩ = false := blk_frozen X3.out 1; have hfy2 : w3.frozen? ⟨g6, 2, none⟩ = false := blk_frozen X3.out 2; have hfy3 : w3.frozen? ⟨g6, 3, none⟩ = false := blk_frozen X3.out 3)
        | ((with_reducible refine gate_callee (f := 34) rfl ?_); (try (refine gate_guard (by rfl) ?_; dsimp only)); refine goesL_ (some 31) rfl rfl Try.func34 (by kernel_rfl) rfl #[.slice A0 y.2.e.f0.length c0, .slice A1 kk.length c1] rfl (by (try simp only [List.map_toArray, List.map_cons, List.map_nil]); first | done | rfl) ?_; refine (equalC (Kd.F_now hy2.out) hy1.out HYO.out.2.1.1 (Kd.C_below HR1.out B13.out) HC1.out HK.out).mono ?_; rintro ex w4 ⟨rfl, hb4⟩; refine ⟨_, rfl, ?_⟩; rw [HKD.out]; have n_ := Aside0.mk hb4; clear hb4; have hb4 := n_; clear n_; have B14 := Aside0.mk (below_step B13.out hb4.out); have X4 := Aside0.mk (blk_below X3.out hb4.out); have hcx0 : w4.cell? ⟨g6, 0, none⟩ = some (.slice none 0 0) := (blk_cell X4.out 0).trans rfl; have hcx1 : w4.cell? ⟨g6, 1, none⟩ = some (.int .i64 0) := (blk_cell X4.out 1).trans rfl; have hcx2 : w4.cell? ⟨g6, 2, none⟩ = some (.bool false) := (blk_cell X4.out 2).trans rfl; have hcx3 : w4.cell? ⟨g6, 3, none⟩ = some (.slice none 0 0) := (blk_cell X4.out 3).trans rfl; have hfx0 : w4.frozen? ⟨g6, 0, none⟩ = false := blk_frozen X4.out 0; have hfx1 : w4.frozen? ⟨g6, 1, none⟩ = false := blk_frozen X4.out 1; have hfx2 : w4.frozen? ⟨g6, 2, none⟩ = false := blk_frozen X4.out 2; have hfx3 : w4.frozen? ⟨g6, 3, none⟩ = false := blk_frozen X4.out 3; have D4 := Aside0.mk (blk_below hy0.out hb4.out); have hce0 : w4.cell? ⟨y.1, 0, none⟩ = some (.slice A0 y.2.e.f0.length c0) := (blk_cell D4.out 0).trans rfl; have hce1 : w4.cell? ⟨y.1, 1, none⟩ = some (.int .i64 y.2.e.f1) := (blk_cell D4.out 1).trans rfl; have hce2 : w4.cell? ⟨y.1, 2, none⟩ = some (.bool y.2.e.f2) := (blk_cell D4.out 2).trans rfl; have hce3 : w4.cell? ⟨y.1, 3, none⟩ = some (.slice A3 y.2.e.f3.length c3) := (blk_cell D4.out 3).trans rfl))
      have G60 := Aside0.mk (show w.heap.size ≤ g6 from by have h1 := hqg6.out; omega)
      refine bodyPost_ret (results_ct rfl _ _ g6 34 #[.slice none 0 0, .int .i64 0, .bool false, .slice none 0 0] (0, 0) _ rfl (sets4 X4.out) Try.underlying34 rfl (by kernel_rfl)) rfl ?_
      exact ⟨_, _, rfl, EntV.nil _ _, below4 B14.out G60.out _ _ _ _⟩
end Go.Proofs.Ytjlkcidohabcfaa.Sk
