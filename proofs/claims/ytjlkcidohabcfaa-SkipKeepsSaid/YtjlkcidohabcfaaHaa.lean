/- Both lists side by side, and what each operation leaves of them. Conditions: those of each theorem. -/
import Derived.Test.YtjlkcidohabcfaaPx4
import Derived.Test.YtjlkcidohabcfaaPx5
import Derived.Test.YtjlkcidohabcfaaPx13
import Derived.Test.YtjlkcidohabcfaaPx20
import Derived.Test.YtjlkcidohabcfaaPx21
import Derived.Test.YtjlkcidohabcfaaPx22
import Derived.Test.YtjlkcidohabcfaaPx23
import Derived.Test.YtjlkcidohabcfaaPx24
import Derived.Test.YtjlkcidohabcfaaPx25
import Derived.Test.YtjlkcidohabcfaaPx27
import Derived.Test.YtjlkcidohabcfaaPx29
import Derived.Test.YtjlkcidohabcfaaH0
import Derived.Test.YtjlkcidohabcfaaHp
import Derived.Test.YtjlkcidohabcfaaHq
import Derived.Test.YtjlkcidohabcfaaHr
import Derived.Test.YtjlkcidohabcfaaHu
import Derived.Test.YtjlkcidohabcfaaHv
import Derived.Test.YtjlkcidohabcfaaHg
import Derived.Test.YtjlkcidohabcfaaHh
import Derived.Test.YtjlkcidohabcfaaHi
import Derived.Test.YtjlkcidohabcfaaHk
import Derived.Test.YtjlkcidohabcfaaHy
import Derived.Test.YtjlkcidohabcfaaHj
import Derived.Test.YtjlkcidohabcfaaHl
import Derived.Test.YtjlkcidohabcfaaHn
import Derived.Test.YtjlkcidohabcfaaHo
namespace Go.Proofs.Ytjlkcidohabcfaa.Sk
open Go.RowKit Go.Proofs.YtjlkcidohabcfaaW.PrintWords Go.Proofs.YtjlkcidohabcfaaW.PrintLast Go.Proofs.YtjlkcidohabcfaaW.PrintMore Go.Proofs.Ytjlkcidohabcfaa.Px
set_option linter.unusedVariables false
set_option linter.unusedSimpArgs false

open Go.Proofs.Ytjlkcidohabcfaa.Sw
theorem rput_calls {w : World} {base : Nat} {D : Nat → Prop} {gr : Nat} {T : List Tw} (h : RL w base D gr T) (hT : FitT T) (hlen : T.length ≤ 1000000) (A0 : Option Addr) (c0 : Nat) (e : S34) (A3 : Option Addr) (c3 : Nat) (hr0 : Kd.C (Kd.int .u8) w A0 e.f0.length e.f0) (hc0 : e.f0.length ≤ c0) (hr3 : Kd.C (Kd.int .u8) w A3 e.f3.length e.f3) (hc3 : e.f3.length ≤ c3) (hgd : Sw.Good e) (height : Int) :
    Calls Try.prog 27 #[.pointer (some ⟨gr, 0, none⟩), .agg #[.slice A0 e.f0.length c0, .int .i64 e.f1, .bool e.f2, .slice A3 e.f3.length c3], .int .i64 height] w fun ex w' => ex = .returned (.int .i64 (if putOk T e height = true then 0 else 1)) ∧ RPutEnd w w' base gr D (putT T e height) := by
  by_cases hok : okE e = true ∧ 1 ≤ height ∧ height ≤ 12
  · obtain ⟨hk, hh1, hh2⟩ := hok
    by_cases hany : T.any (samev e) = true
    · have hp : putOk T e height = false := by
        unfold putOk
        rw [hany]
        simp
      obtain ⟨y, Y, hf, hy0, hy1⟩ := dup_head hT hany
      refine (rput_dup h hT hlen A0 c0 e A3 c3 hr0 hc0 hr3 hc3 hk hgd height (by omega) (by omega) y Y hf (decide_eq_true hy0) hy1).mono ?_
      rintro ex w' ⟨rfl, hb⟩
      refine ⟨by rw [hp]; rfl, ?_⟩
      unfold putT
      rw [hp, if_neg (by simp)]
      exact RPutEnd.same h hb
    · have hany' : T.any (samev e) = false := Bool.eq_false_iff.2 hany
      have hp : putOk T e height = true := by
        unfold putOk
        rw [hany', hk]
        simp
        omega
      have hpt : putT T e height = insT T ⟨e, height⟩ := by
        unfold putT
        rw [hp, if_pos rfl]
      rw [hp, hpt]
      cases hf : T.filter (fun x => !qB e.f0 e.f1 x.e) with
      | nil => exact rput_nil h hT hlen A0 c0 e A3 c3 hr0 hc0 hr3 hc3 hk hgd height (by omega) (by omega) hf
      | cons y Y =>
        have hz : y ∈ T := by
          have : y ∈ T.filter (fun x => !qB e.f0 e.f1 x.e) := by rw [hf]; simp
          exact (List.mem_filter.1 this).1
        have hne := List.any_eq_false.1 hany' y hz
        unfold samev at hne
        simp only [Bool.and_eq_true, decide_eq_true_eq, not_and] at hne
        by_cases hkey : y.e.f0 = e.f0
        · exact rput_seq h hT hlen A0 c0 e A3 c3 hr0 hc0 hr3 hc3 hk hgd height (by omega) (by omega) y Y hf (decide_eq_true hkey) (hne hkey)
        · exact rput_key h hT hlen A0 c0 e A3 c3 hr0 hc0 hr3 hc3 hk hgd height (by omega) (by omega) y Y hf (decide_eq_false hkey)
  · have hp : putOk T e height = false := by
      rw [Bool.eq_false_iff]
      intro hp
      unfold putOk at hp
      simp only [Bool.and_eq_true, decide_eq_true_eq] at hp
      exact hok ⟨hp.1.1.1, hp.1.1.2, hp.1.2⟩
    refine (rput_bad gr A0 c0 e A3 c3 hr0 hc0 hr3 hc3 height ?_).mono ?_
    · by_cases h1 : okE e = true
      · by_cases h2 : 1 ≤ height
        · exact .inr (.inr (by
            have h3 : ¬ height ≤ 12 := fun h3 => hok ⟨h1, h2, h3⟩
            omega))
        · exact .inr (.inl (by omega))
      · exact .inl (Bool.eq_false_iff.2 h1)
    · rintro ex w' ⟨rfl, hb⟩
      refine ⟨by rw [hp]; rfl, ?_⟩
      unfold putT
      rw [hp, if_neg (by simp)]
      exact RPutEnd.same h hb
/-- Both lists in memory, apart from each other. -/
def St (w : World) (base g gr : Nat) (T R : List Tw) : Prop := ∃ D D' : Nat → Prop, SL w base D g T ∧ RL w base D' gr R ∧ (∀ k, D k → k < w.heap.size) ∧ (∀ k, D' k → k < w.heap.size) ∧ ∀ k, D k → ¬ D' k
theorem St.below {w w1 : World} {base g gr : Nat} {T R : List Tw} (h : St w base g gr T R) (hb : Below w.heap.size w w1) : St w1 base g gr T R := by
  obtain ⟨D, D', h1, h2, h3, h4, h5⟩ := h
  exact ⟨D, D', h1.below hb, h2.below hb, fun k hk => Nat.lt_of_lt_of_le (h3 k hk) hb.size, fun k hk => Nat.lt_of_lt_of_le (h4 k hk) hb.size, h5⟩
theorem St.base_le {w : World} {base g gr : Nat} {T R : List Tw} (h : St w base g gr T R) : base ≤ w.heap.size := by
  obtain ⟨D, D', h1, _⟩ := h
  have := h1.base_le
  omega
theorem Chg.to_below {w w' : World} {S : Nat → Prop} {base : Nat} (h : Chg w w' S) (hs : ∀ k, S k → base ≤ k) (hb : base ≤ w.heap.size) : Below base w w' :=
  ⟨h.os, h.tape, h.output, h.kept.1, fun k hk => h.kept.2 k (by omega) (fun h2 => by have := hs k h2; omega)⟩
/-- Behind a Put into the one. -/
theorem St.put {w w1 : World} {base g gr : Nat} {T R T' : List Tw} {D D' : Nat → Prop} (h1 : SL w base D g T) (h2 : RL w base D' gr R) (h3 : ∀ k, D k → k < w.heap.size) (h4 : ∀ k, D' k → k < w.heap.size) (h5 : ∀ k, D k → ¬ D' k) (hp : PutEnd w w1 base g D T') : St w1 base g gr T' R ∧ Below base w w1 := by
  obtain ⟨D1, p1, p2, p3, p4⟩ := hp
  have hb := h1.base_le
  obtain ⟨K, N, nx, _, _, _, _, hDb⟩ := h1
  exact ⟨⟨D1, D', p1, h2.step (fun k hk hlt => p4.kept.2 k hlt (fun hd => h5 k hd hk)), p3, fun k hk => Nat.lt_of_lt_of_le (h4 k hk) p4.kept.1, fun k hk hk' => (p2 k hk).elim (fun h => h5 k h hk') (fun h => by have := h4 k hk'; omega)⟩, p4.to_below hDb (by omega)⟩
/-- Behind a Put into the other. -/
theorem St.rput {w w1 : World} {base g gr : Nat} {T R R' : List Tw} {D D' : Nat → Prop} (h1 : SL w base D g T) (h2 : RL w base D' gr R) (h3 : ∀ k, D k → k < w.heap.size) (h4 : ∀ k, D' k → k < w.heap.size) (h5 : ∀ k, D k → ¬ D' k) (hp : RPutEnd w w1 base gr D' R') : St w1 base g gr T R' ∧ Below base w w1 := by
  obtain ⟨D1, p1, p2, p3, p4⟩ := hp
  have hb := h1.base_le
  obtain ⟨vL, vH, hgr, _, _, hDg, hDb⟩ := h2
  exact ⟨⟨D, D1, h1.step p4.kept.1 (fun k hk hlt => p4.kept.2 k hlt (fun hd => h5 k hk (by rw [hd]; exact hDg))), p1, fun k hk => Nat.lt_of_lt_of_le (h3 k hk) p4.kept.1, p3, fun k hk hk' => (p2 k hk').elim (fun h => h5 k hk h) (fun h => by have := h3 k hk; omega)⟩, p4.to_below (fun k hk => by rw [hk]; exact hDb gr hDg) (by omega)⟩
/-- Put into the one of both. -/
theorem st_put {w : World} {base g gr : Nat} {T R : List Tw} (h : St w base g gr T R) (hT : FitT T) (hlen : T.length ≤ 1000000) (A0 : Option Addr) (c0 : Nat) (e : S34) (A3 : Option Addr) (c3 : Nat) (hr0 : Kd.C (Kd.int .u8) w A0 e.f0.length e.f0) (hc0 : e.f0.length ≤ c0) (hr3 : Kd.C (Kd.int .u8) w A3 e.f3.length e.f3) (hc3 : e.f3.length ≤ c3) (hgd : Sw.Good e) (height : Int) :
    Calls Try.prog 21 #[.pointer (some ⟨g, 0, none⟩), .agg #[.slice A0 e.f0.length c0, .int .i64 e.f1, .bool e.f2, .slice A3 e.f3.length c3], .int .i64 height] w fun ex w' => ex = .returned (.int .i64 (if putOk T e height = true then 0 else 1)) ∧ St w' base g gr (putT T e height) R ∧ Below base w w' := by
  obtain ⟨D, D', h1, h2, h3, h4, h5⟩ := h
  refine (put_calls h1 hT hlen A0 c0 e A3 c3 hr0 hc0 hr3 hc3 hgd height).mono ?_
  rintro ex w' ⟨rfl, hp⟩
  exact ⟨rfl, St.put h1 h2 h3 h4 h5 hp⟩
theorem st_rput {w : World} {base g gr : Nat} {T R : List Tw} (h : St w base g gr T R) (hT : FitT R) (hlen : R.length ≤ 1000000) (A0 : Option Addr) (c0 : Nat) (e : S34) (A3 : Option Addr) (c3 : Nat) (hr0 : Kd.C (Kd.int .u8) w A0 e.f0.length e.f0) (hc0 : e.f0.length ≤ c0) (hr3 : Kd.C (Kd.int .u8) w A3 e.f3.length e.f3) (hc3 : e.f3.length ≤ c3) (hgd : Sw.Good e) (height : Int) :
    Calls Try.prog 27 #[.pointer (some ⟨gr, 0, none⟩), .agg #[.slice A0 e.f0.length c0, .int .i64 e.f1, .bool e.f2, .slice A3 e.f3.length c3], .int .i64 height] w fun ex w' => ex = .returned (.int .i64 (if putOk R e height = true then 0 else 1)) ∧ St w' base g gr T (putT R e height) ∧ Below base w w' := by
  obtain ⟨D, D', h1, h2, h3, h4, h5⟩ := h
  refine (rput_calls h2 hT hlen A0 c0 e A3 c3 hr0 hc0 hr3 hc3 hgd height).mono ?_
  rintro ex w' ⟨rfl, hp⟩
  exact ⟨rfl, St.rput h1 h2 h3 h4 h5 hp⟩
section
variable {w : World} {base g gr : Nat} {T R : List Tw} (h : St w base g gr T R)
include h
theorem st_get (hT : FitT T) (A1 : Option Addr) (c1 : Nat) (kk : List Int) (sq : Int) (hr1 : Kd.C (Kd.int .u8) w A1 kk.length kk) (hc1 : kk.length ≤ c1) (hk : Byts kk) :
    Calls Try.prog 20 #[.pointer (some ⟨g, 0, none⟩), .slice A1 kk.length c1, .int .i64 sq] w fun ex w' => ∃ v0 v3, ex = .returned (.tuple #[.agg #[v0, .int .i64 (getN T kk sq).1.f1, .bool (getN T kk sq).1.f2, v3], .bool (getN T kk sq).2]) ∧ EntV w' w.heap.size v0 v3 (getN T kk sq).1 ∧ Below w.heap.size w w' := by
  obtain ⟨D, D', ⟨K, N, nx, hS, hN, _⟩, _⟩ := h
  subst hN
  exact get_calls hS hT A1 c1 kk sq hr1 hc1 hk
theorem st_rget (hT : FitT R) (hlen : R.length ≤ 1000000) (A1 : Option Addr) (c1 : Nat) (kk : List Int) (sq : Int) (hr1 : Kd.C (Kd.int .u8) w A1 kk.length kk) (hc1 : kk.length ≤ c1) (hk : Byts kk) :
    Calls Try.prog 29 #[.pointer (some ⟨gr, 0, none⟩), .slice A1 kk.length c1, .int .i64 sq] w fun ex w' => ∃ v0 v3, ex = .returned (.tuple #[.agg #[v0, .int .i64 (getN R kk sq).1.f1, .bool (getN R kk sq).1.f2, v3], .bool (getN R kk sq).2]) ∧ EntV w' w.heap.size v0 v3 (getN R kk sq).1 ∧ Below w.heap.size w w' := by
  obtain ⟨D, D', _, h2, _⟩ := h
  exact rget_calls h2 hT hlen A1 c1 kk sq hr1 hc1 hk
theorem st_scan (hT : FitT T) (hlen : T.length ≤ 1000000) (A1 : Option Addr) (c1 : Nat) (kk : List Int) (A2 : Option Addr) (c2 : Nat) (k2 : List Int) (sq : Int) (hr1 : Kd.C (Kd.int .u8) w A1 kk.length kk) (hc1 : kk.length ≤ c1) (hk : Byts kk) (hr2 : Kd.C (Kd.int .u8) w A2 k2.length k2) (hc2 : k2.length ≤ c2) (hk2 : Byts k2) :
    Calls Try.prog 22 #[.pointer (some ⟨g, 0, none⟩), .slice A1 kk.length c1, .slice A2 k2.length c2, .int .i64 sq] w fun ex w' => ∃ v, ex = .returned v ∧ Kd.N k34 34 w' w.heap.size (fun k => w.heap.size ≤ k) v (scanT T kk k2 sq) ∧ Below w.heap.size w w' := by
  obtain ⟨D, D', ⟨K, N, nx, hS, hN, _⟩, _⟩ := h
  subst hN
  exact scan_calls hS hT (by rw [List.length_map] at hlen; exact hlen) A1 c1 kk A2 c2 k2 sq hr1 hc1 hk hr2 hc2 hk2
theorem st_rscan (hT : FitT R) (hlen : R.length ≤ 1000000) (A1 : Option Addr) (c1 : Nat) (kk : List Int) (A2 : Option Addr) (c2 : Nat) (k2 : List Int) (sq : Int) (hr1 : Kd.C (Kd.int .u8) w A1 kk.length kk) (hc1 : kk.length ≤ c1) (hr2 : Kd.C (Kd.int .u8) w A2 k2.length k2) (hc2 : k2.length ≤ c2) :
    Calls Try.prog 30 #[.pointer (some ⟨gr, 0, none⟩), .slice A1 kk.length c1, .slice A2 k2.length c2, .int .i64 sq] w fun ex w' => ∃ v, ex = .returned v ∧ Kd.N k34 34 w' w.heap.size (fun k => w.heap.size ≤ k) v (scanT R kk k2 sq) ∧ Below w.heap.size w w' := by
  obtain ⟨D, D', _, h2, _⟩ := h
  exact rscan_calls h2 hT hlen A1 c1 kk A2 c2 k2 sq hr1 hc1 hr2 hc2
theorem st_level (hT : FitT T) (hlen : T.length ≤ 1000000) (height : Int) (hh : height ≤ 9223372036854775807) :
    Calls Try.prog 23 #[.pointer (some ⟨g, 0, none⟩), .int .i64 height] w fun ex w' => ∃ v, ex = .returned v ∧ Kd.N k34 34 w' w.heap.size (fun k => w.heap.size ≤ k) v (levT T height) ∧ Below w.heap.size w w' := by
  obtain ⟨D, D', ⟨K, N, nx, hS, hN, _⟩, _⟩ := h
  subst hN
  exact level_calls hS hT (by rw [List.length_map] at hlen; exact hlen) height hh
theorem st_rlevel (hT : FitT R) (hlen : R.length ≤ 1000000) (height : Int) :
    Calls Try.prog 31 #[.pointer (some ⟨gr, 0, none⟩), .int .i64 height] w fun ex w' => ∃ v, ex = .returned v ∧ Kd.N k34 34 w' w.heap.size (fun k => w.heap.size ≤ k) v (levT R height) ∧ Below w.heap.size w w' := by
  obtain ⟨D, D', _, h2, _⟩ := h
  exact rlevel_calls h2 hT hlen height
theorem st_all (hT : FitT T) (hlen : T.length ≤ 1000000) :
    Calls Try.prog 19 #[.pointer (some ⟨g, 0, none⟩)] w fun ex w' => ∃ v, ex = .returned v ∧ Kd.N k34 34 w' w.heap.size (fun k => w.heap.size ≤ k) v (T.map (fun t => t.e)) ∧ Below w.heap.size w w' := by
  obtain ⟨D, D', ⟨K, N, nx, hS, hN, _⟩, _⟩ := h
  subst hN
  exact all_calls hS hT (by rw [List.length_map] at hlen; exact hlen)
theorem st_count : Calls Try.prog 15 #[.pointer (some ⟨g, 0, none⟩)] w fun ex w' => ex = .returned (.int .i64 (T.length : Int)) ∧ Below w.heap.size w w' := by
  obtain ⟨D, D', ⟨K, N, nx, hS, hN, _⟩, _⟩ := h
  exact count_calls hS
theorem st_size : Calls Try.prog 16 #[.pointer (some ⟨g, 0, none⟩)] w fun ex w' => ex = .returned (.int .i64 (sizeT T)) ∧ Below w.heap.size w w' := by
  obtain ⟨D, D', ⟨K, N, nx, hS, hN, _⟩, _⟩ := h
  exact size_calls hS
theorem st_rsize (hT : FitT R) (hlen : R.length ≤ 1000000) : Calls Try.prog 17 #[.pointer (some ⟨gr, 0, none⟩)] w fun ex w' => ex = .returned (.int .i64 (sizeT R)) ∧ Below w.heap.size w w' := by
  obtain ⟨D, D', _, h2, _⟩ := h
  exact rsize_calls h2 hT hlen
end
/-- Rows that are the same are told so. -/
theorem sameC {w : World} {A0 A1 : Option Addr} {c0 c1 : Nat} {l : List S34} (hg : ∀ e ∈ l, Sw.Good e) (hl : l.length ≤ 140737488355328) (h0 : Kd.C k34 w A0 l.length l) (g0 : l.length ≤ c0) (h1 : Kd.C k34 w A1 l.length l) (g1 : l.length ≤ c1) :
    Calls Try.prog 18 #[.slice A0 l.length c0, .slice A1 l.length c1] w fun ex w' => ex = .returned (.bool true) ∧ Below w.heap.size w w' := by
  obtain ⟨K, hf⟩ := same_self hg hl
  exact sawyerref06_Same.calls K A0 c0 l A1 c1 l true w h0 g0 h1 g1 (hf K (Nat.le_refl _))
theorem sameOneC {w : World} {A0 A3 B0 B3 : Option Addr} {c0 c3 d0 d3 : Nat} {e u : S34} (he : Sw.Good e) (hu : Sw.Good u) (h0 : Kd.C (Kd.int .u8) w A0 e.f0.length e.f0) (g0 : e.f0.length ≤ c0) (h3 : Kd.C (Kd.int .u8) w A3 e.f3.length e.f3) (g3 : e.f3.length ≤ c3) (h4 : Kd.C (Kd.int .u8) w B0 u.f0.length u.f0) (g4 : u.f0.length ≤ d0) (h5 : Kd.C (Kd.int .u8) w B3 u.f3.length u.f3) (g5 : u.f3.length ≤ d3) :
    Calls Try.prog 24 #[.agg #[.slice A0 e.f0.length c0, .int .i64 e.f1, .bool e.f2, .slice A3 e.f3.length c3], .agg #[.slice B0 u.f0.length d0, .int .i64 u.f1, .bool u.f2, .slice B3 u.f3.length d3]] w fun ex w' => ex = .returned (.bool (decide (e.f0 = u.f0 ∧ e.f1 = u.f1 ∧ e.f2 = u.f2 ∧ e.f3 = u.f3))) ∧ Below w.heap.size w w' :=
  sawyerref06_SameOne.calls A0 c0 e.f0 e.f1 e.f2 A3 c3 e.f3 B0 d0 u.f0 u.f1 u.f2 B3 d3 u.f3 _ w h0 g0 h3 g3 h4 g4 h5 g5 (sameOne_f he hu)

end Go.Proofs.Ytjlkcidohabcfaa.Sk
