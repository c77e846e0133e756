/- The law MergeTwice as a contract of its function. Conditions: those of each theorem. -/
import Derived.Test.YtobjkjmmkbhecaaCore
import Derived.Test.YtobjkjmmkbhecaaHaw
import Derived.Test.YtobjkjmmkbhecaaMF
import Derived.Test.YtobjkjmmkbhecaaHmr
import Derived.Test.YtobjkjmmkbhecaaHod
import Derived.Test.YtobjkjmmkbhecaaHpl
import Derived.Test.YtobjkjmmkbhecaaHps
import Derived.Test.YtobjkjmmkbhecaaHrw
import Derived.Test.YtobjkjmmkbhecaaHso
import Derived.Test.YtobjkjmmkbhecaaHsp
import Derived.Test.YtobjkjmmkbhecaaME
import Derived.Test.YtobjkjmmkbhecaaPx0
import Derived.Test.YtobjkjmmkbhecaaHmo
namespace Go.Proofs.Ytobjkjmmkbhecaa.Sk
open Go.RowKit Go.Proofs.YtobjkjmmkbhecaaW.PrintWords Go.Proofs.YtobjkjmmkbhecaaW.PrintLast Go.Proofs.YtobjkjmmkbhecaaW.PrintMore Go.Proofs.Ytobjkjmmkbhecaa.Px Go.Proofs.Ytobjkjmmkbhecaa.Sw
set_option linter.unusedVariables false
set_option linter.unusedSimpArgs false

/-- How many entries the first rows have, with one more for each row. -/
def sumL (l : List (List S36)) : Nat := (l.map (fun x => x.length + 1)).sum
theorem sumL_take {L : List (List S36)} {i : Nat} {x : List S36} (h : L[i]? = some x) : sumL (L.take (i + 1)) = sumL (L.take i) + x.length + 1 := by
 unfold sumL
 rw [List.take_add_one, h, List.map_append, List.sum_append]
 simp
 omega
theorem sumL_flat : ∀ (L : List (List S36)), L.flatten.length + L.length = sumL L
 | [] => rfl
 | x :: L => by
  have ih := sumL_flat L
  unfold sumL at ih ⊢
  simp only [List.flatten_cons, List.length_append, List.length_cons, List.map_cons, List.sum_cons]
  omega
theorem at_rows {w : World} {A : Option Addr} {n : Nat} {L : List (List S36)} (h : Kd.C (Kd.slice 36 k36) w A n L) {i : Nat} {x : List S36} (hi : L[i]? = some x) : ∃ ad B d, A = some ad ∧ w.cell? (ad.add i) = some (.slice B x.length d) ∧ x.length ≤ d ∧ Kd.F k36 w (fun k => k < w.heap.size) B x.length x := by
 have hh : Kd.Heap (Kd.slice 36 k36) := Kd.heap_slice 36 k36_heap
 obtain ⟨ad, B, d, e, hc, hl, hf⟩ := rows_of_F (Kd.C_F hh h) i x hi
 exact ⟨ad, B, d, e, hc, hl, hf⟩

theorem putAll_len {α : Type} (q : α → α → Int) : ∀ l : List α, (putAll q l).length ≤ l.length := by
 have hput : ∀ (x : α) (m : List α), (putE q x m).length ≤ m.length + 1 := by
  intro x m
  induction m with
  | nil => simp [putE]
  | cons y m ih =>
   unfold putE
   split
   ·
    simp only [List.length_cons]; omega
   ·
    split <;> simp
 have h : ∀ (l acc : List α), (l.foldl (fun acc x => putE q x acc) acc).length ≤ acc.length + l.length := by
  intro l
  induction l with
  | nil => intro acc; simp
  | cons x l ih =>
   intro acc
   have h1 := ih (putE q x acc)
   have h2 := hput x acc
   simp only [List.foldl_cons, List.length_cons]
   omega
 intro l
 have := h l []
 simpa [putAll] using this
theorem rows2 {W : World} {okF : Nat → Prop} {g : Nat} {Aa Ab : Option Addr} {ca cb : Nat} {xa xb : List S36} (hg : W.heap[g]? = some (.cells #[.slice Aa xa.length ca, .slice Ab xb.length cb] 24 (0, 0))) (la : xa.length ≤ ca) (lb : xb.length ≤ cb) (ha : Kd.F k36 W okF Aa xa.length xa) (hb : Kd.F k36 W okF Ab xb.length xb) :
  Rows W okF (some ⟨g, 0, none⟩) [xa, xb] := by
 intro i xs hi
 match i, hi with
 | 0, hi =>
  obtain rfl := Option.some.inj hi
  exact ⟨_, Aa, ca, rfl, (blk_cell hg 0).trans rfl, la, ha⟩
 | 1, hi =>
  obtain rfl := Option.some.inj hi
  exact ⟨_, Ab, cb, rfl, (blk_cell hg 1).trans rfl, lb, hb⟩
 | (j + 2), hi => cases hi
set_option maxHeartbeats 40000000 in
set_option maxRecDepth 100000 in
theorem twice_calls {w : World} {A : Option Addr} {c : Nat} {L : List (List S36)} (hC : Kd.C (Kd.slice 36 k36) w A L.length L) (hlc : L.length ≤ c) (hG : ∀ l ∈ L, l.length ≤ 2199023255488 ∧ ∀ e ∈ l, EB e ∧ e.f0.length < 140737488355328 ∧ e.f3.length < 140737488355328) (hln : L.length ≤ 6000000000000) :
  Calls Try.prog 8 #[.slice A L.length c] w fun ex w' => ex = .returned (.bool true) ∧ Below w.heap.size w w' := by
 have HC := Aside0.mk hC
 have HLC := Aside0.mk hlc
 have HG := Aside0.mk hG
 have HLN := Aside0.mk hln
 clear hC hlc hG hln
 go_enter Try.func8, Try.ntmps8
 go_wp2_with (first
  | ((with_reducible refine gate_dst (N := 7) rfl ?_); (try (refine gate_guard (by rfl) ?_; dsimp only)); refine goesL_ (some 7) rfl rfl Try.func11 (by kernel_rfl) rfl #[] rfl (by (try simp only [List.map_toArray, List.map_cons, List.map_nil]); first | done | rfl) ?_; refine (awake_calls w).mono ?_; rintro ex w1 ⟨rfl, hb1⟩; refine ⟨_, rfl, ?_⟩; have n_ := Aside0.mk hb1; clear hb1; have hb1 := n_; clear n_))
 go_loopg [4, 5] L.length (fun kq v4 v5 w' => ∃ i : Nat, v4 = .int .i64 (sumL (L.take i) : Int) ∧ v5 = .int .i64 (i : Int) ∧ Aside0 (kq + i = L.length) ∧ Aside0 (∀ x ∈ L.take i, x.length ≤ 200) ∧ Aside0 (sumL (L.take i) ≤ 401) ∧ Aside0 (Below w1.heap.size w1 w'))
 case atStart => exact ⟨0, rfl, rfl, ⟨rfl⟩, ⟨fun x hx => by cases hx⟩, ⟨by show 0 ≤ _; omega⟩, ⟨Below.refl _ _⟩⟩
 case round =>
  obtain ⟨i, rfl, rfl, HK, HLL, HSM, HB⟩ := hrel
  cases gk with
  | zero =>
   as_aux_lemma =>
   have hie : L.length ≤ i := by have h := HK.out; omega
   have hlt : ((i : Int) < (L.length : Int)) = False := eq_false (by omega)
   have HLL := Aside0.mk (show ∀ x ∈ L, x.length ≤ 200 by have h := HLL.out; rwa [List.take_of_length_le hie] at h)
   have HSM := Aside0.mk (show sumL L ≤ 401 by have h := HSM.out; rwa [List.take_of_length_le hie] at h)
   have HFL := Aside0.mk (show L.flatten.length ≤ 401 ∧ L.length ≤ 401 by have h1 := sumL_flat L; have h2 := HSM.out; omega)
   clear hie
   obtain ⟨M, hM⟩ : ∃ M, M = putAll cmpE L.flatten := ⟨_, rfl⟩
   have HGD := Aside0.mk (show goodL L.flatten = true from goodL_iff.2 ⟨fun e he => by obtain ⟨x, hx, hex⟩ := List.mem_flatten.1 he; exact (HG.out x hx).2 e hex, by have h := HFL.out; omega⟩)
   have HEA := Aside0.mk (fun e he => ((goodL_iff.1 HGD.out).1 e he).1)
   have hsub : (∀ e ∈ M, e ∈ L.flatten) ∧ M.length ≤ L.flatten.length := by rw [hM]; exact ⟨putAll_sub _, putAll_len _ _⟩
   have HML := Aside0.mk (show M.length ≤ 401 by have h := HFL.out; have h2 := hsub.2; omega)
   have HGE := Aside0.mk (show ∀ e ∈ M, GE e from fun e he => ⟨(HEA.out e (hsub.1 e he)).1, (HEA.out e (hsub.1 e he)).2.1⟩)
   have hgm : ∀ e ∈ M, EB e ∧ e.f0.length < 140737488355328 ∧ e.f3.length < 140737488355328 := fun e he => (goodL_iff.1 HGD.out).1 e (hsub.1 e he)
   have HG1 := Aside0.mk (show goodL [[], M].flatten = true from goodL_iff.2 ⟨fun e he => hgm e (by simpa using he), by have h := HML.out; simp; omega⟩)
   have HG2 := Aside0.mk (show goodL [M, M].flatten = true from goodL_iff.2 ⟨fun e he => hgm e (by simpa using he), by have h := HML.out; simp; omega⟩)
   have HG3 := Aside0.mk (show goodL (M :: L).flatten = true from goodL_iff.2 ⟨fun e he => by
    rcases List.mem_append.1 (by simpa using he : e ∈ M ++ L.flatten) with h | h
    ·
     exact hgm e h
    ·
     exact (goodL_iff.1 HGD.out).1 e h, by have h := HML.out; have h2 := HFL.out; simp only [List.flatten_cons, List.length_append]; omega⟩)
   have hstr : Str cmpE M := by rw [hM]; exact (putAll_ok cmpE_ord _ HEA.out).1
   have HE1 := Aside0.mk (show putAll cmpE [[], M].flatten = M by
    have h := putAll_self cmpE_ord hstr (fun e he => (hgm e he).1)
    simpa using h)
   have HE2 := Aside0.mk (show putAll cmpE [M, M].flatten = M by
    have h := putAll_again cmpE_ord HEA.out M hsub.1
    rw [← hM] at h
    simpa using h)
   have HE3 := Aside0.mk (show putAll cmpE (M :: L).flatten = M by
    have h := putAll_again cmpE_ord HEA.out L.flatten (fun z hz => hz)
    rw [← hM] at h
    simpa using h)
   have HM := Aside0.mk hM
   clear hM hsub hgm hstr
   go_wp2_with (first
    | ((with_reducible refine gate_dst (N := 34) rfl ?_); (try (refine gate_guard (by rfl) ?_; dsimp only)); refine goesL_ (some 34) rfl rfl Try.func13 (by kernel_rfl) rfl #[.slice A L.length c] rfl (by (try simp only [List.map_toArray, List.map_cons, List.map_nil]); first | done | rfl) ?_; refine (merge_calls (c := c) (xss := L) (rows_of_F (Kd.C_F (Kd.heap_slice 36 k36_heap) (Kd.C_below (Kd.C_below HC.out hb1.out) HB.out))) (goodL_iff.1 HGD.out).2 (by have h := HFL.out; omega) (fun e he => ((goodL_iff.1 HGD.out).1 e he).2) (fun e he => ((goodL_iff.1 HGD.out).1 e he).1)).mono ?_; rintro ex w2 ⟨v_, rfl, hn_, hb_⟩; refine ⟨_, rfl, ?_⟩; rw [HM.out.symm] at hn_; obtain ⟨A34, c34, e_⟩ := Kd.N_slice hn_; subst e_; have C34 := Aside0.mk ((Kd.N_reads' hn_).2.2); have L34 := Aside0.mk ((Kd.N_reads' hn_).2.1); have Bw2 := Aside0.mk (hb_); clear hn_ hb_)
    | ((with_reducible refine gate_dst (N := 39) rfl ?_); (try (refine gate_guard (by rfl) ?_; dsimp only)); refine row_event ?hg (N := 39) ?hd (cs := #[.slice A34 M.length c34, .slice A34 M.length c34]) (t := 24) (n := 2) ?hr ?_; (case hd => rfl); (case hg => rfl); (case hr => first | (go_simp; done) | (go_simp; rfl)); intro g39 hq_ w3 hx_ hb_; clear hq_; have Xg39 := Aside0.mk (hx_); have Bw3 := Aside0.mk (hb_); clear hx_ hb_)
    | ((with_reducible refine gate_dst (N := 40) rfl ?_); (try (refine gate_guard (by rfl) ?_; dsimp only)); refine goesL_ (some 40) rfl rfl Try.func13 (by kernel_rfl) rfl #[.slice (some ⟨g39, 0, none⟩) 2 2] rfl (by (try simp only [List.map_toArray, List.map_cons, List.map_nil]); first | done | rfl) ?_; refine (merge_calls (c := 2) (xss := [M, M]) (rows2 Xg39.out L34.out L34.out (Kd.C_F k36_heap (Kd.C_below C34.out Bw3.out)) (Kd.C_F k36_heap (Kd.C_below C34.out Bw3.out))) (goodL_iff.1 HG2.out).2 (by show 2 ≤ _; omega) (fun e he => ((goodL_iff.1 HG2.out).1 e he).2) (fun e he => ((goodL_iff.1 HG2.out).1 e he).1)).mono ?_; rintro ex w4 ⟨v_, rfl, hn_, hb_⟩; refine ⟨_, rfl, ?_⟩; rw [HE2.out] at hn_; obtain ⟨A40, c40, e_⟩ := Kd.N_slice hn_; subst e_; have C40 := Aside0.mk ((Kd.N_reads' hn_).2.2); have L40 := Aside0.mk ((Kd.N_reads' hn_).2.1); have Bw4 := Aside0.mk (hb_); clear hn_ hb_)
    | ((with_reducible refine gate_dst (N := 42) rfl ?_); (try (refine gate_guard (by rfl) ?_; dsimp only)); refine goesL_ (some 42) rfl rfl Try.func12 (by kernel_rfl) rfl #[.slice A40 M.length c40, .slice A34 M.length c34] rfl (by (try simp only [List.map_toArray, List.map_cons, List.map_nil]); first | done | rfl) ?_; refine (same_calls C40.out L40.out (Kd.C_below (Kd.C_below C34.out Bw3.out) Bw4.out) L34.out HGE.out (by have h := HML.out; omega)).mono ?_; rintro ex w5 ⟨rfl, hb_⟩; refine ⟨_, rfl, ?_⟩; have Bw5 := Aside0.mk (hb_); clear hb_)
    | ((with_reducible refine gate_dst (N := 46) rfl ?_); (try (refine gate_guard (by rfl) ?_; dsimp only)); refine row_event ?hg (N := 46) ?hd (cs := #[.slice none 0 0, .slice A34 M.length c34]) (t := 24) (n := 2) ?hr ?_; (case hd => rfl); (case hg => rfl); (case hr => first | (go_simp; done) | (go_simp; rfl)); intro g46 hq_ w6 hx_ hb_; clear hq_; have Xg46 := Aside0.mk (hx_); have Bw6 := Aside0.mk (hb_); clear hx_ hb_)
    | ((with_reducible refine gate_dst (N := 47) rfl ?_); (try (refine gate_guard (by rfl) ?_; dsimp only)); refine goesL_ (some 47) rfl rfl Try.func13 (by kernel_rfl) rfl #[.slice (some ⟨g46, 0, none⟩) 2 2] rfl (by (try simp only [List.map_toArray, List.map_cons, List.map_nil]); first | done | rfl) ?_; refine (merge_calls (c := 2) (xss := [[], M]) (rows2 (xa := []) Xg46.out (Nat.le_refl _) L34.out (Kd.F_nil _ _ _) (Kd.C_F k36_heap (Kd.C_below (Kd.C_below (Kd.C_below (Kd.C_below C34.out Bw3.out) Bw4.out) Bw5.out) Bw6.out))) (goodL_iff.1 HG1.out).2 (by show 2 ≤ _; omega) (fun e he => ((goodL_iff.1 HG1.out).1 e he).2) (fun e he => ((goodL_iff.1 HG1.out).1 e he).1)).mono ?_; rintro ex w7 ⟨v_, rfl, hn_, hb_⟩; refine ⟨_, rfl, ?_⟩; rw [HE1.out] at hn_; obtain ⟨A47, c47, e_⟩ := Kd.N_slice hn_; subst e_; have C47 := Aside0.mk ((Kd.N_reads' hn_).2.2); have L47 := Aside0.mk ((Kd.N_reads' hn_).2.1); have Bw7 := Aside0.mk (hb_); clear hn_ hb_)
    | ((with_reducible refine gate_dst (N := 49) rfl ?_); (try (refine gate_guard (by rfl) ?_; dsimp only)); refine goesL_ (some 49) rfl rfl Try.func12 (by kernel_rfl) rfl #[.slice A47 M.length c47, .slice A34 M.length c34] rfl (by (try simp only [List.map_toArray, List.map_cons, List.map_nil]); first | done | rfl) ?_; refine (same_calls C47.out L47.out (Kd.C_below (Kd.C_below (Kd.C_below (Kd.C_below (Kd.C_below C34.out Bw3.out) Bw4.out) Bw5.out) Bw6.out) Bw7.out) L34.out HGE.out (by have h := HML.out; omega)).mono ?_; rintro ex w8 ⟨rfl, hb_⟩; refine ⟨_, rfl, ?_⟩; have Bw8 := Aside0.mk (hb_); clear hb_)
    | ((with_reducible refine gate_dst (N := 53) rfl ?_); (try (refine gate_guard (by rfl) ?_; dsimp only)); refine Kd.N_lit (Kd.slice 36 k36) _ 24 ?hg (N' := 53) ?hd (xs := [M]) (inner := [.slice A34 M.length c34]) (ok := fun _ => True) (okp := fun _ => True) ?hr ?hp (fun _ hk => hk) trivial (Below.refl _ _) (Nat.le_refl _) (by show 1 ≤ 9223372036854775807; omega) ?_; (case hd => rfl); (case hg => rfl); (case hr => first | (go_simp; done) | (go_simp; rfl)); (case hp => exact Reps.one (Kd.FK_slice_mk L34.out (Kd.F_mono (Kd.C_F k36_heap (Kd.C_below (Kd.C_below (Kd.C_below (Kd.C_below (Kd.C_below (Kd.C_below C34.out Bw3.out) Bw4.out) Bw5.out) Bw6.out) Bw7.out) Bw8.out)) (fun _ _ => trivial))) (Reps.none _ _)); intro v53 w9 ho_ hb_ hg_ hnew_; clear hg_ hnew_; obtain ⟨A53, c53, e_⟩ := Kd.N_slice ho_; have e_ : v53 = .slice A53 1 c53 := e_; subst e_; have N53 := Aside0.mk (ho_); have Bw9 := Aside0.mk (hb_); have HLR := Aside0.mk (Kd.F_below (Kd.C_F (Kd.heap_slice 36 k36_heap) (Kd.C_below (Kd.C_below (Kd.C_below (Kd.C_below (Kd.C_below (Kd.C_below (Kd.C_below (Kd.C_below (Kd.C_below HC.out hb1.out) HB.out) Bw2.out) Bw3.out) Bw4.out) Bw5.out) Bw6.out) Bw7.out) Bw8.out)) hb_); clear ho_ hb_)
    | ((with_reducible refine gate_builtin (b := .append) (xs := #[.tmp 53, .tmp 54]) rfl ?_); (try (refine gate_guard (by rfl) ?_; dsimp only)); at_builtin; refine Kd.N_append_rows (Kd.slice 36 k36) (w0 := w9) w8.heap.size rfl (.tmp 53) (.tmp 54) 22 24 (.slice none 0 0) 24 rfl Try.underlying22 (show (Try.prog.info? 24).map (fun i => (i.zero, i.size, i.bytes)) = some (some (.slice none 0 0), 1, 24) by kernel_rfl) rfl (by decide) (by omega) (.slice A53 1 c53) [M] L _ _ _ (fun _ => True) (fun k => k < w8.heap.size) rfl rfl ?aO ?aR ?aH ?aF ?aB ?aS ?aL ?_; (case aO => exact N53.out); (case aR => exact HLR.out); (case aH => exact fun k hk => ⟨trivial, fun he => by have h1 := Kd.N_base N53.out k he.symm; omega⟩); (case aF => exact fun _ _ => trivial); (case aB => exact Below.refl _ _); (case aS => exact Bw9.out.size); (case aL => have h := HFL.out; show (1 + L.length) * 24 ≤ _; omega); intro v55 w10 hn_ hb_ hgr_ hat_; obtain ⟨A55, c55, e_⟩ := Kd.N_slice hn_; subst e_; have N55 := Aside0.mk (hn_); have Bq10 := Aside0.mk (hb_); have Bw10 := Aside0.mk (below_lower2 Bw9.out hb_ (Nat.le_refl _)); clear hn_ hb_ hgr_ hat_)
    | ((with_reducible refine gate_dst (N := 56) rfl ?_); (try (refine gate_guard (by rfl) ?_; dsimp only)); refine goesL_ (some 56) rfl rfl Try.func13 (by kernel_rfl) rfl #[.slice A55 (M :: L).length c55] rfl (by (try simp only [List.map_toArray, List.map_cons, List.map_nil]); first | done | rfl) ?_; refine (merge_calls (c := c55) (xss := (M :: L)) (rows_of_F (Kd.N_F N55.out)) (goodL_iff.1 HG3.out).2 (by have h := HFL.out; show L.length + 1 ≤ _; omega) (fun e he => ((goodL_iff.1 HG3.out).1 e he).2) (fun e he => ((goodL_iff.1 HG3.out).1 e he).1)).mono ?_; rintro ex w11 ⟨v_, rfl, hn_, hb_⟩; refine ⟨_, rfl, ?_⟩; rw [HE3.out] at hn_; obtain ⟨A56, c56, e_⟩ := Kd.N_slice hn_; subst e_; have C56 := Aside0.mk ((Kd.N_reads' hn_).2.2); have L56 := Aside0.mk ((Kd.N_reads' hn_).2.1); have Bw11 := Aside0.mk (hb_); clear hn_ hb_)
    | ((with_reducible refine gate_dst (N := 58) rfl ?_); (try (refine gate_guard (by rfl) ?_; dsimp only)); refine goesL_ (some 58) rfl rfl Try.func12 (by kernel_rfl) rfl #[.slice A56 M.length c56, .slice A34 M.length c34] rfl (by (try simp only [List.map_toArray, List.map_cons, List.map_nil]); first | done | rfl) ?_; refine (same_calls C56.out L56.out (Kd.C_below (Kd.C_below (Kd.C_below (Kd.C_below (Kd.C_below (Kd.C_below (Kd.C_below (Kd.C_below C34.out Bw3.out) Bw4.out) Bw5.out) Bw6.out) Bw7.out) Bw8.out) Bw10.out) Bw11.out) L34.out HGE.out (by have h := HML.out; omega)).mono ?_; rintro ex w12 ⟨rfl, hb_⟩; refine ⟨_, rfl, ?_⟩; have Bw12 := Aside0.mk (hb_); clear hb_))
   go_ret
   exact ⟨rfl, below_step (below_step (below_step (below_step (below_step (below_step (below_step (below_step (below_step (below_step (below_step hb1.out HB.out) Bw2.out) Bw3.out) Bw4.out) Bw5.out) Bw6.out) Bw7.out) Bw8.out) Bw10.out) Bw11.out) Bw12.out⟩
  | succ k1 =>
   as_aux_lemma =>
   have hil : i < L.length := by have h := HK.out; omega
   have hlt : ((i : Int) < (L.length : Int)) = True := eq_true (by omega)
   obtain ⟨x, hx⟩ : ∃ x, L[i]? = some x := ⟨_, List.getElem?_eq_getElem hil⟩
   have HCW := Aside0.mk (Kd.C_below (Kd.C_below HC.out hb1.out) HB.out)
   obtain ⟨al, B, d, ea, hcx, hlx, hfx⟩ := at_rows HCW.out hx
   subst ea
   have HXI := Aside0.mk hx
   have HXM := Aside0.mk (List.mem_of_getElem? hx)
   have HXB := Aside0.mk (HG.out x HXM.out).1
   have HTK := Aside0.mk (sumL_take hx)
   have HWK := Aside0.mk (wadd1 (x := i) (z := i + 1) rfl (by have h := HLN.out; omega))
   skip
   clear hx hil
   by_cases hl : x.length ≤ 200
   case neg =>
    have hd1 : ((200 : Int) < (x.length : Int)) = True := eq_true (by omega)
    clear hl
    go_wp2
    go_ret
    exact ⟨rfl, below_step hb1.out HB.out⟩
   have hd1 : ((200 : Int) < (x.length : Int)) = False := eq_false (by omega)
   by_cases hn : sumL (L.take i) ≤ 200
   case neg =>
    have hd2 : ((200 : Int) < (sumL (L.take i) : Int)) = True := eq_true (by omega)
    clear hl hn
    go_wp2
    go_ret
    exact ⟨rfl, below_step hb1.out HB.out⟩
   have hd2 : ((200 : Int) < (sumL (L.take i) : Int)) = False := eq_false (by omega)
   have hwa : wrap64 ((sumL (L.take i) : Int) + (x.length : Int)) = (sumL (L.take i) : Int) + (x.length : Int) := wrap_in (by omega) (by omega)
   have hwb : wrap64 ((sumL (L.take i) : Int) + (x.length : Int) + 1) = (sumL (L.take i) : Int) + (x.length : Int) + 1 := wrap_in (by omega) (by omega)
   have HNL := Aside0.mk (show sumL (L.take i) + x.length + 1 ≤ 401 by omega)
   have HXL := Aside0.mk hl
   clear hl hn
   skip
   go_wp2
   go_roundg k1
   case measure => exact Nat.lt_succ_self _
   case rel =>
    refine ⟨i + 1, ?_, ?_, ⟨by have h := HK.out; omega⟩, ⟨fun y hy => ?_⟩, ⟨by rw [HTK.out]; exact HNL.out⟩, ⟨HB.out⟩⟩
    ·
     first | rfl | rw [HWK.out] | (rw [HTK.out]; first | rfl | (congr 1; done) | (congr 1; omega))
    ·
     first | rfl | rw [HWK.out] | (rw [HTK.out]; first | rfl | (congr 1; done) | (congr 1; omega))
    ·
     rw [List.take_add_one, HXI.out] at hy
     rcases List.mem_append.1 hy with e | e
     ·
      exact HLL.out y e
     ·
      have e2 : y = x := by simpa using e
      rw [e2]; exact HXL.out
end Go.Proofs.Ytobjkjmmkbhecaa.Sk
