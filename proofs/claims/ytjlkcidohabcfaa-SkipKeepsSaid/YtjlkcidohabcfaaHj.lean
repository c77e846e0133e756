/- The document's functions of lists of entries, in plain Lean. Conditions: those of each theorem. -/
import Derived.Test.YtjlkcidohabcfaaPx4
import Derived.Test.YtjlkcidohabcfaaPx5
import Derived.Test.YtjlkcidohabcfaaPx13
import Derived.Test.YtjlkcidohabcfaaPx20
import Derived.Test.YtjlkcidohabcfaaPx21
import Derived.Test.YtjlkcidohabcfaaPx22
import Derived.Test.YtjlkcidohabcfaaPx23
import Derived.Test.YtjlkcidohabcfaaPx24
import Derived.Test.YtjlkcidohabcfaaPx25
import Derived.Test.YtjlkcidohabcfaaPx27
import Derived.Test.YtjlkcidohabcfaaPx29
import Derived.Test.YtjlkcidohabcfaaH0
import Derived.Test.YtjlkcidohabcfaaHp
import Derived.Test.YtjlkcidohabcfaaHq
import Derived.Test.YtjlkcidohabcfaaHr
import Derived.Test.YtjlkcidohabcfaaHh
import Derived.Test.YtjlkcidohabcfaaHi
import Derived.Test.YtjlkcidohabcfaaHk
import Derived.Test.YtjlkcidohabcfaaHy
namespace Go.Proofs.Ytjlkcidohabcfaa.Sk
open Go.RowKit Go.Proofs.YtjlkcidohabcfaaW.PrintWords Go.Proofs.YtjlkcidohabcfaaW.PrintLast Go.Proofs.YtjlkcidohabcfaaW.PrintMore Go.Proofs.Ytjlkcidohabcfaa.Px
set_option linter.unusedVariables false
set_option linter.unusedSimpArgs false

open Go.Proofs.Ytjlkcidohabcfaa.Sw
def version (l : List S34) (kk : List Int) (sq : Int) : S34 × Bool := match l.find? (fun e => decide (e.f0 = kk) && decide (e.f1 ≤ sq)) with
  | some e => (e, true)
  | none => (z34, false)
def tup (p : S34 × Bool) : List Int × Int × Bool × List Int × Bool := (p.1.f0, p.1.f1, p.1.f2, p.1.f3, p.2)
theorem str_ne {a b : List Int} (ha : Byts a) (hb : Byts b) (h : a ≠ b) : ¬ (strOfNums a).toList = (strOfNums b).toList := fun h2 => by
  have h0 := str_eq ha hb
  rw [h2] at h0
  simp [h] at h0
theorem version_loop (l : List S34) (kk : List Int) (sq : Int) (hk : Byts kk) (hg : ∀ e ∈ l, Sw.Good e ∧ e.f0.length ≤ 140737488351232 ∧ e.f3.length ≤ 140737488351232) (hl : l.length ≤ 140737488355328) (d : Nat) : ∀ i : Nat, l.length - i = d → i ≤ l.length → Ev (fun k => sawyerref06_Version.l0 k l kk sq (i : Int)) (tup (version (l.drop i) kk sq)) := by
  induction d with
  | zero =>
    intro i hd hi
    rw [List.drop_eq_nil_of_le (by omega)]
    exact Ev.step (fun k => sawyerref06_Version.l0.eq_2 _ _ _ _ _) (Ev.neg (by omega) (Ev.const rfl))
  | succ d ih =>
    intro i hd hi
    have hlt : i < l.length := by omega
    have hm := hg _ (List.getElem_mem hlt)
    have hdr : l.drop i = l[i] :: l.drop (i + 1) := List.drop_eq_getElem_cons hlt
    have ih' := ih (i + 1) (by omega) (by omega)
    rw [hdr]
    refine Ev.step (fun k => sawyerref06_Version.l0.eq_2 _ _ _ _ _) (Ev.pos (by omega) (Ev.pos (by omega) ?_))
    rw [rdE_nat l i hlt, wrap_in (by omega) (by omega)]
    by_cases hk0 : l[i].f0 = kk
    · refine Ev.pos (by rw [hk0]) ?_
      by_cases hs : l[i].f1 ≤ sq
      · refine Ev.pos hs (Ev.bindc (copy_f hm.2.1 hm.2.2) (Ev.const ?_))
        unfold version
        rw [List.find?_cons_of_pos (by simp [hk0, hs])]
        rfl
      · refine Ev.neg hs ?_
        have : version (l[i] :: l.drop (i + 1)) kk sq = version (l.drop (i + 1)) kk sq := by
          unfold version
          rw [List.find?_cons_of_neg (by simp [hs])]
        rw [this]
        exact ih'
    · refine Ev.neg (str_ne hm.1.1 hk hk0) ?_
      have : version (l[i] :: l.drop (i + 1)) kk sq = version (l.drop (i + 1)) kk sq := by
        unfold version
        rw [List.find?_cons_of_neg (by simp [hk0])]
      rw [this]
      exact ih'
theorem version_f (l : List S34) (kk : List Int) (sq : Int) (hk : Byts kk) (hg : ∀ e ∈ l, Sw.Good e ∧ e.f0.length ≤ 140737488351232 ∧ e.f3.length ≤ 140737488351232) (hl : l.length ≤ 140737488355328) : Ev (fun k => sawyerref06_Version.f k l kk sq) (tup (version l kk sq)) := by
  unfold sawyerref06_Version.f
  exact version_loop l kk sq hk hg hl l.length 0 (by omega) (by omega)
/-- Which entries a scan looks at. -/
def inS (a b : List Int) (s : Int) (e : S34) : Bool := !qF a e && (qT b e && !qS s e)
def scanA (a b : List Int) (s : Int) : List S34 → List S34 → List S34
  | out, [] => out
  | out, e :: r => if inS a b s e = true then (if out.length = 0 then scanA a b s (out ++ [e]) r else if (rd_T34 out ((out.length : Int) - 1)).f0 = e.f0 then scanA a b s out r else scanA a b s (out ++ [e]) r) else scanA a b s out r
theorem qF_less (a : List Int) (e : S34) : qF a e = less e.f0 a := rfl
theorem scan_j (l : List S34) (a b : List Int) (s : Int) (x : S34) (hx : Sw.Good x ∧ x.f0.length ≤ 140737488351232 ∧ x.f3.length ≤ 140737488351232) (out : List S34) (hg : ∀ e ∈ out, Sw.Good e) (hl : out.length ≤ 1000000) (i : Int) (R1 R2 : List S34)
    (h1 : Ev (fun k => sawyerref06_Scan.l0 k l a b s out (wrap64 (i + 1))) R1) (h2 : Ev (fun k => sawyerref06_Scan.l0 k l a b s (out ++ [x]) (wrap64 (i + 1))) R2) (skip : Bool) :
    Ev (fun k => sawyerref06_Scan.j1 k l a b s out i skip x.f0 x.f1 x.f2 x.f3) (if skip = true then R1 else if out.length = 0 then R2 else if (rd_T34 out ((out.length : Int) - 1)).f0 = x.f0 then R1 else R2) := by
  refine Ev.step (fun k => sawyerref06_Scan.j1.eq_2 _ _ _ _ _ _ _ _ _ _ _ _) ?_
  by_cases hs : skip = true
  · rw [if_pos hs]
    exact Ev.pos hs h1
  · rw [if_neg hs]
    refine Ev.neg hs ?_
    by_cases h0 : out.length = 0
    · rw [if_pos h0]
      exact Ev.pos (by omega) (Ev.bindc (copy_f hx.2.1 hx.2.2) (Ev.pos (by omega) h2))
    · rw [if_neg h0]
      have hw : wrap64 ((out.length : Int) - 1) = (out.length : Int) - 1 := wrap_in (by omega) (by omega)
      refine Ev.neg (by omega) ?_
      rw [hw]
      refine Ev.pos (by omega) (Ev.pos (by omega) ?_)
      obtain ⟨n, hn⟩ : ∃ n : Nat, out.length = n + 1 := ⟨out.length - 1, by omega⟩
      have hr : rd_T34 out ((out.length : Int) - 1) = out[n]'(by omega) := by
        rw [show (out.length : Int) - 1 = (n : Int) by omega]
        exact rdE_nat out n (by omega)
      rw [hr]
      by_cases hk : (out[n]'(by omega)).f0 = x.f0
      · rw [if_pos hk]
        exact Ev.pos (by rw [hk]) h1
      · rw [if_neg hk]
        exact Ev.neg (str_ne (hg _ (List.getElem_mem _)).1 hx.1.1 hk) (Ev.bindc (copy_f hx.2.1 hx.2.2) (Ev.pos (by omega) h2))
theorem scan_loop (l : List S34) (a b : List Int) (s : Int) (hg : ∀ e ∈ l, Sw.Good e ∧ e.f0.length ≤ 140737488351232 ∧ e.f3.length ≤ 140737488351232) (hl : l.length ≤ 1000000) (d : Nat) : ∀ (i : Nat) (out : List S34), l.length - i = d → i ≤ l.length → out.length ≤ i → (∀ e ∈ out, Sw.Good e) → Ev (fun k => sawyerref06_Scan.l0 k l a b s out (i : Int)) (scanA a b s out (l.drop i)) := by
  induction d with
  | zero =>
    intro i out hd hi ho hgo
    rw [List.drop_eq_nil_of_le (by omega)]
    exact Ev.step (fun k => sawyerref06_Scan.l0.eq_2 _ _ _ _ _ _ _) (Ev.neg (by omega) (Ev.const rfl))
  | succ d ih =>
    intro i out hd hi ho hgo
    have hlt : i < l.length := by omega
    have hm := hg _ (List.getElem_mem hlt)
    have hdr : l.drop i = l[i] :: l.drop (i + 1) := List.drop_eq_getElem_cons hlt
    have hw : wrap64 ((i : Int) + 1) = ((i + 1 : Nat) : Int) := by rw [wrap_in (by omega) (by omega)]; rfl
    have h1 := ih (i + 1) out (by omega) (by omega) (by omega) hgo
    have h2 := ih (i + 1) (out ++ [l[i]]) (by omega) (by omega) (by simp; omega) (fun e he => by
      rcases List.mem_append.1 he with he | he
      · exact hgo e he
      · rw [List.mem_singleton.1 he]; exact hm.1)
    rw [← hw] at h1 h2
    have hj := scan_j l a b s l[i] hm out hgo (by omega) (i : Int) _ _ h1 h2
    rw [hdr]
    show Ev _ (if inS a b s l[i] = true then _ else _)
    refine Ev.step (fun k => sawyerref06_Scan.l0.eq_2 _ _ _ _ _ _ _) (Ev.pos (by omega) (Ev.pos (by omega) ?_))
    rw [rdE_nat l i hlt]
    refine Ev.bind (refLess_f l[i].f0 a (by omega)) ?_
    cases hla : less l[i].f0 a with
    | true =>
      have : inS a b s l[i] = false := by unfold inS; rw [qF_less, hla]; rfl
      rw [this, if_neg (by simp)]
      refine Ev.pos rfl ?_
      have h3 := hj true
      rw [if_pos rfl] at h3
      exact h3
    | false =>
      refine Ev.neg (by simp) ?_
      have h4 := hj (decide (l[i].f1 > s))
      by_cases hb : (b.length : Int) > 0
      · refine Ev.pos hb (Ev.bind (refLess_f l[i].f0 b (by omega)) ?_)
        cases hlb : less l[i].f0 b with
        | true =>
          refine Ev.pos rfl ?_
          have : inS a b s l[i] = !decide (l[i].f1 > s) := by unfold inS qT qS; rw [qF_less, hla, hlb]; simp
          rw [this]
          revert h4
          cases decide (l[i].f1 > s) <;> exact id
        | false =>
          have : inS a b s l[i] = false := by unfold inS qT; rw [hlb]; simp; intro _ hb0; rw [hb0] at hb; simp at hb
          rw [this, if_neg (by simp)]
          refine Ev.neg (by simp) ?_
          have h3 := hj true
          rw [if_pos rfl] at h3
          exact h3
      · refine Ev.neg hb ?_
        have : inS a b s l[i] = !decide (l[i].f1 > s) := by
          unfold inS qT qS
          rw [qF_less, hla]
          have hb0 : b.length = 0 := by omega
          simp [hb0]
        rw [this]
        revert h4
        cases decide (l[i].f1 > s) <;> exact id
theorem scan_f (l : List S34) (a b : List Int) (s : Int) (hg : ∀ e ∈ l, Sw.Good e ∧ e.f0.length ≤ 140737488351232 ∧ e.f3.length ≤ 140737488351232) (hl : l.length ≤ 1000000) : Ev (fun k => sawyerref06_Scan.f k l a b s) (scanA a b s [] l) := by
  unfold sawyerref06_Scan.f
  exact scan_loop l a b s hg hl l.length 0 [] (by omega) (by omega) (by simp) (fun e he => by cases he)
theorem uniqA_key {p p' : S34} (h : p.f0 = p'.f0) : ∀ r : List S34, uniqA eqK p r = uniqA eqK p' r
  | [] => rfl
  | x :: r => by
    unfold uniqA eqK
    rw [h]
theorem scanA_eq (a b : List Int) (s : Int) : ∀ (l : List S34) (out : List S34), scanA a b s out l = out ++ (if h : out.length = 0 then uniq eqK (l.filter (inS a b s)) else uniqA eqK (rd_T34 out ((out.length : Int) - 1)) (l.filter (inS a b s)))
  | [], out => by
    unfold scanA
    split <;> simp [uniq, uniqA]
  | e :: r, out => by
    have hlast : rd_T34 (out ++ [e]) (((out ++ [e]).length : Int) - 1) = e := by
      rw [show ((out ++ [e]).length : Int) - 1 = (out.length : Int) by simp, rdE_nat _ _ (by simp)]
      simp
    unfold scanA
    by_cases hi : inS a b s e = true
    · rw [if_pos hi, List.filter_cons_of_pos hi]
      have h2 := scanA_eq a b s r (out ++ [e])
      rw [dif_neg (by simp), hlast] at h2
      by_cases h0 : out.length = 0
      · rw [if_pos h0, dif_pos h0, h2, List.append_assoc]
        rfl
      · rw [if_neg h0, dif_neg h0]
        by_cases hk : (rd_T34 out ((out.length : Int) - 1)).f0 = e.f0
        · rw [if_pos hk]
          have h1 := scanA_eq a b s r out
          rw [dif_neg h0] at h1
          rw [h1]
          congr 1
          show _ = if eqK e _ = true then _ else _
          rw [if_pos (by unfold eqK; simp [hk]), uniqA_key hk]
        · rw [if_neg hk, h2, List.append_assoc]
          congr 1
          show _ = if eqK e _ = true then _ else _
          rw [if_neg (by unfold eqK; simp; exact fun h => hk h.symm)]
          rfl
    · rw [if_neg hi, List.filter_cons_of_neg hi]
      exact scanA_eq a b s r out
theorem takeWhile_eq_filter {q : S34 → Bool} : ∀ {l : List S34}, l.Pairwise (fun a b => q b = true → q a = true) → l.takeWhile q = l.filter q
  | [], _ => rfl
  | a :: L, h => by
    obtain ⟨h1, h2⟩ := List.pairwise_cons.1 h
    by_cases c : q a = true
    · rw [List.takeWhile_cons_of_pos c, List.filter_cons_of_pos c, takeWhile_eq_filter h2]
    · rw [List.takeWhile_cons_of_neg c, List.filter_cons_of_neg c]
      symm
      rw [List.filter_eq_nil_iff]
      exact fun x hx hq => c (h1 x hx hq)
theorem qT_down {k : List Int} {a b : S34} (h : ahe a b = true) (hb : qT k b = true) : qT k a = true := by
  unfold qT at hb ⊢
  rcases Bool.or_eq_true _ _ ▸ hb with hb | hb
  · rw [hb]; rfl
  · have h1 := qF_down (k := k) h hb
    unfold qF at h1
    rw [h1]
    simp
/-- The two scans are the same. -/
theorem scan_same {T : List Tw} (hT : FitT T) (a b : List Int) (s : Int) : scanA a b s [] (T.map (fun t => t.e)) = scanT T a b s := by
  rw [scanA_eq, dif_pos (show ([] : List S34).length = 0 from rfl), List.nil_append]
  unfold scanT
  have h1 : ((T.filter (fun t => !qF a t.e)).map (fun t => t.e)) = (T.map (fun t => t.e)).filter (fun e => !qF a e) := by
    rw [List.filter_map]
    rfl
  have hp : ((T.map (fun t => t.e)).filter (fun e => !qF a e)).Pairwise (fun x y => qT b y = true → qT b x = true) :=
    ((List.pairwise_map.2 hT.srt).imp (fun {x y} h h2 => qT_down h h2)).filter _
  rw [h1, takeWhile_eq_filter hp, List.filter_filter, List.filter_filter]
  congr 1
  apply List.filter_congr
  intro e _
  unfold inS
  cases qF a e <;> cases qT b e <;> cases qS s e <;> rfl
/-- The two ways to a key's version are the same. -/
theorem version_same {T : List Tw} (hT : FitT T) (kk : List Int) (sq : Int) : version (T.map (fun t => t.e)) kk sq = getN T kk sq := by
  have key : (T.map (fun t => t.e)).find? (fun e => decide (e.f0 = kk) && decide (e.f1 ≤ sq)) = ((T.filter (fun t => !qB kk sq t.e)).map (fun t => t.e)).find? (fun e => decide (e.f0 = kk) && decide (e.f1 ≤ sq)) := by
    rw [show (T.filter (fun t => !qB kk sq t.e)).map (fun t => t.e) = (T.map (fun t => t.e)).filter (fun e => !qB kk sq e) by rw [List.filter_map]; rfl, List.find?_filter]
    congr 1
    funext e
    unfold qB
    by_cases h1 : e.f0 = kk
    · rw [h1, less_irrefl]
      by_cases h2 : e.f1 ≤ sq
      · have : ¬ sq < e.f1 := by omega
        simp [h2, this]
      · simp [h2]
    · simp [h1]
  unfold version getN
  rw [key]
  cases hY : T.filter (fun t => !qB kk sq t.e) with
  | nil => rfl
  | cons y Y =>
    have hm : y ∈ T.filter (fun t => !qB kk sq t.e) := by rw [hY]; simp
    have hq := (List.mem_filter.1 hm).2
    simp only [List.head?_cons]
    by_cases hk : y.e.f0 = kk
    · rw [if_pos hk, List.map_cons, List.find?_cons_of_pos (by
        unfold qB at hq
        rw [hk, less_irrefl] at hq
        simp at hq
        simp [hk, hq])]
    · rw [if_neg hk]
      have hn : (List.map (fun t => t.e) (y :: Y)).find? (fun e => decide (e.f0 = kk) && decide (e.f1 ≤ sq)) = none := by
        rw [List.find?_eq_none]
        intro e he
        obtain ⟨t, ht, rfl⟩ := List.mem_map.1 he
        have hlt : less kk y.e.f0 = true := by
          rcases less_total (fun h => hk h.symm) with h | h
          · exact h
          · unfold qB at hq
            rw [h] at hq
            simp at hq
        have hne : t.e.f0 ≠ kk := by
          rcases List.mem_cons.1 ht with rfl | ht
          · exact hk
          · have hp := hT.srt.filter (fun t => !qB kk sq t.e)
            rw [hY] at hp
            have h1 := (List.pairwise_cons.1 hp).1 t ht
            intro h2
            have h3 := ahe_less h1
            rw [h2, hlt] at h3
            cases h3
        simp [hne]
      rw [hn]
end Go.Proofs.Ytjlkcidohabcfaa.Sk
