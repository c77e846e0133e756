/- Split, walked. Conditions: those of each theorem. -/
import Derived.Test.YtobjkjmmkbhecaaCore
import Derived.Test.YtobjkjmmkbhecaaHcp
import Derived.Test.YtobjkjmmkbhecaaHcu
import Derived.Test.YtobjkjmmkbhecaaHgp
import Derived.Test.YtobjkjmmkbhecaaHgr
import Derived.Test.YtobjkjmmkbhecaaHpl
import Derived.Test.YtobjkjmmkbhecaaHps
import Derived.Test.YtobjkjmmkbhecaaHrw
import Derived.Test.YtobjkjmmkbhecaaME
import Derived.Test.YtobjkjmmkbhecaaPx0
import Derived.Test.YtobjkjmmkbhecaaSpecA
import Derived.Test.YtobjkjmmkbhecaaMF
namespace Go.Proofs.Ytobjkjmmkbhecaa.Sk
open Go.RowKit Go.Proofs.YtobjkjmmkbhecaaW.PrintWords Go.Proofs.YtobjkjmmkbhecaaW.PrintLast Go.Proofs.YtobjkjmmkbhecaaW.PrintMore Go.Proofs.Ytobjkjmmkbhecaa.Px Go.Proofs.Ytobjkjmmkbhecaa.Sw
set_option linter.unusedVariables false
set_option linter.unusedSimpArgs false

theorem fold_take {α β : Type} (f : β → α → β) (a : β) {gs : List α} {m : Nat} {g : α} (h : gs[m]? = some g) : (gs.take (m + 1)).foldl f a = f ((gs.take m).foldl f a) g := by
 rw [List.take_add_one, h, List.foldl_append]
 rfl
section
variable {α : Type} {key : α → List Int}
theorem pieceE_len (most : Int) (out : List (List α)) (g : List α) : (pieceE most out g).length ≤ out.length + 1 := by
 unfold pieceE
 rcases List.eq_nil_or_concat out with e | ⟨o, p, e⟩
 ·
  subst e; simp
 ·
  subst e
  simp only [List.concat_eq_append, List.getLast?_append, List.getLast?_singleton, Option.some_or, List.dropLast_concat]
  split <;> simp
theorem fold_flat (most : Int) : ∀ (gs out : List (List α)), (gs.foldl (pieceE most) out).flatten = out.flatten ++ gs.flatten
 | [], out => by simp
 | g :: gs, out => by rw [List.foldl_cons, fold_flat most gs, pieceE_flat]; simp
theorem fold_len (most : Int) (gs : List (List α)) : ∀ m, ((gs.take m).foldl (pieceE most) []).length ≤ m
 | 0 => by simp
 | m + 1 => by
  have ih := fold_len most gs m
  cases h : gs[m]? with
  | none => rw [List.take_add_one, h]; simp only [Option.toList_none, List.append_nil]; omega
  | some g => rw [fold_take _ _ h]; have := pieceE_len most ((gs.take m).foldl (pieceE most) []) g; omega
theorem groupsK_len : ∀ (n : Nat) (l : List α), l.length ≤ n → (groupsK key l).length ≤ l.length
 | _, [], _ => by rw [groupsK]; exact Nat.le_refl _
 | 0, x :: l, h => by simp at h
 | n + 1, x :: l, h => by
  have h1 := ofKey_len (key := key) (key x) l
  have h2 := groupsK_len n (ofKey key (key x) l).2 (by simp at h; omega)
  rw [groupsK]
  simp only [List.length_cons]
  omega
/-- No piece is longer than all. -/
theorem fold_bound (most : Int) {gs : List (List α)} {m : Nat} {g : List α} (h : gs[m]? = some g) {X0 : List (List α)} {x : List α} (hX : (gs.take m).foldl (pieceE most) [] = X0 ++ [x]) : x.length + g.length ≤ gs.flatten.length := by
 have h1 := congrArg List.length (fold_flat most (gs.take m) [])
 rw [hX] at h1
 simp only [List.flatten_append, List.flatten_cons, List.flatten_nil, List.append_nil, List.length_append, List.nil_append] at h1
 have h2 : gs = gs.take m ++ g :: gs.drop (m + 1) := by
  obtain ⟨hl, he⟩ := List.getElem?_eq_some_iff.1 h
  conv => lhs; rw [← List.take_append_drop m gs]
  rw [List.drop_eq_getElem_cons hl, he]
 have h3 := congrArg (fun l => l.flatten.length) h2
 simp only [List.flatten_append, List.flatten_cons, List.length_append] at h3
 omega
theorem mem_flat {gs : List (List α)} {m : Nat} {g : List α} (h : gs[m]? = some g) : g.length ≤ gs.flatten.length ∧ ∀ e ∈ g, e ∈ gs.flatten := by
 have hm := List.mem_of_getElem? h
 refine ⟨?_, fun e he => List.mem_flatten.2 ⟨g, hm, he⟩⟩
 obtain ⟨hl, he⟩ := List.getElem?_eq_some_iff.1 h
 have h2 : gs = gs.take m ++ g :: gs.drop (m + 1) := by
  conv => lhs; rw [← List.take_append_drop m gs]
  rw [List.drop_eq_getElem_cons hl, he]
 have h3 := congrArg (fun l => l.flatten.length) h2
 simp only [List.flatten_append, List.flatten_cons, List.length_append] at h3
 omega
end
theorem below_lower2 {w w1 w2 : World} {T : Nat} (h : Below w.heap.size w w1) (h2 : Below T w1 w2) (hT : w.heap.size ≤ T) : Below w.heap.size w w2 :=
 ⟨h2.os.trans h.os, h2.tape.trans h.tape, h2.output.trans h.output, Nat.le_trans h.size h2.size, fun k hk => (h2.block k (Nat.lt_of_lt_of_le hk hT)).trans (h.block k hk)⟩
theorem build1S_run {f : Operand → Value} {o : Oper} {x : Operand} {W : World} {A : Option Addr} {l c : Nat} (ho : o.op = .buildSlice 22 1 #[(0, x)]) (hv : f x = .slice A l c) :
  (execOp f o).run Try.prog W = .ok (.value (.slice (some ⟨W.heap.size, 0, none⟩) 1 1)) (W.alloc (.cells #[.slice A l c] 24 (0, 0))) := by
 have hu := Try.underlying22
 unfold execOp
 simp only [ho]
 go_simp
theorem ht24 : (Try.prog.info? 24).map (·.size) = some (Kd.raw 1).sz := by kernel_rfl
/-- A row of cells: which blocks it may be says nothing of what it leads to. -/
theorem raw_tightN {w : World} {B : Nat} {ok : Nat → Prop} {v : Value} {rows : List (List Value)} {t : Nat} (h : Kd.N (Kd.raw 1) t w B ok v rows) : Kd.N (Kd.raw 1) t w B (fun k => some k = v.ownBlock) v rows := by
 obtain ⟨h0, rows2, hl, hR, hf⟩ := h
 exact ⟨fun k hk => hk.symm, rows2, hl, hR, fun j x c hx hc W' hW => (show (Kd.raw 1).K W' x c from (show (Kd.raw 1).K w x c from Kd.FK_now (hf j x c hx hc)))⟩
set_option maxHeartbeats 4000000 in
set_option maxRecDepth 100000 in
theorem split_calls {w : World} {A : Option Addr} {c : Nat} {xs : List S36} {okF : Nat → Prop} (hF0 : Kd.F k36 w okF A xs.length xs) (hlc : xs.length ≤ c) (hln : xs.length ≤ 1000000000) (hG : ∀ e ∈ xs, EB e ∧ e.f0.length < 140737488355328 ∧ e.f3.length < 140737488355328) (most : Int) :
  Calls Try.prog 19 #[.slice A xs.length c, .int .i64 most] w fun ex w' => ∃ v, ex = .returned v ∧ Kd.N (Kd.slice 36 k36) 24 w' w.heap.size (fun _ => True) v (splitE (fun e : S36 => e.f0) most xs) ∧ Below w.heap.size w w' := by
 obtain ⟨gs, hgs⟩ : ∃ gs, gs = groupsK (fun e : S36 => e.f0) xs := ⟨_, rfl⟩
 have hflat : gs.flatten = xs := by rw [hgs]; exact groupsK_flat xs.length xs (Nat.le_refl _)
 have hglen : gs.length ≤ xs.length := by rw [hgs]; exact groupsK_len xs.length xs (Nat.le_refl _)
 have hspl : splitE (fun e : S36 => e.f0) most xs = gs.foldl (pieceE most) [] := by rw [hgs]; rfl
 rw [hspl]
 have HF := Aside0.mk hF0
 have HLC := Aside0.mk hlc
 have HLN := Aside0.mk hln
 have HGA := Aside0.mk hG
 have HG := Aside0.mk (fun e he => (hG e he).1)
 have HFL := Aside0.mk hflat
 have HGN := Aside0.mk hglen
 have HGS := Aside0.mk hgs
 clear hF0 hlc hln hG hspl hflat hglen hgs
 go_enter Try.func19, Try.ntmps19
 go_wp2_with (first
  | ((with_reducible refine gate_dst (N := 10) rfl ?_); (try (refine gate_guard (by rfl) ?_; dsimp only)); refine goesL_ (some 10) rfl rfl Try.func32 (by kernel_rfl) rfl #[.slice A xs.length c] rfl (by (try simp only [List.map_toArray, List.map_cons, List.map_nil]); first | done | rfl) ?_; refine (groups_calls HF.out HLC.out HLN.out HG.out).mono ?_; rintro ex w1 ⟨v1, rfl, hn1, hb1⟩; refine ⟨_, rfl, ?_⟩; rw [← HGS.out] at hn1; obtain ⟨Ag, cg, rfl⟩ := Kd.N_slice hn1; have n_ := Aside0.mk hn1; clear hn1; have hn1 := n_; clear n_; have n_ := Aside0.mk hb1; clear hb1; have hb1 := n_; clear n_))
 have HGF := Aside0.mk (Kd.F_mono (ok' := fun k => k < w1.heap.size) (Kd.F_bound (Kd.N_F hn1.out)) (fun k hk => hk.2))
 have HGC := Aside0.mk (Kd.N_reads' hn1.out).2.1
 clear hn1 HGS
 go_loopg [5, 12] gs.length (fun kq v5 v12 w' => ∃ (m : Nat) (X : List (List S36)) (rows : List (List Value)) (T : Nat) (Av : Option Addr) (cv : Nat), v5 = .slice Av X.length cv ∧ v12 = .int .i64 (m : Int) ∧ Aside0 (kq + m = gs.length) ∧ Aside0 ((gs.take m).foldl (pieceE most) [] = X) ∧ Aside0 (Kd.N (Kd.raw 1) 24 w' w1.heap.size (fun k => w1.heap.size ≤ k) (.slice Av X.length cv) rows) ∧ Aside0 (Pcs w' w1.heap.size T (Value.slice Av X.length cv).ownBlock rows X) ∧ Aside0 (Below w1.heap.size w1 w'))
 case atStart => exact ⟨0, [], [], _, none, 0, rfl, rfl, ⟨rfl⟩, ⟨rfl⟩, ⟨Kd.N_nil _ _ _ _ _⟩, ⟨Pcs.nil _ _ (Nat.le_refl _)⟩, ⟨Below.refl _ _⟩⟩
 case round =>
  obtain ⟨m, X, rows, T, Av, cv, rfl, rfl, HK, HX, HN, HP, HB⟩ := hrel
  cases gk with
  | zero =>
   as_aux_lemma =>
   have hlt : ((m : Int) < (gs.length : Int)) = False := eq_false (by have h := HK.out; omega)
   go_wp2
   go_ret
   have e := HX.out
   rw [List.take_of_length_le (by have h := HK.out; omega)] at e
   rw [e]
   exact ⟨_, rfl, Kd.N_lower (HP.out.toN HN.out (fun _ _ => trivial)) hb1.out.size, below_step hb1.out HB.out⟩
  | succ k1 =>
   as_aux_lemma =>
   have hml : m < gs.length := by have h := HK.out; omega
   have hlt : ((m : Int) < (gs.length : Int)) = True := eq_true (by omega)
   obtain ⟨g, hg⟩ : ∃ g, gs[m]? = some g := ⟨_, List.getElem?_eq_getElem hml⟩
   have HGI := Aside0.mk hg
   obtain ⟨ag1, Ag0, cg0, hA, hcg, hlg, hFg⟩ := rows_of_F (Kd.F_below HGF.out HB.out) m g hg
   subst hA
   have hmf := mem_flat hg
   rw [HFL.out] at hmf
   have HGL := Aside0.mk (show g.length ≤ 1000000000 by have h1 := hmf.1; have h2 := HLN.out; omega)
   have HGB := Aside0.mk (show ∀ e ∈ g, e.f0.length < 140737488355328 ∧ e.f3.length < 140737488355328 from fun e he => (HGA.out e (hmf.2 e he)).2)
   have HLG := Aside0.mk hlg
   have HFG := Aside0.mk hFg
   have HWK := Aside0.mk (wadd1 (x := m) (z := m + 1) rfl (by have h1 := HGN.out; have h2 := HLN.out; omega))
   have HXM := Aside0.mk (show X.length ≤ m by rw [← HX.out]; exact fold_len most gs m)
   have HFT := Aside0.mk (fold_take (pieceE most) [] hg)
   have HLG2 := Aside0.mk (show m ≤ 1000000000 by have h1 := HGN.out; have h2 := HLN.out; omega)
   clear hg hlg hFg hmf
   rcases List.eq_nil_or_concat X with hX | ⟨X0, x, hX⟩
   ·
    have hz : ((X.length : Int) == 0) = true := by rw [hX]; rfl
    have HPE := Aside0.mk (show pieceE most X g = X ++ [g] by rw [hX]; rfl)
    clear hX
    go_upto_region 7 with (fail)
    go_wp2_with (first
     | ((with_reducible refine gate_dst (N := 35) rfl ?_); (try (refine gate_guard (by rfl) ?_; dsimp only)); refine row_event ?hg (N := 35) ?hd (cs := #[.slice Ag0 g.length cg0]) (t := 24) (n := 1) ?hr ?_; (case hd => rfl); (case hg => rfl); (case hr => first | (go_simp; done) | (go_simp; rfl)); intro g35 hq35 w2 hx35 hb35; have n_ := Aside0.mk hq35; clear hq35; have hq35 := n_; clear n_; have n_ := Aside0.mk hx35; clear hx35; have hx35 := n_; clear n_; have n_ := Aside0.mk hb35; clear hb35; have hb35 := n_; clear n_)
     | ((with_reducible refine gate_dst (N := 36) rfl ?_); (try (refine gate_guard (by rfl) ?_; dsimp only)); refine goesL_ (some 36) rfl rfl Try.func26 (by kernel_rfl) rfl #[.slice (some ⟨g35, 0, none⟩) 1 1] rfl (by (try simp only [List.map_toArray, List.map_cons, List.map_nil]); first | done | rfl) ?_; refine (copies_calls (c := 1) (xss := [g]) (okF := fun k => k < w1.heap.size) (rows1 hx35.out HLG.out (Kd.F_below HFG.out hb35.out)) (by rw [List.flatten_singleton]; exact HGL.out) (by show 1 ≤ 1000000000; omega) (by rw [List.flatten_singleton]; exact HGB.out)).mono ?_; rintro ex w3 ⟨v3, rfl, hn3, hb3⟩; refine ⟨_, rfl, ?_⟩; rw [List.flatten_singleton] at hn3; obtain ⟨A3, c3, rfl⟩ := Kd.N_slice hn3; have n_ := Aside0.mk hn3; clear hn3; have hn3 := n_; clear n_; have n_ := Aside0.mk hb3; clear hb3; have hb3 := n_; clear n_)
     | ((with_reducible refine gate_builtin (b := .append) (xs := #[.tmp 33, .tmp 37]) rfl ?_); at_builtin; refine Kd.N_append (Kd.raw 1) (w0 := w3) w1.heap.size rfl (.tmp 33) (.tmp 37) 22 24 (.slice none 0 0) 24 rfl Try.underlying22 (show (Try.prog.info? 24).map (fun i => (i.zero, i.size, i.bytes)) = some (some (.slice none 0 0), 1, 24) by kernel_rfl) rfl (by decide) (by omega) (.slice Av X.length cv) rows [.slice A3 g.length c3] [.slice A3 g.length c3] (fun k => w1.heap.size ≤ k) (fun _ => False) rfl rfl ?aP ?aH ?aF ?aO ?aB ?aS ?aL ?_; (case aP => exact FK_raw1 rfl); (case aH => exact fun k hk => hk.elim); (case aF => exact fun k hk => by have h1 := HB.out.size; have h2 := hb35.out.size; have h3 := hb3.out.size; omega); (case aO => exact Kd.N_below (Kd.N_below HN.out hb35.out) hb3.out); (case aB => exact Below.refl _ _); (case aS => have h1 := HB.out.size; have h2 := hb35.out.size; have h3 := hb3.out.size; omega); (case aL => have h1 := HP.out.len; have h2 := HXM.out; have h3 := HLG2.out; omega); intro v4 w4 hn4 hb4 hgr4 hat4; obtain ⟨A4, c4, rfl⟩ := Kd.N_slice hn4; have HP4 := Aside0.mk (Pcs.push (HP.out.below hb35.out) hb3.out hn3.out (fun k hk he => by have h1 := Kd.N_base (Kd.N_below HN.out hb35.out) k he.symm; have h2 := Kd.N_lt (Kd.N_below HN.out hb35.out) k he.symm; omega) hgr4 hat4); clear hgr4 hat4; have n_ := Aside0.mk hn4; clear hn4; have hn4 := n_; clear n_; have n_ := Aside0.mk hb4; clear hb4; have hb4 := n_; clear n_))
    go_roundg k1
    case measure => exact Nat.lt_succ_self _
    case rel =>
     have hl4 : rows.length = X.length := HP.out.len
     refine ⟨m + 1, X ++ [g], rows ++ [[.slice A3 g.length c3]], w2.heap.size, A4, c4, by simp only [List.length_append, List.length_cons, List.length_nil, hl4], by first | rfl | rw [HWK.out], ⟨by have h := HK.out; omega⟩, ⟨by rw [HFT.out, HX.out]; exact HPE.out⟩, ⟨?_⟩, ⟨?_⟩, ⟨below_lower2 (below_step (below_step HB.out hb35.out) hb3.out) hb4.out (Nat.le_refl _)⟩⟩
     ·
      have h := hn4.out
      rwa [show (rows ++ [[Value.slice A3 g.length c3]]).length = (X ++ [g]).length by simp [hl4]] at h
     ·
      have h := HP4.out
      rwa [show (rows ++ [[Value.slice A3 g.length c3]]).length = (X ++ [g]).length by simp [hl4]] at h
   ·
    rw [List.concat_eq_append] at hX
    have HXE := Aside0.mk hX
    have HPX := Aside0.mk (show Pcs wr w1.heap.size T (Value.slice Av X.length cv).ownBlock rows (X0 ++ [x]) by rw [← hX]; exact HP.out)
    obtain ⟨rows0, Al, cl, hr, hl0, hlx, hnx⟩ := HPX.out.open_
    have hXl : X.length = X0.length + 1 := by rw [hX]; simp
    obtain ⟨gO, cap, e, hbO, hltO, _⟩ := Kd.N_form HN.out (by rw [hr]; simp)
    injection e with e1 e2 e3
    obtain ⟨ag, hag⟩ : ∃ ag : Addr, ag = ⟨gO, 0, none⟩ := ⟨_, rfl⟩
    rw [← hag] at e1
    subst e1
    have hR0 : rows[X0.length]? = some [.slice Al x.length cl] := by rw [hr, ← hl0]; simp
    have hcl := raw_cell HN.out hR0
    have HCL := Aside0.mk hcl
    have HR0 := Aside0.mk hR0
    have HRW := Aside0.mk hr
    have HL0 := Aside0.mk hl0
    have HLN2 := Aside0.mk hnx
    have HAG := Aside0.mk hag
    have HBO := Aside0.mk (show w1.heap.size ≤ ag.block ∧ ag.block < wr.heap.size by rw [hag]; exact ⟨hbO, hltO⟩)
    have HXL2 := Aside0.mk (show X0.length < X.length by omega)
    have HXG := Aside0.mk (show x.length + g.length ≤ 1000000000 by have h1 := fold_bound most HGI.out (HX.out.trans hX); rw [HFL.out] at h1; have h2 := HLN.out; omega)
    have hz : ((X.length : Int) == 0) = false := beq_eq_false_iff_ne.mpr (by omega)
    have hw1 : wrap64 ((X.length : Int) - 1) = (X0.length : Int) := wsub1 (by omega) (by have h1 := HXM.out; have h2 := HLG2.out; omega)
    have hlt2 : ((X0.length : Int) < (X.length : Int)) = True := eq_true (by omega)
    have hs : wrap64 ((x.length : Int) + (g.length : Int)) = (x.length : Int) + (g.length : Int) := wrap_in (by omega) (by have h := HXG.out; omega)
    clear hX hr hl0 hlx hnx hXl hag hR0 hbO hltO e2 e3
    by_cases hgt : most < (x.length : Int) + (g.length : Int)
    ·
     have hd := eq_true hgt
     have HPE := Aside0.mk (show pieceE most X g = X ++ [g] by rw [HXE.out]; unfold pieceE; simp [hgt])
     clear hgt
     go_upto_region 7 with (fail)
     clear hz hw1 hlt2 hs hd hcl
     go_wp2_with (first
      | ((with_reducible refine gate_dst (N := 35) rfl ?_); (try (refine gate_guard (by rfl) ?_; dsimp only)); refine row_event ?hg (N := 35) ?hd (cs := #[.slice Ag0 g.length cg0]) (t := 24) (n := 1) ?hr ?_; (case hd => rfl); (case hg => rfl); (case hr => first | (go_simp; done) | (go_simp; rfl)); intro g35 hq35 w2 hx35 hb35; have n_ := Aside0.mk hq35; clear hq35; have hq35 := n_; clear n_; have n_ := Aside0.mk hx35; clear hx35; have hx35 := n_; clear n_; have n_ := Aside0.mk hb35; clear hb35; have hb35 := n_; clear n_)
      | ((with_reducible refine gate_dst (N := 36) rfl ?_); (try (refine gate_guard (by rfl) ?_; dsimp only)); refine goesL_ (some 36) rfl rfl Try.func26 (by kernel_rfl) rfl #[.slice (some ⟨g35, 0, none⟩) 1 1] rfl (by (try simp only [List.map_toArray, List.map_cons, List.map_nil]); first | done | rfl) ?_; refine (copies_calls (c := 1) (xss := [g]) (okF := fun k => k < w1.heap.size) (rows1 hx35.out HLG.out (Kd.F_below HFG.out hb35.out)) (by rw [List.flatten_singleton]; exact HGL.out) (by show 1 ≤ 1000000000; omega) (by rw [List.flatten_singleton]; exact HGB.out)).mono ?_; rintro ex w3 ⟨v3, rfl, hn3, hb3⟩; refine ⟨_, rfl, ?_⟩; rw [List.flatten_singleton] at hn3; obtain ⟨A3, c3, rfl⟩ := Kd.N_slice hn3; have n_ := Aside0.mk hn3; clear hn3; have hn3 := n_; clear n_; have n_ := Aside0.mk hb3; clear hb3; have hb3 := n_; clear n_)
      | ((with_reducible refine gate_builtin (b := .append) (xs := #[.tmp 33, .tmp 37]) rfl ?_); at_builtin; refine Kd.N_append (Kd.raw 1) (w0 := w3) w1.heap.size rfl (.tmp 33) (.tmp 37) 22 24 (.slice none 0 0) 24 rfl Try.underlying22 (show (Try.prog.info? 24).map (fun i => (i.zero, i.size, i.bytes)) = some (some (.slice none 0 0), 1, 24) by kernel_rfl) rfl (by decide) (by omega) (.slice (some ag) X.length cv) rows [.slice A3 g.length c3] [.slice A3 g.length c3] (fun k => w1.heap.size ≤ k) (fun _ => False) rfl rfl ?aP ?aH ?aF ?aO ?aB ?aS ?aL ?_; (case aP => exact FK_raw1 rfl); (case aH => exact fun k hk => hk.elim); (case aF => exact fun k hk => by have h1 := HB.out.size; have h2 := hb35.out.size; have h3 := hb3.out.size; omega); (case aO => exact Kd.N_below (Kd.N_below HN.out hb35.out) hb3.out); (case aB => exact Below.refl _ _); (case aS => have h1 := HB.out.size; have h2 := hb35.out.size; have h3 := hb3.out.size; omega); (case aL => have h1 := HP.out.len; have h2 := HXM.out; have h3 := HLG2.out; omega); intro v4 w4 hn4 hb4 hgr4 hat4; obtain ⟨A4, c4, rfl⟩ := Kd.N_slice hn4; have HP4 := Aside0.mk (Pcs.push (HP.out.below hb35.out) hb3.out hn3.out (fun k hk he => by have h1 := Kd.N_base (Kd.N_below HN.out hb35.out) k he.symm; have h2 := Kd.N_lt (Kd.N_below HN.out hb35.out) k he.symm; omega) hgr4 hat4); clear hgr4 hat4; have n_ := Aside0.mk hn4; clear hn4; have hn4 := n_; clear n_; have n_ := Aside0.mk hb4; clear hb4; have hb4 := n_; clear n_))
     go_roundg k1
     case measure => exact Nat.lt_succ_self _
     case rel =>
      have hl4 : rows.length = X.length := HP.out.len
      refine ⟨m + 1, X ++ [g], rows ++ [[.slice A3 g.length c3]], w2.heap.size, A4, c4, by simp only [List.length_append, List.length_cons, List.length_nil, hl4], by first | rfl | rw [HWK.out], ⟨by have h := HK.out; omega⟩, ⟨by rw [HFT.out, HX.out]; exact HPE.out⟩, ⟨?_⟩, ⟨?_⟩, ⟨below_lower2 (below_step (below_step HB.out hb35.out) hb3.out) hb4.out (Nat.le_refl _)⟩⟩
      ·
       have h := hn4.out
       rwa [show (rows ++ [[Value.slice A3 g.length c3]]).length = (X ++ [g]).length by simp [hl4]] at h
      ·
       have h := HP4.out
       rwa [show (rows ++ [[Value.slice A3 g.length c3]]).length = (X ++ [g]).length by simp [hl4]] at h
    ·
     have hd := eq_false hgt
     have HPE := Aside0.mk (show pieceE most X g = X0 ++ [x ++ g] by rw [HXE.out]; unfold pieceE; simp [hgt])
     clear hgt
     go_upto_region 8 with (fail)
     clear hd hs hz
     have HLO := Aside0.mk HP.out.lo
     have HVU := Aside0.mk (show ∀ k, some k = (Value.slice (some ag) X.length cv).ownBlock → some k ≠ (Value.slice Al x.length cl).ownBlock from fun k hk he => HLN2.out.1 k he.symm hk)
     have HNR := Aside0.mk (raw_tightN HN.out)
     refine s_ 14 [13] (fun w' => w'.cell? (ag.add X0.length) = some (.slice Al x.length cl)) (hS := (cell_below_ HCL.out (below_drew (Below.refl _ _)))) (h := fun hHeld => ?_)
     have B2 := Aside0.mk (show Below wr.heap.size wr wr.drew from below_drew (Below.refl _ _))
     have hc2 := Aside0.mk hHeld
     generalize wr.drew = w2 at B2 hc2 hHeld ⊢
     refine p_ 0 39 (bb 14 1) (h := ?_)
     refine p_ 1 40 (bb 14 3) (h := ?_)
     refine p_ 2 41 (bb 14 7) (h := ?_)
     refine p_ 3 42 (bb 14 15) (h := ?_)
     refine p_ 4 43 (bb 14 31) (h := ?_)
     refine p_ 5 44 (bb 14 63) (h := ?_)
     refine p_ 6 45 (bb 14 127) (h := ?_)
     refine t_ 7 46 (bb 14 255) hHeld (h := ?_)
     refine p_ 8 47 (bb 14 511) (h := ?_)
     refine n_ 9 48 (bb 14 1023) (h := fun K hK => ?_)
     refine value_ (w1 := w2.alloc (.cells #[.slice Ag0 g.length cg0] 24 (0, 0))) (v := .slice (some ⟨w2.heap.size, 0, none⟩) 1 1) (by rfl) rfl (build1S_run (x := .tmp 47) rfl rfl) ?_
     have B3 := Aside0.mk (below_alloc (Below.refl w2.heap.size w2) (.cells #[.slice Ag0 g.length cg0] 24 (0, 0)))
     have X3 := Aside0.mk (show (w2.alloc (.cells #[.slice Ag0 g.length cg0] 24 (0, 0))).heap[w2.heap.size]? = some (.cells #[.slice Ag0 g.length cg0] 24 (0, 0)) from blk_new w2 _)
     have hc3 := cell_below_ hc2.out B3.out
     have hc3 := Aside0.mk hc3
     generalize w2.alloc (.cells #[.slice Ag0 g.length cg0] 24 (0, 0)) = w3 at B3 X3 hc3 ⊢
     refine hK.out _ _ hc3.out (fun hHeld => ?_)
     clear hK K
     refine m_ 48 (h := ?_)
     refine n_ 10 49 (bb 14 2047) (h := fun K hK => ?_)
     refine goes_ Try.func26 (by kernel_rfl) rfl #[.slice (some ⟨w2.heap.size, 0, none⟩) 1 1] (by rfl) rfl rfl (by (try simp only [List.map_toArray, List.map_cons, List.map_nil]); first | done | rfl) ?_
     refine (copies_calls (c := 1) (xss := [g]) (okF := fun k => k < w1.heap.size) (rows1 X3.out HLG.out (Kd.F_below (Kd.F_below HFG.out B2.out) B3.out)) (by rw [List.flatten_singleton]; exact HGL.out) (by show 1 ≤ 1000000000; omega) (by rw [List.flatten_singleton]; exact HGB.out)).mono ?_
     rintro ex w4 ⟨v4, rfl, hn4, hb4⟩
     refine ⟨_, rfl, ?_⟩
     rw [List.flatten_singleton] at hn4
     obtain ⟨A4, c4, rfl⟩ := Kd.N_slice hn4
     have hn4 := Aside0.mk hn4
     have hb4 := Aside0.mk hb4
     have hc4 := Aside0.mk (cell_below_ hc3.out hb4.out)
     have B4 := Aside0.mk (below_step (below_step B2.out B3.out) hb4.out)
     refine hK.out _ _ hc4.out (fun hHeld => ?_)
     clear hK K
     refine m_ 49 (h := ?_)
     refine n_ 11 50 (bb 14 4095) (h := fun K hK => ?_)
     refine Kd.N_append_rows_step k36 (w0 := w4) T (by rfl) (.tmp 46) (.tmp 49) 24 36 (.agg #[.slice none 0 0, .int .i64 0, .bool false, .slice none 0 0]) 64 rfl Try.underlying24 info36 rfl (by decide) (by omega) (.slice Al x.length cl) x g _ _ _ (fun k => some k ≠ some ag.block) (fun k => (k < w1.heap.size ∧ k < w3.heap.size) ∨ w3.heap.size ≤ k) rfl rfl ?aO ?aR ?aH ?aF ?aB ?aS ?aL ?_
     case aO => exact Kd.N_below HLN2.out B4.out
     case aR => exact Kd.N_F hn4.out
     case aH => exact fun k hk => ⟨fun he => (by injection he with he; have h1 := HBO.out; have h2 := B3.out.size; have h3 := B2.out.size; omega), fun he => (by have h1 := Kd.N_base HLN2.out k he.symm; have h2 := Kd.N_lt HLN2.out k he.symm; have h3 := HP.out.lo; have h4 := B2.out.size; have h5 := B3.out.size; omega)⟩
     case aF => exact fun k hk he => by injection he with he; have h1 := HBO.out; have h2 := B4.out.size; omega
     case aB => exact Below.refl _ _
     case aS => have h1 := HP.out.hi; have h2 := B4.out.size; omega
     case aL => have h1 := HXG.out; omega
     intro v5 w5 hn5 hb5 hgr5 hat5
     have hn5 := Aside0.mk hn5
     have hgr5 := Aside0.mk hgr5
     have N5 := Aside0.mk (Kd.N_grown (Kd.N_below HNR.out B4.out) hgr5.out (fun k hk he => HVU.out k hk he))
     have B5 := Aside0.mk (show Below w1.heap.size w1 w5 from below_lower2 (below_step HB.out B4.out) hb5 HLO.out)
     clear hb5 hat5
     obtain ⟨A5, c5, e5⟩ := Kd.N_slice hn5.out
     subst e5
     have hc5 := Aside0.mk (raw_cell N5.out HR0.out)
     refine hK.out _ _ hc5.out (fun hHeld => ?_)
     clear hK K
     refine m_ 50 (h := ?_)
     refine p_ 12 51 (bb 14 8191) (h := ?_)
     refine lN_ 13 (bb 14 16383) 24 (.tmp 51) (.tmp 50) X0.length HAG.out N5.out HXL2.out (u := .slice A5 (x ++ g).length c5) (FK_raw1 (u := .slice A5 (x ++ g).length c5) rfl) (fun k hk => False.elim hk) ht24 rfl (by rfl) (by rfl) (by kernel_rfl) (by decide) (by rfl) rfl (by show _ = Value.pointer (some (ag.add (X0.length * 1))); rw [Nat.mul_one]; rfl) rfl (fun w6 hn6 hg6 => ?_)
     refine d_ (h := ?_)
     go_wp2
     go_roundg k1
     case measure => exact Nat.lt_succ_self _
     case rel =>
      refine ⟨m + 1, X0 ++ [x ++ g], rows0 ++ [[.slice A5 (x ++ g).length c5]], T, some ag, cv, ?_, by first | rfl | rw [HWK.out], ⟨by have h := HK.out; omega⟩, ⟨by rw [HFT.out, HX.out]; exact HPE.out⟩, ⟨?_⟩, ⟨?_⟩, ⟨?_⟩⟩
      ·
       rw [show X.length = (X0 ++ [x ++ g]).length by rw [HXE.out]; simp]
      ·
       have h := hn6
       rw [show rows.set X0.length [Value.slice A5 (x ++ g).length c5] = rows0 ++ [[Value.slice A5 (x ++ g).length c5]] by rw [HRW.out, ← HL0.out]; simp, show X.length = (X0 ++ [x ++ g]).length by rw [HXE.out]; simp] at h
       exact Kd.N_mono h (fun k hk => by injection hk with hk; rw [hk]; exact HBO.out.1)
      ·
       have hp := HPX.out
       rw [HRW.out] at hp
       have h5 := hn5.out
       have h6 := hg6
       rw [show gO = ag.block by rw [HAG.out]] at h6
       exact Pcs.grown hp B4.out (fun k hk => Kd.N_base HLN2.out k hk) hgr5.out h5 (fun k hk => hk) h6
      ·
       exact B5.out.grown hg6 (by have h := B5.out.size; omega) (fun k hk => by injection hk with hk; have h := HBO.out.1; rw [HAG.out] at h; show _ ≤ k; rw [← hk]; exact h)
end Go.Proofs.Ytobjkjmmkbhecaa.Sk
