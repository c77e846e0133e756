/- copies: entries in memory of their own. Conditions: those of each theorem. -/
import Derived.Test.YtobjkjmmkbhecaaCore
import Derived.Test.YtobjkjmmkbhecaaMF
import Derived.Test.YtobjkjmmkbhecaaME
import Derived.Test.YtobjkjmmkbhecaaPx0
import Derived.Test.YtobjkjmmkbhecaaMA
import Derived.Test.YtobjkjmmkbhecaaSpecA
import Derived.Test.YtobjkjmmkbhecaaHpl
import Derived.Test.YtobjkjmmkbhecaaHso
namespace Go.Proofs.Ytobjkjmmkbhecaa.Sk
open Go.RowKit Go.Proofs.YtobjkjmmkbhecaaW.PrintWords Go.Proofs.YtobjkjmmkbhecaaW.PrintLast Go.Proofs.YtobjkjmmkbhecaaW.PrintMore Go.Proofs.Ytobjkjmmkbhecaa.Px Go.Proofs.Ytobjkjmmkbhecaa.Sw
set_option linter.unusedVariables false
set_option linter.unusedSimpArgs false

theorem keep4 (W : World) (g : Nat) (v0 v1 v2 v3 : Value) : KeepBut W ((((W.setCell ⟨g, 0, none⟩ v0).setCell ⟨g, 1, none⟩ v1).setCell ⟨g, 2, none⟩ v2).setCell ⟨g, 3, none⟩ v3) g none := by
 exact KeepBut.set_ (KeepBut.set_ (KeepBut.set_ (KeepBut.set_ (KeepBut.of_below (Below.refl _ _) g none) 0 v0) 1 v1) 2 v2) 3 v3
theorem clone_f {l : List Int} (h : l.length < 140737488355328) : slices_Clone_byte_byte.f l = some l := by
 unfold slices_Clone_byte_byte.f
 rw [if_pos h]
/-- A field of an element of a row, written anew with what it was. -/
theorem N_putK {W : World} {base n cap g : Nat} {ok okp : Nat → Prop} {xs : List S36} (h : Kd.N k36 36 W base ok (.slice (some ⟨g, 0, none⟩) n cap) xs) {k : Nat} (hk : k < n) {e : S36} (he : xs[k]? = some e) {B : Option Addr} {d : Nat} (hl : e.f0.length ≤ d) (hF : Kd.F (Kd.int .u8) W okp B e.f0.length e.f0) (hokp : ∀ k, okp k → ok k ∧ k ≠ g) :
  Kd.N k36 36 (W.setCells g (k * 4) [.slice B e.f0.length d]) base ok (.slice (some ⟨g, 0, none⟩) n cap) xs ∧ W.grownBy (W.setCells g (k * 4) [.slice B e.f0.length d]) (some g) := by
 obtain ⟨c, hcl, hFK, hcc, _⟩ := Kd.N_elem h e (k : Int) (by omega) (by omega)
 rw [Int.toNat_natCast, List.getD_eq_getElem?_getD, he] at hFK
 replace hFK : Kd.FK k36 W _ e c := hFK
 obtain ⟨A0, c0, A3, c3, rfl, l0, g0, l3, g3⟩ := k36_openF hFK
 have h2 := Kd.N_seg h (k : Int) (by omega) (by omega) (seg := [.slice B e.f0.length d]) (j := 0) hcl hcc (by show 0 + 1 ≤ 4; omega) (x' := e) (okp := fun k => ok k ∧ k ≠ g) (k36_mkF W _ e hl (Kd.F_mono hF hokp) l3 g3) (fun _ hk => hk)
 rw [Int.toNat_natCast, show xs.set k e = xs from by
  obtain ⟨hlt, hge⟩ := List.getElem?_eq_some_iff.1 he
  rw [← hge]; exact List.set_getElem_self hlt] at h2
 exact h2
section
variable {P : Program} {ops : Array Oper} {Q : Exit → Act → World → Prop} {md : Region.Mode} {S : World → Prop} {ds : List Nat} {fuel : Nat} {l : Array Bool} {a : Act} {oi : Oper} {W : World} {base n cap g : Nat} {ok okp : Nat → Prop} {xs : List S36}
theorem lK_ (i : Nat) (l' : Array Bool) (t : TypeId) (p x : Operand) (k : Nat) {ad : Addr} (had : ad = ⟨g, 0, none⟩) (HN : Kd.N k36 36 W base ok (.slice (some ad) n cap) xs) (hk : k < n) {e : S36} (he : xs[k]? = some e) {B : Option Addr} {d : Nat} (hl : e.f0.length ≤ d) (hF : Kd.F (Kd.int .u8) W okp B e.f0.length e.f0) (hokp : ∀ k, okp k → ok k ∧ k ≠ g)
  (ht : (P.info? t).map (·.size) = some 1) (hi : ops[i]? = some oi) (hN : oi.dst = none) (hc : readyB md ops l l' i = true) (hd : i ∈ ds) (hw : Region.wanted oi (yielded ops a.tmps) = true)
  (hop : oi.op = .store t p x) (hp : a.eval p = .pointer (some (ad.add (k * 4)))) (hx : a.eval x = .slice B e.f0.length d)
  (h : ∀ w1, Kd.N k36 36 w1 base ok (.slice (some ad) n cap) xs → W.grownBy w1 (some g) → wpAnyLast P md ops Q S ds fuel l' a w1) : wpAnyLast P md ops Q S ds (fuel + 1) l a W := by
 subst had
 obtain ⟨h1, h2⟩ := N_putK HN hk he hl hF hokp
 obtain ⟨cur, hh, hcs⟩ := N_blk HN
 have hcap := (Kd.N_reads' HN).2.1
 have hsz : (k36).sz = 4 := rfl
 have hr := run_store_run (P := P) t (.slice B e.f0.length d) [.slice B e.f0.length d] (o := k * 4) hh rfl ht (by rw [hcs, hsz]; show k * 4 + 1 ≤ cap * 4; omega) (by intro v hv; rw [List.mem_singleton.1 hv]; rfl)
 refine l_ i l' (w1 := W.setCells g (k * 4) [.slice B e.f0.length d]) hi hN hc hd hw ?_ (h _ h1 h2)
 rw [add_at, Nat.zero_add] at hp
 unfold execOp
 simp only [hop, hp, hx, Sem.run_bind, Sem.run_pure, Result.andThen_ok, hr]
end
/-- A field of an element of a row, written anew with what it was. -/
theorem N_putV {W : World} {base n cap g : Nat} {ok okp : Nat → Prop} {xs : List S36} (h : Kd.N k36 36 W base ok (.slice (some ⟨g, 0, none⟩) n cap) xs) {k : Nat} (hk : k < n) {e : S36} (he : xs[k]? = some e) {B : Option Addr} {d : Nat} (hl : e.f3.length ≤ d) (hF : Kd.F (Kd.int .u8) W okp B e.f3.length e.f3) (hokp : ∀ k, okp k → ok k ∧ k ≠ g) :
  Kd.N k36 36 (W.setCells g (k * 4 + 3) [.slice B e.f3.length d]) base ok (.slice (some ⟨g, 0, none⟩) n cap) xs ∧ W.grownBy (W.setCells g (k * 4 + 3) [.slice B e.f3.length d]) (some g) := by
 obtain ⟨c, hcl, hFK, hcc, _⟩ := Kd.N_elem h e (k : Int) (by omega) (by omega)
 rw [Int.toNat_natCast, List.getD_eq_getElem?_getD, he] at hFK
 replace hFK : Kd.FK k36 W _ e c := hFK
 obtain ⟨A0, c0, A3, c3, rfl, l0, g0, l3, g3⟩ := k36_openF hFK
 have h2 := Kd.N_seg h (k : Int) (by omega) (by omega) (seg := [.slice B e.f3.length d]) (j := 3) hcl hcc (by show 3 + 1 ≤ 4; omega) (x' := e) (okp := fun k => ok k ∧ k ≠ g) (k36_mkF W _ e l0 g0 hl (Kd.F_mono hF hokp)) (fun _ hk => hk)
 rw [Int.toNat_natCast, show xs.set k e = xs from by
  obtain ⟨hlt, hge⟩ := List.getElem?_eq_some_iff.1 he
  rw [← hge]; exact List.set_getElem_self hlt] at h2
 exact h2
section
variable {P : Program} {ops : Array Oper} {Q : Exit → Act → World → Prop} {md : Region.Mode} {S : World → Prop} {ds : List Nat} {fuel : Nat} {l : Array Bool} {a : Act} {oi : Oper} {W : World} {base n cap g : Nat} {ok okp : Nat → Prop} {xs : List S36}
theorem lV_ (i : Nat) (l' : Array Bool) (t : TypeId) (p x : Operand) (k : Nat) {ad : Addr} (had : ad = ⟨g, 0, none⟩) (HN : Kd.N k36 36 W base ok (.slice (some ad) n cap) xs) (hk : k < n) {e : S36} (he : xs[k]? = some e) {B : Option Addr} {d : Nat} (hl : e.f3.length ≤ d) (hF : Kd.F (Kd.int .u8) W okp B e.f3.length e.f3) (hokp : ∀ k, okp k → ok k ∧ k ≠ g)
  (ht : (P.info? t).map (·.size) = some 1) (hi : ops[i]? = some oi) (hN : oi.dst = none) (hc : readyB md ops l l' i = true) (hd : i ∈ ds) (hw : Region.wanted oi (yielded ops a.tmps) = true)
  (hop : oi.op = .store t p x) (hp : a.eval p = .pointer (some ⟨(ad.add (k * 4)).block, (ad.add (k * 4)).off + 3, none⟩)) (hx : a.eval x = .slice B e.f3.length d)
  (h : ∀ w1, Kd.N k36 36 w1 base ok (.slice (some ad) n cap) xs → W.grownBy w1 (some g) → wpAnyLast P md ops Q S ds fuel l' a w1) : wpAnyLast P md ops Q S ds (fuel + 1) l a W := by
 subst had
 obtain ⟨h1, h2⟩ := N_putV HN hk he hl hF hokp
 obtain ⟨cur, hh, hcs⟩ := N_blk HN
 have hcap := (Kd.N_reads' HN).2.1
 have hsz : (k36).sz = 4 := rfl
 have hr := run_store_run (P := P) t (.slice B e.f3.length d) [.slice B e.f3.length d] (o := k * 4 + 3) hh rfl ht (by rw [hcs, hsz]; show k * 4 + 3 + 1 ≤ cap * 4; omega) (by intro v hv; rw [List.mem_singleton.1 hv]; rfl)
 refine l_ i l' (w1 := W.setCells g (k * 4 + 3) [.slice B e.f3.length d]) hi hN hc hd hw ?_ (h _ h1 h2)
 rw [add_at, Nat.zero_add] at hp
 unfold execOp
 simp only [hop, hp, hx, Sem.run_bind, Sem.run_pure, Result.andThen_ok, hr]
end
set_option maxHeartbeats 4000000 in
set_option maxRecDepth 100000 in
theorem copies_calls {w : World} {A : Option Addr} {c : Nat} {xss : List (List S36)} {okF : Nat → Prop} (hR : Rows w okF A xss) (hl : xss.flatten.length ≤ 1000000000) (hl2 : xss.length ≤ 1000000000) (hb : ∀ e ∈ xss.flatten, e.f0.length < 140737488355328 ∧ e.f3.length < 140737488355328) :
  Calls Try.prog 26 #[.slice A xss.length c] w fun ex w' => ∃ v', ex = .returned v' ∧ Kd.N k36 36 w' w.heap.size (fun k => (okF k ∧ k < w.heap.size) ∨ w.heap.size ≤ k) v' xss.flatten ∧ Below w.heap.size w w' := by
 have huE := Try.underlying36
 have CON := Aside0.mk (concat_calls (c := c) hR hl hl2)
 obtain ⟨xs, hxs⟩ : ∃ xs, xs = xss.flatten := ⟨_, rfl⟩
 rw [← hxs] at CON hl hb ⊢
 have HL := Aside0.mk hl
 have HBD := Aside0.mk hb
 have ht34 : (Try.prog.info? 34).map (·.size) = some 1 := by kernel_rfl
 clear hR hl hl2 hb hxs
 go_enter Try.func26, Try.ntmps26
 go_wp2_with (first
  | ((with_reducible refine gate_dst (N := 7) rfl ?_); (try (refine gate_guard (by rfl) ?_; dsimp only)); refine goesL_ (some 7) rfl rfl Try.func41 (by kernel_rfl) rfl #[.slice A xss.length c] rfl (by (try simp only [List.map_toArray, List.map_cons, List.map_nil]); first | done | rfl) ?_; refine (CON.out).mono ?_; rintro ex w1 ⟨v1, rfl, hn1, hb1⟩; refine ⟨_, rfl, ?_⟩; have n_ := Aside0.mk hn1; clear hn1; have hn1 := n_; clear n_; have n_ := Aside0.mk hb1; clear hb1; have hb1 := n_; clear n_; obtain ⟨Ao, co, e1⟩ := Kd.N_slice hn1.out; subst e1))
 go_loopg [10] xs.length (fun kq v10 w' => ∃ (m : Nat), v10 = .int .i64 (m : Int) ∧ Aside0 (kq + m = xs.length) ∧ Aside0 (Kd.N k36 36 w' w.heap.size (fun k => (okF k ∧ k < w.heap.size) ∨ w.heap.size ≤ k) (.slice Ao xs.length co) xs) ∧ Aside0 (Below w.heap.size w w'))
 case atStart => exact ⟨0, rfl, ⟨by omega⟩, hn1, hb1⟩
 case round =>
  clear hn1 hb1
  obtain ⟨m, rfl, HK, HN, HB⟩ := hrel
  cases gk with
  | zero =>
   have hlt : ((m : Int) < (xs.length : Int)) = False := eq_false (by have h := HK.out; omega)
   go_wp2
   go_ret
   exact ⟨_, rfl, HN.out, HB.out⟩
  | succ k1 =>
   have hml : m < xs.length := by have h := HK.out; omega
   have HML := Aside0.mk hml
   have hlt : ((m : Int) < (xs.length : Int)) = True := eq_true (by omega)
   obtain ⟨z, hz⟩ : ∃ z, xs[m]? = some z := ⟨_, List.getElem?_eq_getElem hml⟩
   have HI := Aside0.mk hz
   have HLZ := Aside0.mk (HBD.out z (List.mem_of_getElem? hz))
   obtain ⟨ad, M0, m0, M3, m3, hA, hd0, hd1, hd2, hd3, hE_⟩ := at_CE (Kd.N_reads' HN.out).2.2 m z hz
   subst hA
   have HE := Aside0.mk hE_
   obtain ⟨gv, hgv⟩ := N_head HN.out
   have HAD := Aside0.mk hgv
   have HWK := Aside0.mk (wadd1 (x := m) (z := m + 1) rfl (by have h := HL.out; omega))
   have HGV := Aside0.mk (show ∀ k, some gv = some k → False ∨ w.heap.size ≤ k from fun k he => .inr (by injection he with he; have h := Kd.N_base HN.out gv (by rw [HAD.out]; rfl); omega))
   clear hE_ hgv hz hml
   go_upto_region 5 with (first
    | ((with_reducible refine gate_dst (N := 5) rfl ?_); (try (refine gate_guard (by rfl) ?_; dsimp only)); refine box_event ?hg (N := 5) ?hd (cs := #[.slice none 0 0, .int .i64 0, .bool false, .slice none 0 0]) (t := 36) ?hr ?_; (case hd => rfl); (case hg => rfl); (case hr => first | (go_simp; done) | (go_simp; rfl)); intro g5 hqg5 w3 hxg5 hbg5; have n_ := Aside0.mk hqg5; clear hqg5; have hqg5 := n_; clear n_; have n_ := Aside0.mk hxg5; clear hxg5; have hxg5 := n_; clear n_; have n_ := Aside0.mk hbg5; clear hbg5; have hbg5 := n_; clear n_; have hcr0 : w3.cell? ⟨g5, 0, none⟩ = some (.slice none 0 0) := (blk_cell hxg5.out 0).trans rfl; have hcr1 : w3.cell? ⟨g5, 1, none⟩ = some (.int .i64 0) := (blk_cell hxg5.out 1).trans rfl; have hcr2 : w3.cell? ⟨g5, 2, none⟩ = some (.bool false) := (blk_cell hxg5.out 2).trans rfl; have hcr3 : w3.cell? ⟨g5, 3, none⟩ = some (.slice none 0 0) := (blk_cell hxg5.out 3).trans rfl; have hfr0 : w3.frozen? ⟨g5, 0, none⟩ = false := blk_frozen hxg5.out 0; have hfr1 : w3.frozen? ⟨g5, 1, none⟩ = false := blk_frozen hxg5.out 1; have hfr2 : w3.frozen? ⟨g5, 2, none⟩ = false := blk_frozen hxg5.out 2; have hfr3 : w3.frozen? ⟨g5, 3, none⟩ = false := blk_frozen hxg5.out 3))
   have X4 := Aside0.mk (show ((((w3.setCell ⟨g5, 0, none⟩ (.slice M0 z.f0.length m0)).setCell ⟨g5, 1, none⟩ (.int .i64 z.f1)).setCell ⟨g5, 2, none⟩ (.bool z.f2)).setCell ⟨g5, 3, none⟩ (.slice M3 z.f3.length m3)).heap[g5]? = some (.cells #[.slice M0 z.f0.length m0, .int .i64 z.f1, .bool z.f2, .slice M3 z.f3.length m3] 36 (0, 0)) from blk_put (blk_put (blk_put (blk_put hxg5.out 0 _ rfl) 1 _ rfl) 2 _ rfl) 3 _ rfl)
   have N4 := Aside0.mk (Kd.N_mono (Kd.N_keep (Kd.N_below (Kd.N_bound HN.out) hbg5.out) (keep4 w3 g5 (.slice M0 z.f0.length m0) (.int .i64 z.f1) (.bool z.f2) (.slice M3 z.f3.length m3)) (fun k hk he => by have h1 := hqg5.out; have h2 := hk.2; omega)) (fun k hk => hk.1))
   have B4n := Aside0.mk (show Below wr.heap.size wr ((((w3.setCell ⟨g5, 0, none⟩ (.slice M0 z.f0.length m0)).setCell ⟨g5, 1, none⟩ (.int .i64 z.f1)).setCell ⟨g5, 2, none⟩ (.bool z.f2)).setCell ⟨g5, 3, none⟩ (.slice M3 z.f3.length m3)) from below_set (below_set (below_set (below_set hbg5.out (Nat.le_of_eq hqg5.out.symm)) (Nat.le_of_eq hqg5.out.symm)) (Nat.le_of_eq hqg5.out.symm)) (Nat.le_of_eq hqg5.out.symm))
   have B4 := Aside0.mk (show Below w.heap.size w ((((w3.setCell ⟨g5, 0, none⟩ (.slice M0 z.f0.length m0)).setCell ⟨g5, 1, none⟩ (.int .i64 z.f1)).setCell ⟨g5, 2, none⟩ (.bool z.f2)).setCell ⟨g5, 3, none⟩ (.slice M3 z.f3.length m3)) from below_step HB.out B4n.out)
   refine s_ 16 [12, 15] (fun w' => w'.cell? ⟨g5, 0, none⟩ = some (.slice M0 z.f0.length m0) ∧ w'.cell? ⟨g5, 3, none⟩ = some (.slice M3 z.f3.length m3)) (hS := ⟨(blk_cell (blk_drew X4.out) 0).trans rfl, (blk_cell (blk_drew X4.out) 3).trans rfl⟩) (h := fun hHeld => ?_)
   have X5 := Aside0.mk (blk_drew X4.out)
   have N5 := Aside0.mk (Kd.N_drew N4.out)
   have B5 := Aside0.mk (below_drew B4.out)
   have B5n := Aside0.mk (below_drew B4n.out)
   clear X4 N4 B4 B4n
   generalize ((((w3.setCell ⟨g5, 0, none⟩ (.slice M0 z.f0.length m0)).setCell ⟨g5, 1, none⟩ (.int .i64 z.f1)).setCell ⟨g5, 2, none⟩ (.bool z.f2)).setCell ⟨g5, 3, none⟩ (.slice M3 z.f3.length m3)).drew = w5 at X5 N5 B5 B5n hHeld ⊢
   refine p_ 0 15 (bb 16 1) (h := ?_)
   refine p_ 1 16 (bb 16 3) (h := ?_)
   refine p_ 2 17 (bb 16 7) (h := ?_)
   refine p_ 3 18 (bb 16 15) (h := ?_)
   refine p_ 4 19 (bb 16 31) (h := ?_)
   refine t_ 5 20 (bb 16 63) hHeld (h := ?_)
   refine p_ 7 22 (bb 16 191) (h := ?_)
   refine t_ 8 23 (bb 16 447) hHeld (h := ?_)
   refine n_ 6 21 (bb 16 511) (h := fun K hK => ?_)
   refine goes_ Try.func42 (by kernel_rfl) rfl #[.slice M0 z.f0.length m0] (by rfl) rfl rfl (by (try simp only [List.map_toArray, List.map_cons, List.map_nil]); first | done | rfl) ?_
   refine (slices_Clone_byte_byte.calls M0 m0 z.f0 z.f0 w5 (Kd.C_below HE.out.2.1 B5n.out) HE.out.1 (clone_f HLZ.out.1)).mono ?_
   rintro ex w6 ⟨v_, rfl, ho_, hb_⟩
   refine ⟨_, rfl, ?_⟩
   obtain ⟨D0, q0, rfl⟩ := Kd.R_slice ho_
   have F0 := Aside0.mk (Kd.F_mono (ok' := fun k => w5.heap.size ≤ k) (Kd.R_F (Kd.R_bound ho_)) (fun _ hk => hk.2.1))
   have L0 := Aside0.mk (Kd.R_reads' ho_).2.1
   have hb6 := Aside0.mk hb_
   clear ho_ hb_
   have X6 := Aside0.mk (blk_below X5.out hb6.out)
   have N6 := Aside0.mk (Kd.N_below N5.out hb6.out)
   have B6 := Aside0.mk (below_step B5.out hb6.out)
   have B6n := Aside0.mk (below_step B5n.out hb6.out)
   refine hK.out _ _ ⟨(blk_cell X6.out 0).trans rfl, (blk_cell X6.out 3).trans rfl⟩ (fun hHeld => ?_)
   clear hK K
   refine m_ 21 (h := ?_)
   refine n_ 9 24 (bb 16 1023) (h := fun K hK => ?_)
   refine goes_ Try.func42 (by kernel_rfl) rfl #[.slice M3 z.f3.length m3] (by rfl) rfl rfl (by (try simp only [List.map_toArray, List.map_cons, List.map_nil]); first | done | rfl) ?_
   refine (slices_Clone_byte_byte.calls M3 m3 z.f3 z.f3 w6 (Kd.C_below HE.out.2.2.2 B6n.out) HE.out.2.2.1 (clone_f HLZ.out.2)).mono ?_
   rintro ex w7 ⟨v_, rfl, ho_, hb_⟩
   refine ⟨_, rfl, ?_⟩
   obtain ⟨D3, q3, rfl⟩ := Kd.R_slice ho_
   have F3 := Aside0.mk (Kd.F_mono (ok' := fun k => w6.heap.size ≤ k) (Kd.R_F (Kd.R_bound ho_)) (fun _ hk => hk.2.1))
   have L3 := Aside0.mk (Kd.R_reads' ho_).2.1
   have hb7 := Aside0.mk hb_
   clear ho_ hb_
   have X7 := Aside0.mk (blk_below X6.out hb7.out)
   have N7 := Aside0.mk (Kd.N_below N6.out hb7.out)
   have B7 := Aside0.mk (below_step B6.out hb7.out)
   have B7n := Aside0.mk (below_step B6n.out hb7.out)
   refine hK.out _ _ ⟨(blk_cell X7.out 0).trans rfl, (blk_cell X7.out 3).trans rfl⟩ (fun hHeld => ?_)
   clear hK K
   refine m_ 24 (h := ?_)
   refine p_ 10 25 (bb 16 2047) (h := ?_)
   refine p_ 11 26 (bb 16 4095) (h := ?_)
   refine lK_ 12 (bb 16 8191) 34 (.tmp 26) (.tmp 21) m HAD.out N7.out HML.out HI.out L0.out (Kd.F_below F0.out hb7.out) (fun k hk => ⟨.inr (Nat.le_trans B5.out.size hk), fun he => by have h1 := Kd.N_lt N5.out gv (by rw [HAD.out]; rfl); omega⟩) ht34 (by rfl) (by rfl) (by kernel_rfl) (by decide) (by rfl) rfl (by first | rfl | (simp only [AtIdx]; rfl)) rfl (fun w8 hn8 hg8 => ?_)
   refine p_ 13 27 (bb 16 16383) (h := ?_)
   refine p_ 14 28 (bb 16 32767) (h := ?_)
   refine lV_ 15 (bb 16 65535) 34 (.tmp 28) (.tmp 24) m HAD.out hn8 HML.out HI.out L3.out (Kd.F_grown F3.out hg8 (fun k hk he => by have h1 := Kd.N_lt N6.out gv (by rw [HAD.out]; rfl); injection he with he; omega)) (fun k hk => ⟨.inr (Nat.le_trans B6.out.size hk), fun he => by have h1 := Kd.N_lt N6.out gv (by rw [HAD.out]; rfl); omega⟩) ht34 (by rfl) (by rfl) (by kernel_rfl) (by decide) (by rfl) rfl (by first | rfl | (simp only [AtIdx]; rfl)) rfl (fun w9 hn9 hg9 => ?_)
   refine d_ (h := ?_)
   go_wp2
   go_roundg k1
   case measure => exact Nat.lt_succ_self _
   case rel => exact ⟨m + 1, by first | rfl | rw [HWK.out], ⟨by have h := HK.out; omega⟩, ⟨hn9⟩, ⟨(Chg.grown (Chg.grown (Chg.of_below B7.out (fun _ => False)) hg8 HGV.out) hg9 HGV.out).below (fun _ hk => hk.elim) (Nat.le_refl _)⟩⟩
end Go.Proofs.Ytobjkjmmkbhecaa.Sk
