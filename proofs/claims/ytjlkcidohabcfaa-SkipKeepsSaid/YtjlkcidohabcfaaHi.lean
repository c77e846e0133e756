/- The skip list's Scan, walked. Conditions: those of each theorem. -/
import Derived.Test.YtjlkcidohabcfaaPx4
import Derived.Test.YtjlkcidohabcfaaPx5
import Derived.Test.YtjlkcidohabcfaaH0
import Derived.Test.YtjlkcidohabcfaaHp
import Derived.Test.YtjlkcidohabcfaaHq
import Derived.Test.YtjlkcidohabcfaaHr
import Derived.Test.YtjlkcidohabcfaaHu
import Derived.Test.YtjlkcidohabcfaaHv
import Derived.Test.YtjlkcidohabcfaaHw
import Derived.Test.YtjlkcidohabcfaaHf
import Derived.Test.YtjlkcidohabcfaaHg
import Derived.Test.YtjlkcidohabcfaaHh
import Derived.Test.YtjlkcidohabcfaaHy
namespace Go.Proofs.Ytjlkcidohabcfaa.Sk
open Go.RowKit Go.Proofs.YtjlkcidohabcfaaW.PrintWords Go.Proofs.YtjlkcidohabcfaaW.PrintLast Go.Proofs.YtjlkcidohabcfaaW.PrintMore Go.Proofs.Ytjlkcidohabcfaa.Px
set_option linter.unusedVariables false
set_option linter.unusedSimpArgs false

open Go.Proofs.Ytjlkcidohabcfaa.Sw
/-- What Scan tells. -/
def scanT (T : List Tw) (a b : List Int) (s : Int) : List S34 := uniq eqK ((((T.filter (fun t => !qF a t.e)).map (fun t => t.e)).takeWhile (qT b)).filter (fun e => !qS s e))
theorem takeWhile_map' {α β : Type} (f : α → β) (p : β → Bool) : ∀ l : List α, (l.map f).takeWhile p = (l.takeWhile (fun x => p (f x))).map f
  | [] => rfl
  | a :: l => by
    rw [List.map_cons, List.takeWhile_cons, List.takeWhile_cons]
    split
    · rw [List.map_cons, takeWhile_map' f p l]
    · rfl
theorem outs_from {N : List (Nat × Tw)} {a b : List Int} : outs (qT b) (N.filter (fun p => !qF a p.2.e)) = (((N.map Prod.snd).filter (fun t => !qF a t.e)).map (fun t => t.e)).takeWhile (qT b) := by
  unfold outs
  rw [map_filter_snd N (fun e => !qF a e), List.map_map, takeWhile_map']
  rfl
theorem says_seq {w : World} {gb : Nat} {sq : Int} {S : Nat → Prop} (hgb : w.heap[gb]? = some (.cells #[.int .i64 sq] 3 (0, 0))) (hS : ¬ S gb) (G : S34 → Prop) : Says1 w S G 41 #[.pointer (some ⟨gb, 0, none⟩)] (qS sq) := fun e A0 c0 A3 c3 w1 _ hk hl hc _ _ => scan_three gb A0 c0 e A3 c3 sq w1 ((hk.2 gb (blk_lt hgb) hS).trans hgb)
theorem says_key (w : World) (S : Nat → Prop) : Says2 w S Sw.Good 43 #[] eqK := fun e A0 c0 A3 c3 u B0 d0 B3 d3 w1 he hu _ hl hc _ _ hl2 hc2 _ _ => scan_four A0 c0 e A3 c3 B0 d0 u B3 d3 w1 hc hl he.1 hc2 hl2 hu.1
set_option maxHeartbeats 4000000 in
set_option maxRecDepth 100000 in
theorem scan_calls {w : World} {K : Nat → Prop} {g : Nat} {N : List (Nat × Tw)} {nx : Nat → Nat → Option Nat} {cnt sz : Int} (hS : SLat w K g N nx cnt sz) (hT : FitT (N.map Prod.snd)) (hlen : N.length ≤ 1000000) (A1 : Option Addr) (c1 : Nat) (kk : List Int) (A2 : Option Addr) (c2 : Nat) (k2 : List Int) (sq : Int) (hr1 : Kd.C (Kd.int .u8) w A1 kk.length kk) (hc1 : kk.length ≤ c1) (hk : Byts kk) (hr2 : Kd.C (Kd.int .u8) w A2 k2.length k2) (hc2 : k2.length ≤ c2) (hk2 : Byts k2) :
    Calls Try.prog 22 #[.pointer (some ⟨g, 0, none⟩), .slice A1 kk.length c1, .slice A2 k2.length c2, .int .i64 sq] w fun ex w' => ∃ v, ex = .returned v ∧ Kd.N k34 34 w' w.heap.size (fun k => w.heap.size ≤ k) v (scanT (N.map Prod.snd) kk k2 sq) ∧ Below w.heap.size w w' := by
  have hu34 := Try.underlying34
  have hu57 := Try.underlying57
  have hu59 := Try.underlying59
  have HP := Aside0.mk (hT.down (q := qF kk) (fun a b h h2 => qF_down h h2))
  have HPD := Aside0.mk (OnWay.pd (g := g) HP.out 0)
  rw [hT.low] at HPD
  have HNX := Aside0.mk (HPD.out.next hS (by omega))
  have HROW := Aside0.mk (Row.of_way hS (by omega) HPD.out)
  have HG5 := Aside0.mk (show ∀ e, e ∈ outs (qT k2) (N.filter (fun p => !qF kk p.2.e)) → Sw.Good e by
    intro e he
    unfold outs at he
    obtain ⟨p, hp, rfl⟩ := List.mem_map.1 he
    exact (hT.at_ (List.mem_filter.1 ((List.takeWhile_sublist _).mem hp)).1).2.1)
  have HG6 := Aside0.mk (show ∀ e, e ∈ (outs (qT k2) (N.filter (fun p => !qF kk p.2.e))).filter (fun e => !qS sq e) → Sw.Good e from fun e he => HG5.out e (List.mem_filter.1 he).1)
  have HRES := Aside0.mk (show uniq eqK ((outs (qT k2) (N.filter (fun p => !qF kk p.2.e))).filter (fun e => !qS sq e)) = scanT (N.map Prod.snd) kk k2 sq by
    unfold scanT
    rw [outs_from])
  obtain ⟨o, ho⟩ : ∃ o, o = ((N.filter (fun p => !qF kk p.2.e)).map Prod.fst).head? := ⟨_, rfl⟩
  have HO := Aside0.mk (HNX.out.trans ho.symm)
  have HZ := Aside0.mk (ho.trans List.head?_map)
  clear ho
  have HS := Aside0.mk hS
  have HT := Aside0.mk hT
  have HLEN := Aside0.mk hlen
  have HR1 := Aside0.mk hr1
  clear hr1
  have HC1 := Aside0.mk hc1
  clear hc1
  have HK := Aside0.mk hk
  clear hk
  have HR2 := Aside0.mk hr2
  clear hr2
  have HC2 := Aside0.mk hc2
  clear hc2
  have HK2 := Aside0.mk hk2
  clear hk2
  clear hS hT hlen
  have hix : ∀ w, (Instr.index 57 (.agg (pcells N g (qF kk))) (.int .i64 0)).run Try.prog w = .ok (.pointer (some ⟨pd N g (qF kk) 0, 0, none⟩)) w := fun w => idx57 N g (qF kk) w 0 (by omega)
  go_enter Try.func22, Try.ntmps22
  go_wp2_with (first
    | ((with_reducible refine gate_dst (N := 5) rfl ?_); (try (refine gate_guard (by rfl) ?_; dsimp only)); refine box_event ?hg (N := 5) ?hd (cs := #[.slice A1 kk.length c1]) (t := 32) ?hr ?_; (case hd => rfl); (case hg => rfl); (case hr => first | (go_simp; done) | (go_simp; rfl)); intro ga hqga w1 hxga hbga; have n_ := Aside0.mk hqga; clear hqga; have hqga := n_; clear n_; have n_ := Aside0.mk hxga; clear hxga; have hxga := n_; clear n_; have n_ := Aside0.mk hbga; clear hbga; have hbga := n_; clear n_)
    | ((with_reducible refine gate_dst (N := 6) rfl ?_); (try (refine gate_guard (by rfl) ?_; dsimp only)); refine box_event ?hg (N := 6) ?hd (cs := #[.slice A2 k2.length c2]) (t := 32) ?hr ?_; (case hd => rfl); (case hg => rfl); (case hr => first | (go_simp; done) | (go_simp; rfl)); intro gt hqgt w2 hxgt hbgt; have n_ := Aside0.mk hqgt; clear hqgt; have hqgt := n_; clear n_; have n_ := Aside0.mk hxgt; clear hxgt; have hxgt := n_; clear n_; have n_ := Aside0.mk hbgt; clear hbgt; have hbgt := n_; clear n_; have GA2 := Aside0.mk (blk_below hxga.out hbgt.out))
    | ((with_reducible refine gate_dst (N := 7) rfl ?_); (try (refine gate_guard (by rfl) ?_; dsimp only)); refine box_event ?hg (N := 7) ?hd (cs := #[.int .i64 sq]) (t := 3) ?hr ?_; (case hd => rfl); (case hg => rfl); (case hr => first | (go_simp; done) | (go_simp; rfl)); intro gb hqgb w3 hxgb hbgb; have n_ := Aside0.mk hqgb; clear hqgb; have hqgb := n_; clear n_; have n_ := Aside0.mk hxgb; clear hxgb; have hxgb := n_; clear n_; have n_ := Aside0.mk hbgb; clear hbgb; have hbgb := n_; clear n_; have GA3 := Aside0.mk (blk_below GA2.out hbgb.out); have GT3 := Aside0.mk (blk_below hxgt.out hbgb.out); have B13 := Aside0.mk (below_step hbga.out (below_step hbgt.out hbgb.out)); have S3 := Aside0.mk (HS.out.below B13.out))
    | ((with_reducible refine gate_callee (f := 32) rfl ?_); (try (refine gate_guard (by rfl) ?_; dsimp only)); refine goesL_ (some 15) rfl rfl Try.func32 (by kernel_rfl) rfl #[.pointer (some ⟨g, 0, none⟩), .func (.func 36) #[] #[.pointer (some ⟨ga, 0, none⟩)]] rfl (by (try simp only [List.map_toArray, List.map_cons, List.map_nil]); first | done | rfl) ?_; refine (path_calls S3.out (qF kk) HP.out 36 _ _ Try.func36 (by kernel_rfl) rfl (so_from HT.out GA3.out (Kd.C_below HR1.out B13.out) HC1.out HK.out)).mono ?_; rintro ex w4 ⟨rfl, hb4⟩; refine ⟨_, rfl, ?_⟩; have n_ := Aside0.mk hb4; clear hb4; have hb4 := n_; clear n_; have B14 := Aside0.mk (below_step B13.out hb4.out); have S4 := Aside0.mk (HS.out.below B14.out); have GT4 := Aside0.mk (blk_below GT3.out hb4.out); have GB4 := Aside0.mk (blk_below hxgb.out hb4.out); have hcn : w4.cell? ⟨pd N g (qF kk) 0, 5, none⟩ = some (pv o) := (S4.out.cell HPD.out.mem (j := 0) (by omega)).trans (congrArg (fun x => some (pv x)) HO.out))
    | ((with_reducible refine gate_callee (f := 38) rfl ?_); (try (refine gate_guard (by rfl) ?_; dsimp only)); refine goesL_ (some 23) rfl rfl Try.func38 (by kernel_rfl) rfl #[pv o, .int .i64 0, .func (.func 39) #[] #[.pointer (some ⟨gt, 0, none⟩)]] rfl (by (try simp only [List.map_toArray, List.map_cons, List.map_nil]); first | done | rfl) ?_; refine (calls_of_args (by rw [HZ.out] <;> rfl) (along_calls S4.out HT.out HLEN.out 0 (by omega) (N.filter (fun p => !qF kk p.2.e)) (fun p hp => (List.mem_filter.1 hp).1) (List.length_filter_le _ _) (HROW.out) (qT k2) 39 _ #[.pointer (some ⟨gt, 0, none⟩)] Try.func39 (by kernel_rfl) rfl (so_to HT.out GT4.out (Kd.C_below HR2.out B14.out) HC2.out HK2.out))).mono ?_; rintro ex w5 ⟨v5, rfl, hn5, hb5⟩; refine ⟨_, rfl, ?_⟩; have n_ := Aside0.mk hn5; clear hn5; have hn5 := n_; clear n_; have n_ := Aside0.mk hb5; clear hb5; have hb5 := n_; clear n_; have B15 := Aside0.mk (below_step B14.out hb5.out); have GB5 := Aside0.mk (blk_below GB4.out hb5.out))
    | ((with_reducible refine gate_callee (f := 40) rfl ?_); (try (refine gate_guard (by rfl) ?_; dsimp only)); refine goesL_ (some 26) rfl rfl Try.func40 (by kernel_rfl) rfl #[v5, .func (.func 41) #[] #[.pointer (some ⟨gb, 0, none⟩)]] rfl (by (try simp only [List.map_toArray, List.map_cons, List.map_nil]); first | done | rfl) ?_; refine (delete_calls hn5.out HG5.out 41 _ #[.pointer (some ⟨gb, 0, none⟩)] Try.func41 (by kernel_rfl) rfl (says_seq GB5.out (fun he => by have h1 := Kd.N_base hn5.out gb he.symm; have h2 := blk_lt GB4.out; omega) Sw.Good)).mono ?_; rintro ex w6 ⟨v6, rfl, hn6, hch6⟩; refine ⟨_, rfl, ?_⟩; have n_ := Aside0.mk hn6; clear hn6; have hn6 := n_; clear n_; have n_ := Aside0.mk hch6; clear hch6; have hch6 := n_; clear n_)
    | ((with_reducible refine gate_callee (f := 42) rfl ?_); (try (refine gate_guard (by rfl) ?_; dsimp only)); refine goesL_ (some 28) rfl rfl Try.func42 (by kernel_rfl) rfl #[v6, .func (.func 43) #[] #[]] rfl (by (try simp only [List.map_toArray, List.map_cons, List.map_nil]); first | done | rfl) ?_; refine (compact_calls hn6.out HG6.out 43 _ #[] Try.func43 (by kernel_rfl) rfl (says_key _ _)).mono ?_; rintro ex w7 ⟨v7, rfl, hn7, hch7⟩; refine ⟨_, rfl, ?_⟩; have n_ := Aside0.mk hn7; clear hn7; have hn7 := n_; clear n_; have n_ := Aside0.mk hch7; clear hch7; have hch7 := n_; clear n_))
  go_ret
  have h5 := B15.out.size
  have h6 := B14.out.size
  exact ⟨v7, rfl, HRES.out ▸ Kd.N_mono (Kd.N_lower hn7.out h6) (fun k hk => Nat.le_trans h6 hk), (((Chg.of_below B15.out (fun _ => False)).trans hch6.out (fun k hk => .inr (by have := Kd.N_base hn5.out k hk.symm; omega))).trans hch7.out (fun k hk => .inr (by have := Kd.N_base hn6.out k hk.symm; omega))).below (fun k hk => hk.elim) (Nat.le_refl _)⟩

set_option maxHeartbeats 4000000 in
set_option maxRecDepth 100000 in
theorem scan_nil (w : World) (A1 : Option Addr) (c1 n1 : Nat) (A2 : Option Addr) (c2 n2 : Nat) (sq : Int) : Calls Try.prog 22 #[.pointer none, .slice A1 n1 c1, .slice A2 n2 c2, .int .i64 sq] w fun ex w' => ex = .returned (.slice none 0 0) ∧ Below w.heap.size w w' := by
  go_enter Try.func22, Try.ntmps22
  go_wp2_with (first
    | ((with_reducible refine gate_dst (N := 5) rfl ?_); (try (refine gate_guard (by rfl) ?_; dsimp only)); refine box_event ?hg (N := 5) ?hd (cs := #[.slice A1 n1 c1]) (t := 32) ?hr ?_; (case hd => rfl); (case hg => rfl); (case hr => first | (go_simp; done) | (go_simp; rfl)); intro ga hqga w1 hxga hbga; have n_ := Aside0.mk hqga; clear hqga; have hqga := n_; clear n_; have n_ := Aside0.mk hxga; clear hxga; have hxga := n_; clear n_; have n_ := Aside0.mk hbga; clear hbga; have hbga := n_; clear n_)
    | ((with_reducible refine gate_dst (N := 6) rfl ?_); (try (refine gate_guard (by rfl) ?_; dsimp only)); refine box_event ?hg (N := 6) ?hd (cs := #[.slice A2 n2 c2]) (t := 32) ?hr ?_; (case hd => rfl); (case hg => rfl); (case hr => first | (go_simp; done) | (go_simp; rfl)); intro gt hqgt w2 hxgt hbgt; have n_ := Aside0.mk hqgt; clear hqgt; have hqgt := n_; clear n_; have n_ := Aside0.mk hxgt; clear hxgt; have hxgt := n_; clear n_; have n_ := Aside0.mk hbgt; clear hbgt; have hbgt := n_; clear n_)
    | ((with_reducible refine gate_dst (N := 7) rfl ?_); (try (refine gate_guard (by rfl) ?_; dsimp only)); refine box_event ?hg (N := 7) ?hd (cs := #[.int .i64 sq]) (t := 3) ?hr ?_; (case hd => rfl); (case hg => rfl); (case hr => first | (go_simp; done) | (go_simp; rfl)); intro gb hqgb w3 hxgb hbgb; have n_ := Aside0.mk hqgb; clear hqgb; have hqgb := n_; clear n_; have n_ := Aside0.mk hxgb; clear hxgb; have hxgb := n_; clear n_; have n_ := Aside0.mk hbgb; clear hbgb; have hbgb := n_; clear n_))
  go_ret
  exact ⟨rfl, below_step hbga.out (below_step hbgt.out hbgb.out)⟩
end Go.Proofs.Ytjlkcidohabcfaa.Sk
