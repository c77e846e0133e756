/- The readers' steps. Conditions: those of each theorem. -/
import Derived.Test.YthpklhkibcenoaaPx0
import Derived.Test.YthpklhkibcenoaaCore
import Derived.Test.YthpklhkibcenoaaHap
import Derived.Test.YthpklhkibcenoaaHdp
import Derived.Test.YthpklhkibcenoaaHen
import Derived.Test.YthpklhkibcenoaaHrd
import Derived.Test.YthpklhkibcenoaaME
import Derived.Test.YthpklhkibcenoaaSpecTake
import Derived.Test.YthpklhkibcenoaaSpecText
namespace Go.Proofs.Ythpklhkibcenoaa.Sk
open Go.RowKit Go.Proofs.YthpklhkibcenoaaW.PrintWords Go.Proofs.YthpklhkibcenoaaW.PrintLast Go.Proofs.YthpklhkibcenoaaW.PrintMore Go.Proofs.Ythpklhkibcenoaa.Px Go.Proofs.Ythpklhkibcenoaa.Sw
set_option linter.unusedVariables false
set_option linter.unusedSimpArgs false

/-- A reader in block gr: what is left, whether anything was wrong. -/
def RdS (T : TypeId) (W : World) (gr : Nat) (ok : Nat → Prop) (s : List Int) (bad : Bool) : Prop :=
 ∃ A c, W.heap[gr]? = some (.cells #[.slice A s.length c, .bool bad] T (0, 0)) ∧ s.length ≤ c ∧ Kd.F (Kd.int .u8) W ok A s.length s
theorem RdS.below {T : TypeId} {W W1 : World} {gr : Nat} {ok : Nat → Prop} {s : List Int} {bad : Bool} (h : RdS T W gr ok s bad) (hb : Below W.heap.size W W1) : RdS T W1 gr ok s bad := by
 obtain ⟨A, c, h1, h2, h3⟩ := h
 exact ⟨A, c, blk_below h1 hb, h2, Kd.F_below h3 hb⟩
theorem RdS.mono {T : TypeId} {W : World} {gr : Nat} {ok ok' : Nat → Prop} {s : List Int} {bad : Bool} (h : RdS T W gr ok s bad) (hk : ∀ k, k < W.heap.size → ok k → ok' k) : RdS T W gr ok' s bad := by
 obtain ⟨A, c, h1, h2, h3⟩ := h
 exact ⟨A, c, h1, h2, Kd.F_mono (Kd.F_bound h3) (fun k h => hk k h.2 h.1)⟩
theorem RdS.keep {T : TypeId} {W W1 : World} {gr g : Nat} {ok : Nat → Prop} {s : List Int} {bad : Bool} (h : RdS T W gr ok s bad) (hk : KeepBut W W1 g none) (hg : gr ≠ g) (hok : ∀ k, ok k → k ≠ g) : RdS T W1 gr ok s bad := by
 obtain ⟨A, c, h1, h2, h3⟩ := h
 exact ⟨A, c, blk_keep h1 hk hg, h2, Kd.F_keep h3 hk hok⟩
theorem RdS.far {T : TypeId} {W : World} {gr : Nat} {ok : Nat → Prop} {s : List Int} {bad : Bool} {p : Addr} (h : RdS T W gr ok s bad) (hg : gr ≠ p.block) (hok : ∀ k, ok k → k ≠ p.block) (u : Value) : RdS T (W.setCell p u) gr ok s bad := by
 obtain ⟨A, c, h1, h2, h3⟩ := h
 exact ⟨A, c, (Below.heap_setCell W p u gr hg).trans h1, h2, Kd.F_far h3 hok u⟩
theorem RdS.after {T : TypeId} {W W1 : World} {gr : Nat} {ok : Nat → Prop} {s : List Int} {bad : Bool} {v v1 : Value} (h : RdS T W gr (fun k => ok k ∧ some k ≠ v.ownBlock) s bad) (hne : some gr ≠ v.ownBlock) (hg : W.grownBy W1 v.ownBlock) (hat : v1.ownBlock = v.ownBlock ∨ ∃ b, v1.ownBlock = some b ∧ W.heap.size ≤ b) : RdS T W1 gr (fun k => ok k ∧ some k ≠ v1.ownBlock) s bad := by
 obtain ⟨A, c, h1, h2, h3⟩ := h
 exact ⟨A, c, blk_grown h1 hg hne, h2, Kd.F_after h3 hg hat⟩
/-- Decode's world but for the reader: its result's block g2, the reader's gr, the version's g5. -/
structure DcS {α : Type} (d : Kd α) (e V : TypeId) (w W : World) (g2 gr g5 : Nat) (vs : Array Value) (v : Value) (xs : List α) : Prop where
 z : W.heap[g2]? = some (.cells #[.int .i64 0, .int .i64 0, .int .i64 0, .int .i64 0, .slice none 0 0] V (0, 0))
 r : W.heap[g5]? = some (.cells vs V (0, 0))
 n : Kd.N d e W w.heap.size (fun k => w.heap.size ≤ k ∧ k ≠ gr ∧ k ≠ g2 ∧ k ≠ g5) v xs
 b : Below w.heap.size w W
 lo : w.heap.size ≤ g2 ∧ g2 < gr ∧ gr < g5
section
variable {α : Type} {d : Kd α} {e V : TypeId} {w W W1 : World} {g2 gr g5 : Nat} {vs : Array Value} {v : Value} {xs : List α}
theorem DcS.below (h : DcS d e V w W g2 gr g5 vs v xs) (hb : Below W.heap.size W W1) : DcS d e V w W1 g2 gr g5 vs v xs :=
 ⟨blk_below h.z hb, blk_below h.r hb, Kd.N_below h.n hb, below_step h.b hb, h.lo⟩
theorem DcS.num (h : DcS d e V w W g2 gr g5 vs v xs) (hb : Below w.heap.size w W1) (hk : KeepBut W W1 gr none) : DcS d e V w W1 g2 gr g5 vs v xs := by
 have hlo := h.lo
 exact ⟨blk_keep h.z hk (by omega), blk_keep h.r hk (by omega), Kd.N_keep h.n hk (fun k hk => hk.2.1), hb, hlo⟩
end
/-- What bytes a text has: read by a slice of them. -/
def RowV (w : World) (lo : Nat) (v : Value) (xs : List Int) : Prop := ∃ A c, v = .slice A xs.length c ∧ xs.length ≤ c ∧ Kd.F (Kd.int .u8) w (fun k => lo ≤ k) A xs.length xs
theorem RowV.below {w w1 : World} {lo : Nat} {v : Value} {xs : List Int} (h : RowV w lo v xs) (hb : Below w.heap.size w w1) : RowV w1 lo v xs := by
 obtain ⟨A, c, h1, h2, h3⟩ := h
 exact ⟨A, c, h1, h2, Kd.F_below h3 hb⟩
theorem RowV.keep {w w1 : World} {lo g : Nat} {v : Value} {xs : List Int} (h : RowV w lo v xs) (hk : KeepBut w w1 g none) (hg : g < lo) : RowV w1 lo v xs := by
 obtain ⟨A, c, h1, h2, h3⟩ := h
 exact ⟨A, c, h1, h2, Kd.F_keep h3 hk (fun k hk => by omega)⟩
theorem RowV.lower {w : World} {lo lo' : Nat} {v : Value} {xs : List Int} (h : RowV w lo v xs) (hl : lo' ≤ lo) : RowV w lo' v xs := by
 obtain ⟨A, c, h1, h2, h3⟩ := h
 exact ⟨A, c, h1, h2, Kd.F_mono h3 (fun k hk => Nat.le_trans hl hk)⟩
theorem p_numS {w0 w : World} {gr : Nat} {ok : Nat → Prop} {s : List Int} {bad : Bool} (hB : Below w0.heap.size w0 w) (hg0 : w0.heap.size ≤ gr) (h : RdS 76 w gr ok s bad) (hs : Byts s) (hl : s.length < 140737488355328) :
  Calls Try.prog 45 #[.pointer (some ⟨gr, 0, none⟩)] w fun ex w' => ex = .returned (.int .i64 (numV s)) ∧ RdS 76 w' gr (fun k => w.heap.size ≤ k) (numR s) (bad || numE s) ∧ Below w0.heap.size w0 w' ∧ KeepBut w w' gr none := by
 obtain ⟨A, c, hg, hc, hF⟩ := h
 obtain ⟨k, hk⟩ := (takeNum_f hs hl).rounds
 refine (rdr_num k gr A c s bad _ _ _ w0 w hB hg0 hg (Kd.F_now hF) hc hk).mono ?_
 rintro ex w' ⟨A', c', rfl, h1, h2, h3, h4, h5⟩
 exact ⟨rfl, ⟨A', c', h1, h2, h3⟩, h4, h5⟩
theorem p_textS {w0 w : World} {gr : Nat} {ok : Nat → Prop} {s : List Int} {bad : Bool} (hB : Below w0.heap.size w0 w) (hg0 : w0.heap.size ≤ gr) (h : RdS 76 w gr ok s bad) (hs : Byts s) (hl : s.length < 140737488355328) :
  Calls Try.prog 46 #[.pointer (some ⟨gr, 0, none⟩)] w fun ex w' => ∃ v0, ex = .returned v0 ∧ RowV w' w.heap.size v0 (txV s) ∧ RdS 76 w' gr (fun k => w.heap.size ≤ k) (txR s) (bad || txE s) ∧ Below w0.heap.size w0 w' ∧ KeepBut w w' gr none := by
 obtain ⟨A, c, hg, hc, hF⟩ := h
 have ht := (tx_ok hs).2
 obtain ⟨k, hk⟩ := (takeText_f 64 hs hl).rounds
 have e1 : (triT (takeTx s 64)).1 = strOfNums (txV s) ∧ (triT (takeTx s 64)).2.1 = txR s ∧ ((triT (takeTx s 64)).2.2 != 0) = txE s := by
  unfold txV txR txE triT
  cases takeTx s 64 with
  | none => exact ⟨rfl, rfl, rfl⟩
  | some p => exact ⟨rfl, rfl, rfl⟩
 rcases htri : triT (takeTx s 64) with ⟨t_, r_, e_⟩
 rw [htri] at hk e1
 simp only at e1
 refine (rdr_text k gr A c s bad _ _ _ w0 w hB hg0 hg (Kd.F_now hF) hc hk (by rw [e1.1, str_size]; omega)).mono ?_
 rintro ex w' ⟨v0, A', c', rfl, hv, h1, h2, h3, h4, h5⟩
 rw [e1.1, str_bytes ht.1] at hv
 rw [e1.2.1, e1.2.2] at h1
 rw [e1.2.1] at h2 h3
 obtain ⟨A2, c2, rfl, hl2, hF2⟩ := hv
 exact ⟨_, rfl, ⟨A2, c2, rfl, hl2, hF2⟩, ⟨A', c', h1, h2, h3⟩, h4, h5⟩
theorem r_numS {w0 w : World} {gr : Nat} {ok : Nat → Prop} {s : List Int} {bad : Bool} (hB : Below w0.heap.size w0 w) (hg0 : w0.heap.size ≤ gr) (h : RdS 81 w gr ok s bad) (hs : Byts s) (hl : s.length < 140737488355328) :
  Calls Try.prog 48 #[.pointer (some ⟨gr, 0, none⟩)] w fun ex w' => ex = .returned (.int .i64 (numV s)) ∧ RdS 81 w' gr (fun k => w.heap.size ≤ k) (numR s) (bad || numE s) ∧ Below w0.heap.size w0 w' ∧ KeepBut w w' gr none := by
 obtain ⟨A, c, hg, hc, hF⟩ := h
 obtain ⟨k, hk⟩ := (refTake_f hs hl).rounds
 refine (ref_num k gr A c s bad _ _ _ w0 w hB hg0 hg (Kd.F_now hF) hc hk).mono ?_
 rintro ex w' ⟨A', c', rfl, h1, h2, h3, h4, h5⟩
 exact ⟨rfl, ⟨A', c', h1, h2, h3⟩, h4, h5⟩
theorem r_textS {w0 w : World} {gr : Nat} {ok : Nat → Prop} {s : List Int} {bad : Bool} (hB : Below w0.heap.size w0 w) (hg0 : w0.heap.size ≤ gr) (h : RdS 81 w gr ok s bad) (hs : Byts s) (hl : s.length < 140737488355328) :
  Calls Try.prog 49 #[.pointer (some ⟨gr, 0, none⟩)] w fun ex w' => ∃ v0, ex = .returned v0 ∧ RowV w' w.heap.size v0 (txV s) ∧ RdS 81 w' gr (fun k => w.heap.size ≤ k) (txR s) (bad || txE s) ∧ Below w0.heap.size w0 w' ∧ KeepBut w w' gr none := by
 obtain ⟨A, c, hg, hc, hF⟩ := h
 have ht := (tx_ok hs).2
 obtain ⟨k, hk⟩ := (refTakeText_f 64 hs hl).rounds
 have e1 : (triT (takeTx s 64)).1 = strOfNums (txV s) ∧ (triT (takeTx s 64)).2.1 = txR s ∧ ((triT (takeTx s 64)).2.2 != 0) = txE s := by
  unfold txV txR txE triT
  cases takeTx s 64 with
  | none => exact ⟨rfl, rfl, rfl⟩
  | some p => exact ⟨rfl, rfl, rfl⟩
 rcases htri : triT (takeTx s 64) with ⟨t_, r_, e_⟩
 rw [htri] at hk e1
 simp only at e1
 refine (ref_text k gr A c s bad _ _ _ w0 w hB hg0 hg (Kd.F_now hF) hc hk (by rw [e1.1, str_size]; omega)).mono ?_
 rintro ex w' ⟨v0, A', c', rfl, hv, h1, h2, h3, h4, h5⟩
 rw [e1.1, str_bytes ht.1] at hv
 rw [e1.2.1, e1.2.2] at h1
 rw [e1.2.1] at h2 h3
 obtain ⟨A2, c2, rfl, hl2, hF2⟩ := hv
 exact ⟨_, rfl, ⟨A2, c2, rfl, hl2, hF2⟩, ⟨A', c', h1, h2, h3⟩, h4, h5⟩
end Go.Proofs.Ythpklhkibcenoaa.Sk
