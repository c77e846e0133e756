/- What both Decodes compute. Conditions: those of each theorem. -/
import Derived.Test.YthpklhkibcenoaaCore
import Derived.Test.YthpklhkibcenoaaHap
import Derived.Test.YthpklhkibcenoaaHen
import Derived.Test.YthpklhkibcenoaaHpl
import Derived.Test.YthpklhkibcenoaaHrb
import Derived.Test.YthpklhkibcenoaaHto
import Derived.Test.YthpklhkibcenoaaPx0
import Derived.Test.YthpklhkibcenoaaSpecA
import Derived.Test.YthpklhkibcenoaaSpecTake
import Derived.Test.YthpklhkibcenoaaSpecText
import Derived.Test.YthpklhkibcenoaaSpecU
namespace Go.Proofs.Ythpklhkibcenoaa.Sk
open Go.RowKit Go.Proofs.YthpklhkibcenoaaW.PrintWords Go.Proofs.YthpklhkibcenoaaW.PrintLast Go.Proofs.YthpklhkibcenoaaW.PrintMore Go.Proofs.Ythpklhkibcenoaa.Px Go.Proofs.Ythpklhkibcenoaa.Sw
set_option linter.unusedVariables false
set_option linter.unusedSimpArgs false

/-- What the readers read: the number, what is left, whether there was none; the same of a text. -/
def numV (s : List Int) : Int := (tri (takeN s)).1
def numR (s : List Int) : List Int := (tri (takeN s)).2.1
def numE (s : List Int) : Bool := (tri (takeN s)).2.2 != 0
def txV (s : List Int) : List Int := match takeTx s 64 with | some (t, _) => t | none => []
def txR (s : List Int) : List Int := match takeTx s 64 with | some (_, r) => r | none => []
def txE (s : List Int) : Bool := match takeTx s 64 with | some _ => false | none => true
theorem num_some {s r : List Int} {n : Nat} (h : takeN s = some (n, r)) : numV s = (n : Int) ∧ numR s = r ∧ numE s = false := by
 unfold numV numR numE
 rw [h]
 exact ⟨rfl, rfl, rfl⟩
theorem num_none {s : List Int} (h : takeN s = none) : numV s = 0 ∧ numR s = [] ∧ numE s = true := by
 unfold numV numR numE
 rw [h]
 exact ⟨rfl, rfl, rfl⟩
/-- What is left is bytes, and no longer. -/
def Rest (l s : List Int) : Prop := Byts s ∧ s.length ≤ l.length
theorem num_ok {s : List Int} (hs : Byts s) : Rest s (numR s) ∧ 0 ≤ numV s ∧ numV s ≤ 4611686018427387903 := by
 cases h : takeN s with
 | none =>
  obtain ⟨h1, h2, _⟩ := num_none h
  rw [h1, h2]
  exact ⟨⟨Byts.nil, by simp⟩, by omega, by omega⟩
 | some p =>
  obtain ⟨n, r⟩ := p
  obtain ⟨h1, h2, _⟩ := num_some h
  obtain ⟨e, hn⟩ := takeN_back hs h
  rw [h1, h2]
  refine ⟨⟨fun x hx => hs x (by rw [e]; exact List.mem_append_right _ hx), ?_⟩, by omega, by omega⟩
  have := congrArg List.length e
  rw [List.length_append] at this
  omega
theorem tx_ok {s : List Int} (hs : Byts s) : Rest s (txR s) ∧ Byts (txV s) ∧ (txV s).length ≤ 64 := by
 unfold txV txR takeTx
 cases h : takeN s with
 | none => exact ⟨⟨Byts.nil, by simp⟩, Byts.nil, by simp⟩
 | some p =>
  obtain ⟨n, r⟩ := p
  obtain ⟨e, hn⟩ := takeN_back hs h
  have hr : Byts r := fun x hx => hs x (by rw [e]; exact List.mem_append_right _ hx)
  have hlen := congrArg List.length e
  rw [List.length_append] at hlen
  simp only [Option.bind_some]
  by_cases c1 : (n : Int) > 64
  ·
   rw [if_pos c1]; exact ⟨⟨Byts.nil, by simp⟩, Byts.nil, by simp⟩
  ·
   rw [if_neg c1]
   by_cases c2 : n > r.length
   ·
    rw [if_pos c2]; exact ⟨⟨Byts.nil, by simp⟩, Byts.nil, by simp⟩
   ·
    rw [if_neg c2]
    refine ⟨⟨hr.drop _, ?_⟩, hr.take _, ?_⟩
    ·
     simp only [List.length_drop]; omega
    ·
     simp only [List.length_take]; omega
theorem Rest.trans {a b c : List Int} (h : Rest a b) (k : Rest b c) : Rest a c := ⟨k.1, Nat.le_trans k.2 h.2⟩
/-- A note that is read, what is left behind it, whether anything was wrong. -/
def metaV (s : List Int) : S57 := ⟨numV s, numV (numR s), numV (numR (numR s)), txV (numR (numR (numR s))), txV (txR (numR (numR (numR s))))⟩
def metaR (s : List Int) : List Int := txR (txR (numR (numR (numR s))))
def metaE (s : List Int) : Bool := ((((false || numE s) || numE (numR s)) || numE (numR (numR s))) || txE (numR (numR (numR s)))) || txE (txR (numR (numR (numR s))))
/-- At most so many notes. -/
def readL : Nat → List Int → Bool → List S57 → List Int × Bool × List S57
 | 0, s, b, acc => (s, b, acc)
 | k + 1, s, b, acc => if b = true then (s, b, acc) else readL k (metaR s) (metaE s) (acc ++ [metaV s])
theorem meta_ok {s : List Int} (hs : Byts s) : Rest s (metaR s) ∧ MB (metaV s) := by
 have h1 := num_ok hs
 have h2 := num_ok h1.1.1
 have h3 := num_ok h2.1.1
 have h4 := tx_ok h3.1.1
 have h5 := tx_ok h4.1.1
 refine ⟨h1.1.trans (h2.1.trans (h3.1.trans (h4.1.trans h5.1))), h4.2.1, h5.2.1, ?_⟩
 have := h1.2
 unfold I64
 show -9223372036854775808 ≤ numV s ∧ numV s ≤ 9223372036854775807
 omega
theorem readL_ok : ∀ (k : Nat) {s : List Int} {b : Bool} {acc : List S57}, Byts s → (∀ m ∈ acc, MB m) → ∀ m ∈ (readL k s b acc).2.2, MB m
 | 0, s, b, acc, hs, ha => ha
 | k + 1, s, b, acc, hs, ha => by
  unfold readL
  split
  ·
   exact ha
  ·
   have h := meta_ok hs
   refine readL_ok k h.1.1 (fun m hm => ?_)
   rcases List.mem_append.1 hm with hm | hm
   ·
    exact ha m hm
   ·
    rw [List.mem_singleton.1 hm]; exact h.2
/-- What is behind four numbers; whether one was wrong. -/
def head4 (l : List Int) : List Int := numR (numR (numR (numR l)))
def headE (l : List Int) : Bool := (((false || numE l) || numE (numR l)) || numE (numR (numR l))) || numE (numR (numR (numR l)))
def rdAll (most : Nat) (l : List Int) : List Int × Bool × List S57 := readL (min (numV (head4 l)).toNat most) (numR (head4 l)) (headE l || numE (head4 l)) []
/-- A version that is read. -/
def decOK (most : Nat) (l : List Int) : Bool := !(rdAll most l).2.1 && (checkB (numV l) (numV (numR l)) (numV (numR (numR l))) (numV (numR (numR (numR l)))) (rdAll most l).2.2 && decide (encM (numV l) (numV (numR l)) (numV (numR (numR l))) (numV (numR (numR (numR l)))) (rdAll most l).2.2 = l))
def decV (most : Nat) (l : List Int) : Int × Int × Int × Int × List S57 × Int :=
 if decOK most l = true then (numV l, numV (numR l), numV (numR (numR l)), numV (numR (numR (numR l))), (rdAll most l).2.2, 0) else (0, 0, 0, 0, [], 2)
def decM (l : List Int) : Int × Int × Int × Int × List S57 × Int := decV 4097 l
def decR (l : List Int) : Int × Int × Int × Int × List S37 × Int := ((decV 4096 l).1, (decV 4096 l).2.1, (decV 4096 l).2.2.1, (decV 4096 l).2.2.2.1, (decV 4096 l).2.2.2.2.1.map toR, (decV 4096 l).2.2.2.2.2)
theorem rdAll_mb (most : Nat) {l : List Int} (hl : Byts l) : ∀ m ∈ (rdAll most l).2.2, MB m := by
 unfold rdAll
 have h1 := num_ok hl
 have h2 := num_ok h1.1.1
 have h3 := num_ok h2.1.1
 have h4 := num_ok h3.1.1
 have h5 := num_ok h4.1.1
 exact readL_ok _ h5.1.1 (fun m hm => by cases hm)
theorem numG (n : Int) (r : List Int) (h0 : 0 ≤ n) (h1 : n ≤ 4611686018427387903) : numV (grp (cap n) ++ r) = n ∧ numR (grp (cap n) ++ r) = r ∧ numE (grp (cap n) ++ r) = false := by
 have e := takeN_grp (n := cap n) r (cap_le n)
 obtain ⟨a, b, c⟩ := num_some e
 refine ⟨a.trans ?_, b, c⟩
 unfold cap
 omega
theorem numGn (n : Nat) (r : List Int) (h1 : n ≤ 4611686018427387903) : numV (grp n ++ r) = n ∧ numR (grp n ++ r) = r ∧ numE (grp n ++ r) = false := num_some (takeN_grp r h1)
theorem txG (t r : List Int) (h : t.length ≤ 64) : txV (grp t.length ++ (t ++ r)) = t ∧ txR (grp t.length ++ (t ++ r)) = r ∧ txE (grp t.length ++ (t ++ r)) = false := by
 unfold txV txR txE takeTx
 rw [takeN_grp _ (by omega)]
 simp only [Option.bind_some]
 rw [if_neg (by omega), if_neg (by rw [List.length_append]; omega)]
 simp
theorem metaG {m : S57} (h : rightM m = true) (r : List Int) : metaV (noteB m ++ r) = m ∧ metaR (noteB m ++ r) = r ∧ metaE (noteB m ++ r) = false := by
 have hl := rightM_len h
 have hr : (0 ≤ m.f0 ∧ m.f0 ≤ 1099511627776) ∧ (0 ≤ m.f1 ∧ m.f1 ≤ 3) ∧ (1 ≤ m.f2 ∧ m.f2 ≤ 64) := by
  unfold rightM at h
  simp only [Bool.and_eq_true, decide_eq_true_eq] at h
  exact ⟨inB_iff.1 h.1.1.1.1.1, h.1.1.1.1.2, h.1.1.1.2⟩
 have e : noteB m ++ r = grp (cap m.f0) ++ (grp (cap m.f1) ++ (grp (cap m.f2) ++ (grp m.f3.length ++ (m.f3 ++ (grp m.f4.length ++ (m.f4 ++ r)))))) := by
  unfold noteB
  simp only [List.append_assoc]
 rw [e]
 have a0 := numG m.f0 (grp (cap m.f1) ++ (grp (cap m.f2) ++ (grp m.f3.length ++ (m.f3 ++ (grp m.f4.length ++ (m.f4 ++ r)))))) (by omega) (by omega)
 have a1 := numG m.f1 (grp (cap m.f2) ++ (grp m.f3.length ++ (m.f3 ++ (grp m.f4.length ++ (m.f4 ++ r))))) (by omega) (by omega)
 have a2 := numG m.f2 (grp m.f3.length ++ (m.f3 ++ (grp m.f4.length ++ (m.f4 ++ r)))) (by omega) (by omega)
 have a3 := txG m.f3 (grp m.f4.length ++ (m.f4 ++ r)) hl.1
 have a4 := txG m.f4 r hl.2
 unfold metaV metaR metaE
 rw [a0.1, a0.2.1, a0.2.2, a1.1, a1.2.1, a1.2.2, a2.1, a2.2.1, a2.2.2, a3.1, a3.2.1, a3.2.2, a4.1, a4.2.1, a4.2.2]
 exact ⟨rfl, rfl, rfl⟩
theorem readG : ∀ (ts : List S57) (r : List Int) (acc : List S57), (∀ m ∈ ts, rightM m = true) → readL ts.length (ts.flatMap noteB ++ r) false acc = (r, false, acc ++ ts)
 | [], r, acc, _ => by simp [readL]
 | m :: ts, r, acc, h => by
  have hm := metaG (h m (by simp)) (ts.flatMap noteB ++ r)
  rw [List.length_cons, readL, if_neg (by decide), List.flatMap_cons, List.append_assoc, hm.1, hm.2.1, hm.2.2, readG ts r _ (fun x hx => h x (List.mem_cons_of_mem _ hx))]
  simp
/-- The bytes of a version that may be, and more: it is read, and what is more is left. -/
theorem readV {g n s q : Int} {ts : List S57} (hc : checkB g n s q ts = true) (most : Nat) (hm : 4096 ≤ most) (r : List Int) :
  numV (encM g n s q ts ++ r) = g ∧ numV (numR (encM g n s q ts ++ r)) = n ∧ numV (numR (numR (encM g n s q ts ++ r))) = s ∧ numV (numR (numR (numR (encM g n s q ts ++ r)))) = q ∧ rdAll most (encM g n s q ts ++ r) = (r, false, ts) := by
 have hl := checkB_len hc
 have hg := inB_iff.1 hl.2.1
 have hn := inB_iff.1 hl.2.2.1
 have hs := inB_iff.1 hl.2.2.2.1
 have hq := inB_iff.1 hl.2.2.2.2
 have e : encM g n s q ts ++ r = grp (cap g) ++ (grp (cap n) ++ (grp (cap s) ++ (grp (cap q) ++ (grp ts.length ++ (ts.flatMap noteB ++ r))))) := by
  unfold encM
  simp only [List.append_assoc]
 rw [e]
 have a0 := numG g (grp (cap n) ++ (grp (cap s) ++ (grp (cap q) ++ (grp ts.length ++ (ts.flatMap noteB ++ r))))) (by omega) (by omega)
 have a1 := numG n (grp (cap s) ++ (grp (cap q) ++ (grp ts.length ++ (ts.flatMap noteB ++ r)))) (by omega) (by omega)
 have a2 := numG s (grp (cap q) ++ (grp ts.length ++ (ts.flatMap noteB ++ r))) (by omega) (by omega)
 have a3 := numG q (grp ts.length ++ (ts.flatMap noteB ++ r)) (by omega) (by omega)
 have a4 := numGn ts.length (ts.flatMap noteB ++ r) (by omega)
 unfold rdAll head4 headE
 rw [a0.1, a0.2.1, a0.2.2, a1.1, a1.2.1, a1.2.2, a2.1, a2.2.1, a2.2.2, a3.1, a3.2.1, a3.2.2, a4.1, a4.2.1, a4.2.2]
 refine ⟨rfl, rfl, rfl, rfl, ?_⟩
 rw [Int.toNat_natCast, Nat.min_eq_left (by omega)]
 exact readG ts r [] (checkB_right hc)
theorem decV_enc {g n s q : Int} {ts : List S57} (hc : checkB g n s q ts = true) (most : Nat) (hm : 4096 ≤ most) : decV most (encM g n s q ts) = (g, n, s, q, ts, 0) := by
 have h := readV hc most hm []
 rw [List.append_nil] at h
 obtain ⟨h1, h2, h3, h4, h5⟩ := h
 unfold decV decOK
 rw [h1, h2, h3, h4, h5, hc]
 simp
theorem decV_cases (most : Nat) (l : List Int) : decV most l = (0, 0, 0, 0, [], 2) ∨ ∃ g n s q ts, checkB g n s q ts = true ∧ encM g n s q ts = l := by
 unfold decV
 split
 ·
  rename_i h
  unfold decOK at h
  simp only [Bool.and_eq_true, decide_eq_true_eq] at h
  exact .inr ⟨_, _, _, _, _, h.2.1, h.2.2⟩
 ·
  exact .inl rfl
/-- However many notes are read at most: it is the same version. -/
theorem decV_same {a b : Nat} (ha : 4096 ≤ a) (hb : 4096 ≤ b) (l : List Int) : decV a l = decV b l := by
 rcases decV_cases a l with h | ⟨g, n, s, q, ts, hc, he⟩
 ·
  rcases decV_cases b l with h2 | ⟨g, n, s, q, ts, hc, he⟩
  ·
   rw [h, h2]
  ·
   rw [← he, decV_enc hc a ha, decV_enc hc b hb]
 ·
  rw [← he, decV_enc hc a ha, decV_enc hc b hb]
/-- No version's bytes begin another's. -/
theorem enc_apart {g n s q g' n' s' q' : Int} {ts ts' : List S57} {r : List Int} (hc : checkB g n s q ts = true) (hc' : checkB g' n' s' q' ts' = true) (h : encM g n s q ts = encM g' n' s' q' ts' ++ r) : r = [] := by
 have h1 := (readV hc 4096 (Nat.le_refl _) []).2.2.2.2
 have h2 := (readV hc' 4096 (Nat.le_refl _) r).2.2.2.2
 rw [List.append_nil, h, h2] at h1
 exact (Prod.mk.inj h1).1
end Go.Proofs.Ythpklhkibcenoaa.Sk
