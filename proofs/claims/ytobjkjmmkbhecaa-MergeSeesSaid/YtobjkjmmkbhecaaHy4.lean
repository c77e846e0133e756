/- Two neighbouring pieces of a row in order are merged, the middle in the second one. Conditions: those of each theorem. -/
import Derived.Test.YtobjkjmmkbhecaaCore
import Derived.Test.YtobjkjmmkbhecaaME
import Derived.Test.YtobjkjmmkbhecaaHso
import Derived.Test.YtobjkjmmkbhecaaPx0
import Derived.Test.YtobjkjmmkbhecaaSpecA
import Derived.Test.YtobjkjmmkbhecaaHis
namespace Go.Proofs.Ytobjkjmmkbhecaa.Sk
open Go.RowKit Go.Proofs.YtobjkjmmkbhecaaW.PrintWords Go.Proofs.YtobjkjmmkbhecaaW.PrintLast Go.Proofs.YtobjkjmmkbhecaaW.PrintMore Go.Proofs.Ytobjkjmmkbhecaa.Px Go.Proofs.Ytobjkjmmkbhecaa.Sw
set_option linter.unusedVariables false
set_option linter.unusedSimpArgs false
set_option maxHeartbeats 4000000 in
set_option maxRecDepth 100000 in
theorem sym4_calls {w : World} {base n cap : Nat} {ok : Nat → Prop} {ad : Addr} {P A B S : List S36} (hn : Kd.N k36 36 w base ok (.slice (some ad) n cap) (P ++ (A ++ (B ++ S)))) {a m b : Nat} (ha : a = P.length) (hm : m = P.length + A.length) (hb : b = P.length + (A.length + B.length)) (hsz : n ≤ 1000000000000) {G : S36 → Prop} {q : S36 → S36 → Int} (hq : POrd G q) (hGA : ∀ z ∈ A, G z) (hGB : ∀ z ∈ B, G z) (hsA : Srt q A) (hsB : Srt q B) (fid : Nat) (fn : Func) (caps : Array Value) (hf : Try.prog.funcs[fid]? = some fn) (hfn : (fn.name == "runtime.NumGoroutine") = false) (hfb : fn.body.isSome = true) (hsay : Says2 w (fun k => some k = (Value.slice (some ad) n cap).ownBlock) G fid caps q) (hA : 1 < A.length) (hB : 1 < B.length) (mid : Nat) (hmd : mid = (a + b) / 2) (hcase : m ≤ mid) (ih : ∀ (w1 : World) (P' A' B' S' : List S36) (a' m' b' : Nat), A'.length + B'.length < A.length + B.length → 0 < A'.length → 0 < B'.length → Kd.N k36 36 w1 base ok (.slice (some ad) n cap) (P' ++ (A' ++ (B' ++ S'))) → a' = P'.length → m' = P'.length + A'.length → b' = P'.length + (A'.length + B'.length) → (∀ z ∈ A', G z) → (∀ z ∈ B', G z) → Srt q A' → Srt q B' → Says2 w1 (fun k => some k = (Value.slice (some ad) n cap).ownBlock) G fid caps q →
      Calls Try.prog 57 #[.slice (some ad) n cap, .int .i64 (a' : Int), .int .i64 (m' : Int), .int .i64 (b' : Int), .func (.func fid) #[] caps] w1 fun ex w' => ex = .returned (.tuple #[]) ∧ (∃ M', Stb G q M' (A' ++ B') ∧ Srt q M' ∧ Kd.N k36 36 w' base ok (.slice (some ad) n cap) (P' ++ (M' ++ S'))) ∧ Chg w1 w' (fun k => some k = (Value.slice (some ad) n cap).ownBlock)) :
    Calls Try.prog 57 #[.slice (some ad) n cap, .int .i64 (a : Int), .int .i64 (m : Int), .int .i64 (b : Int), .func (.func fid) #[] caps] w fun ex w' => ex = .returned (.tuple #[]) ∧ (∃ M', Stb G q M' (A ++ B) ∧ Srt q M' ∧ Kd.N k36 36 w' base ok (.slice (some ad) n cap) (P ++ (M' ++ S))) ∧ Chg w w' (fun k => some k = (Value.slice (some ad) n cap).ownBlock) := by
  have huE := Try.underlying36
  have HN := Aside0.mk hn
  have HMAX := Aside0.mk hsz
  have HLEN := Aside0.mk (show n = P.length + (A.length + (B.length + S.length)) by have := (Kd.N_reads' hn).1; simpa using this)
  obtain ⟨gv, hgv⟩ := N_head hn
  have HAD := Aside0.mk hgv
  have HM := Aside0.mk (show a = P.length ∧ m = P.length + A.length ∧ b = P.length + (A.length + B.length) from ⟨ha, hm, hb⟩)
  have HQ := Aside0.mk hq
  have HGA := Aside0.mk hGA
  have HGB := Aside0.mk hGB
  have HSA := Aside0.mk hsA
  have HSB := Aside0.mk hsB
  have HSAY := Aside0.mk hsay
  have HREC := Aside0.mk ih
  clear ih
  obtain ⟨nn, hnn⟩ : ∃ nn, mid + m = nn := ⟨_, rfl⟩
  obtain ⟨p, hp⟩ : ∃ p, p + 1 = nn := ⟨mid + m - 1, by omega⟩
  
  have HMM := Aside0.mk (show a = P.length ∧ m = a + A.length ∧ b = m + B.length ∧ b ≤ n ∧ nn = mid + m ∧ p + 1 = nn ∧ a < m ∧ m < b ∧ a < mid ∧ mid < b by have hl := HLEN.out; omega)
  have HSR := Aside0.mk (show a ≤ a ∧ a ≤ m ∧ m ≤ m ∧ m ≤ mid ∧ nn ≤ b + a ∧ m + m ≤ nn ∧ (a = a ∨ nn = b + a) ∧ (m = m ∨ nn = m + m) by have hl := HLEN.out; omega)
  have HW1 := Aside0.mk (show ((wrap64 ((m : Int) - (a : Int))) == 1) = false by rw [wsub (z := A.length) (by omega) (by have hl := HLEN.out; omega), beq_eq_false_iff_ne]; omega)
  have HW3 := Aside0.mk (show ((wrap64 ((b : Int) - (m : Int))) == 1) = false by rw [wsub (z := B.length) (by omega) (by have hl := HLEN.out; omega), beq_eq_false_iff_ne]; omega)
  have HMID := Aside0.mk (mid_eq hmd (by have hl := HLEN.out; omega))
  have HNW := Aside0.mk (wadd hnn (by have h := HMM.out; omega))
  have HPW := Aside0.mk (wsub1 hp (by have h := HMM.out; omega))
  have hcs : (mid < m) = False := by first | exact eq_true hcase | exact eq_false (by omega)
  
  clear hn hgv ha hm hb hsz hGA hGB hsA hsB hsay hq
  clear hA hB hmd hnn hp hcase 
  have hw1 := HW1.out
  have hw3 := HW3.out
  have hmid := HMID.out
  have hnw := HNW.out
  have hpw := HPW.out
  go_enter Try.func57, Try.ntmps57
  go_wp2
  try simp only [hmid, hnw, hpw ]
  clear hw1 hw3 hmid hnw hpw hcs 
  go_loopg [20, 21] (m - a) (fun kq v20 v21 w' => ∃ (s r : Nat), v20 = .int .i64 (s : Int) ∧ v21 = .int .i64 (r : Int) ∧ Aside0 (kq + s = r) ∧ Aside0 (a ≤ s ∧ s ≤ r ∧ r ≤ m) ∧ Aside0 ((a < s → ∀ x y, (P ++ (A ++ (B ++ S)))[s - 1]? = some x → (P ++ (A ++ (B ++ S)))[nn - s]? = some y → ¬ q y x < 0) ∧ (r < m → ∀ x y, (P ++ (A ++ (B ++ S)))[r]? = some x → (P ++ (A ++ (B ++ S)))[nn - 1 - r]? = some y → q y x < 0)) ∧ Aside0 (Kd.N k36 36 w' base ok (.slice (some ad) n cap) (P ++ (A ++ (B ++ S)))) ∧ Aside0 (Chg w w' (fun k => some k = (Value.slice (some ad) n cap).ownBlock)))
  case atStart => exact ⟨a, m, rfl, rfl, ⟨by have h := HSR.out; omega⟩, ⟨Nat.le_refl _, HSR.out.2.1, Nat.le_refl _⟩, ⟨fun h => absurd h (Nat.lt_irrefl _), fun h => absurd h (Nat.lt_irrefl _)⟩, HN, ⟨Chg.refl _ _⟩⟩
  case round =>
    obtain ⟨s, r, rfl, rfl, HK, HI, HE, HNr, HCH⟩ := hrel
    cases gk with
    | zero =>
      obtain rfl : s = r := by have h := HK.out; omega
      have hlt : (s < s) = False := eq_false (Nat.lt_irrefl _)
      obtain ⟨en, hen⟩ : ∃ en, en + s = nn := ⟨nn - s, by have h1 := HI.out; have h2 := HSR.out; omega⟩
      have HENW := Aside0.mk (wsub hen (by have h := HMM.out; have h1 := HMAX.out; omega))
      obtain ⟨A1, A2, hA12, hA1⟩ : ∃ A1 A2, A = A1 ++ A2 ∧ A1.length = s - a := ⟨A.take (s - a), A.drop (s - a), (List.take_append_drop _ _).symm, by rw [List.length_take]; have h1 := HI.out; have h2 := HSR.out; have h3 := HMM.out; omega⟩
      obtain ⟨B1, B2, hB12, hB1⟩ : ∃ B1 B2, B = B1 ++ B2 ∧ B1.length = en - m := ⟨B.take (en - m), B.drop (en - m), (List.take_append_drop _ _).symm, by rw [List.length_take]; have h1 := HI.out; have h2 := HSR.out; have h3 := HMM.out; omega⟩
      have HAB := Aside0.mk (show A = A1 ++ A2 ∧ B = B1 ++ B2 from ⟨hA12, hB12⟩)
      have HD := Aside0.mk (show a = P.length ∧ s = a + A1.length ∧ m = s + A2.length ∧ en = m + B1.length ∧ b = en + B2.length ∧ mid = s + B1.length ∧ A.length = A1.length + A2.length ∧ B.length = B1.length + B2.length ∧ 0 < A.length ∧ 0 < B.length ∧ a < mid ∧ mid < b by
        have h1 := HI.out; have h2 := HSR.out; have h3 := HMM.out; have h4 := congrArg List.length hA12; have h5 := congrArg List.length hB12
        simp only [List.length_append] at h4 h5
        omega)
      clear hA12 hB12 hA1 hB1
      have HG1 := Aside0.mk (show (∀ z ∈ A1, G z) ∧ (∀ z ∈ B1, G z) ∧ (∀ z ∈ A2, G z) ∧ (∀ z ∈ B2, G z) from ⟨fun z hz => HGA.out z (by rw [HAB.out.1]; exact List.mem_append_left _ hz), fun z hz => HGB.out z (by rw [HAB.out.2]; exact List.mem_append_left _ hz), fun z hz => HGA.out z (by rw [HAB.out.1]; exact List.mem_append_right _ hz), fun z hz => HGB.out z (by rw [HAB.out.2]; exact List.mem_append_right _ hz)⟩)
      have HS1 := Aside0.mk (show Srt q A1 ∧ Srt q B1 ∧ Srt q A2 ∧ Srt q B2 by
        have h1 := HSA.out; have h2 := HSB.out
        rw [HAB.out.1] at h1; rw [HAB.out.2] at h2
        exact ⟨(Srt.append_iff.1 h1).1, (Srt.append_iff.1 h2).1, (Srt.append_iff.1 h1).2.1, (Srt.append_iff.1 h2).2.1⟩)
      have HHV := Aside0.mk (show HalvedS G q A1 A2 B1 B2 by
        have h1 := HSA.out; have h2 := HSB.out; have h3 := HGA.out; have h4 := HGB.out
        rw [HAB.out.1] at h1 h3; rw [HAB.out.2] at h2 h4
        refine halvesS HQ.out h1 h2 h3 h4 ?_ ?_
        · intro A' x y B' e1 e2
          have h5 := HD.out; have h6 := HSR.out; have h7 := HI.out; have h8 := HMM.out
          have l1 := congrArg List.length e1
          have l2 := congrArg List.length e2
          simp only [List.length_append, List.length_cons, List.length_nil] at l1 l2
          refine HE.out.1 (by omega) x y ?_ ?_
          · rw [HAB.out.1, e1]
            have e : P ++ (A' ++ [x] ++ A2 ++ (B ++ S)) = (P ++ A') ++ x :: (A2 ++ (B ++ S)) := by simp
            rw [e]; exact get_app' (by rw [List.length_append]; omega)
          · rw [HAB.out.2, e2]
            have e : P ++ (A ++ (B1 ++ y :: B' ++ S)) = (P ++ (A ++ B1)) ++ y :: (B' ++ S) := by simp
            rw [e]; exact get_app' (by simp only [List.length_append]; omega)
        · intro B' y x A' e1 e2
          have h5 := HD.out; have h6 := HSR.out; have h7 := HI.out; have h8 := HMM.out
          have l1 := congrArg List.length e1
          have l2 := congrArg List.length e2
          simp only [List.length_append, List.length_cons, List.length_nil] at l1 l2
          refine HE.out.2 (by omega) x y ?_ ?_
          · rw [HAB.out.1, e2]
            have e : P ++ (A1 ++ x :: A' ++ (B ++ S)) = (P ++ A1) ++ x :: (A' ++ (B ++ S)) := by simp
            rw [e]; exact get_app' (by rw [List.length_append]; omega)
          · rw [HAB.out.2, e1]
            have e : P ++ (A ++ (B' ++ [y] ++ B2 ++ S)) = (P ++ (A ++ B')) ++ y :: (B2 ++ S) := by simp
            rw [e]; exact get_app' (by simp only [List.length_append]; omega))
      have HN1 := Aside0.mk (show Kd.N k36 36 wr base ok (.slice (some ad) n cap) (P ++ A1 ++ (A2 ++ (B1 ++ (B2 ++ S)))) by have h := HNr.out; rw [HAB.out.1, HAB.out.2] at h; simp only [List.append_assoc] at h ⊢; exact h)
      clear hen HE HK HI
      have henw := HENW.out
      go_upto_region 39 with (fail)
      simp only [henw]
      clear henw
      go_cut [185] (fun v wx => v = .bool (decide (s < m) && decide (m < en)) ∧ wx = wr)
      case first =>
        as_aux_lemma =>
        by_cases hd1 : s < m
        · have hd1' : (s < m) = True := eq_true hd1
          by_cases hd2 : m < en
          · have hd2' : (m < en) = True := eq_true hd2
            go_wp2
            go_meet
            exact ⟨by simp [hd1, hd2], rfl⟩
          · have hd2' : (m < en) = False := eq_false hd2
            go_wp2
            go_meet
            exact ⟨by simp [hd1, hd2], rfl⟩
        · have hd1' : (s < m) = False := eq_false hd1
          go_wp2
          go_meet
          exact ⟨by simp [hd1], rfl⟩
      case rest =>
        obtain ⟨rfl, rfl⟩ := hcut
        go_upto_if 185 with (fail)
        go_cut [] (fun wx => Aside0 (Kd.N k36 36 wx base ok (.slice (some ad) n cap) (P ++ (A1 ++ (B1 ++ (A2 ++ (B2 ++ S)))))) ∧ Aside0 (Chg w wx (fun k => some k = (Value.slice (some ad) n cap).ownBlock)))
        case first =>
          cases hbb : (decide (s < m) && decide (m < en)) with
          | true =>
            as_aux_lemma =>
            have HC1 := Aside0.mk (show s < m ∧ m < en by simpa using hbb)
            go_wp2_with (first
              | ((with_reducible refine gate_callee (f := 62) rfl ?_); (try (refine gate_guard (by rfl) ?_; dsimp only)); refine goesL_ (some 191) rfl rfl Try.func62 (by kernel_rfl) rfl #[.slice (some ad) n cap, .int .i64 (s : Int), .int .i64 (m : Int), .int .i64 (en : Int), .func (.func fid) #[] caps] rfl (by (try simp only [List.map_toArray, List.map_cons, List.map_nil]); first | done | rfl) ?_; refine (rotate_calls (P := P ++ A1) (A := A2) (B := B1) (S := B2 ++ S) HN1.out (by rw [List.length_append]; have h1 := HD.out; omega) (by rw [List.length_append]; have h1 := HD.out; omega) (by rw [List.length_append]; have h1 := HD.out; omega) (by have h1 := HD.out; have h2 := HC1.out; omega) (by have h1 := HD.out; have h2 := HC1.out; omega) (.func (.func fid) #[] caps)).mono ?_; rintro ex w4 ⟨rfl, hn4, hc4⟩; refine ⟨_, rfl, ?_⟩; have n_ := Aside0.mk hn4; clear hn4; have hn4 := n_; clear n_; have n_ := Aside0.mk hc4; clear hc4; have hc4 := n_; clear n_))
            go_meet
            exact ⟨⟨by have h := hn4.out; simp only [List.append_assoc] at h ⊢; exact h⟩, ⟨HCH.out.trans hc4.out (fun k hk => .inl hk)⟩⟩
          | false =>
            as_aux_lemma =>
            have HNO := Aside0.mk (show A2 = [] ∨ B1 = [] by
              have h1 := HD.out
              by_cases h : s < m
              · exact .inr (List.length_eq_zero_iff.1 (by have h2 : ¬ (m < en) := by (intro h2; simp [h, h2] at hbb)
                                                          omega))
              · exact .inl (List.length_eq_zero_iff.1 (by omega)))
            go_wp2
            go_meet
            exact ⟨⟨by
              have h := HN1.out
              simp only [List.append_assoc] at h
              rcases HNO.out with e | e <;> rw [e] at h ⊢ <;> exact h⟩, HCH⟩
        case rest =>
          clear HN1 HCH
          obtain ⟨HN4, HCH4⟩ := hcut
          go_upto_region 41 with (fail)
          go_cut [199] (fun v wx => v = .bool (decide (a < s) && decide (s < mid)) ∧ wx = wc)
          case first =>
            as_aux_lemma =>
            by_cases hd1 : a < s
            · have hd1' : (a < s) = True := eq_true hd1
              by_cases hd2 : s < mid
              · have hd2' : (s < mid) = True := eq_true hd2
                go_wp2
                go_meet
                exact ⟨by simp [hd1, hd2], rfl⟩
              · have hd2' : (s < mid) = False := eq_false hd2
                go_wp2
                go_meet
                exact ⟨by simp [hd1, hd2], rfl⟩
            · have hd1' : (a < s) = False := eq_false hd1
              go_wp2
              go_meet
              exact ⟨by simp [hd1], rfl⟩
          case rest =>
            obtain ⟨rfl, rfl⟩ := hcut
            go_upto_if 199 with (fail)
            go_cut [] (fun wx => ∃ M1 : List S36, Aside0 (Stb G q M1 (A1 ++ B1) ∧ Srt q M1) ∧ Aside0 (Kd.N k36 36 wx base ok (.slice (some ad) n cap) (P ++ M1 ++ (A2 ++ (B2 ++ S)))) ∧ Aside0 (Chg w wx (fun k => some k = (Value.slice (some ad) n cap).ownBlock)))
            case first =>
              cases hbb : (decide (a < s) && decide (s < mid)) with
              | true =>
                as_aux_lemma =>
                have HC2 := Aside0.mk (show a < s ∧ s < mid by simpa using hbb)
                go_wp2_with (first
                  | ((with_reducible refine gate_callee (f := 57) rfl ?_); (try (refine gate_guard (by rfl) ?_; dsimp only)); refine goesL_ (some 205) rfl rfl Try.func57 (by kernel_rfl) rfl #[.slice (some ad) n cap, .int .i64 (a : Int), .int .i64 (s : Int), .int .i64 (mid : Int), .func (.func fid) #[] caps] rfl (by (try simp only [List.map_toArray, List.map_cons, List.map_nil]); first | done | rfl) ?_; refine (HREC.out _ P A1 B1 (A2 ++ (B2 ++ S)) _ _ _ (by have h1 := HD.out; have h2 := HC2.out; omega) (by have h1 := HD.out; have h2 := HC2.out; omega) (by have h1 := HD.out; have h2 := HC2.out; omega) HN4.out (by have h1 := HD.out; omega) (by have h1 := HD.out; omega) (by have h1 := HD.out; omega) HG1.out.1 HG1.out.2.1 HS1.out.1 HS1.out.2.1 (HSAY.out.kept HCH4.out.kept)).mono ?_; rintro ex w5 ⟨rfl, ⟨M1, hp5, hs5, hn5⟩, hc5⟩; refine ⟨_, rfl, ?_⟩; have n_ := Aside0.mk hp5; clear hp5; have hp5 := n_; clear n_; have n_ := Aside0.mk hs5; clear hs5; have hs5 := n_; clear n_; have n_ := Aside0.mk hn5; clear hn5; have hn5 := n_; clear n_; have n_ := Aside0.mk hc5; clear hc5; have hc5 := n_; clear n_))
                go_meet
                exact ⟨M1, ⟨hp5.out, hs5.out⟩, ⟨by have h := hn5.out; simp only [List.append_assoc] at h ⊢; exact h⟩, ⟨HCH4.out.trans hc5.out (fun k hk => .inl hk)⟩⟩
              | false =>
                as_aux_lemma =>
                have HNO := Aside0.mk (show A1 = [] ∨ B1 = [] by
                  have h1 := HD.out
                  by_cases h : a < s
                  · exact .inr (List.length_eq_zero_iff.1 (by have h2 : ¬ (s < mid) := by (intro h2; simp [h, h2] at hbb)
                                                              omega))
                  · exact .inl (List.length_eq_zero_iff.1 (by omega)))
                go_wp2
                go_meet
                exact ⟨A1 ++ B1, ⟨Stb.refl _, HNO.out.elim (fun h => by rw [h]; exact HS1.out.2.1) (fun h => by rw [h, List.append_nil]; exact HS1.out.1)⟩, ⟨by have h := HN4.out; simp only [List.append_assoc] at h ⊢; exact h⟩, HCH4⟩
            case rest =>
              clear HN4 HCH4
              obtain ⟨M1, HP5, HN5, HCH5⟩ := hcut
              have HL5 := Aside0.mk (show M1.length = A1.length + B1.length by have h := HP5.out.1.length_eq; rwa [List.length_append] at h)
              go_upto_region 43 with (fail)
              go_cut [213] (fun v wx => v = .bool (decide (mid < en) && decide (en < b)) ∧ wx = wc)
              case first =>
                as_aux_lemma =>
                by_cases hd1 : mid < en
                · have hd1' : (mid < en) = True := eq_true hd1
                  by_cases hd2 : en < b
                  · have hd2' : (en < b) = True := eq_true hd2
                    go_wp2
                    go_meet
                    exact ⟨by simp [hd1, hd2], rfl⟩
                  · have hd2' : (en < b) = False := eq_false hd2
                    go_wp2
                    go_meet
                    exact ⟨by simp [hd1, hd2], rfl⟩
                · have hd1' : (mid < en) = False := eq_false hd1
                  go_wp2
                  go_meet
                  exact ⟨by simp [hd1], rfl⟩
              case rest =>
                obtain ⟨rfl, rfl⟩ := hcut
                cases hbb : (decide (mid < en) && decide (en < b)) with
                | true =>
                  as_aux_lemma =>
                  have HC3 := Aside0.mk (show mid < en ∧ en < b by simpa using hbb)
                  go_wp2_with (first
                    | ((with_reducible refine gate_callee (f := 57) rfl ?_); (try (refine gate_guard (by rfl) ?_; dsimp only)); refine goesL_ (some 219) rfl rfl Try.func57 (by kernel_rfl) rfl #[.slice (some ad) n cap, .int .i64 (mid : Int), .int .i64 (en : Int), .int .i64 (b : Int), .func (.func fid) #[] caps] rfl (by (try simp only [List.map_toArray, List.map_cons, List.map_nil]); first | done | rfl) ?_; refine (HREC.out _ (P ++ M1) A2 B2 S _ _ _ (by have h1 := HD.out; have h2 := HC3.out; omega) (by have h1 := HD.out; have h2 := HC3.out; omega) (by have h1 := HD.out; have h2 := HC3.out; omega) HN5.out (by rw [List.length_append]; have h1 := HD.out; have h2 := HL5.out; omega) (by rw [List.length_append]; have h1 := HD.out; have h2 := HL5.out; omega) (by rw [List.length_append]; have h1 := HD.out; have h2 := HL5.out; omega) HG1.out.2.2.1 HG1.out.2.2.2 HS1.out.2.2.1 HS1.out.2.2.2 (HSAY.out.kept HCH5.out.kept)).mono ?_; rintro ex w6 ⟨rfl, ⟨M2, hp6, hs6, hn6⟩, hc6⟩; refine ⟨_, rfl, ?_⟩; have n_ := Aside0.mk hp6; clear hp6; have hp6 := n_; clear n_; have n_ := Aside0.mk hs6; clear hs6; have hs6 := n_; clear n_; have n_ := Aside0.mk hn6; clear hn6; have hn6 := n_; clear n_; have n_ := Aside0.mk hc6; clear hc6; have hc6 := n_; clear n_))
                  go_end0
                  exact ⟨rfl, ⟨M1 ++ M2, by rw [HAB.out.1, HAB.out.2]; exact (mergedS HQ.out HHV.out HP5.out.1 hp6.out HP5.out.2 hs6.out).2, (mergedS HQ.out HHV.out HP5.out.1 hp6.out HP5.out.2 hs6.out).1, by have h := hn6.out; simp only [List.append_assoc] at h ⊢; exact h⟩, HCH5.out.trans hc6.out (fun k hk => .inl hk)⟩
                | false =>
                  as_aux_lemma =>
                  have HNO := Aside0.mk (show A2 = [] ∨ B2 = [] by
                    have h1 := HD.out
                    by_cases h : mid < en
                    · exact .inr (List.length_eq_zero_iff.1 (by have h2 : ¬ (en < b) := by (intro h2; simp [h, h2] at hbb)
                                                                omega))
                    · exact .inl (List.length_eq_zero_iff.1 (by omega)))
                  go_wp2
                  have HPE := Aside0.mk (show Srt q (A2 ++ B2) from HNO.out.elim (fun h => by rw [h]; exact HS1.out.2.2.2) (fun h => by rw [h, List.append_nil]; exact HS1.out.2.2.1))
                  go_end0
                  exact ⟨rfl, ⟨M1 ++ (A2 ++ B2), by rw [HAB.out.1, HAB.out.2]; exact (mergedS HQ.out HHV.out HP5.out.1 (Stb.refl _) HP5.out.2 HPE.out).2, (mergedS HQ.out HHV.out HP5.out.1 (Stb.refl _) HP5.out.2 HPE.out).1, by have h := HN5.out; simp only [List.append_assoc] at h ⊢; exact h⟩, HCH5.out⟩
    | succ k1 =>
      obtain ⟨h, hh⟩ : ∃ h, h = (s + r) / 2 := ⟨_, rfl⟩
      have HH := Aside0.mk (show s ≤ h ∧ h < r ∧ s < r ∧ r ≤ n by have h1 := HI.out; have h2 := HK.out; have h3 := HSR.out; have h4 := HMM.out; omega)
      have hlt : (s < r) = True := eq_true HH.out.2.2.1
      obtain ⟨pc, hpc⟩ : ∃ pc, pc + h = p := ⟨p - h, by have h1 := HI.out; have h3 := HSR.out; have h4 := HMM.out; have h5 := HH.out; omega⟩
      have HPC := Aside0.mk (show pc + h = p ∧ m ≤ pc ∧ pc < b ∧ a ≤ h ∧ h < m ∧ h < n ∧ pc < n ∧ pc = nn - (h + 1) ∧ pc = nn - 1 - h by have h1 := HI.out; have h3 := HSR.out; have h4 := HMM.out; have h5 := HH.out; omega)
      have HMID2 := Aside0.mk (mid_eq hh (by have h1 := HH.out; have h2 := HMAX.out; omega))
      have HPW2 := Aside0.mk (wsub hpc (by have h1 := HMM.out; have h2 := HMAX.out; omega))
      have HWH := Aside0.mk (wadd1 (x := h) (z := h + 1) rfl (by have h1 := HPC.out; have h2 := HMAX.out; omega))
      clear hh hpc
      obtain ⟨x, hx⟩ : ∃ x, A[h - a]? = some x := ⟨_, List.getElem?_eq_getElem (by have h1 := HPC.out; have h2 := HMM.out; omega)⟩
      obtain ⟨y, hy⟩ : ∃ y, B[pc - m]? = some y := ⟨_, List.getElem?_eq_getElem (by have h1 := HPC.out; have h2 := HMM.out; omega)⟩
      have HGX := Aside0.mk (HGA.out x (List.mem_of_getElem? hx))
      have HGY := Aside0.mk (HGB.out y (List.mem_of_getElem? hy))
      have HIX := Aside0.mk (show (P ++ (A ++ (B ++ S)))[h]? = some x by
        have h1 := HPC.out; have h2 := HMM.out
        rw [List.getElem?_append_right (by omega), List.getElem?_append_left (by omega), ← h2.1]; exact hx)
      have HIY := Aside0.mk (show (P ++ (A ++ (B ++ S)))[pc]? = some y by
        have h1 := HPC.out; have h2 := HMM.out
        rw [List.getElem?_append_right (by omega), List.getElem?_append_right (by omega), List.getElem?_append_left (by omega), ← h2.1]
        have e : pc - a - A.length = pc - m := by omega
        rw [e]; exact hy)
      clear hx hy
      have hhn : (h < n) = True := eq_true HPC.out.2.2.2.2.2.1
      have hpn : (pc < n) = True := eq_true HPC.out.2.2.2.2.2.2.1
      obtain ⟨X0, c0, X3, c3, hx0, hx1, hx2, hx3, hF_⟩ := at_NE HNr.out h x HIX.out
      have HFX := Aside0.mk hF_
      clear hF_
      obtain ⟨Y0, d0, Y3, d3, hy0, hy1, hy2, hy3, hF_⟩ := at_NE HNr.out pc y HIY.out
      have HFY := Aside0.mk hF_
      clear hF_
      have hmid2 := HMID2.out
      have hpw2 := HPW2.out
      by_cases hqz : q y x < 0
      · as_aux_lemma =>
        have hqt : (q y x < 0) = True := eq_true hqz
        have HQZ := Aside0.mk hqz
        clear hqz
        go_wp2
        refine s_ 14 [11] (fun w' => w'.cell? (ad.add (pc * 4)) = some (.slice Y0 y.f0.length d0) ∧ w'.cell? ⟨(ad.add (pc * 4)).block, (ad.add (pc * 4)).off + 1, none⟩ = some (.int .i64 y.f1) ∧ w'.cell? ⟨(ad.add (pc * 4)).block, (ad.add (pc * 4)).off + 2, none⟩ = some (.bool y.f2) ∧ w'.cell? ⟨(ad.add (pc * 4)).block, (ad.add (pc * 4)).off + 3, none⟩ = some (.slice Y3 y.f3.length d3) ∧ w'.cell? (ad.add (h * 4)) = some (.slice X0 x.f0.length c0) ∧ w'.cell? ⟨(ad.add (h * 4)).block, (ad.add (h * 4)).off + 1, none⟩ = some (.int .i64 x.f1) ∧ w'.cell? ⟨(ad.add (h * 4)).block, (ad.add (h * 4)).off + 2, none⟩ = some (.bool x.f2) ∧ w'.cell? ⟨(ad.add (h * 4)).block, (ad.add (h * 4)).off + 3, none⟩ = some (.slice X3 x.f3.length c3)) (hS := ⟨hy0, hy1, hy2, hy3, hx0, hx1, hx2, hx3⟩) (h := fun hHeld => ?_)
        refine p_ 0 158 (bb 14 1) (h := ?_)
        refine p_ 1 159 (bb 14 3) (h := ?_)
        refine p_ 2 160 (bb 14 7) (h := ?_)
        refine p_ 3 161 (bb 14 15) (h := ?_)
        refine p_ 4 162 (bb 14 31) (h := ?_)
        refine p_ 5 163 (bb 14 63) (h := ?_)
        refine t_ 6 164 (bb 14 127) hHeld (h := ?_)
        refine p_ 7 165 (bb 14 255) (h := ?_)
        refine p_ 8 166 (bb 14 511) (h := ?_)
        refine p_ 9 167 (bb 14 1023) (h := ?_)
        refine t_ 10 168 (bb 14 2047) hHeld (h := ?_)
        refine lcv_ 11 169 (bb 14 4095) #[] caps (#[.agg #[.slice Y0 y.f0.length d0, .int .i64 y.f1, .bool y.f2, .slice Y3 y.f3.length d3], .agg #[.slice X0 x.f0.length c0, .int .i64 x.f1, .bool x.f2, .slice X3 x.f3.length c3]] ++ caps) hf hfn hfb rfl rfl (by kernel_rfl) (by decide) (by rfl) rfl rfl (by (try simp only [List.map_toArray, List.map_cons, List.map_nil]); first | done | rfl) ?_
        refine (HSAY.out y x Y0 d0 Y3 d3 X0 c0 X3 c3 _ (HGY.out) (HGX.out) (HCH.out.drew).kept (k36_C (Kd.FK_now (Kd.FK_below HFY.out (below_drew (Below.refl _ _))))).1 (k36_C (Kd.FK_now (Kd.FK_below HFY.out (below_drew (Below.refl _ _))))).2.1 (k36_C (Kd.FK_now (Kd.FK_below HFY.out (below_drew (Below.refl _ _))))).2.2.1 (k36_C (Kd.FK_now (Kd.FK_below HFY.out (below_drew (Below.refl _ _))))).2.2.2 (k36_C (Kd.FK_now (Kd.FK_below HFX.out (below_drew (Below.refl _ _))))).1 (k36_C (Kd.FK_now (Kd.FK_below HFX.out (below_drew (Below.refl _ _))))).2.1 (k36_C (Kd.FK_now (Kd.FK_below HFX.out (below_drew (Below.refl _ _))))).2.2.1 (k36_C (Kd.FK_now (Kd.FK_below HFX.out (below_drew (Below.refl _ _))))).2.2.2).mono ?_
        rintro ex w3 ⟨rfl, hb3⟩
        refine ⟨_, rfl, ?_⟩
        have HB3 := Aside0.mk hb3
        clear hb3
        refine m_ 169 (h := ?_)
        refine p_ 12 170 (bb 14 8191) (h := ?_)
        refine p_ 13 171 (bb 14 16383) (h := ?_)
        refine d_ (h := ?_)
        have HNs3 := Aside0.mk (Kd.N_below (Kd.N_drew HNr.out) HB3.out)
        have HCH3 := Aside0.mk (HCH.out.drew.below_step HB3.out)
        go_wp2
        go_roundg (h - s)
        case measure => have h1 := HK.out; have h2 := HH.out; omega
        case rel => exact ⟨s, h, rfl, by first | rfl | rw [hmid2], ⟨by have h2 := HH.out; omega⟩, ⟨HI.out.1, HH.out.1, by have h1 := HI.out; have h2 := HH.out; omega⟩, ⟨HE.out.1, fun _ x' y' hx' hy' => by rw [HIX.out] at hx'; rw [← HPC.out.2.2.2.2.2.2.2.2, HIY.out] at hy'; injection hx' with e1; injection hy' with e2; rw [← e1, ← e2]; exact HQZ.out⟩, HNs3, HCH3⟩
      · as_aux_lemma =>
        have hqt : (q y x < 0) = False := eq_false hqz
        have HQZ := Aside0.mk (show 0 ≤ q y x by omega)
        clear hqz
        go_wp2
        refine s_ 14 [11] (fun w' => w'.cell? (ad.add (pc * 4)) = some (.slice Y0 y.f0.length d0) ∧ w'.cell? ⟨(ad.add (pc * 4)).block, (ad.add (pc * 4)).off + 1, none⟩ = some (.int .i64 y.f1) ∧ w'.cell? ⟨(ad.add (pc * 4)).block, (ad.add (pc * 4)).off + 2, none⟩ = some (.bool y.f2) ∧ w'.cell? ⟨(ad.add (pc * 4)).block, (ad.add (pc * 4)).off + 3, none⟩ = some (.slice Y3 y.f3.length d3) ∧ w'.cell? (ad.add (h * 4)) = some (.slice X0 x.f0.length c0) ∧ w'.cell? ⟨(ad.add (h * 4)).block, (ad.add (h * 4)).off + 1, none⟩ = some (.int .i64 x.f1) ∧ w'.cell? ⟨(ad.add (h * 4)).block, (ad.add (h * 4)).off + 2, none⟩ = some (.bool x.f2) ∧ w'.cell? ⟨(ad.add (h * 4)).block, (ad.add (h * 4)).off + 3, none⟩ = some (.slice X3 x.f3.length c3)) (hS := ⟨hy0, hy1, hy2, hy3, hx0, hx1, hx2, hx3⟩) (h := fun hHeld => ?_)
        refine p_ 0 158 (bb 14 1) (h := ?_)
        refine p_ 1 159 (bb 14 3) (h := ?_)
        refine p_ 2 160 (bb 14 7) (h := ?_)
        refine p_ 3 161 (bb 14 15) (h := ?_)
        refine p_ 4 162 (bb 14 31) (h := ?_)
        refine p_ 5 163 (bb 14 63) (h := ?_)
        refine t_ 6 164 (bb 14 127) hHeld (h := ?_)
        refine p_ 7 165 (bb 14 255) (h := ?_)
        refine p_ 8 166 (bb 14 511) (h := ?_)
        refine p_ 9 167 (bb 14 1023) (h := ?_)
        refine t_ 10 168 (bb 14 2047) hHeld (h := ?_)
        refine lcv_ 11 169 (bb 14 4095) #[] caps (#[.agg #[.slice Y0 y.f0.length d0, .int .i64 y.f1, .bool y.f2, .slice Y3 y.f3.length d3], .agg #[.slice X0 x.f0.length c0, .int .i64 x.f1, .bool x.f2, .slice X3 x.f3.length c3]] ++ caps) hf hfn hfb rfl rfl (by kernel_rfl) (by decide) (by rfl) rfl rfl (by (try simp only [List.map_toArray, List.map_cons, List.map_nil]); first | done | rfl) ?_
        refine (HSAY.out y x Y0 d0 Y3 d3 X0 c0 X3 c3 _ (HGY.out) (HGX.out) (HCH.out.drew).kept (k36_C (Kd.FK_now (Kd.FK_below HFY.out (below_drew (Below.refl _ _))))).1 (k36_C (Kd.FK_now (Kd.FK_below HFY.out (below_drew (Below.refl _ _))))).2.1 (k36_C (Kd.FK_now (Kd.FK_below HFY.out (below_drew (Below.refl _ _))))).2.2.1 (k36_C (Kd.FK_now (Kd.FK_below HFY.out (below_drew (Below.refl _ _))))).2.2.2 (k36_C (Kd.FK_now (Kd.FK_below HFX.out (below_drew (Below.refl _ _))))).1 (k36_C (Kd.FK_now (Kd.FK_below HFX.out (below_drew (Below.refl _ _))))).2.1 (k36_C (Kd.FK_now (Kd.FK_below HFX.out (below_drew (Below.refl _ _))))).2.2.1 (k36_C (Kd.FK_now (Kd.FK_below HFX.out (below_drew (Below.refl _ _))))).2.2.2).mono ?_
        rintro ex w3 ⟨rfl, hb3⟩
        refine ⟨_, rfl, ?_⟩
        have HB3 := Aside0.mk hb3
        clear hb3
        refine m_ 169 (h := ?_)
        refine p_ 12 170 (bb 14 8191) (h := ?_)
        refine p_ 13 171 (bb 14 16383) (h := ?_)
        refine d_ (h := ?_)
        have HNs3 := Aside0.mk (Kd.N_below (Kd.N_drew HNr.out) HB3.out)
        have HCH3 := Aside0.mk (HCH.out.drew.below_step HB3.out)
        go_wp2
        go_roundg (r - (h + 1))
        case measure => have h1 := HK.out; have h2 := HH.out; omega
        case rel => exact ⟨h + 1, r, by first | rfl | rw [HWH.out] | rw [hmid2, HWH.out], rfl, ⟨by have h2 := HH.out; omega⟩, ⟨by have h1 := HI.out; have h2 := HH.out; omega, by have h2 := HH.out; omega, HI.out.2.2⟩, ⟨fun _ x' y' hx' hy' => by rw [Nat.add_sub_cancel, HIX.out] at hx'; rw [← HPC.out.2.2.2.2.2.2.2.1, HIY.out] at hy'; injection hx' with e1; injection hy' with e2; rw [← e1, ← e2]; have h3 := HQZ.out; omega, HE.out.2⟩, HNs3, HCH3⟩
end Go.Proofs.Ytobjkjmmkbhecaa.Sk
