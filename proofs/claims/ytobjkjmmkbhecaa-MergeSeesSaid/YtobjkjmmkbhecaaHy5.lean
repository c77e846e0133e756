/- Two neighbouring pieces of a row in order are merged. Conditions: those of each theorem. -/
import Derived.Test.YtobjkjmmkbhecaaCore
import Derived.Test.YtobjkjmmkbhecaaME
import Derived.Test.YtobjkjmmkbhecaaHso
import Derived.Test.YtobjkjmmkbhecaaHy1
import Derived.Test.YtobjkjmmkbhecaaHy2
import Derived.Test.YtobjkjmmkbhecaaHy3
import Derived.Test.YtobjkjmmkbhecaaHy4
import Derived.Test.YtobjkjmmkbhecaaPx0
import Derived.Test.YtobjkjmmkbhecaaSpecA
namespace Go.Proofs.Ytobjkjmmkbhecaa.Sk
open Go.RowKit Go.Proofs.YtobjkjmmkbhecaaW.PrintWords Go.Proofs.YtobjkjmmkbhecaaW.PrintLast Go.Proofs.YtobjkjmmkbhecaaW.PrintMore Go.Proofs.Ytobjkjmmkbhecaa.Px Go.Proofs.Ytobjkjmmkbhecaa.Sw
set_option linter.unusedVariables false
set_option linter.unusedSimpArgs false
theorem sym_calls {base n cap : Nat} {ok : Nat → Prop} {ad : Addr} (hsz : n ≤ 1000000000000) {G : S36 → Prop} {q : S36 → S36 → Int} (hq : POrd G q) (fid : Nat) (fn : Func) (caps : Array Value) (hf : Try.prog.funcs[fid]? = some fn) (hfn : (fn.name == "runtime.NumGoroutine") = false) (hfb : fn.body.isSome = true) : ∀ (sz : Nat) (w1 : World) (P A B S : List S36) (a m b : Nat), A.length + B.length ≤ sz → 0 < A.length → 0 < B.length → Kd.N k36 36 w1 base ok (.slice (some ad) n cap) (P ++ (A ++ (B ++ S))) → a = P.length → m = P.length + A.length → b = P.length + (A.length + B.length) → (∀ z ∈ A, G z) → (∀ z ∈ B, G z) → Srt q A → Srt q B → Says2 w1 (fun k => some k = (Value.slice (some ad) n cap).ownBlock) G fid caps q →
   Calls Try.prog 57 #[.slice (some ad) n cap, .int .i64 (a : Int), .int .i64 (m : Int), .int .i64 (b : Int), .func (.func fid) #[] caps] w1 fun ex w' => ex = .returned (.tuple #[]) ∧ (∃ M', Stb G q M' (A ++ B) ∧ Srt q M' ∧ Kd.N k36 36 w' base ok (.slice (some ad) n cap) (P ++ (M' ++ S))) ∧ Chg w1 w' (fun k => some k = (Value.slice (some ad) n cap).ownBlock)
 | 0, w1, P, A, B, S, a, m, b, hl, hA, hB, _, _, _, _, _, _, _, _, _ => by omega
 | sz + 1, w1, P, A, B, S, a, m, b, hl, hA, hB, hn, ha, hm, hb, hGA, hGB, hsA, hsB, hsay => by
  by_cases h1 : A.length = 1
  ·
   exact sym1_calls hn ha hm hb hsz hq hGA hGB hsA hsB fid fn caps hf hfn hfb hsay h1 hB
  by_cases h2 : B.length = 1
  ·
   exact sym2_calls hn ha hm hb hsz hq hGA hGB hsA hsB fid fn caps hf hfn hfb hsay (by omega) h2
  by_cases h3 : (a + b) / 2 < m
  ·
   exact sym3_calls hn ha hm hb hsz hq hGA hGB hsA hsB fid fn caps hf hfn hfb hsay (by omega) (by omega) _ rfl h3 (fun w2 P' A' B' S' a' m' b' hl' => sym_calls hsz hq fid fn caps hf hfn hfb sz w2 P' A' B' S' a' m' b' (by omega))
  ·
   exact sym4_calls hn ha hm hb hsz hq hGA hGB hsA hsB fid fn caps hf hfn hfb hsay (by omega) (by omega) _ rfl (by omega) (fun w2 P' A' B' S' a' m' b' hl' => sym_calls hsz hq fid fn caps hf hfn hfb sz w2 P' A' B' S' a' m' b' (by omega))
end Go.Proofs.Ytobjkjmmkbhecaa.Sk
