/-
  No cell of these rows narrows 'for every input' (looked for: loops, veiled, ifaces, maps, wideKeys, modest, calm, conditions, laid).
  DERIVED. THE GIVEN ROWS OF THIS SEAT. 20 by the template 'for every input the law returns true; each argument reads behind the call as it read before'; 0 by the template 'total and deterministic' (their statements: YtmkojpkajlpokaaTotals.lean).
  GIVEN WITH THE SEED: the statements are not yours to turn. If you find one false, say at which input.
  Laid BY PROGRAM, IN A SANDBOX (cutbox-rows.mjs): the forced cells as the released guide's own fill.sh prints them over the translation 78ec994f446a30fc… (all of the seat's roots in one cut). By AI agents, Wed Nov 11 2026. No macro, syntax, notation, axiom, sorry.
-/
import Derived.Test.YtmkojpkajlpokaaChecked
import GoSem.Claim
import GoSem.ClaimJoined
import GoSem.ClaimMapViews
import Derived.JoinedTies
import Derived.KernelRfl
namespace Go.Proofs.Ytmkojpkajlpokaa
/- THE CELL 'sum', in the pinned program and in every row, IS THE sha256 OF THE DUMP (.gsa) THAT YtmkojpkajlpokaaProg.lean LOADS. Nothing in Lean hashes anything: it is a label: what it is worth is what the hold of that sum in a sandbox is worth. -/
noncomputable def Try.pinned : Pinned := { name := "ytmkojpkajlpokaa", sum := "78ec994f446a30fc8fb99435d03f465bf913899c5d12a6e5c715aa0185eef37f", checked := Try.checked }
namespace Rows
def none {H : Type} : Left H := { results := [], args := [] }

/-- 'sawyerlaw03.KeyChain': WHATEVER THE INPUT: true; the input reads as it did. -/
def keyChainSpec : ChangeSpec := { name := "keyChain", fn := fun _ => fun
  | [d1, d2, d3] => { results := [.lit (.bool true)], args := [d1, d2, d3] }
  | _ => none }
def keyChainRow : OpenClaim := { program := "ytmkojpkajlpokaa", sum := "78ec994f446a30fc8fb99435d03f465bf913899c5d12a6e5c715aa0185eef37f", func := "sawyer/sawyerlaw03.KeyChain", spec := "keyChain", inPlace := ["internal/bytealg.Compare"], apart := false }
def KeyChainSaid : Prop := keyChainRow.holds Try.pinned (OpenSpec.ofChange keyChainSpec)

/-- ITS FALSE NEIGHBOUR: 'it returns false'. Refute it at one input. -/
def keyChainWrong : ChangeSpec := { name := "keyChain", fn := fun _ => fun
  | [d1, d2, d3] => { results := [.lit (.bool false)], args := [d1, d2, d3] }
  | _ => none }
def KeyChainWrongFalsely : Prop := keyChainRow.holds Try.pinned (OpenSpec.ofChange keyChainWrong)

/-- 'sawyerlaw02.CodeCrcs': WHATEVER THE INPUT: true; the input reads as it did. -/
def codeCrcsSpec : ChangeSpec := { name := "codeCrcs", fn := fun _ => fun
  | [d] => { results := [.lit (.bool true)], args := [d] }
  | _ => none }
def codeCrcsRow : OpenClaim := { program := "ytmkojpkajlpokaa", sum := "78ec994f446a30fc8fb99435d03f465bf913899c5d12a6e5c715aa0185eef37f", func := "sawyer/sawyerlaw02.CodeCrcs", spec := "codeCrcs", apart := false }
def CodeCrcsSaid : Prop := codeCrcsRow.holds Try.pinned (OpenSpec.ofChange codeCrcsSpec)

/-- ITS FALSE NEIGHBOUR: 'it returns false'. Refute it at one input. -/
def codeCrcsWrong : ChangeSpec := { name := "codeCrcs", fn := fun _ => fun
  | [d] => { results := [.lit (.bool false)], args := [d] }
  | _ => none }
def CodeCrcsWrongFalsely : Prop := codeCrcsRow.holds Try.pinned (OpenSpec.ofChange codeCrcsWrong)

/-- 'sawyerlaw02.CodeOrder': WHATEVER THE INPUT: true; the input reads as it did. -/
def codeOrderSpec : ChangeSpec := { name := "codeOrder", fn := fun _ => fun
  | [d1, d2] => { results := [.lit (.bool true)], args := [d1, d2] }
  | _ => none }
def codeOrderRow : OpenClaim := { program := "ytmkojpkajlpokaa", sum := "78ec994f446a30fc8fb99435d03f465bf913899c5d12a6e5c715aa0185eef37f", func := "sawyer/sawyerlaw02.CodeOrder", spec := "codeOrder", apart := false }
def CodeOrderSaid : Prop := codeOrderRow.holds Try.pinned (OpenSpec.ofChange codeOrderSpec)

/-- ITS FALSE NEIGHBOUR: 'it returns false'. Refute it at one input. -/
def codeOrderWrong : ChangeSpec := { name := "codeOrder", fn := fun _ => fun
  | [d1, d2] => { results := [.lit (.bool false)], args := [d1, d2] }
  | _ => none }
def CodeOrderWrongFalsely : Prop := codeOrderRow.holds Try.pinned (OpenSpec.ofChange codeOrderWrong)

/-- 'sawyerlaw02.CodePuts': WHATEVER THE INPUT: true; the input reads as it did. -/
def codePutsSpec : ChangeSpec := { name := "codePuts", fn := fun _ => fun
  | [d1, d2] => { results := [.lit (.bool true)], args := [d1, d2] }
  | _ => none }
def codePutsRow : OpenClaim := { program := "ytmkojpkajlpokaa", sum := "78ec994f446a30fc8fb99435d03f465bf913899c5d12a6e5c715aa0185eef37f", func := "sawyer/sawyerlaw02.CodePuts", spec := "codePuts", apart := false }
def CodePutsSaid : Prop := codePutsRow.holds Try.pinned (OpenSpec.ofChange codePutsSpec)

/-- ITS FALSE NEIGHBOUR: 'it returns false'. Refute it at one input. -/
def codePutsWrong : ChangeSpec := { name := "codePuts", fn := fun _ => fun
  | [d1, d2] => { results := [.lit (.bool false)], args := [d1, d2] }
  | _ => none }
def CodePutsWrongFalsely : Prop := codePutsRow.holds Try.pinned (OpenSpec.ofChange codePutsWrong)

/-- 'sawyerlaw02.CodeLong': WHATEVER THE INPUT: true; the input reads as it did. -/
def codeLongSpec : ChangeSpec := { name := "codeLong", fn := fun _ => fun
  | [d] => { results := [.lit (.bool true)], args := [d] }
  | _ => none }
def codeLongRow : OpenClaim := { program := "ytmkojpkajlpokaa", sum := "78ec994f446a30fc8fb99435d03f465bf913899c5d12a6e5c715aa0185eef37f", func := "sawyer/sawyerlaw02.CodeLong", spec := "codeLong", apart := false }
def CodeLongSaid : Prop := codeLongRow.holds Try.pinned (OpenSpec.ofChange codeLongSpec)

/-- ITS FALSE NEIGHBOUR: 'it returns false'. Refute it at one input. -/
def codeLongWrong : ChangeSpec := { name := "codeLong", fn := fun _ => fun
  | [d] => { results := [.lit (.bool false)], args := [d] }
  | _ => none }
def CodeLongWrongFalsely : Prop := codeLongRow.holds Try.pinned (OpenSpec.ofChange codeLongWrong)

/-- 'sawyerlaw02.CodeLinear': WHATEVER THE INPUT: true; the input reads as it did. -/
def codeLinearSpec : ChangeSpec := { name := "codeLinear", fn := fun _ => fun
  | [d1, d2, d3] => { results := [.lit (.bool true)], args := [d1, d2, d3] }
  | _ => none }
def codeLinearRow : OpenClaim := { program := "ytmkojpkajlpokaa", sum := "78ec994f446a30fc8fb99435d03f465bf913899c5d12a6e5c715aa0185eef37f", func := "sawyer/sawyerlaw02.CodeLinear", spec := "codeLinear", apart := false }
def CodeLinearSaid : Prop := codeLinearRow.holds Try.pinned (OpenSpec.ofChange codeLinearSpec)

/-- ITS FALSE NEIGHBOUR: 'it returns false'. Refute it at one input. -/
def codeLinearWrong : ChangeSpec := { name := "codeLinear", fn := fun _ => fun
  | [d1, d2, d3] => { results := [.lit (.bool false)], args := [d1, d2, d3] }
  | _ => none }
def CodeLinearWrongFalsely : Prop := codeLinearRow.holds Try.pinned (OpenSpec.ofChange codeLinearWrong)

/-- 'sawyerlaw03.KeyAsks': WHATEVER THE INPUT: true; the input reads as it did. -/
def keyAsksSpec : ChangeSpec := { name := "keyAsks", fn := fun _ => fun
  | [d1, d2] => { results := [.lit (.bool true)], args := [d1, d2] }
  | _ => none }
def keyAsksRow : OpenClaim := { program := "ytmkojpkajlpokaa", sum := "78ec994f446a30fc8fb99435d03f465bf913899c5d12a6e5c715aa0185eef37f", func := "sawyer/sawyerlaw03.KeyAsks", spec := "keyAsks", inPlace := ["internal/bytealg.Compare"], apart := false }
def KeyAsksSaid : Prop := keyAsksRow.holds Try.pinned (OpenSpec.ofChange keyAsksSpec)

/-- ITS FALSE NEIGHBOUR: 'it returns false'. Refute it at one input. -/
def keyAsksWrong : ChangeSpec := { name := "keyAsks", fn := fun _ => fun
  | [d1, d2] => { results := [.lit (.bool false)], args := [d1, d2] }
  | _ => none }
def KeyAsksWrongFalsely : Prop := keyAsksRow.holds Try.pinned (OpenSpec.ofChange keyAsksWrong)

/-- 'sawyerlaw03.KeyNext': WHATEVER THE INPUT: true; the input reads as it did. -/
def keyNextSpec : ChangeSpec := { name := "keyNext", fn := fun _ => fun
  | [d1, d2] => { results := [.lit (.bool true)], args := [d1, d2] }
  | _ => none }
def keyNextRow : OpenClaim := { program := "ytmkojpkajlpokaa", sum := "78ec994f446a30fc8fb99435d03f465bf913899c5d12a6e5c715aa0185eef37f", func := "sawyer/sawyerlaw03.KeyNext", spec := "keyNext", inPlace := ["internal/bytealg.Compare"], apart := false }
def KeyNextSaid : Prop := keyNextRow.holds Try.pinned (OpenSpec.ofChange keyNextSpec)

/-- ITS FALSE NEIGHBOUR: 'it returns false'. Refute it at one input. -/
def keyNextWrong : ChangeSpec := { name := "keyNext", fn := fun _ => fun
  | [d1, d2] => { results := [.lit (.bool false)], args := [d1, d2] }
  | _ => none }
def KeyNextWrongFalsely : Prop := keyNextRow.holds Try.pinned (OpenSpec.ofChange keyNextWrong)

/-- 'sawyerlaw02.CodeTakes': WHATEVER THE INPUT: true; the input reads as it did. -/
def codeTakesSpec : ChangeSpec := { name := "codeTakes", fn := fun _ => fun
  | [d] => { results := [.lit (.bool true)], args := [d] }
  | _ => none }
def codeTakesRow : OpenClaim := { program := "ytmkojpkajlpokaa", sum := "78ec994f446a30fc8fb99435d03f465bf913899c5d12a6e5c715aa0185eef37f", func := "sawyer/sawyerlaw02.CodeTakes", spec := "codeTakes", apart := false }
def CodeTakesSaid : Prop := codeTakesRow.holds Try.pinned (OpenSpec.ofChange codeTakesSpec)

/-- ITS FALSE NEIGHBOUR: 'it returns false'. Refute it at one input. -/
def codeTakesWrong : ChangeSpec := { name := "codeTakes", fn := fun _ => fun
  | [d] => { results := [.lit (.bool false)], args := [d] }
  | _ => none }
def CodeTakesWrongFalsely : Prop := codeTakesRow.holds Try.pinned (OpenSpec.ofChange codeTakesWrong)

/-- 'sawyerlaw02.CodeTexts': WHATEVER THE INPUT: true; the input reads as it did. -/
def codeTextsSpec : ChangeSpec := { name := "codeTexts", fn := fun _ => fun
  | [d1, d2, d3] => { results := [.lit (.bool true)], args := [d1, d2, d3] }
  | _ => none }
def codeTextsRow : OpenClaim := { program := "ytmkojpkajlpokaa", sum := "78ec994f446a30fc8fb99435d03f465bf913899c5d12a6e5c715aa0185eef37f", func := "sawyer/sawyerlaw02.CodeTexts", spec := "codeTexts", apart := false }
def CodeTextsSaid : Prop := codeTextsRow.holds Try.pinned (OpenSpec.ofChange codeTextsSpec)

/-- ITS FALSE NEIGHBOUR: 'it returns false'. Refute it at one input. -/
def codeTextsWrong : ChangeSpec := { name := "codeTexts", fn := fun _ => fun
  | [d1, d2, d3] => { results := [.lit (.bool false)], args := [d1, d2, d3] }
  | _ => none }
def CodeTextsWrongFalsely : Prop := codeTextsRow.holds Try.pinned (OpenSpec.ofChange codeTextsWrong)

/-- 'sawyerlaw03.KeySplits': WHATEVER THE INPUT: true; the input reads as it did. -/
def keySplitsSpec : ChangeSpec := { name := "keySplits", fn := fun _ => fun
  | [d] => { results := [.lit (.bool true)], args := [d] }
  | _ => none }
def keySplitsRow : OpenClaim := { program := "ytmkojpkajlpokaa", sum := "78ec994f446a30fc8fb99435d03f465bf913899c5d12a6e5c715aa0185eef37f", func := "sawyer/sawyerlaw03.KeySplits", spec := "keySplits", inPlace := ["internal/reflectlite.TypeOf"], unfollowed := true, recurses := true, apart := false }
def KeySplitsSaid : Prop := keySplitsRow.holds Try.pinned (OpenSpec.ofChange keySplitsSpec)

/-- ITS FALSE NEIGHBOUR: 'it returns false'. Refute it at one input. -/
def keySplitsWrong : ChangeSpec := { name := "keySplits", fn := fun _ => fun
  | [d] => { results := [.lit (.bool false)], args := [d] }
  | _ => none }
def KeySplitsWrongFalsely : Prop := keySplitsRow.holds Try.pinned (OpenSpec.ofChange keySplitsWrong)

/-- 'sawyerlaw03.KeyApart': WHATEVER THE INPUT: true; the input reads as it did. -/
def keyApartSpec : ChangeSpec := { name := "keyApart", fn := fun _ => fun
  | [d1, d2, d3, d4, d5, d6] => { results := [.lit (.bool true)], args := [d1, d2, d3, d4, d5, d6] }
  | _ => none }
def keyApartRow : OpenClaim := { program := "ytmkojpkajlpokaa", sum := "78ec994f446a30fc8fb99435d03f465bf913899c5d12a6e5c715aa0185eef37f", func := "sawyer/sawyerlaw03.KeyApart", spec := "keyApart", inPlace := ["internal/reflectlite.TypeOf", "internal/bytealg.Compare"], unfollowed := true, recurses := true, apart := false }
def KeyApartSaid : Prop := keyApartRow.holds Try.pinned (OpenSpec.ofChange keyApartSpec)

/-- ITS FALSE NEIGHBOUR: 'it returns false'. Refute it at one input. -/
def keyApartWrong : ChangeSpec := { name := "keyApart", fn := fun _ => fun
  | [d1, d2, d3, d4, d5, d6] => { results := [.lit (.bool false)], args := [d1, d2, d3, d4, d5, d6] }
  | _ => none }
def KeyApartWrongFalsely : Prop := keyApartRow.holds Try.pinned (OpenSpec.ofChange keyApartWrong)

/-- 'sawyerlaw03.KeyMakes': WHATEVER THE INPUT: true; the input reads as it did. -/
def keyMakesSpec : ChangeSpec := { name := "keyMakes", fn := fun _ => fun
  | [d1, d2, d3, d4] => { results := [.lit (.bool true)], args := [d1, d2, d3, d4] }
  | _ => none }
def keyMakesRow : OpenClaim := { program := "ytmkojpkajlpokaa", sum := "78ec994f446a30fc8fb99435d03f465bf913899c5d12a6e5c715aa0185eef37f", func := "sawyer/sawyerlaw03.KeyMakes", spec := "keyMakes", inPlace := ["internal/reflectlite.TypeOf"], unfollowed := true, recurses := true, apart := false }
def KeyMakesSaid : Prop := keyMakesRow.holds Try.pinned (OpenSpec.ofChange keyMakesSpec)

/-- ITS FALSE NEIGHBOUR: 'it returns false'. Refute it at one input. -/
def keyMakesWrong : ChangeSpec := { name := "keyMakes", fn := fun _ => fun
  | [d1, d2, d3, d4] => { results := [.lit (.bool false)], args := [d1, d2, d3, d4] }
  | _ => none }
def KeyMakesWrongFalsely : Prop := keyMakesRow.holds Try.pinned (OpenSpec.ofChange keyMakesWrong)

/-- 'sawyerlaw02.CodeFrames': WHATEVER THE INPUT: true; the input reads as it did. -/
def codeFramesSpec : ChangeSpec := { name := "codeFrames", fn := fun _ => fun
  | [d1, d2, d3] => { results := [.lit (.bool true)], args := [d1, d2, d3] }
  | _ => none }
def codeFramesRow : OpenClaim := { program := "ytmkojpkajlpokaa", sum := "78ec994f446a30fc8fb99435d03f465bf913899c5d12a6e5c715aa0185eef37f", func := "sawyer/sawyerlaw02.CodeFrames", spec := "codeFrames", apart := false }
def CodeFramesSaid : Prop := codeFramesRow.holds Try.pinned (OpenSpec.ofChange codeFramesSpec)

/-- ITS FALSE NEIGHBOUR: 'it returns false'. Refute it at one input. -/
def codeFramesWrong : ChangeSpec := { name := "codeFrames", fn := fun _ => fun
  | [d1, d2, d3] => { results := [.lit (.bool false)], args := [d1, d2, d3] }
  | _ => none }
def CodeFramesWrongFalsely : Prop := codeFramesRow.holds Try.pinned (OpenSpec.ofChange codeFramesWrong)

/-- 'sawyerlaw02.CodeCut': WHATEVER THE INPUT: true; the input reads as it did. -/
def codeCutSpec : ChangeSpec := { name := "codeCut", fn := fun _ => fun
  | [d1, d2, d3] => { results := [.lit (.bool true)], args := [d1, d2, d3] }
  | _ => none }
def codeCutRow : OpenClaim := { program := "ytmkojpkajlpokaa", sum := "78ec994f446a30fc8fb99435d03f465bf913899c5d12a6e5c715aa0185eef37f", func := "sawyer/sawyerlaw02.CodeCut", spec := "codeCut", apart := false }
def CodeCutSaid : Prop := codeCutRow.holds Try.pinned (OpenSpec.ofChange codeCutSpec)

/-- ITS FALSE NEIGHBOUR: 'it returns false'. Refute it at one input. -/
def codeCutWrong : ChangeSpec := { name := "codeCut", fn := fun _ => fun
  | [d1, d2, d3] => { results := [.lit (.bool false)], args := [d1, d2, d3] }
  | _ => none }
def CodeCutWrongFalsely : Prop := codeCutRow.holds Try.pinned (OpenSpec.ofChange codeCutWrong)

/-- 'sawyerlaw03.KeyOrder': WHATEVER THE INPUT: true; the input reads as it did. -/
def keyOrderSpec : ChangeSpec := { name := "keyOrder", fn := fun _ => fun
  | [d1, d2, d3, d4, d5, d6] => { results := [.lit (.bool true)], args := [d1, d2, d3, d4, d5, d6] }
  | _ => none }
def keyOrderRow : OpenClaim := { program := "ytmkojpkajlpokaa", sum := "78ec994f446a30fc8fb99435d03f465bf913899c5d12a6e5c715aa0185eef37f", func := "sawyer/sawyerlaw03.KeyOrder", spec := "keyOrder", inPlace := ["internal/reflectlite.TypeOf", "internal/bytealg.Compare"], unfollowed := true, recurses := true, apart := false }
def KeyOrderSaid : Prop := keyOrderRow.holds Try.pinned (OpenSpec.ofChange keyOrderSpec)

/-- ITS FALSE NEIGHBOUR: 'it returns false'. Refute it at one input. -/
def keyOrderWrong : ChangeSpec := { name := "keyOrder", fn := fun _ => fun
  | [d1, d2, d3, d4, d5, d6] => { results := [.lit (.bool false)], args := [d1, d2, d3, d4, d5, d6] }
  | _ => none }
def KeyOrderWrongFalsely : Prop := keyOrderRow.holds Try.pinned (OpenSpec.ofChange keyOrderWrong)

/-- 'sawyerlaw02.CodeOnly': WHATEVER THE INPUT: true; the input reads as it did. -/
def codeOnlySpec : ChangeSpec := { name := "codeOnly", fn := fun _ => fun
  | [d] => { results := [.lit (.bool true)], args := [d] }
  | _ => none }
def codeOnlyRow : OpenClaim := { program := "ytmkojpkajlpokaa", sum := "78ec994f446a30fc8fb99435d03f465bf913899c5d12a6e5c715aa0185eef37f", func := "sawyer/sawyerlaw02.CodeOnly", spec := "codeOnly", apart := false }
def CodeOnlySaid : Prop := codeOnlyRow.holds Try.pinned (OpenSpec.ofChange codeOnlySpec)

/-- ITS FALSE NEIGHBOUR: 'it returns false'. Refute it at one input. -/
def codeOnlyWrong : ChangeSpec := { name := "codeOnly", fn := fun _ => fun
  | [d] => { results := [.lit (.bool false)], args := [d] }
  | _ => none }
def CodeOnlyWrongFalsely : Prop := codeOnlyRow.holds Try.pinned (OpenSpec.ofChange codeOnlyWrong)

/-- 'sawyerlaw03.KeyBack': WHATEVER THE INPUT: true; the input reads as it did. -/
def keyBackSpec : ChangeSpec := { name := "keyBack", fn := fun _ => fun
  | [d1, d2, d3] => { results := [.lit (.bool true)], args := [d1, d2, d3] }
  | _ => none }
def keyBackRow : OpenClaim := { program := "ytmkojpkajlpokaa", sum := "78ec994f446a30fc8fb99435d03f465bf913899c5d12a6e5c715aa0185eef37f", func := "sawyer/sawyerlaw03.KeyBack", spec := "keyBack", inPlace := ["internal/reflectlite.TypeOf"], unfollowed := true, recurses := true, apart := false }
def KeyBackSaid : Prop := keyBackRow.holds Try.pinned (OpenSpec.ofChange keyBackSpec)

/-- ITS FALSE NEIGHBOUR: 'it returns false'. Refute it at one input. -/
def keyBackWrong : ChangeSpec := { name := "keyBack", fn := fun _ => fun
  | [d1, d2, d3] => { results := [.lit (.bool false)], args := [d1, d2, d3] }
  | _ => none }
def KeyBackWrongFalsely : Prop := keyBackRow.holds Try.pinned (OpenSpec.ofChange keyBackWrong)

/-- 'sawyerlaw03.KeyTables': WHATEVER THE INPUT: true; the input reads as it did. -/
def keyTablesSpec : ChangeSpec := { name := "keyTables", fn := fun _ => fun
  | [d1, d2, d3, d4, d5] => { results := [.lit (.bool true)], args := [d1, d2, d3, d4, d5] }
  | _ => none }
def keyTablesRow : OpenClaim := { program := "ytmkojpkajlpokaa", sum := "78ec994f446a30fc8fb99435d03f465bf913899c5d12a6e5c715aa0185eef37f", func := "sawyer/sawyerlaw03.KeyTables", spec := "keyTables", inPlace := ["internal/reflectlite.TypeOf", "internal/bytealg.Compare"], unfollowed := true, recurses := true, apart := false }
def KeyTablesSaid : Prop := keyTablesRow.holds Try.pinned (OpenSpec.ofChange keyTablesSpec)

/-- ITS FALSE NEIGHBOUR: 'it returns false'. Refute it at one input. -/
def keyTablesWrong : ChangeSpec := { name := "keyTables", fn := fun _ => fun
  | [d1, d2, d3, d4, d5] => { results := [.lit (.bool false)], args := [d1, d2, d3, d4, d5] }
  | _ => none }
def KeyTablesWrongFalsely : Prop := keyTablesRow.holds Try.pinned (OpenSpec.ofChange keyTablesWrong)

/-- 'sawyerlaw02.CodeBack': WHATEVER THE INPUT: true; the input reads as it did. -/
def codeBackSpec : ChangeSpec := { name := "codeBack", fn := fun _ => fun
  | [d1, d2, d3, d4, d5] => { results := [.lit (.bool true)], args := [d1, d2, d3, d4, d5] }
  | _ => none }
def codeBackRow : OpenClaim := { program := "ytmkojpkajlpokaa", sum := "78ec994f446a30fc8fb99435d03f465bf913899c5d12a6e5c715aa0185eef37f", func := "sawyer/sawyerlaw02.CodeBack", spec := "codeBack", apart := false }
def CodeBackSaid : Prop := codeBackRow.holds Try.pinned (OpenSpec.ofChange codeBackSpec)

/-- ITS FALSE NEIGHBOUR: 'it returns false'. Refute it at one input. -/
def codeBackWrong : ChangeSpec := { name := "codeBack", fn := fun _ => fun
  | [d1, d2, d3, d4, d5] => { results := [.lit (.bool false)], args := [d1, d2, d3, d4, d5] }
  | _ => none }
def CodeBackWrongFalsely : Prop := codeBackRow.holds Try.pinned (OpenSpec.ofChange codeBackWrong)

/- THE SECOND FORM. 'bulk': how many values and letters a reading holds, each counted each time it is reached (what is shared counts as often as it is met; a slice's spare places count too). A statement '..UptoSaid' is the law's where the arguments, and the package variables that the reading takes, are together of bulk at most 1048576: NARROWER than '..Said'. Prove '..Said' where nothing that the law and all that it calls make is longer than what came in: it says more and counts as full. Else prove '..UptoSaid'. A law counts once. -/
mutual
def uptoBulk {H : Type} : DataW H → Nat
  | .lit (.string bytes) => bytes.length + 1
  | .lit _ => 1
  | .nil => 1
  | .ptr d => uptoBulk d + 1
  | .slice elems spare => uptoBulkAll elems + uptoBulkAll spare + 1
  | .agg parts => uptoBulkAll parts + 1
  | .iface _ d => uptoBulk d + 1
  | .map entries => uptoBulkEntries entries + 1
  | .held _ => 1
def uptoBulkAll {H : Type} : List (DataW H) → Nat
  | [] => 0
  | d :: r => uptoBulk d + uptoBulkAll r
def uptoBulkEntries {H : Type} : List (Lit × DataW H) → Nat
  | [] => 0
  | x :: r => uptoBulkEntry x + uptoBulkEntries r
def uptoBulkEntry {H : Type} : Lit × DataW H → Nat
  | (.string bytes, d) => bytes.length + uptoBulk d + 1
  | (_, d) => uptoBulk d + 1
 end
def uptoSmall : (H : Type) → List (DataW H) → Bool := fun _ ds => decide (uptoBulkAll ds ≤ 1048576)
def OpenSpec.upto (s : _root_.Go.ChangeSpec) : _root_.Go.OpenSpec := { _root_.Go.OpenSpec.ofChange s with cond := some uptoSmall }

/-- 'sawyerlaw03.KeyChain', WHERE WHAT IT READS IS OF BULK AT MOST 1048576: true; the input reads as it did. -/
def keyChainUptoRow : OpenClaim := { program := "ytmkojpkajlpokaa", sum := "78ec994f446a30fc8fb99435d03f465bf913899c5d12a6e5c715aa0185eef37f", func := "sawyer/sawyerlaw03.KeyChain", spec := "keyChain", inPlace := ["internal/bytealg.Compare"], apart := false, narrowed := true }
def KeyChainUptoSaid : Prop := keyChainUptoRow.holds Try.pinned (OpenSpec.upto keyChainSpec)

/-- 'sawyerlaw02.CodeCrcs', WHERE WHAT IT READS IS OF BULK AT MOST 1048576: true; the input reads as it did. -/
def codeCrcsUptoRow : OpenClaim := { program := "ytmkojpkajlpokaa", sum := "78ec994f446a30fc8fb99435d03f465bf913899c5d12a6e5c715aa0185eef37f", func := "sawyer/sawyerlaw02.CodeCrcs", spec := "codeCrcs", apart := false, narrowed := true }
def CodeCrcsUptoSaid : Prop := codeCrcsUptoRow.holds Try.pinned (OpenSpec.upto codeCrcsSpec)

/-- 'sawyerlaw02.CodeOrder', WHERE WHAT IT READS IS OF BULK AT MOST 1048576: true; the input reads as it did. -/
def codeOrderUptoRow : OpenClaim := { program := "ytmkojpkajlpokaa", sum := "78ec994f446a30fc8fb99435d03f465bf913899c5d12a6e5c715aa0185eef37f", func := "sawyer/sawyerlaw02.CodeOrder", spec := "codeOrder", apart := false, narrowed := true }
def CodeOrderUptoSaid : Prop := codeOrderUptoRow.holds Try.pinned (OpenSpec.upto codeOrderSpec)

/-- 'sawyerlaw02.CodePuts', WHERE WHAT IT READS IS OF BULK AT MOST 1048576: true; the input reads as it did. -/
def codePutsUptoRow : OpenClaim := { program := "ytmkojpkajlpokaa", sum := "78ec994f446a30fc8fb99435d03f465bf913899c5d12a6e5c715aa0185eef37f", func := "sawyer/sawyerlaw02.CodePuts", spec := "codePuts", apart := false, narrowed := true }
def CodePutsUptoSaid : Prop := codePutsUptoRow.holds Try.pinned (OpenSpec.upto codePutsSpec)

/-- 'sawyerlaw02.CodeLong', WHERE WHAT IT READS IS OF BULK AT MOST 1048576: true; the input reads as it did. -/
def codeLongUptoRow : OpenClaim := { program := "ytmkojpkajlpokaa", sum := "78ec994f446a30fc8fb99435d03f465bf913899c5d12a6e5c715aa0185eef37f", func := "sawyer/sawyerlaw02.CodeLong", spec := "codeLong", apart := false, narrowed := true }
def CodeLongUptoSaid : Prop := codeLongUptoRow.holds Try.pinned (OpenSpec.upto codeLongSpec)

/-- 'sawyerlaw02.CodeLinear', WHERE WHAT IT READS IS OF BULK AT MOST 1048576: true; the input reads as it did. -/
def codeLinearUptoRow : OpenClaim := { program := "ytmkojpkajlpokaa", sum := "78ec994f446a30fc8fb99435d03f465bf913899c5d12a6e5c715aa0185eef37f", func := "sawyer/sawyerlaw02.CodeLinear", spec := "codeLinear", apart := false, narrowed := true }
def CodeLinearUptoSaid : Prop := codeLinearUptoRow.holds Try.pinned (OpenSpec.upto codeLinearSpec)

/-- 'sawyerlaw03.KeyAsks', WHERE WHAT IT READS IS OF BULK AT MOST 1048576: true; the input reads as it did. -/
def keyAsksUptoRow : OpenClaim := { program := "ytmkojpkajlpokaa", sum := "78ec994f446a30fc8fb99435d03f465bf913899c5d12a6e5c715aa0185eef37f", func := "sawyer/sawyerlaw03.KeyAsks", spec := "keyAsks", inPlace := ["internal/bytealg.Compare"], apart := false, narrowed := true }
def KeyAsksUptoSaid : Prop := keyAsksUptoRow.holds Try.pinned (OpenSpec.upto keyAsksSpec)

/-- 'sawyerlaw03.KeyNext', WHERE WHAT IT READS IS OF BULK AT MOST 1048576: true; the input reads as it did. -/
def keyNextUptoRow : OpenClaim := { program := "ytmkojpkajlpokaa", sum := "78ec994f446a30fc8fb99435d03f465bf913899c5d12a6e5c715aa0185eef37f", func := "sawyer/sawyerlaw03.KeyNext", spec := "keyNext", inPlace := ["internal/bytealg.Compare"], apart := false, narrowed := true }
def KeyNextUptoSaid : Prop := keyNextUptoRow.holds Try.pinned (OpenSpec.upto keyNextSpec)

/-- 'sawyerlaw02.CodeTakes', WHERE WHAT IT READS IS OF BULK AT MOST 1048576: true; the input reads as it did. -/
def codeTakesUptoRow : OpenClaim := { program := "ytmkojpkajlpokaa", sum := "78ec994f446a30fc8fb99435d03f465bf913899c5d12a6e5c715aa0185eef37f", func := "sawyer/sawyerlaw02.CodeTakes", spec := "codeTakes", apart := false, narrowed := true }
def CodeTakesUptoSaid : Prop := codeTakesUptoRow.holds Try.pinned (OpenSpec.upto codeTakesSpec)

/-- 'sawyerlaw02.CodeTexts', WHERE WHAT IT READS IS OF BULK AT MOST 1048576: true; the input reads as it did. -/
def codeTextsUptoRow : OpenClaim := { program := "ytmkojpkajlpokaa", sum := "78ec994f446a30fc8fb99435d03f465bf913899c5d12a6e5c715aa0185eef37f", func := "sawyer/sawyerlaw02.CodeTexts", spec := "codeTexts", apart := false, narrowed := true }
def CodeTextsUptoSaid : Prop := codeTextsUptoRow.holds Try.pinned (OpenSpec.upto codeTextsSpec)

/-- 'sawyerlaw03.KeySplits', WHERE WHAT IT READS IS OF BULK AT MOST 1048576: true; the input reads as it did. -/
def keySplitsUptoRow : OpenClaim := { program := "ytmkojpkajlpokaa", sum := "78ec994f446a30fc8fb99435d03f465bf913899c5d12a6e5c715aa0185eef37f", func := "sawyer/sawyerlaw03.KeySplits", spec := "keySplits", inPlace := ["internal/reflectlite.TypeOf"], unfollowed := true, recurses := true, apart := false, narrowed := true }
def KeySplitsUptoSaid : Prop := keySplitsUptoRow.holds Try.pinned (OpenSpec.upto keySplitsSpec)

/-- 'sawyerlaw03.KeyApart', WHERE WHAT IT READS IS OF BULK AT MOST 1048576: true; the input reads as it did. -/
def keyApartUptoRow : OpenClaim := { program := "ytmkojpkajlpokaa", sum := "78ec994f446a30fc8fb99435d03f465bf913899c5d12a6e5c715aa0185eef37f", func := "sawyer/sawyerlaw03.KeyApart", spec := "keyApart", inPlace := ["internal/reflectlite.TypeOf", "internal/bytealg.Compare"], unfollowed := true, recurses := true, apart := false, narrowed := true }
def KeyApartUptoSaid : Prop := keyApartUptoRow.holds Try.pinned (OpenSpec.upto keyApartSpec)

/-- 'sawyerlaw03.KeyMakes', WHERE WHAT IT READS IS OF BULK AT MOST 1048576: true; the input reads as it did. -/
def keyMakesUptoRow : OpenClaim := { program := "ytmkojpkajlpokaa", sum := "78ec994f446a30fc8fb99435d03f465bf913899c5d12a6e5c715aa0185eef37f", func := "sawyer/sawyerlaw03.KeyMakes", spec := "keyMakes", inPlace := ["internal/reflectlite.TypeOf"], unfollowed := true, recurses := true, apart := false, narrowed := true }
def KeyMakesUptoSaid : Prop := keyMakesUptoRow.holds Try.pinned (OpenSpec.upto keyMakesSpec)

/-- 'sawyerlaw02.CodeFrames', WHERE WHAT IT READS IS OF BULK AT MOST 1048576: true; the input reads as it did. -/
def codeFramesUptoRow : OpenClaim := { program := "ytmkojpkajlpokaa", sum := "78ec994f446a30fc8fb99435d03f465bf913899c5d12a6e5c715aa0185eef37f", func := "sawyer/sawyerlaw02.CodeFrames", spec := "codeFrames", apart := false, narrowed := true }
def CodeFramesUptoSaid : Prop := codeFramesUptoRow.holds Try.pinned (OpenSpec.upto codeFramesSpec)

/-- 'sawyerlaw02.CodeCut', WHERE WHAT IT READS IS OF BULK AT MOST 1048576: true; the input reads as it did. -/
def codeCutUptoRow : OpenClaim := { program := "ytmkojpkajlpokaa", sum := "78ec994f446a30fc8fb99435d03f465bf913899c5d12a6e5c715aa0185eef37f", func := "sawyer/sawyerlaw02.CodeCut", spec := "codeCut", apart := false, narrowed := true }
def CodeCutUptoSaid : Prop := codeCutUptoRow.holds Try.pinned (OpenSpec.upto codeCutSpec)

/-- 'sawyerlaw03.KeyOrder', WHERE WHAT IT READS IS OF BULK AT MOST 1048576: true; the input reads as it did. -/
def keyOrderUptoRow : OpenClaim := { program := "ytmkojpkajlpokaa", sum := "78ec994f446a30fc8fb99435d03f465bf913899c5d12a6e5c715aa0185eef37f", func := "sawyer/sawyerlaw03.KeyOrder", spec := "keyOrder", inPlace := ["internal/reflectlite.TypeOf", "internal/bytealg.Compare"], unfollowed := true, recurses := true, apart := false, narrowed := true }
def KeyOrderUptoSaid : Prop := keyOrderUptoRow.holds Try.pinned (OpenSpec.upto keyOrderSpec)

/-- 'sawyerlaw02.CodeOnly', WHERE WHAT IT READS IS OF BULK AT MOST 1048576: true; the input reads as it did. -/
def codeOnlyUptoRow : OpenClaim := { program := "ytmkojpkajlpokaa", sum := "78ec994f446a30fc8fb99435d03f465bf913899c5d12a6e5c715aa0185eef37f", func := "sawyer/sawyerlaw02.CodeOnly", spec := "codeOnly", apart := false, narrowed := true }
def CodeOnlyUptoSaid : Prop := codeOnlyUptoRow.holds Try.pinned (OpenSpec.upto codeOnlySpec)

/-- 'sawyerlaw03.KeyBack', WHERE WHAT IT READS IS OF BULK AT MOST 1048576: true; the input reads as it did. -/
def keyBackUptoRow : OpenClaim := { program := "ytmkojpkajlpokaa", sum := "78ec994f446a30fc8fb99435d03f465bf913899c5d12a6e5c715aa0185eef37f", func := "sawyer/sawyerlaw03.KeyBack", spec := "keyBack", inPlace := ["internal/reflectlite.TypeOf"], unfollowed := true, recurses := true, apart := false, narrowed := true }
def KeyBackUptoSaid : Prop := keyBackUptoRow.holds Try.pinned (OpenSpec.upto keyBackSpec)

/-- 'sawyerlaw03.KeyTables', WHERE WHAT IT READS IS OF BULK AT MOST 1048576: true; the input reads as it did. -/
def keyTablesUptoRow : OpenClaim := { program := "ytmkojpkajlpokaa", sum := "78ec994f446a30fc8fb99435d03f465bf913899c5d12a6e5c715aa0185eef37f", func := "sawyer/sawyerlaw03.KeyTables", spec := "keyTables", inPlace := ["internal/reflectlite.TypeOf", "internal/bytealg.Compare"], unfollowed := true, recurses := true, apart := false, narrowed := true }
def KeyTablesUptoSaid : Prop := keyTablesUptoRow.holds Try.pinned (OpenSpec.upto keyTablesSpec)

/-- 'sawyerlaw02.CodeBack', WHERE WHAT IT READS IS OF BULK AT MOST 1048576: true; the input reads as it did. -/
def codeBackUptoRow : OpenClaim := { program := "ytmkojpkajlpokaa", sum := "78ec994f446a30fc8fb99435d03f465bf913899c5d12a6e5c715aa0185eef37f", func := "sawyer/sawyerlaw02.CodeBack", spec := "codeBack", apart := false, narrowed := true }
def CodeBackUptoSaid : Prop := codeBackUptoRow.holds Try.pinned (OpenSpec.upto codeBackSpec)

end Rows
end Go.Proofs.Ytmkojpkajlpokaa
