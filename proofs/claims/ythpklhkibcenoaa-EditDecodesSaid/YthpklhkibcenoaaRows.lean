/-
  No cell of these rows narrows 'for every input' (looked for: loops, veiled, ifaces, maps, wideKeys, modest, calm, conditions, laid).
  DERIVED. THE GIVEN ROWS OF THIS SEAT. 7 by the template 'for every input the law returns true; each argument reads behind the call as it read before'; 0 by the template 'total and deterministic' (their statements: YthpklhkibcenoaaTotals.lean).
  GIVEN WITH THE SEED: the statements are not yours to turn. If you find one false, say at which input.
  Laid BY PROGRAM, IN A SANDBOX (cutbox-rows.mjs): the forced cells as the released guide's own fill.sh prints them over the translation ec1025950df31ade… (all of the seat's roots in one cut). By AI agents, Wed Nov 11 2026. No macro, syntax, notation, axiom, sorry.
-/
import Derived.Test.YthpklhkibcenoaaChecked
import GoSem.Claim
import GoSem.ClaimJoined
import GoSem.ClaimMapViews
import Derived.JoinedTies
import Derived.KernelRfl
namespace Go.Proofs.Ythpklhkibcenoaa
/- THE CELL 'sum', in the pinned program and in every row, IS THE sha256 OF THE DUMP (.gsa) THAT YthpklhkibcenoaaProg.lean LOADS. Nothing in Lean hashes anything: it is a label: what it is worth is what the hold of that sum in a sandbox is worth. -/
noncomputable def Try.pinned : Pinned := { name := "ythpklhkibcenoaa", sum := "ec1025950df31adee2a637249a0fe6a0e53a12e17bdf9235633c39a086b84e97", checked := Try.checked }
namespace Rows
def none {H : Type} : Left H := { results := [], args := [] }

/-- 'sawyerlaw10.EditUndo': WHATEVER THE INPUT: true; the input reads as it did. -/
def editUndoSpec : ChangeSpec := { name := "editUndo", fn := fun _ => fun
  | [d1, d2] => { results := [.lit (.bool true)], args := [d1, d2] }
  | _ => none }
def editUndoRow : OpenClaim := { program := "ythpklhkibcenoaa", sum := "ec1025950df31adee2a637249a0fe6a0e53a12e17bdf9235633c39a086b84e97", func := "sawyer/sawyerlaw10.EditUndo", spec := "editUndo", inPlace := ["internal/bytealg.Compare"], unfollowed := true, recurses := true, apart := false }
def EditUndoSaid : Prop := editUndoRow.holds Try.pinned (OpenSpec.ofChange editUndoSpec)

/-- ITS FALSE NEIGHBOUR: 'it returns false'. Refute it at one input. -/
def editUndoWrong : ChangeSpec := { name := "editUndo", fn := fun _ => fun
  | [d1, d2] => { results := [.lit (.bool false)], args := [d1, d2] }
  | _ => none }
def EditUndoWrongFalsely : Prop := editUndoRow.holds Try.pinned (OpenSpec.ofChange editUndoWrong)

/-- 'sawyerlaw10.EditFinds': WHATEVER THE INPUT: true; the input reads as it did. -/
def editFindsSpec : ChangeSpec := { name := "editFinds", fn := fun _ => fun
  | [d1, d2] => { results := [.lit (.bool true)], args := [d1, d2] }
  | _ => none }
def editFindsRow : OpenClaim := { program := "ythpklhkibcenoaa", sum := "ec1025950df31adee2a637249a0fe6a0e53a12e17bdf9235633c39a086b84e97", func := "sawyer/sawyerlaw10.EditFinds", spec := "editFinds", inPlace := ["internal/bytealg.Compare"], unfollowed := true, recurses := true, apart := false }
def EditFindsSaid : Prop := editFindsRow.holds Try.pinned (OpenSpec.ofChange editFindsSpec)

/-- ITS FALSE NEIGHBOUR: 'it returns false'. Refute it at one input. -/
def editFindsWrong : ChangeSpec := { name := "editFinds", fn := fun _ => fun
  | [d1, d2] => { results := [.lit (.bool false)], args := [d1, d2] }
  | _ => none }
def EditFindsWrongFalsely : Prop := editFindsRow.holds Try.pinned (OpenSpec.ofChange editFindsWrong)

/-- 'sawyerlaw10.EditDrops': WHATEVER THE INPUT: true; the input reads as it did. -/
def editDropsSpec : ChangeSpec := { name := "editDrops", fn := fun _ => fun
  | [d] => { results := [.lit (.bool true)], args := [d] }
  | _ => none }
def editDropsRow : OpenClaim := { program := "ythpklhkibcenoaa", sum := "ec1025950df31adee2a637249a0fe6a0e53a12e17bdf9235633c39a086b84e97", func := "sawyer/sawyerlaw10.EditDrops", spec := "editDrops", inPlace := ["internal/bytealg.Compare"], unfollowed := true, recurses := true, apart := false }
def EditDropsSaid : Prop := editDropsRow.holds Try.pinned (OpenSpec.ofChange editDropsSpec)

/-- ITS FALSE NEIGHBOUR: 'it returns false'. Refute it at one input. -/
def editDropsWrong : ChangeSpec := { name := "editDrops", fn := fun _ => fun
  | [d] => { results := [.lit (.bool false)], args := [d] }
  | _ => none }
def EditDropsWrongFalsely : Prop := editDropsRow.holds Try.pinned (OpenSpec.ofChange editDropsWrong)

/-- 'sawyerlaw10.EditLevels': WHATEVER THE INPUT: true; the input reads as it did. -/
def editLevelsSpec : ChangeSpec := { name := "editLevels", fn := fun _ => fun
  | [d] => { results := [.lit (.bool true)], args := [d] }
  | _ => none }
def editLevelsRow : OpenClaim := { program := "ythpklhkibcenoaa", sum := "ec1025950df31adee2a637249a0fe6a0e53a12e17bdf9235633c39a086b84e97", func := "sawyer/sawyerlaw10.EditLevels", spec := "editLevels", inPlace := ["internal/bytealg.Compare"], unfollowed := true, recurses := true, apart := false }
def EditLevelsSaid : Prop := editLevelsRow.holds Try.pinned (OpenSpec.ofChange editLevelsSpec)

/-- ITS FALSE NEIGHBOUR: 'it returns false'. Refute it at one input. -/
def editLevelsWrong : ChangeSpec := { name := "editLevels", fn := fun _ => fun
  | [d] => { results := [.lit (.bool false)], args := [d] }
  | _ => none }
def EditLevelsWrongFalsely : Prop := editLevelsRow.holds Try.pinned (OpenSpec.ofChange editLevelsWrong)

/-- 'sawyerlaw10.EditCodes': WHATEVER THE INPUT: true; the input reads as it did. -/
def editCodesSpec : ChangeSpec := { name := "editCodes", fn := fun _ => fun
  | [d] => { results := [.lit (.bool true)], args := [d] }
  | _ => none }
def editCodesRow : OpenClaim := { program := "ythpklhkibcenoaa", sum := "ec1025950df31adee2a637249a0fe6a0e53a12e17bdf9235633c39a086b84e97", func := "sawyer/sawyerlaw10.EditCodes", spec := "editCodes", inPlace := ["internal/bytealg.Compare"], unfollowed := true, recurses := true, apart := false }
def EditCodesSaid : Prop := editCodesRow.holds Try.pinned (OpenSpec.ofChange editCodesSpec)

/-- ITS FALSE NEIGHBOUR: 'it returns false'. Refute it at one input. -/
def editCodesWrong : ChangeSpec := { name := "editCodes", fn := fun _ => fun
  | [d] => { results := [.lit (.bool false)], args := [d] }
  | _ => none }
def EditCodesWrongFalsely : Prop := editCodesRow.holds Try.pinned (OpenSpec.ofChange editCodesWrong)

/-- 'sawyerlaw10.EditDecodes': WHATEVER THE INPUT: true; the input reads as it did. -/
def editDecodesSpec : ChangeSpec := { name := "editDecodes", fn := fun _ => fun
  | [d] => { results := [.lit (.bool true)], args := [d] }
  | _ => none }
def editDecodesRow : OpenClaim := { program := "ythpklhkibcenoaa", sum := "ec1025950df31adee2a637249a0fe6a0e53a12e17bdf9235633c39a086b84e97", func := "sawyer/sawyerlaw10.EditDecodes", spec := "editDecodes", inPlace := ["internal/bytealg.Compare"], unfollowed := true, recurses := true, apart := false }
def EditDecodesSaid : Prop := editDecodesRow.holds Try.pinned (OpenSpec.ofChange editDecodesSpec)

/-- ITS FALSE NEIGHBOUR: 'it returns false'. Refute it at one input. -/
def editDecodesWrong : ChangeSpec := { name := "editDecodes", fn := fun _ => fun
  | [d] => { results := [.lit (.bool false)], args := [d] }
  | _ => none }
def EditDecodesWrongFalsely : Prop := editDecodesRow.holds Try.pinned (OpenSpec.ofChange editDecodesWrong)

/-- 'sawyerlaw10.EditBack': WHATEVER THE INPUT: true; the input reads as it did. -/
def editBackSpec : ChangeSpec := { name := "editBack", fn := fun _ => fun
  | [d1, d2] => { results := [.lit (.bool true)], args := [d1, d2] }
  | _ => none }
def editBackRow : OpenClaim := { program := "ythpklhkibcenoaa", sum := "ec1025950df31adee2a637249a0fe6a0e53a12e17bdf9235633c39a086b84e97", func := "sawyer/sawyerlaw10.EditBack", spec := "editBack", inPlace := ["internal/bytealg.Compare"], unfollowed := true, recurses := true, apart := false }
def EditBackSaid : Prop := editBackRow.holds Try.pinned (OpenSpec.ofChange editBackSpec)

/-- ITS FALSE NEIGHBOUR: 'it returns false'. Refute it at one input. -/
def editBackWrong : ChangeSpec := { name := "editBack", fn := fun _ => fun
  | [d1, d2] => { results := [.lit (.bool false)], args := [d1, d2] }
  | _ => none }
def EditBackWrongFalsely : Prop := editBackRow.holds Try.pinned (OpenSpec.ofChange editBackWrong)

/- THE SECOND FORM. 'bulk': how many values and letters a reading holds, each counted each time it is reached (what is shared counts as often as it is met; a slice's spare places count too). A statement '..UptoSaid' is the law's where the arguments, and the package variables that the reading takes, are together of bulk at most 1048576: NARROWER than '..Said'. Prove '..Said' where nothing that the law and all that it calls make is longer than what came in: it says more and counts as full. Else prove '..UptoSaid'. A law counts once. -/
mutual
def uptoBulk {H : Type} : DataW H → Nat
  | .lit (.string bytes) => bytes.length + 1
  | .lit _ => 1
  | .nil => 1
  | .ptr d => uptoBulk d + 1
  | .slice elems spare => uptoBulkAll elems + uptoBulkAll spare + 1
  | .agg parts => uptoBulkAll parts + 1
  | .iface _ d => uptoBulk d + 1
  | .map entries => uptoBulkEntries entries + 1
  | .held _ => 1
def uptoBulkAll {H : Type} : List (DataW H) → Nat
  | [] => 0
  | d :: r => uptoBulk d + uptoBulkAll r
def uptoBulkEntries {H : Type} : List (Lit × DataW H) → Nat
  | [] => 0
  | x :: r => uptoBulkEntry x + uptoBulkEntries r
def uptoBulkEntry {H : Type} : Lit × DataW H → Nat
  | (.string bytes, d) => bytes.length + uptoBulk d + 1
  | (_, d) => uptoBulk d + 1
 end
def uptoSmall : (H : Type) → List (DataW H) → Bool := fun _ ds => decide (uptoBulkAll ds ≤ 1048576)
def OpenSpec.upto (s : _root_.Go.ChangeSpec) : _root_.Go.OpenSpec := { _root_.Go.OpenSpec.ofChange s with cond := some uptoSmall }

/-- 'sawyerlaw10.EditUndo', WHERE WHAT IT READS IS OF BULK AT MOST 1048576: true; the input reads as it did. -/
def editUndoUptoRow : OpenClaim := { program := "ythpklhkibcenoaa", sum := "ec1025950df31adee2a637249a0fe6a0e53a12e17bdf9235633c39a086b84e97", func := "sawyer/sawyerlaw10.EditUndo", spec := "editUndo", inPlace := ["internal/bytealg.Compare"], unfollowed := true, recurses := true, apart := false, narrowed := true }
def EditUndoUptoSaid : Prop := editUndoUptoRow.holds Try.pinned (OpenSpec.upto editUndoSpec)

/-- 'sawyerlaw10.EditFinds', WHERE WHAT IT READS IS OF BULK AT MOST 1048576: true; the input reads as it did. -/
def editFindsUptoRow : OpenClaim := { program := "ythpklhkibcenoaa", sum := "ec1025950df31adee2a637249a0fe6a0e53a12e17bdf9235633c39a086b84e97", func := "sawyer/sawyerlaw10.EditFinds", spec := "editFinds", inPlace := ["internal/bytealg.Compare"], unfollowed := true, recurses := true, apart := false, narrowed := true }
def EditFindsUptoSaid : Prop := editFindsUptoRow.holds Try.pinned (OpenSpec.upto editFindsSpec)

/-- 'sawyerlaw10.EditDrops', WHERE WHAT IT READS IS OF BULK AT MOST 1048576: true; the input reads as it did. -/
def editDropsUptoRow : OpenClaim := { program := "ythpklhkibcenoaa", sum := "ec1025950df31adee2a637249a0fe6a0e53a12e17bdf9235633c39a086b84e97", func := "sawyer/sawyerlaw10.EditDrops", spec := "editDrops", inPlace := ["internal/bytealg.Compare"], unfollowed := true, recurses := true, apart := false, narrowed := true }
def EditDropsUptoSaid : Prop := editDropsUptoRow.holds Try.pinned (OpenSpec.upto editDropsSpec)

/-- 'sawyerlaw10.EditLevels', WHERE WHAT IT READS IS OF BULK AT MOST 1048576: true; the input reads as it did. -/
def editLevelsUptoRow : OpenClaim := { program := "ythpklhkibcenoaa", sum := "ec1025950df31adee2a637249a0fe6a0e53a12e17bdf9235633c39a086b84e97", func := "sawyer/sawyerlaw10.EditLevels", spec := "editLevels", inPlace := ["internal/bytealg.Compare"], unfollowed := true, recurses := true, apart := false, narrowed := true }
def EditLevelsUptoSaid : Prop := editLevelsUptoRow.holds Try.pinned (OpenSpec.upto editLevelsSpec)

/-- 'sawyerlaw10.EditCodes', WHERE WHAT IT READS IS OF BULK AT MOST 1048576: true; the input reads as it did. -/
def editCodesUptoRow : OpenClaim := { program := "ythpklhkibcenoaa", sum := "ec1025950df31adee2a637249a0fe6a0e53a12e17bdf9235633c39a086b84e97", func := "sawyer/sawyerlaw10.EditCodes", spec := "editCodes", inPlace := ["internal/bytealg.Compare"], unfollowed := true, recurses := true, apart := false, narrowed := true }
def EditCodesUptoSaid : Prop := editCodesUptoRow.holds Try.pinned (OpenSpec.upto editCodesSpec)

/-- 'sawyerlaw10.EditDecodes', WHERE WHAT IT READS IS OF BULK AT MOST 1048576: true; the input reads as it did. -/
def editDecodesUptoRow : OpenClaim := { program := "ythpklhkibcenoaa", sum := "ec1025950df31adee2a637249a0fe6a0e53a12e17bdf9235633c39a086b84e97", func := "sawyer/sawyerlaw10.EditDecodes", spec := "editDecodes", inPlace := ["internal/bytealg.Compare"], unfollowed := true, recurses := true, apart := false, narrowed := true }
def EditDecodesUptoSaid : Prop := editDecodesUptoRow.holds Try.pinned (OpenSpec.upto editDecodesSpec)

/-- 'sawyerlaw10.EditBack', WHERE WHAT IT READS IS OF BULK AT MOST 1048576: true; the input reads as it did. -/
def editBackUptoRow : OpenClaim := { program := "ythpklhkibcenoaa", sum := "ec1025950df31adee2a637249a0fe6a0e53a12e17bdf9235633c39a086b84e97", func := "sawyer/sawyerlaw10.EditBack", spec := "editBack", inPlace := ["internal/bytealg.Compare"], unfollowed := true, recurses := true, apart := false, narrowed := true }
def EditBackUptoSaid : Prop := editBackUptoRow.holds Try.pinned (OpenSpec.upto editBackSpec)

end Rows
end Go.Proofs.Ythpklhkibcenoaa
