/-
  No cell of these rows narrows 'for every input' (looked for: loops, veiled, ifaces, maps, wideKeys, modest, calm, conditions, laid).
  DERIVED. THE GIVEN ROWS OF THIS SEAT. 7 by the template 'for every input the law returns true; each argument reads behind the call as it read before'; 0 by the template 'total and deterministic' (their statements: YtjlkcidohabcfaaTotals.lean).
  GIVEN WITH THE SEED: the statements are not yours to turn. If you find one false, say at which input.
  Laid BY PROGRAM, IN A SANDBOX (cutbox-rows.mjs): the forced cells as the released guide's own fill.sh prints them over the translation eec20e68218fa7b8… (all of the seat's roots in one cut). By AI agents, Wed Nov 11 2026. No macro, syntax, notation, axiom, sorry.
-/
import Derived.Test.YtjlkcidohabcfaaChecked
import GoSem.Claim
import GoSem.ClaimJoined
import GoSem.ClaimMapViews
import Derived.JoinedTies
import Derived.KernelRfl
namespace Go.Proofs.Ytjlkcidohabcfaa
/- THE CELL 'sum', in the pinned program and in every row, IS THE sha256 OF THE DUMP (.gsa) THAT YtjlkcidohabcfaaProg.lean LOADS. Nothing in Lean hashes anything: it is a label: what it is worth is what the hold of that sum in a sandbox is worth. -/
noncomputable def Try.pinned : Pinned := { name := "ytjlkcidohabcfaa", sum := "eec20e68218fa7b8f75e33e9771379b561be3baa36698250b5d297a9b6129fd2", checked := Try.checked }
namespace Rows
def none {H : Type} : Left H := { results := [], args := [] }

/-- 'sawyerlaw06.SkipPlays': WHATEVER THE INPUT: true; the input reads as it did. -/
def skipPlaysSpec : ChangeSpec := { name := "skipPlays", fn := fun _ => fun
  | [d] => { results := [.lit (.bool true)], args := [d] }
  | _ => none }
def skipPlaysRow : OpenClaim := { program := "ytjlkcidohabcfaa", sum := "eec20e68218fa7b8f75e33e9771379b561be3baa36698250b5d297a9b6129fd2", func := "sawyer/sawyerlaw06.SkipPlays", spec := "skipPlays", inPlace := ["internal/bytealg.Compare"], unfollowed := true, recurses := true, apart := false }
def SkipPlaysSaid : Prop := skipPlaysRow.holds Try.pinned (OpenSpec.ofChange skipPlaysSpec)

/-- ITS FALSE NEIGHBOUR: 'it returns false'. Refute it at one input. -/
def skipPlaysWrong : ChangeSpec := { name := "skipPlays", fn := fun _ => fun
  | [d] => { results := [.lit (.bool false)], args := [d] }
  | _ => none }
def SkipPlaysWrongFalsely : Prop := skipPlaysRow.holds Try.pinned (OpenSpec.ofChange skipPlaysWrong)

/-- 'sawyerlaw06.SkipHeights': WHATEVER THE INPUT: true; the input reads as it did. -/
def skipHeightsSpec : ChangeSpec := { name := "skipHeights", fn := fun _ => fun
  | [d1, d2, d3, d4] => { results := [.lit (.bool true)], args := [d1, d2, d3, d4] }
  | _ => none }
def skipHeightsRow : OpenClaim := { program := "ytjlkcidohabcfaa", sum := "eec20e68218fa7b8f75e33e9771379b561be3baa36698250b5d297a9b6129fd2", func := "sawyer/sawyerlaw06.SkipHeights", spec := "skipHeights", inPlace := ["internal/bytealg.Compare"], unfollowed := true, recurses := true, apart := false }
def SkipHeightsSaid : Prop := skipHeightsRow.holds Try.pinned (OpenSpec.ofChange skipHeightsSpec)

/-- ITS FALSE NEIGHBOUR: 'it returns false'. Refute it at one input. -/
def skipHeightsWrong : ChangeSpec := { name := "skipHeights", fn := fun _ => fun
  | [d1, d2, d3, d4] => { results := [.lit (.bool false)], args := [d1, d2, d3, d4] }
  | _ => none }
def SkipHeightsWrongFalsely : Prop := skipHeightsRow.holds Try.pinned (OpenSpec.ofChange skipHeightsWrong)

/-- 'sawyerlaw06.SkipVersions': WHATEVER THE INPUT: true; the input reads as it did. -/
def skipVersionsSpec : ChangeSpec := { name := "skipVersions", fn := fun _ => fun
  | [d1, d2, d3] => { results := [.lit (.bool true)], args := [d1, d2, d3] }
  | _ => none }
def skipVersionsRow : OpenClaim := { program := "ytjlkcidohabcfaa", sum := "eec20e68218fa7b8f75e33e9771379b561be3baa36698250b5d297a9b6129fd2", func := "sawyer/sawyerlaw06.SkipVersions", spec := "skipVersions", inPlace := ["internal/bytealg.Compare"], unfollowed := true, recurses := true, apart := false }
def SkipVersionsSaid : Prop := skipVersionsRow.holds Try.pinned (OpenSpec.ofChange skipVersionsSpec)

/-- ITS FALSE NEIGHBOUR: 'it returns false'. Refute it at one input. -/
def skipVersionsWrong : ChangeSpec := { name := "skipVersions", fn := fun _ => fun
  | [d1, d2, d3] => { results := [.lit (.bool false)], args := [d1, d2, d3] }
  | _ => none }
def SkipVersionsWrongFalsely : Prop := skipVersionsRow.holds Try.pinned (OpenSpec.ofChange skipVersionsWrong)

/-- 'sawyerlaw06.SkipScans': WHATEVER THE INPUT: true; the input reads as it did. -/
def skipScansSpec : ChangeSpec := { name := "skipScans", fn := fun _ => fun
  | [d1, d2, d3, d4] => { results := [.lit (.bool true)], args := [d1, d2, d3, d4] }
  | _ => none }
def skipScansRow : OpenClaim := { program := "ytjlkcidohabcfaa", sum := "eec20e68218fa7b8f75e33e9771379b561be3baa36698250b5d297a9b6129fd2", func := "sawyer/sawyerlaw06.SkipScans", spec := "skipScans", inPlace := ["internal/bytealg.Compare"], unfollowed := true, recurses := true, apart := false }
def SkipScansSaid : Prop := skipScansRow.holds Try.pinned (OpenSpec.ofChange skipScansSpec)

/-- ITS FALSE NEIGHBOUR: 'it returns false'. Refute it at one input. -/
def skipScansWrong : ChangeSpec := { name := "skipScans", fn := fun _ => fun
  | [d1, d2, d3, d4] => { results := [.lit (.bool false)], args := [d1, d2, d3, d4] }
  | _ => none }
def SkipScansWrongFalsely : Prop := skipScansRow.holds Try.pinned (OpenSpec.ofChange skipScansWrong)

/-- 'sawyerlaw06.SkipKeeps': WHATEVER THE INPUT: true; the input reads as it did. -/
def skipKeepsSpec : ChangeSpec := { name := "skipKeeps", fn := fun _ => fun
  | [d] => { results := [.lit (.bool true)], args := [d] }
  | _ => none }
def skipKeepsRow : OpenClaim := { program := "ytjlkcidohabcfaa", sum := "eec20e68218fa7b8f75e33e9771379b561be3baa36698250b5d297a9b6129fd2", func := "sawyer/sawyerlaw06.SkipKeeps", spec := "skipKeeps", inPlace := ["internal/bytealg.Compare"], unfollowed := true, recurses := true, apart := false }
def SkipKeepsSaid : Prop := skipKeepsRow.holds Try.pinned (OpenSpec.ofChange skipKeepsSpec)

/-- ITS FALSE NEIGHBOUR: 'it returns false'. Refute it at one input. -/
def skipKeepsWrong : ChangeSpec := { name := "skipKeeps", fn := fun _ => fun
  | [d] => { results := [.lit (.bool false)], args := [d] }
  | _ => none }
def SkipKeepsWrongFalsely : Prop := skipKeepsRow.holds Try.pinned (OpenSpec.ofChange skipKeepsWrong)

/-- 'sawyerlaw06.SkipLevels': WHATEVER THE INPUT: true; the input reads as it did. -/
def skipLevelsSpec : ChangeSpec := { name := "skipLevels", fn := fun _ => fun
  | [d1, d2] => { results := [.lit (.bool true)], args := [d1, d2] }
  | _ => none }
def skipLevelsRow : OpenClaim := { program := "ytjlkcidohabcfaa", sum := "eec20e68218fa7b8f75e33e9771379b561be3baa36698250b5d297a9b6129fd2", func := "sawyer/sawyerlaw06.SkipLevels", spec := "skipLevels", inPlace := ["internal/bytealg.Compare"], unfollowed := true, recurses := true, apart := false }
def SkipLevelsSaid : Prop := skipLevelsRow.holds Try.pinned (OpenSpec.ofChange skipLevelsSpec)

/-- ITS FALSE NEIGHBOUR: 'it returns false'. Refute it at one input. -/
def skipLevelsWrong : ChangeSpec := { name := "skipLevels", fn := fun _ => fun
  | [d1, d2] => { results := [.lit (.bool false)], args := [d1, d2] }
  | _ => none }
def SkipLevelsWrongFalsely : Prop := skipLevelsRow.holds Try.pinned (OpenSpec.ofChange skipLevelsWrong)

/-- 'sawyerlaw06.SkipCounts': WHATEVER THE INPUT: true; the input reads as it did. -/
def skipCountsSpec : ChangeSpec := { name := "skipCounts", fn := fun _ => fun
  | [d] => { results := [.lit (.bool true)], args := [d] }
  | _ => none }
def skipCountsRow : OpenClaim := { program := "ytjlkcidohabcfaa", sum := "eec20e68218fa7b8f75e33e9771379b561be3baa36698250b5d297a9b6129fd2", func := "sawyer/sawyerlaw06.SkipCounts", spec := "skipCounts", inPlace := ["internal/bytealg.Compare"], unfollowed := true, recurses := true, apart := false }
def SkipCountsSaid : Prop := skipCountsRow.holds Try.pinned (OpenSpec.ofChange skipCountsSpec)

/-- ITS FALSE NEIGHBOUR: 'it returns false'. Refute it at one input. -/
def skipCountsWrong : ChangeSpec := { name := "skipCounts", fn := fun _ => fun
  | [d] => { results := [.lit (.bool false)], args := [d] }
  | _ => none }
def SkipCountsWrongFalsely : Prop := skipCountsRow.holds Try.pinned (OpenSpec.ofChange skipCountsWrong)

/- THE SECOND FORM. 'bulk': how many values and letters a reading holds, each counted each time it is reached (what is shared counts as often as it is met; a slice's spare places count too). A statement '..UptoSaid' is the law's where the arguments, and the package variables that the reading takes, are together of bulk at most 1048576: NARROWER than '..Said'. Prove '..Said' where nothing that the law and all that it calls make is longer than what came in: it says more and counts as full. Else prove '..UptoSaid'. A law counts once. -/
mutual
def uptoBulk {H : Type} : DataW H → Nat
  | .lit (.string bytes) => bytes.length + 1
  | .lit _ => 1
  | .nil => 1
  | .ptr d => uptoBulk d + 1
  | .slice elems spare => uptoBulkAll elems + uptoBulkAll spare + 1
  | .agg parts => uptoBulkAll parts + 1
  | .iface _ d => uptoBulk d + 1
  | .map entries => uptoBulkEntries entries + 1
  | .held _ => 1
def uptoBulkAll {H : Type} : List (DataW H) → Nat
  | [] => 0
  | d :: r => uptoBulk d + uptoBulkAll r
def uptoBulkEntries {H : Type} : List (Lit × DataW H) → Nat
  | [] => 0
  | x :: r => uptoBulkEntry x + uptoBulkEntries r
def uptoBulkEntry {H : Type} : Lit × DataW H → Nat
  | (.string bytes, d) => bytes.length + uptoBulk d + 1
  | (_, d) => uptoBulk d + 1
 end
def uptoSmall : (H : Type) → List (DataW H) → Bool := fun _ ds => decide (uptoBulkAll ds ≤ 1048576)
def OpenSpec.upto (s : _root_.Go.ChangeSpec) : _root_.Go.OpenSpec := { _root_.Go.OpenSpec.ofChange s with cond := some uptoSmall }

/-- 'sawyerlaw06.SkipPlays', WHERE WHAT IT READS IS OF BULK AT MOST 1048576: true; the input reads as it did. -/
def skipPlaysUptoRow : OpenClaim := { program := "ytjlkcidohabcfaa", sum := "eec20e68218fa7b8f75e33e9771379b561be3baa36698250b5d297a9b6129fd2", func := "sawyer/sawyerlaw06.SkipPlays", spec := "skipPlays", inPlace := ["internal/bytealg.Compare"], unfollowed := true, recurses := true, apart := false, narrowed := true }
def SkipPlaysUptoSaid : Prop := skipPlaysUptoRow.holds Try.pinned (OpenSpec.upto skipPlaysSpec)

/-- 'sawyerlaw06.SkipHeights', WHERE WHAT IT READS IS OF BULK AT MOST 1048576: true; the input reads as it did. -/
def skipHeightsUptoRow : OpenClaim := { program := "ytjlkcidohabcfaa", sum := "eec20e68218fa7b8f75e33e9771379b561be3baa36698250b5d297a9b6129fd2", func := "sawyer/sawyerlaw06.SkipHeights", spec := "skipHeights", inPlace := ["internal/bytealg.Compare"], unfollowed := true, recurses := true, apart := false, narrowed := true }
def SkipHeightsUptoSaid : Prop := skipHeightsUptoRow.holds Try.pinned (OpenSpec.upto skipHeightsSpec)

/-- 'sawyerlaw06.SkipVersions', WHERE WHAT IT READS IS OF BULK AT MOST 1048576: true; the input reads as it did. -/
def skipVersionsUptoRow : OpenClaim := { program := "ytjlkcidohabcfaa", sum := "eec20e68218fa7b8f75e33e9771379b561be3baa36698250b5d297a9b6129fd2", func := "sawyer/sawyerlaw06.SkipVersions", spec := "skipVersions", inPlace := ["internal/bytealg.Compare"], unfollowed := true, recurses := true, apart := false, narrowed := true }
def SkipVersionsUptoSaid : Prop := skipVersionsUptoRow.holds Try.pinned (OpenSpec.upto skipVersionsSpec)

/-- 'sawyerlaw06.SkipScans', WHERE WHAT IT READS IS OF BULK AT MOST 1048576: true; the input reads as it did. -/
def skipScansUptoRow : OpenClaim := { program := "ytjlkcidohabcfaa", sum := "eec20e68218fa7b8f75e33e9771379b561be3baa36698250b5d297a9b6129fd2", func := "sawyer/sawyerlaw06.SkipScans", spec := "skipScans", inPlace := ["internal/bytealg.Compare"], unfollowed := true, recurses := true, apart := false, narrowed := true }
def SkipScansUptoSaid : Prop := skipScansUptoRow.holds Try.pinned (OpenSpec.upto skipScansSpec)

/-- 'sawyerlaw06.SkipKeeps', WHERE WHAT IT READS IS OF BULK AT MOST 1048576: true; the input reads as it did. -/
def skipKeepsUptoRow : OpenClaim := { program := "ytjlkcidohabcfaa", sum := "eec20e68218fa7b8f75e33e9771379b561be3baa36698250b5d297a9b6129fd2", func := "sawyer/sawyerlaw06.SkipKeeps", spec := "skipKeeps", inPlace := ["internal/bytealg.Compare"], unfollowed := true, recurses := true, apart := false, narrowed := true }
def SkipKeepsUptoSaid : Prop := skipKeepsUptoRow.holds Try.pinned (OpenSpec.upto skipKeepsSpec)

/-- 'sawyerlaw06.SkipLevels', WHERE WHAT IT READS IS OF BULK AT MOST 1048576: true; the input reads as it did. -/
def skipLevelsUptoRow : OpenClaim := { program := "ytjlkcidohabcfaa", sum := "eec20e68218fa7b8f75e33e9771379b561be3baa36698250b5d297a9b6129fd2", func := "sawyer/sawyerlaw06.SkipLevels", spec := "skipLevels", inPlace := ["internal/bytealg.Compare"], unfollowed := true, recurses := true, apart := false, narrowed := true }
def SkipLevelsUptoSaid : Prop := skipLevelsUptoRow.holds Try.pinned (OpenSpec.upto skipLevelsSpec)

/-- 'sawyerlaw06.SkipCounts', WHERE WHAT IT READS IS OF BULK AT MOST 1048576: true; the input reads as it did. -/
def skipCountsUptoRow : OpenClaim := { program := "ytjlkcidohabcfaa", sum := "eec20e68218fa7b8f75e33e9771379b561be3baa36698250b5d297a9b6129fd2", func := "sawyer/sawyerlaw06.SkipCounts", spec := "skipCounts", inPlace := ["internal/bytealg.Compare"], unfollowed := true, recurses := true, apart := false, narrowed := true }
def SkipCountsUptoSaid : Prop := skipCountsUptoRow.holds Try.pinned (OpenSpec.upto skipCountsSpec)

end Rows
end Go.Proofs.Ytjlkcidohabcfaa
