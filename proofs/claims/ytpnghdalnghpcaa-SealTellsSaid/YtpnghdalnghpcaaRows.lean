/-
  No cell of these rows narrows 'for every input' (looked for: loops, veiled, ifaces, maps, wideKeys, modest, calm, conditions, laid).
  DERIVED. THE GIVEN ROWS OF THIS SEAT. 12 by the template 'for every input the law returns true; each argument reads behind the call as it read before'; 0 by the template 'total and deterministic' (their statements: YtpnghdalnghpcaaTotals.lean).
  GIVEN WITH THE SEED: the statements are not yours to turn. If you find one false, say at which input.
  Laid BY PROGRAM, IN A SANDBOX (cutbox-rows.mjs): the forced cells as the released guide's own fill.sh prints them over the translation c6558cdf3bf126dd… (all of the seat's roots in one cut). By AI agents, Wed Nov 11 2026. No macro, syntax, notation, axiom, sorry.
-/
import Derived.Test.YtpnghdalnghpcaaChecked
import GoSem.Claim
import GoSem.ClaimJoined
import GoSem.ClaimMapViews
import Derived.JoinedTies
import Derived.KernelRfl
namespace Go.Proofs.Ytpnghdalnghpcaa
/- THE CELL 'sum', in the pinned program and in every row, IS THE sha256 OF THE DUMP (.gsa) THAT YtpnghdalnghpcaaProg.lean LOADS. Nothing in Lean hashes anything: it is a label: what it is worth is what the hold of that sum in a sandbox is worth. -/
noncomputable def Try.pinned : Pinned := { name := "ytpnghdalnghpcaa", sum := "c6558cdf3bf126dd0fdd3d1eefe27083c4757f99df7edac44e6f5fff5bd82f34", checked := Try.checked }
namespace Rows
def none {H : Type} : Left H := { results := [], args := [] }

/-- 'aediculelaw07.PackPuts': WHATEVER THE INPUT: true; the input reads as it did. -/
def packPutsSpec : ChangeSpec := { name := "packPuts", fn := fun _ => fun
  | [d1, d2, d3, d4] => { results := [.lit (.bool true)], args := [d1, d2, d3, d4] }
  | _ => none }
def packPutsRow : OpenClaim := { program := "ytpnghdalnghpcaa", sum := "c6558cdf3bf126dd0fdd3d1eefe27083c4757f99df7edac44e6f5fff5bd82f34", func := "aedicule/aediculelaw07.PackPuts", spec := "packPuts", apart := false }
def PackPutsSaid : Prop := packPutsRow.holds Try.pinned (OpenSpec.ofChange packPutsSpec)

/-- ITS FALSE NEIGHBOUR: 'it returns false'. Refute it at one input. -/
def packPutsWrong : ChangeSpec := { name := "packPuts", fn := fun _ => fun
  | [d1, d2, d3, d4] => { results := [.lit (.bool false)], args := [d1, d2, d3, d4] }
  | _ => none }
def PackPutsWrongFalsely : Prop := packPutsRow.holds Try.pinned (OpenSpec.ofChange packPutsWrong)

/-- 'aediculelaw07.PackBack': WHATEVER THE INPUT: true; the input reads as it did. -/
def packBackSpec : ChangeSpec := { name := "packBack", fn := fun _ => fun
  | [d1, d2, d3, d4, d5] => { results := [.lit (.bool true)], args := [d1, d2, d3, d4, d5] }
  | _ => none }
def packBackRow : OpenClaim := { program := "ytpnghdalnghpcaa", sum := "c6558cdf3bf126dd0fdd3d1eefe27083c4757f99df7edac44e6f5fff5bd82f34", func := "aedicule/aediculelaw07.PackBack", spec := "packBack", apart := false }
def PackBackSaid : Prop := packBackRow.holds Try.pinned (OpenSpec.ofChange packBackSpec)

/-- ITS FALSE NEIGHBOUR: 'it returns false'. Refute it at one input. -/
def packBackWrong : ChangeSpec := { name := "packBack", fn := fun _ => fun
  | [d1, d2, d3, d4, d5] => { results := [.lit (.bool false)], args := [d1, d2, d3, d4, d5] }
  | _ => none }
def PackBackWrongFalsely : Prop := packBackRow.holds Try.pinned (OpenSpec.ofChange packBackWrong)

/-- 'aediculelaw07.PackReads': WHATEVER THE INPUT: true; the input reads as it did. -/
def packReadsSpec : ChangeSpec := { name := "packReads", fn := fun _ => fun
  | [d1, d2] => { results := [.lit (.bool true)], args := [d1, d2] }
  | _ => none }
def packReadsRow : OpenClaim := { program := "ytpnghdalnghpcaa", sum := "c6558cdf3bf126dd0fdd3d1eefe27083c4757f99df7edac44e6f5fff5bd82f34", func := "aedicule/aediculelaw07.PackReads", spec := "packReads", apart := false }
def PackReadsSaid : Prop := packReadsRow.holds Try.pinned (OpenSpec.ofChange packReadsSpec)

/-- ITS FALSE NEIGHBOUR: 'it returns false'. Refute it at one input. -/
def packReadsWrong : ChangeSpec := { name := "packReads", fn := fun _ => fun
  | [d1, d2] => { results := [.lit (.bool false)], args := [d1, d2] }
  | _ => none }
def PackReadsWrongFalsely : Prop := packReadsRow.holds Try.pinned (OpenSpec.ofChange packReadsWrong)

/-- 'aediculelaw07.PackNil': WHATEVER THE INPUT: true; the input reads as it did. -/
def packNilSpec : ChangeSpec := { name := "packNil", fn := fun _ => fun
  | [d] => { results := [.lit (.bool true)], args := [d] }
  | _ => none }
def packNilRow : OpenClaim := { program := "ytpnghdalnghpcaa", sum := "c6558cdf3bf126dd0fdd3d1eefe27083c4757f99df7edac44e6f5fff5bd82f34", func := "aedicule/aediculelaw07.PackNil", spec := "packNil", apart := false }
def PackNilSaid : Prop := packNilRow.holds Try.pinned (OpenSpec.ofChange packNilSpec)

/-- ITS FALSE NEIGHBOUR: 'it returns false'. Refute it at one input. -/
def packNilWrong : ChangeSpec := { name := "packNil", fn := fun _ => fun
  | [d] => { results := [.lit (.bool false)], args := [d] }
  | _ => none }
def PackNilWrongFalsely : Prop := packNilRow.holds Try.pinned (OpenSpec.ofChange packNilWrong)

/-- 'aediculelaw16.ImageCodes': WHATEVER THE INPUT: true; the input reads as it did. -/
def imageCodesSpec : ChangeSpec := { name := "imageCodes", fn := fun _ => fun
  | [d1, d2, d3] => { results := [.lit (.bool true)], args := [d1, d2, d3] }
  | _ => none }
def imageCodesRow : OpenClaim := { program := "ytpnghdalnghpcaa", sum := "c6558cdf3bf126dd0fdd3d1eefe27083c4757f99df7edac44e6f5fff5bd82f34", func := "aedicule/aediculelaw16.ImageCodes", spec := "imageCodes", inPlace := ["internal/abi.NoEscape"], unfollowed := true, recurses := true, apart := false }
def ImageCodesSaid : Prop := imageCodesRow.holds Try.pinned (OpenSpec.ofChange imageCodesSpec)

/-- ITS FALSE NEIGHBOUR: 'it returns false'. Refute it at one input. -/
def imageCodesWrong : ChangeSpec := { name := "imageCodes", fn := fun _ => fun
  | [d1, d2, d3] => { results := [.lit (.bool false)], args := [d1, d2, d3] }
  | _ => none }
def ImageCodesWrongFalsely : Prop := imageCodesRow.holds Try.pinned (OpenSpec.ofChange imageCodesWrong)

/-- 'aediculelaw16.ImageBack': WHATEVER THE INPUT: true; the input reads as it did. -/
def imageBackSpec : ChangeSpec := { name := "imageBack", fn := fun _ => fun
  | [d1, d2, d3] => { results := [.lit (.bool true)], args := [d1, d2, d3] }
  | _ => none }
def imageBackRow : OpenClaim := { program := "ytpnghdalnghpcaa", sum := "c6558cdf3bf126dd0fdd3d1eefe27083c4757f99df7edac44e6f5fff5bd82f34", func := "aedicule/aediculelaw16.ImageBack", spec := "imageBack", inPlace := ["internal/abi.NoEscape"], unfollowed := true, recurses := true, apart := false }
def ImageBackSaid : Prop := imageBackRow.holds Try.pinned (OpenSpec.ofChange imageBackSpec)

/-- ITS FALSE NEIGHBOUR: 'it returns false'. Refute it at one input. -/
def imageBackWrong : ChangeSpec := { name := "imageBack", fn := fun _ => fun
  | [d1, d2, d3] => { results := [.lit (.bool false)], args := [d1, d2, d3] }
  | _ => none }
def ImageBackWrongFalsely : Prop := imageBackRow.holds Try.pinned (OpenSpec.ofChange imageBackWrong)

/-- 'aediculelaw39.LogPlays': WHATEVER THE INPUT: true; the input reads as it did. -/
def logPlaysSpec : ChangeSpec := { name := "logPlays", fn := fun _ => fun
  | [d1, d2, d3] => { results := [.lit (.bool true)], args := [d1, d2, d3] }
  | _ => none }
def logPlaysRow : OpenClaim := { program := "ytpnghdalnghpcaa", sum := "c6558cdf3bf126dd0fdd3d1eefe27083c4757f99df7edac44e6f5fff5bd82f34", func := "aedicule/aediculelaw39.LogPlays", spec := "logPlays", apart := false }
def LogPlaysSaid : Prop := logPlaysRow.holds Try.pinned (OpenSpec.ofChange logPlaysSpec)

/-- ITS FALSE NEIGHBOUR: 'it returns false'. Refute it at one input. -/
def logPlaysWrong : ChangeSpec := { name := "logPlays", fn := fun _ => fun
  | [d1, d2, d3] => { results := [.lit (.bool false)], args := [d1, d2, d3] }
  | _ => none }
def LogPlaysWrongFalsely : Prop := logPlaysRow.holds Try.pinned (OpenSpec.ofChange logPlaysWrong)

/-- 'aediculelaw39.LogOpens': WHATEVER THE INPUT: true; the input reads as it did. -/
def logOpensSpec : ChangeSpec := { name := "logOpens", fn := fun _ => fun
  | [d1, d2] => { results := [.lit (.bool true)], args := [d1, d2] }
  | _ => none }
def logOpensRow : OpenClaim := { program := "ytpnghdalnghpcaa", sum := "c6558cdf3bf126dd0fdd3d1eefe27083c4757f99df7edac44e6f5fff5bd82f34", func := "aedicule/aediculelaw39.LogOpens", spec := "logOpens", apart := false }
def LogOpensSaid : Prop := logOpensRow.holds Try.pinned (OpenSpec.ofChange logOpensSpec)

/-- ITS FALSE NEIGHBOUR: 'it returns false'. Refute it at one input. -/
def logOpensWrong : ChangeSpec := { name := "logOpens", fn := fun _ => fun
  | [d1, d2] => { results := [.lit (.bool false)], args := [d1, d2] }
  | _ => none }
def LogOpensWrongFalsely : Prop := logOpensRow.holds Try.pinned (OpenSpec.ofChange logOpensWrong)

/-- 'aediculelaw39.LogTorn': WHATEVER THE INPUT: true; the input reads as it did. -/
def logTornSpec : ChangeSpec := { name := "logTorn", fn := fun _ => fun
  | [d1, d2, d3] => { results := [.lit (.bool true)], args := [d1, d2, d3] }
  | _ => none }
def logTornRow : OpenClaim := { program := "ytpnghdalnghpcaa", sum := "c6558cdf3bf126dd0fdd3d1eefe27083c4757f99df7edac44e6f5fff5bd82f34", func := "aedicule/aediculelaw39.LogTorn", spec := "logTorn", apart := false }
def LogTornSaid : Prop := logTornRow.holds Try.pinned (OpenSpec.ofChange logTornSpec)

/-- ITS FALSE NEIGHBOUR: 'it returns false'. Refute it at one input. -/
def logTornWrong : ChangeSpec := { name := "logTorn", fn := fun _ => fun
  | [d1, d2, d3] => { results := [.lit (.bool false)], args := [d1, d2, d3] }
  | _ => none }
def LogTornWrongFalsely : Prop := logTornRow.holds Try.pinned (OpenSpec.ofChange logTornWrong)

/-- 'aediculelaw39.LogSpoilt': WHATEVER THE INPUT: true; the input reads as it did. -/
def logSpoiltSpec : ChangeSpec := { name := "logSpoilt", fn := fun _ => fun
  | [d1, d2, d3, d4, d5] => { results := [.lit (.bool true)], args := [d1, d2, d3, d4, d5] }
  | _ => none }
def logSpoiltRow : OpenClaim := { program := "ytpnghdalnghpcaa", sum := "c6558cdf3bf126dd0fdd3d1eefe27083c4757f99df7edac44e6f5fff5bd82f34", func := "aedicule/aediculelaw39.LogSpoilt", spec := "logSpoilt", apart := false }
def LogSpoiltSaid : Prop := logSpoiltRow.holds Try.pinned (OpenSpec.ofChange logSpoiltSpec)

/-- ITS FALSE NEIGHBOUR: 'it returns false'. Refute it at one input. -/
def logSpoiltWrong : ChangeSpec := { name := "logSpoilt", fn := fun _ => fun
  | [d1, d2, d3, d4, d5] => { results := [.lit (.bool false)], args := [d1, d2, d3, d4, d5] }
  | _ => none }
def LogSpoiltWrongFalsely : Prop := logSpoiltRow.holds Try.pinned (OpenSpec.ofChange logSpoiltWrong)

/-- 'aediculelaw17.SealTells': WHATEVER THE INPUT: true; the input reads as it did. -/
def sealTellsSpec : ChangeSpec := { name := "sealTells", fn := fun _ => fun
  | [d1, d2, d3, d4] => { results := [.lit (.bool true)], args := [d1, d2, d3, d4] }
  | _ => none }
def sealTellsRow : OpenClaim := { program := "ytpnghdalnghpcaa", sum := "c6558cdf3bf126dd0fdd3d1eefe27083c4757f99df7edac44e6f5fff5bd82f34", func := "aedicule/aediculelaw17.SealTells", spec := "sealTells", inPlace := ["internal/abi.NoEscape"], unfollowed := true, recurses := true, apart := false }
def SealTellsSaid : Prop := sealTellsRow.holds Try.pinned (OpenSpec.ofChange sealTellsSpec)

/-- ITS FALSE NEIGHBOUR: 'it returns false'. Refute it at one input. -/
def sealTellsWrong : ChangeSpec := { name := "sealTells", fn := fun _ => fun
  | [d1, d2, d3, d4] => { results := [.lit (.bool false)], args := [d1, d2, d3, d4] }
  | _ => none }
def SealTellsWrongFalsely : Prop := sealTellsRow.holds Try.pinned (OpenSpec.ofChange sealTellsWrong)

/-- 'aediculelaw17.SealExactly': WHATEVER THE INPUT: true; the input reads as it did. -/
def sealExactlySpec : ChangeSpec := { name := "sealExactly", fn := fun _ => fun
  | [d1, d2, d3] => { results := [.lit (.bool true)], args := [d1, d2, d3] }
  | _ => none }
def sealExactlyRow : OpenClaim := { program := "ytpnghdalnghpcaa", sum := "c6558cdf3bf126dd0fdd3d1eefe27083c4757f99df7edac44e6f5fff5bd82f34", func := "aedicule/aediculelaw17.SealExactly", spec := "sealExactly", inPlace := ["internal/abi.NoEscape"], unfollowed := true, recurses := true, apart := false }
def SealExactlySaid : Prop := sealExactlyRow.holds Try.pinned (OpenSpec.ofChange sealExactlySpec)

/-- ITS FALSE NEIGHBOUR: 'it returns false'. Refute it at one input. -/
def sealExactlyWrong : ChangeSpec := { name := "sealExactly", fn := fun _ => fun
  | [d1, d2, d3] => { results := [.lit (.bool false)], args := [d1, d2, d3] }
  | _ => none }
def SealExactlyWrongFalsely : Prop := sealExactlyRow.holds Try.pinned (OpenSpec.ofChange sealExactlyWrong)

/- THE SECOND FORM. 'bulk': how many values and letters a reading holds, each counted each time it is reached (what is shared counts as often as it is met; a slice's spare places count too). A statement '..UptoSaid' is the law's where the arguments, and the package variables that the reading takes, are together of bulk at most 1048576: NARROWER than '..Said'. Prove '..Said' where nothing that the law and all that it calls make is longer than what came in: it says more and counts as full. Else prove '..UptoSaid'. A law counts once. -/
mutual
def uptoBulk {H : Type} : DataW H → Nat
  | .lit (.string bytes) => bytes.length + 1
  | .lit _ => 1
  | .nil => 1
  | .ptr d => uptoBulk d + 1
  | .slice elems spare => uptoBulkAll elems + uptoBulkAll spare + 1
  | .agg parts => uptoBulkAll parts + 1
  | .iface _ d => uptoBulk d + 1
  | .map entries => uptoBulkEntries entries + 1
  | .held _ => 1
def uptoBulkAll {H : Type} : List (DataW H) → Nat
  | [] => 0
  | d :: r => uptoBulk d + uptoBulkAll r
def uptoBulkEntries {H : Type} : List (Lit × DataW H) → Nat
  | [] => 0
  | x :: r => uptoBulkEntry x + uptoBulkEntries r
def uptoBulkEntry {H : Type} : Lit × DataW H → Nat
  | (.string bytes, d) => bytes.length + uptoBulk d + 1
  | (_, d) => uptoBulk d + 1
 end
def uptoSmall : (H : Type) → List (DataW H) → Bool := fun _ ds => decide (uptoBulkAll ds ≤ 1048576)
def OpenSpec.upto (s : _root_.Go.ChangeSpec) : _root_.Go.OpenSpec := { _root_.Go.OpenSpec.ofChange s with cond := some uptoSmall }

/-- 'aediculelaw07.PackPuts', WHERE WHAT IT READS IS OF BULK AT MOST 1048576: true; the input reads as it did. -/
def packPutsUptoRow : OpenClaim := { program := "ytpnghdalnghpcaa", sum := "c6558cdf3bf126dd0fdd3d1eefe27083c4757f99df7edac44e6f5fff5bd82f34", func := "aedicule/aediculelaw07.PackPuts", spec := "packPuts", apart := false, narrowed := true }
def PackPutsUptoSaid : Prop := packPutsUptoRow.holds Try.pinned (OpenSpec.upto packPutsSpec)

/-- 'aediculelaw07.PackBack', WHERE WHAT IT READS IS OF BULK AT MOST 1048576: true; the input reads as it did. -/
def packBackUptoRow : OpenClaim := { program := "ytpnghdalnghpcaa", sum := "c6558cdf3bf126dd0fdd3d1eefe27083c4757f99df7edac44e6f5fff5bd82f34", func := "aedicule/aediculelaw07.PackBack", spec := "packBack", apart := false, narrowed := true }
def PackBackUptoSaid : Prop := packBackUptoRow.holds Try.pinned (OpenSpec.upto packBackSpec)

/-- 'aediculelaw07.PackReads', WHERE WHAT IT READS IS OF BULK AT MOST 1048576: true; the input reads as it did. -/
def packReadsUptoRow : OpenClaim := { program := "ytpnghdalnghpcaa", sum := "c6558cdf3bf126dd0fdd3d1eefe27083c4757f99df7edac44e6f5fff5bd82f34", func := "aedicule/aediculelaw07.PackReads", spec := "packReads", apart := false, narrowed := true }
def PackReadsUptoSaid : Prop := packReadsUptoRow.holds Try.pinned (OpenSpec.upto packReadsSpec)

/-- 'aediculelaw07.PackNil', WHERE WHAT IT READS IS OF BULK AT MOST 1048576: true; the input reads as it did. -/
def packNilUptoRow : OpenClaim := { program := "ytpnghdalnghpcaa", sum := "c6558cdf3bf126dd0fdd3d1eefe27083c4757f99df7edac44e6f5fff5bd82f34", func := "aedicule/aediculelaw07.PackNil", spec := "packNil", apart := false, narrowed := true }
def PackNilUptoSaid : Prop := packNilUptoRow.holds Try.pinned (OpenSpec.upto packNilSpec)

/-- 'aediculelaw16.ImageCodes', WHERE WHAT IT READS IS OF BULK AT MOST 1048576: true; the input reads as it did. -/
def imageCodesUptoRow : OpenClaim := { program := "ytpnghdalnghpcaa", sum := "c6558cdf3bf126dd0fdd3d1eefe27083c4757f99df7edac44e6f5fff5bd82f34", func := "aedicule/aediculelaw16.ImageCodes", spec := "imageCodes", inPlace := ["internal/abi.NoEscape"], unfollowed := true, recurses := true, apart := false, narrowed := true }
def ImageCodesUptoSaid : Prop := imageCodesUptoRow.holds Try.pinned (OpenSpec.upto imageCodesSpec)

/-- 'aediculelaw16.ImageBack', WHERE WHAT IT READS IS OF BULK AT MOST 1048576: true; the input reads as it did. -/
def imageBackUptoRow : OpenClaim := { program := "ytpnghdalnghpcaa", sum := "c6558cdf3bf126dd0fdd3d1eefe27083c4757f99df7edac44e6f5fff5bd82f34", func := "aedicule/aediculelaw16.ImageBack", spec := "imageBack", inPlace := ["internal/abi.NoEscape"], unfollowed := true, recurses := true, apart := false, narrowed := true }
def ImageBackUptoSaid : Prop := imageBackUptoRow.holds Try.pinned (OpenSpec.upto imageBackSpec)

/-- 'aediculelaw39.LogPlays', WHERE WHAT IT READS IS OF BULK AT MOST 1048576: true; the input reads as it did. -/
def logPlaysUptoRow : OpenClaim := { program := "ytpnghdalnghpcaa", sum := "c6558cdf3bf126dd0fdd3d1eefe27083c4757f99df7edac44e6f5fff5bd82f34", func := "aedicule/aediculelaw39.LogPlays", spec := "logPlays", apart := false, narrowed := true }
def LogPlaysUptoSaid : Prop := logPlaysUptoRow.holds Try.pinned (OpenSpec.upto logPlaysSpec)

/-- 'aediculelaw39.LogOpens', WHERE WHAT IT READS IS OF BULK AT MOST 1048576: true; the input reads as it did. -/
def logOpensUptoRow : OpenClaim := { program := "ytpnghdalnghpcaa", sum := "c6558cdf3bf126dd0fdd3d1eefe27083c4757f99df7edac44e6f5fff5bd82f34", func := "aedicule/aediculelaw39.LogOpens", spec := "logOpens", apart := false, narrowed := true }
def LogOpensUptoSaid : Prop := logOpensUptoRow.holds Try.pinned (OpenSpec.upto logOpensSpec)

/-- 'aediculelaw39.LogTorn', WHERE WHAT IT READS IS OF BULK AT MOST 1048576: true; the input reads as it did. -/
def logTornUptoRow : OpenClaim := { program := "ytpnghdalnghpcaa", sum := "c6558cdf3bf126dd0fdd3d1eefe27083c4757f99df7edac44e6f5fff5bd82f34", func := "aedicule/aediculelaw39.LogTorn", spec := "logTorn", apart := false, narrowed := true }
def LogTornUptoSaid : Prop := logTornUptoRow.holds Try.pinned (OpenSpec.upto logTornSpec)

/-- 'aediculelaw39.LogSpoilt', WHERE WHAT IT READS IS OF BULK AT MOST 1048576: true; the input reads as it did. -/
def logSpoiltUptoRow : OpenClaim := { program := "ytpnghdalnghpcaa", sum := "c6558cdf3bf126dd0fdd3d1eefe27083c4757f99df7edac44e6f5fff5bd82f34", func := "aedicule/aediculelaw39.LogSpoilt", spec := "logSpoilt", apart := false, narrowed := true }
def LogSpoiltUptoSaid : Prop := logSpoiltUptoRow.holds Try.pinned (OpenSpec.upto logSpoiltSpec)

/-- 'aediculelaw17.SealTells', WHERE WHAT IT READS IS OF BULK AT MOST 1048576: true; the input reads as it did. -/
def sealTellsUptoRow : OpenClaim := { program := "ytpnghdalnghpcaa", sum := "c6558cdf3bf126dd0fdd3d1eefe27083c4757f99df7edac44e6f5fff5bd82f34", func := "aedicule/aediculelaw17.SealTells", spec := "sealTells", inPlace := ["internal/abi.NoEscape"], unfollowed := true, recurses := true, apart := false, narrowed := true }
def SealTellsUptoSaid : Prop := sealTellsUptoRow.holds Try.pinned (OpenSpec.upto sealTellsSpec)

/-- 'aediculelaw17.SealExactly', WHERE WHAT IT READS IS OF BULK AT MOST 1048576: true; the input reads as it did. -/
def sealExactlyUptoRow : OpenClaim := { program := "ytpnghdalnghpcaa", sum := "c6558cdf3bf126dd0fdd3d1eefe27083c4757f99df7edac44e6f5fff5bd82f34", func := "aedicule/aediculelaw17.SealExactly", spec := "sealExactly", inPlace := ["internal/abi.NoEscape"], unfollowed := true, recurses := true, apart := false, narrowed := true }
def SealExactlyUptoSaid : Prop := sealExactlyUptoRow.holds Try.pinned (OpenSpec.upto sealExactlySpec)

end Rows
end Go.Proofs.Ytpnghdalnghpcaa
