/-
  No cell of these rows narrows 'for every input' (looked for: loops, veiled, ifaces, maps, wideKeys, modest, calm, conditions, laid).
  DERIVED. THE GIVEN ROWS OF THIS SEAT. 10 by the template 'for every input the law returns true; each argument reads behind the call as it read before'; 0 by the template 'total and deterministic' (their statements: YtfdlkkhhakjgeaaTotals.lean).
  GIVEN WITH THE SEED: the statements are not yours to turn. If you find one false, say at which input.
  Laid BY PROGRAM, IN A SANDBOX (cutbox-rows.mjs): the forced cells as the released guide's own fill.sh prints them over the translation 548d58fa219a3362… (all of the seat's roots in one cut). By AI agents, Wed Nov 11 2026. No macro, syntax, notation, axiom, sorry.
-/
import Derived.Test.YtfdlkkhhakjgeaaChecked
import GoSem.Claim
import GoSem.ClaimJoined
import GoSem.ClaimMapViews
import Derived.JoinedTies
import Derived.KernelRfl
namespace Go.Proofs.Ytfdlkkhhakjgeaa
/- THE CELL 'sum', in the pinned program and in every row, IS THE sha256 OF THE DUMP (.gsa) THAT YtfdlkkhhakjgeaaProg.lean LOADS. Nothing in Lean hashes anything: it is a label: what it is worth is what the hold of that sum in a sandbox is worth. -/
noncomputable def Try.pinned : Pinned := { name := "ytfdlkkhhakjgeaa", sum := "548d58fa219a3362b5f2ff7de6755f6a4c02df748279730ef98963c91e313ce0", checked := Try.checked }
namespace Rows
def none {H : Type} : Left H := { results := [], args := [] }

/-- 'aediculelaw04.InsnBack': WHATEVER THE INPUT: true; the input reads as it did. -/
def insnBackSpec : ChangeSpec := { name := "insnBack", fn := fun _ => fun
  | [d1, d2, d3, d4] => { results := [.lit (.bool true)], args := [d1, d2, d3, d4] }
  | _ => none }
def insnBackRow : OpenClaim := { program := "ytfdlkkhhakjgeaa", sum := "548d58fa219a3362b5f2ff7de6755f6a4c02df748279730ef98963c91e313ce0", func := "aedicule/aediculelaw04.InsnBack", spec := "insnBack", unfollowed := true, recurses := true, apart := false }
def InsnBackSaid : Prop := insnBackRow.holds Try.pinned (OpenSpec.ofChange insnBackSpec)

/-- ITS FALSE NEIGHBOUR: 'it returns false'. Refute it at one input. -/
def insnBackWrong : ChangeSpec := { name := "insnBack", fn := fun _ => fun
  | [d1, d2, d3, d4] => { results := [.lit (.bool false)], args := [d1, d2, d3, d4] }
  | _ => none }
def InsnBackWrongFalsely : Prop := insnBackRow.holds Try.pinned (OpenSpec.ofChange insnBackWrong)

/-- 'aediculelaw04.InsnTells': WHATEVER THE INPUT: true; the input reads as it did. -/
def insnTellsSpec : ChangeSpec := { name := "insnTells", fn := fun _ => fun
  | [d1, d2] => { results := [.lit (.bool true)], args := [d1, d2] }
  | _ => none }
def insnTellsRow : OpenClaim := { program := "ytfdlkkhhakjgeaa", sum := "548d58fa219a3362b5f2ff7de6755f6a4c02df748279730ef98963c91e313ce0", func := "aedicule/aediculelaw04.InsnTells", spec := "insnTells", unfollowed := true, recurses := true, apart := false }
def InsnTellsSaid : Prop := insnTellsRow.holds Try.pinned (OpenSpec.ofChange insnTellsSpec)

/-- ITS FALSE NEIGHBOUR: 'it returns false'. Refute it at one input. -/
def insnTellsWrong : ChangeSpec := { name := "insnTells", fn := fun _ => fun
  | [d1, d2] => { results := [.lit (.bool false)], args := [d1, d2] }
  | _ => none }
def InsnTellsWrongFalsely : Prop := insnTellsRow.holds Try.pinned (OpenSpec.ofChange insnTellsWrong)

/-- 'aediculelaw02.ShaTells': WHATEVER THE INPUT: true; the input reads as it did. -/
def shaTellsSpec : ChangeSpec := { name := "shaTells", fn := fun _ => fun
  | [d] => { results := [.lit (.bool true)], args := [d] }
  | _ => none }
def shaTellsRow : OpenClaim := { program := "ytfdlkkhhakjgeaa", sum := "548d58fa219a3362b5f2ff7de6755f6a4c02df748279730ef98963c91e313ce0", func := "aedicule/aediculelaw02.ShaTells", spec := "shaTells", apart := false }
def ShaTellsSaid : Prop := shaTellsRow.holds Try.pinned (OpenSpec.ofChange shaTellsSpec)

/-- ITS FALSE NEIGHBOUR: 'it returns false'. Refute it at one input. -/
def shaTellsWrong : ChangeSpec := { name := "shaTells", fn := fun _ => fun
  | [d] => { results := [.lit (.bool false)], args := [d] }
  | _ => none }
def ShaTellsWrongFalsely : Prop := shaTellsRow.holds Try.pinned (OpenSpec.ofChange shaTellsWrong)

/-- 'aediculelaw02.ShaPieces': WHATEVER THE INPUT: true; the input reads as it did. -/
def shaPiecesSpec : ChangeSpec := { name := "shaPieces", fn := fun _ => fun
  | [d1, d2] => { results := [.lit (.bool true)], args := [d1, d2] }
  | _ => none }
def shaPiecesRow : OpenClaim := { program := "ytfdlkkhhakjgeaa", sum := "548d58fa219a3362b5f2ff7de6755f6a4c02df748279730ef98963c91e313ce0", func := "aedicule/aediculelaw02.ShaPieces", spec := "shaPieces", apart := false }
def ShaPiecesSaid : Prop := shaPiecesRow.holds Try.pinned (OpenSpec.ofChange shaPiecesSpec)

/-- ITS FALSE NEIGHBOUR: 'it returns false'. Refute it at one input. -/
def shaPiecesWrong : ChangeSpec := { name := "shaPieces", fn := fun _ => fun
  | [d1, d2] => { results := [.lit (.bool false)], args := [d1, d2] }
  | _ => none }
def ShaPiecesWrongFalsely : Prop := shaPiecesRow.holds Try.pinned (OpenSpec.ofChange shaPiecesWrong)

/-- 'aediculelaw02.ShaNil': WHATEVER THE INPUT: true; the input reads as it did. -/
def shaNilSpec : ChangeSpec := { name := "shaNil", fn := fun _ => fun
  | [d] => { results := [.lit (.bool true)], args := [d] }
  | _ => none }
def shaNilRow : OpenClaim := { program := "ytfdlkkhhakjgeaa", sum := "548d58fa219a3362b5f2ff7de6755f6a4c02df748279730ef98963c91e313ce0", func := "aedicule/aediculelaw02.ShaNil", spec := "shaNil", apart := false }
def ShaNilSaid : Prop := shaNilRow.holds Try.pinned (OpenSpec.ofChange shaNilSpec)

/-- ITS FALSE NEIGHBOUR: 'it returns false'. Refute it at one input. -/
def shaNilWrong : ChangeSpec := { name := "shaNil", fn := fun _ => fun
  | [d] => { results := [.lit (.bool false)], args := [d] }
  | _ => none }
def ShaNilWrongFalsely : Prop := shaNilRow.holds Try.pinned (OpenSpec.ofChange shaNilWrong)

/-- 'aediculelaw04.InsnAll': WHATEVER THE INPUT: true; the input reads as it did. -/
def insnAllSpec : ChangeSpec := { name := "insnAll", fn := fun _ => fun
  | [d] => { results := [.lit (.bool true)], args := [d] }
  | _ => none }
def insnAllRow : OpenClaim := { program := "ytfdlkkhhakjgeaa", sum := "548d58fa219a3362b5f2ff7de6755f6a4c02df748279730ef98963c91e313ce0", func := "aedicule/aediculelaw04.InsnAll", spec := "insnAll", inPlace := ["internal/abi.NoEscape"], unfollowed := true, recurses := true, apart := false }
def InsnAllSaid : Prop := insnAllRow.holds Try.pinned (OpenSpec.ofChange insnAllSpec)

/-- ITS FALSE NEIGHBOUR: 'it returns false'. Refute it at one input. -/
def insnAllWrong : ChangeSpec := { name := "insnAll", fn := fun _ => fun
  | [d] => { results := [.lit (.bool false)], args := [d] }
  | _ => none }
def InsnAllWrongFalsely : Prop := insnAllRow.holds Try.pinned (OpenSpec.ofChange insnAllWrong)

/-- 'aediculelaw03.MacTells': WHATEVER THE INPUT: true; the input reads as it did. -/
def macTellsSpec : ChangeSpec := { name := "macTells", fn := fun _ => fun
  | [d1, d2, d3] => { results := [.lit (.bool true)], args := [d1, d2, d3] }
  | _ => none }
def macTellsRow : OpenClaim := { program := "ytfdlkkhhakjgeaa", sum := "548d58fa219a3362b5f2ff7de6755f6a4c02df748279730ef98963c91e313ce0", func := "aedicule/aediculelaw03.MacTells", spec := "macTells", apart := false }
def MacTellsSaid : Prop := macTellsRow.holds Try.pinned (OpenSpec.ofChange macTellsSpec)

/-- ITS FALSE NEIGHBOUR: 'it returns false'. Refute it at one input. -/
def macTellsWrong : ChangeSpec := { name := "macTells", fn := fun _ => fun
  | [d1, d2, d3] => { results := [.lit (.bool false)], args := [d1, d2, d3] }
  | _ => none }
def MacTellsWrongFalsely : Prop := macTellsRow.holds Try.pinned (OpenSpec.ofChange macTellsWrong)

/-- 'aediculelaw03.MacPieces': WHATEVER THE INPUT: true; the input reads as it did. -/
def macPiecesSpec : ChangeSpec := { name := "macPieces", fn := fun _ => fun
  | [d1, d2] => { results := [.lit (.bool true)], args := [d1, d2] }
  | _ => none }
def macPiecesRow : OpenClaim := { program := "ytfdlkkhhakjgeaa", sum := "548d58fa219a3362b5f2ff7de6755f6a4c02df748279730ef98963c91e313ce0", func := "aedicule/aediculelaw03.MacPieces", spec := "macPieces", apart := false }
def MacPiecesSaid : Prop := macPiecesRow.holds Try.pinned (OpenSpec.ofChange macPiecesSpec)

/-- ITS FALSE NEIGHBOUR: 'it returns false'. Refute it at one input. -/
def macPiecesWrong : ChangeSpec := { name := "macPieces", fn := fun _ => fun
  | [d1, d2] => { results := [.lit (.bool false)], args := [d1, d2] }
  | _ => none }
def MacPiecesWrongFalsely : Prop := macPiecesRow.holds Try.pinned (OpenSpec.ofChange macPiecesWrong)

/-- 'aediculelaw03.MacKeys': WHATEVER THE INPUT: true; the input reads as it did. -/
def macKeysSpec : ChangeSpec := { name := "macKeys", fn := fun _ => fun
  | [d1, d2, d3] => { results := [.lit (.bool true)], args := [d1, d2, d3] }
  | _ => none }
def macKeysRow : OpenClaim := { program := "ytfdlkkhhakjgeaa", sum := "548d58fa219a3362b5f2ff7de6755f6a4c02df748279730ef98963c91e313ce0", func := "aedicule/aediculelaw03.MacKeys", spec := "macKeys", apart := false }
def MacKeysSaid : Prop := macKeysRow.holds Try.pinned (OpenSpec.ofChange macKeysSpec)

/-- ITS FALSE NEIGHBOUR: 'it returns false'. Refute it at one input. -/
def macKeysWrong : ChangeSpec := { name := "macKeys", fn := fun _ => fun
  | [d1, d2, d3] => { results := [.lit (.bool false)], args := [d1, d2, d3] }
  | _ => none }
def MacKeysWrongFalsely : Prop := macKeysRow.holds Try.pinned (OpenSpec.ofChange macKeysWrong)

/-- 'aediculelaw03.MacNil': WHATEVER THE INPUT: true; the input reads as it did. -/
def macNilSpec : ChangeSpec := { name := "macNil", fn := fun _ => fun
  | [d] => { results := [.lit (.bool true)], args := [d] }
  | _ => none }
def macNilRow : OpenClaim := { program := "ytfdlkkhhakjgeaa", sum := "548d58fa219a3362b5f2ff7de6755f6a4c02df748279730ef98963c91e313ce0", func := "aedicule/aediculelaw03.MacNil", spec := "macNil", apart := false }
def MacNilSaid : Prop := macNilRow.holds Try.pinned (OpenSpec.ofChange macNilSpec)

/-- ITS FALSE NEIGHBOUR: 'it returns false'. Refute it at one input. -/
def macNilWrong : ChangeSpec := { name := "macNil", fn := fun _ => fun
  | [d] => { results := [.lit (.bool false)], args := [d] }
  | _ => none }
def MacNilWrongFalsely : Prop := macNilRow.holds Try.pinned (OpenSpec.ofChange macNilWrong)

/- THE SECOND FORM. 'bulk': how many values and letters a reading holds, each counted each time it is reached (what is shared counts as often as it is met; a slice's spare places count too). A statement '..UptoSaid' is the law's where the arguments, and the package variables that the reading takes, are together of bulk at most 1048576: NARROWER than '..Said'. Prove '..Said' where nothing that the law and all that it calls make is longer than what came in: it says more and counts as full. Else prove '..UptoSaid'. A law counts once. -/
mutual
def uptoBulk {H : Type} : DataW H → Nat
  | .lit (.string bytes) => bytes.length + 1
  | .lit _ => 1
  | .nil => 1
  | .ptr d => uptoBulk d + 1
  | .slice elems spare => uptoBulkAll elems + uptoBulkAll spare + 1
  | .agg parts => uptoBulkAll parts + 1
  | .iface _ d => uptoBulk d + 1
  | .map entries => uptoBulkEntries entries + 1
  | .held _ => 1
def uptoBulkAll {H : Type} : List (DataW H) → Nat
  | [] => 0
  | d :: r => uptoBulk d + uptoBulkAll r
def uptoBulkEntries {H : Type} : List (Lit × DataW H) → Nat
  | [] => 0
  | x :: r => uptoBulkEntry x + uptoBulkEntries r
def uptoBulkEntry {H : Type} : Lit × DataW H → Nat
  | (.string bytes, d) => bytes.length + uptoBulk d + 1
  | (_, d) => uptoBulk d + 1
 end
def uptoSmall : (H : Type) → List (DataW H) → Bool := fun _ ds => decide (uptoBulkAll ds ≤ 1048576)
def OpenSpec.upto (s : _root_.Go.ChangeSpec) : _root_.Go.OpenSpec := { _root_.Go.OpenSpec.ofChange s with cond := some uptoSmall }

/-- 'aediculelaw04.InsnBack', WHERE WHAT IT READS IS OF BULK AT MOST 1048576: true; the input reads as it did. -/
def insnBackUptoRow : OpenClaim := { program := "ytfdlkkhhakjgeaa", sum := "548d58fa219a3362b5f2ff7de6755f6a4c02df748279730ef98963c91e313ce0", func := "aedicule/aediculelaw04.InsnBack", spec := "insnBack", unfollowed := true, recurses := true, apart := false, narrowed := true }
def InsnBackUptoSaid : Prop := insnBackUptoRow.holds Try.pinned (OpenSpec.upto insnBackSpec)

/-- 'aediculelaw04.InsnTells', WHERE WHAT IT READS IS OF BULK AT MOST 1048576: true; the input reads as it did. -/
def insnTellsUptoRow : OpenClaim := { program := "ytfdlkkhhakjgeaa", sum := "548d58fa219a3362b5f2ff7de6755f6a4c02df748279730ef98963c91e313ce0", func := "aedicule/aediculelaw04.InsnTells", spec := "insnTells", unfollowed := true, recurses := true, apart := false, narrowed := true }
def InsnTellsUptoSaid : Prop := insnTellsUptoRow.holds Try.pinned (OpenSpec.upto insnTellsSpec)

/-- 'aediculelaw02.ShaTells', WHERE WHAT IT READS IS OF BULK AT MOST 1048576: true; the input reads as it did. -/
def shaTellsUptoRow : OpenClaim := { program := "ytfdlkkhhakjgeaa", sum := "548d58fa219a3362b5f2ff7de6755f6a4c02df748279730ef98963c91e313ce0", func := "aedicule/aediculelaw02.ShaTells", spec := "shaTells", apart := false, narrowed := true }
def ShaTellsUptoSaid : Prop := shaTellsUptoRow.holds Try.pinned (OpenSpec.upto shaTellsSpec)

/-- 'aediculelaw02.ShaPieces', WHERE WHAT IT READS IS OF BULK AT MOST 1048576: true; the input reads as it did. -/
def shaPiecesUptoRow : OpenClaim := { program := "ytfdlkkhhakjgeaa", sum := "548d58fa219a3362b5f2ff7de6755f6a4c02df748279730ef98963c91e313ce0", func := "aedicule/aediculelaw02.ShaPieces", spec := "shaPieces", apart := false, narrowed := true }
def ShaPiecesUptoSaid : Prop := shaPiecesUptoRow.holds Try.pinned (OpenSpec.upto shaPiecesSpec)

/-- 'aediculelaw02.ShaNil', WHERE WHAT IT READS IS OF BULK AT MOST 1048576: true; the input reads as it did. -/
def shaNilUptoRow : OpenClaim := { program := "ytfdlkkhhakjgeaa", sum := "548d58fa219a3362b5f2ff7de6755f6a4c02df748279730ef98963c91e313ce0", func := "aedicule/aediculelaw02.ShaNil", spec := "shaNil", apart := false, narrowed := true }
def ShaNilUptoSaid : Prop := shaNilUptoRow.holds Try.pinned (OpenSpec.upto shaNilSpec)

/-- 'aediculelaw04.InsnAll', WHERE WHAT IT READS IS OF BULK AT MOST 1048576: true; the input reads as it did. -/
def insnAllUptoRow : OpenClaim := { program := "ytfdlkkhhakjgeaa", sum := "548d58fa219a3362b5f2ff7de6755f6a4c02df748279730ef98963c91e313ce0", func := "aedicule/aediculelaw04.InsnAll", spec := "insnAll", inPlace := ["internal/abi.NoEscape"], unfollowed := true, recurses := true, apart := false, narrowed := true }
def InsnAllUptoSaid : Prop := insnAllUptoRow.holds Try.pinned (OpenSpec.upto insnAllSpec)

/-- 'aediculelaw03.MacTells', WHERE WHAT IT READS IS OF BULK AT MOST 1048576: true; the input reads as it did. -/
def macTellsUptoRow : OpenClaim := { program := "ytfdlkkhhakjgeaa", sum := "548d58fa219a3362b5f2ff7de6755f6a4c02df748279730ef98963c91e313ce0", func := "aedicule/aediculelaw03.MacTells", spec := "macTells", apart := false, narrowed := true }
def MacTellsUptoSaid : Prop := macTellsUptoRow.holds Try.pinned (OpenSpec.upto macTellsSpec)

/-- 'aediculelaw03.MacPieces', WHERE WHAT IT READS IS OF BULK AT MOST 1048576: true; the input reads as it did. -/
def macPiecesUptoRow : OpenClaim := { program := "ytfdlkkhhakjgeaa", sum := "548d58fa219a3362b5f2ff7de6755f6a4c02df748279730ef98963c91e313ce0", func := "aedicule/aediculelaw03.MacPieces", spec := "macPieces", apart := false, narrowed := true }
def MacPiecesUptoSaid : Prop := macPiecesUptoRow.holds Try.pinned (OpenSpec.upto macPiecesSpec)

/-- 'aediculelaw03.MacKeys', WHERE WHAT IT READS IS OF BULK AT MOST 1048576: true; the input reads as it did. -/
def macKeysUptoRow : OpenClaim := { program := "ytfdlkkhhakjgeaa", sum := "548d58fa219a3362b5f2ff7de6755f6a4c02df748279730ef98963c91e313ce0", func := "aedicule/aediculelaw03.MacKeys", spec := "macKeys", apart := false, narrowed := true }
def MacKeysUptoSaid : Prop := macKeysUptoRow.holds Try.pinned (OpenSpec.upto macKeysSpec)

/-- 'aediculelaw03.MacNil', WHERE WHAT IT READS IS OF BULK AT MOST 1048576: true; the input reads as it did. -/
def macNilUptoRow : OpenClaim := { program := "ytfdlkkhhakjgeaa", sum := "548d58fa219a3362b5f2ff7de6755f6a4c02df748279730ef98963c91e313ce0", func := "aedicule/aediculelaw03.MacNil", spec := "macNil", apart := false, narrowed := true }
def MacNilUptoSaid : Prop := macNilUptoRow.holds Try.pinned (OpenSpec.upto macNilSpec)

end Rows
end Go.Proofs.Ytfdlkkhhakjgeaa
