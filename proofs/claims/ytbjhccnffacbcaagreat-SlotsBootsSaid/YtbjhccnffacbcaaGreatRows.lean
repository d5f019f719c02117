/-
  No cell of these rows narrows 'for every input' (looked for: loops, veiled, ifaces, maps, wideKeys, modest, calm, conditions, laid).
  DERIVED. THE GIVEN ROWS OF THIS SEAT. 7 by the template 'for every input the law returns true; each argument reads behind the call as it read before'; 0 by the template 'total and deterministic' (their statements: YtbjhccnffacbcaaGreatTotals.lean).
  GIVEN WITH THE SEED: the statements are not yours to turn. If you find one false, say at which input.
  Laid BY PROGRAM, IN A SANDBOX (cutbox-rows.mjs): the forced cells as the released guide's own fill.sh prints them over the translation 7349ac83e7078b34… (all of the seat's roots in one cut). By AI agents, Wed Nov 11 2026. No macro, syntax, notation, axiom, sorry.
-/
import Derived.Test.YtbjhccnffacbcaaGreatChecked
import GoSem.Claim
import GoSem.ClaimJoined
import GoSem.ClaimMapViews
import Derived.JoinedTies
import Derived.KernelRfl
namespace Go.Proofs.YtbjhccnffacbcaaGreat
/- THE CELL 'sum', in the pinned program and in every row, IS THE sha256 OF THE DUMP (.gsa) THAT YtbjhccnffacbcaaGreatProg.lean LOADS. Nothing in Lean hashes anything: it is a label: what it is worth is what the hold of that sum in a sandbox is worth. -/
noncomputable def Tryz.pinned : Pinned := { name := "ytbjhccnffacbcaagreat", sum := "7349ac83e7078b3442cf3190f80861f57355967d0ad5a5b6baf5f39f2c55ec3b", checked := Tryz.checked }
namespace Rows
def none {H : Type} : Left H := { results := [], args := [] }

/-- 'aediculelaw44.SlotsNil': WHATEVER THE INPUT: true; the input reads as it did. -/
def slotsNilSpec : ChangeSpec := { name := "slotsNil", fn := fun _ => fun
  | [d1, d2, d3] => { results := [.lit (.bool true)], args := [d1, d2, d3] }
  | _ => none }
def slotsNilRow : OpenClaim := { program := "ytbjhccnffacbcaagreat", sum := "7349ac83e7078b3442cf3190f80861f57355967d0ad5a5b6baf5f39f2c55ec3b", func := "aedicule/aediculelaw44.SlotsNil", spec := "slotsNil", inPlace := ["internal/abi.NoEscape", "internal/bytealg.MakeNoZero"], unfollowed := true, recurses := true, apart := false }
def SlotsNilSaid : Prop := slotsNilRow.holds Tryz.pinned (OpenSpec.ofChange slotsNilSpec)

/-- ITS FALSE NEIGHBOUR: 'it returns false'. Refute it at one input. -/
def slotsNilWrong : ChangeSpec := { name := "slotsNil", fn := fun _ => fun
  | [d1, d2, d3] => { results := [.lit (.bool false)], args := [d1, d2, d3] }
  | _ => none }
def SlotsNilWrongFalsely : Prop := slotsNilRow.holds Tryz.pinned (OpenSpec.ofChange slotsNilWrong)

/-- 'aediculelaw44.SlotsBoots': WHATEVER THE INPUT: true; the input reads as it did. -/
def slotsBootsSpec : ChangeSpec := { name := "slotsBoots", fn := fun _ => fun
  | [d1, d2, d3, d4] => { results := [.lit (.bool true)], args := [d1, d2, d3, d4] }
  | _ => none }
def slotsBootsRow : OpenClaim := { program := "ytbjhccnffacbcaagreat", sum := "7349ac83e7078b3442cf3190f80861f57355967d0ad5a5b6baf5f39f2c55ec3b", func := "aedicule/aediculelaw44.SlotsBoots", spec := "slotsBoots", inPlace := ["internal/abi.NoEscape", "internal/bytealg.MakeNoZero"], unfollowed := true, recurses := true, apart := false }
def SlotsBootsSaid : Prop := slotsBootsRow.holds Tryz.pinned (OpenSpec.ofChange slotsBootsSpec)

/-- ITS FALSE NEIGHBOUR: 'it returns false'. Refute it at one input. -/
def slotsBootsWrong : ChangeSpec := { name := "slotsBoots", fn := fun _ => fun
  | [d1, d2, d3, d4] => { results := [.lit (.bool false)], args := [d1, d2, d3, d4] }
  | _ => none }
def SlotsBootsWrongFalsely : Prop := slotsBootsRow.holds Tryz.pinned (OpenSpec.ofChange slotsBootsWrong)

/-- 'aediculelaw44.SlotsPlays': WHATEVER THE INPUT: true; the input reads as it did. -/
def slotsPlaysSpec : ChangeSpec := { name := "slotsPlays", fn := fun _ => fun
  | [d1, d2, d3] => { results := [.lit (.bool true)], args := [d1, d2, d3] }
  | _ => none }
def slotsPlaysRow : OpenClaim := { program := "ytbjhccnffacbcaagreat", sum := "7349ac83e7078b3442cf3190f80861f57355967d0ad5a5b6baf5f39f2c55ec3b", func := "aedicule/aediculelaw44.SlotsPlays", spec := "slotsPlays", inPlace := ["internal/abi.NoEscape", "internal/bytealg.MakeNoZero"], unfollowed := true, recurses := true, apart := false }
def SlotsPlaysSaid : Prop := slotsPlaysRow.holds Tryz.pinned (OpenSpec.ofChange slotsPlaysSpec)

/-- ITS FALSE NEIGHBOUR: 'it returns false'. Refute it at one input. -/
def slotsPlaysWrong : ChangeSpec := { name := "slotsPlays", fn := fun _ => fun
  | [d1, d2, d3] => { results := [.lit (.bool false)], args := [d1, d2, d3] }
  | _ => none }
def SlotsPlaysWrongFalsely : Prop := slotsPlaysRow.holds Tryz.pinned (OpenSpec.ofChange slotsPlaysWrong)

/-- 'aediculelaw24.LoadSpaces': WHATEVER THE INPUT: true; the input reads as it did. -/
def loadSpacesSpec : ChangeSpec := { name := "loadSpaces", fn := fun _ => fun
  | [d] => { results := [.lit (.bool true)], args := [d] }
  | _ => none }
def loadSpacesRow : OpenClaim := { program := "ytbjhccnffacbcaagreat", sum := "7349ac83e7078b3442cf3190f80861f57355967d0ad5a5b6baf5f39f2c55ec3b", func := "aedicule/aediculelaw24.LoadSpaces", spec := "loadSpaces", inPlace := ["internal/abi.NoEscape"], unfollowed := true, recurses := true, apart := false }
def LoadSpacesSaid : Prop := loadSpacesRow.holds Tryz.pinned (OpenSpec.ofChange loadSpacesSpec)

/-- ITS FALSE NEIGHBOUR: 'it returns false'. Refute it at one input. -/
def loadSpacesWrong : ChangeSpec := { name := "loadSpaces", fn := fun _ => fun
  | [d] => { results := [.lit (.bool false)], args := [d] }
  | _ => none }
def LoadSpacesWrongFalsely : Prop := loadSpacesRow.holds Tryz.pinned (OpenSpec.ofChange loadSpacesWrong)

/-- 'aediculelaw24.LoadAll': WHATEVER THE INPUT: true; the input reads as it did. -/
def loadAllSpec : ChangeSpec := { name := "loadAll", fn := fun _ => fun
  | [d1, d2, d3] => { results := [.lit (.bool true)], args := [d1, d2, d3] }
  | _ => none }
def loadAllRow : OpenClaim := { program := "ytbjhccnffacbcaagreat", sum := "7349ac83e7078b3442cf3190f80861f57355967d0ad5a5b6baf5f39f2c55ec3b", func := "aedicule/aediculelaw24.LoadAll", spec := "loadAll", inPlace := ["internal/abi.NoEscape"], unfollowed := true, recurses := true, apart := false }
def LoadAllSaid : Prop := loadAllRow.holds Tryz.pinned (OpenSpec.ofChange loadAllSpec)

/-- ITS FALSE NEIGHBOUR: 'it returns false'. Refute it at one input. -/
def loadAllWrong : ChangeSpec := { name := "loadAll", fn := fun _ => fun
  | [d1, d2, d3] => { results := [.lit (.bool false)], args := [d1, d2, d3] }
  | _ => none }
def LoadAllWrongFalsely : Prop := loadAllRow.holds Tryz.pinned (OpenSpec.ofChange loadAllWrong)

/-- 'aediculelaw24.LoadImages': WHATEVER THE INPUT: true; the input reads as it did. -/
def loadImagesSpec : ChangeSpec := { name := "loadImages", fn := fun _ => fun
  | [d1, d2] => { results := [.lit (.bool true)], args := [d1, d2] }
  | _ => none }
def loadImagesRow : OpenClaim := { program := "ytbjhccnffacbcaagreat", sum := "7349ac83e7078b3442cf3190f80861f57355967d0ad5a5b6baf5f39f2c55ec3b", func := "aedicule/aediculelaw24.LoadImages", spec := "loadImages", inPlace := ["internal/abi.NoEscape"], unfollowed := true, recurses := true, apart := false }
def LoadImagesSaid : Prop := loadImagesRow.holds Tryz.pinned (OpenSpec.ofChange loadImagesSpec)

/-- ITS FALSE NEIGHBOUR: 'it returns false'. Refute it at one input. -/
def loadImagesWrong : ChangeSpec := { name := "loadImages", fn := fun _ => fun
  | [d1, d2] => { results := [.lit (.bool false)], args := [d1, d2] }
  | _ => none }
def LoadImagesWrongFalsely : Prop := loadImagesRow.holds Tryz.pinned (OpenSpec.ofChange loadImagesWrong)

/-- 'aediculelaw24.LoadExactly': WHATEVER THE INPUT: true; the input reads as it did. -/
def loadExactlySpec : ChangeSpec := { name := "loadExactly", fn := fun _ => fun
  | [d1, d2, d3, d4] => { results := [.lit (.bool true)], args := [d1, d2, d3, d4] }
  | _ => none }
def loadExactlyRow : OpenClaim := { program := "ytbjhccnffacbcaagreat", sum := "7349ac83e7078b3442cf3190f80861f57355967d0ad5a5b6baf5f39f2c55ec3b", func := "aedicule/aediculelaw24.LoadExactly", spec := "loadExactly", inPlace := ["internal/abi.NoEscape"], unfollowed := true, recurses := true, apart := false }
def LoadExactlySaid : Prop := loadExactlyRow.holds Tryz.pinned (OpenSpec.ofChange loadExactlySpec)

/-- ITS FALSE NEIGHBOUR: 'it returns false'. Refute it at one input. -/
def loadExactlyWrong : ChangeSpec := { name := "loadExactly", fn := fun _ => fun
  | [d1, d2, d3, d4] => { results := [.lit (.bool false)], args := [d1, d2, d3, d4] }
  | _ => none }
def LoadExactlyWrongFalsely : Prop := loadExactlyRow.holds Tryz.pinned (OpenSpec.ofChange loadExactlyWrong)

/- THE SECOND FORM. 'bulk': how many values and letters a reading holds, each counted each time it is reached (what is shared counts as often as it is met; a slice's spare places count too). A statement '..UptoSaid' is the law's where the arguments, and the package variables that the reading takes, are together of bulk at most 1048576: NARROWER than '..Said'. Prove '..Said' where nothing that the law and all that it calls make is longer than what came in: it says more and counts as full. Else prove '..UptoSaid'. A law counts once. -/
mutual
def uptoBulk {H : Type} : DataW H → Nat
  | .lit (.string bytes) => bytes.length + 1
  | .lit _ => 1
  | .nil => 1
  | .ptr d => uptoBulk d + 1
  | .slice elems spare => uptoBulkAll elems + uptoBulkAll spare + 1
  | .agg parts => uptoBulkAll parts + 1
  | .iface _ d => uptoBulk d + 1
  | .map entries => uptoBulkEntries entries + 1
  | .held _ => 1
def uptoBulkAll {H : Type} : List (DataW H) → Nat
  | [] => 0
  | d :: r => uptoBulk d + uptoBulkAll r
def uptoBulkEntries {H : Type} : List (Lit × DataW H) → Nat
  | [] => 0
  | x :: r => uptoBulkEntry x + uptoBulkEntries r
def uptoBulkEntry {H : Type} : Lit × DataW H → Nat
  | (.string bytes, d) => bytes.length + uptoBulk d + 1
  | (_, d) => uptoBulk d + 1
 end
def uptoSmall : (H : Type) → List (DataW H) → Bool := fun _ ds => decide (uptoBulkAll ds ≤ 1048576)
def OpenSpec.upto (s : _root_.Go.ChangeSpec) : _root_.Go.OpenSpec := { _root_.Go.OpenSpec.ofChange s with cond := some uptoSmall }

/-- 'aediculelaw44.SlotsNil', WHERE WHAT IT READS IS OF BULK AT MOST 1048576: true; the input reads as it did. -/
def slotsNilUptoRow : OpenClaim := { program := "ytbjhccnffacbcaagreat", sum := "7349ac83e7078b3442cf3190f80861f57355967d0ad5a5b6baf5f39f2c55ec3b", func := "aedicule/aediculelaw44.SlotsNil", spec := "slotsNil", inPlace := ["internal/abi.NoEscape", "internal/bytealg.MakeNoZero"], unfollowed := true, recurses := true, apart := false, narrowed := true }
def SlotsNilUptoSaid : Prop := slotsNilUptoRow.holds Tryz.pinned (OpenSpec.upto slotsNilSpec)

/-- 'aediculelaw44.SlotsBoots', WHERE WHAT IT READS IS OF BULK AT MOST 1048576: true; the input reads as it did. -/
def slotsBootsUptoRow : OpenClaim := { program := "ytbjhccnffacbcaagreat", sum := "7349ac83e7078b3442cf3190f80861f57355967d0ad5a5b6baf5f39f2c55ec3b", func := "aedicule/aediculelaw44.SlotsBoots", spec := "slotsBoots", inPlace := ["internal/abi.NoEscape", "internal/bytealg.MakeNoZero"], unfollowed := true, recurses := true, apart := false, narrowed := true }
def SlotsBootsUptoSaid : Prop := slotsBootsUptoRow.holds Tryz.pinned (OpenSpec.upto slotsBootsSpec)

/-- 'aediculelaw44.SlotsPlays', WHERE WHAT IT READS IS OF BULK AT MOST 1048576: true; the input reads as it did. -/
def slotsPlaysUptoRow : OpenClaim := { program := "ytbjhccnffacbcaagreat", sum := "7349ac83e7078b3442cf3190f80861f57355967d0ad5a5b6baf5f39f2c55ec3b", func := "aedicule/aediculelaw44.SlotsPlays", spec := "slotsPlays", inPlace := ["internal/abi.NoEscape", "internal/bytealg.MakeNoZero"], unfollowed := true, recurses := true, apart := false, narrowed := true }
def SlotsPlaysUptoSaid : Prop := slotsPlaysUptoRow.holds Tryz.pinned (OpenSpec.upto slotsPlaysSpec)

/-- 'aediculelaw24.LoadSpaces', WHERE WHAT IT READS IS OF BULK AT MOST 1048576: true; the input reads as it did. -/
def loadSpacesUptoRow : OpenClaim := { program := "ytbjhccnffacbcaagreat", sum := "7349ac83e7078b3442cf3190f80861f57355967d0ad5a5b6baf5f39f2c55ec3b", func := "aedicule/aediculelaw24.LoadSpaces", spec := "loadSpaces", inPlace := ["internal/abi.NoEscape"], unfollowed := true, recurses := true, apart := false, narrowed := true }
def LoadSpacesUptoSaid : Prop := loadSpacesUptoRow.holds Tryz.pinned (OpenSpec.upto loadSpacesSpec)

/-- 'aediculelaw24.LoadAll', WHERE WHAT IT READS IS OF BULK AT MOST 1048576: true; the input reads as it did. -/
def loadAllUptoRow : OpenClaim := { program := "ytbjhccnffacbcaagreat", sum := "7349ac83e7078b3442cf3190f80861f57355967d0ad5a5b6baf5f39f2c55ec3b", func := "aedicule/aediculelaw24.LoadAll", spec := "loadAll", inPlace := ["internal/abi.NoEscape"], unfollowed := true, recurses := true, apart := false, narrowed := true }
def LoadAllUptoSaid : Prop := loadAllUptoRow.holds Tryz.pinned (OpenSpec.upto loadAllSpec)

/-- 'aediculelaw24.LoadImages', WHERE WHAT IT READS IS OF BULK AT MOST 1048576: true; the input reads as it did. -/
def loadImagesUptoRow : OpenClaim := { program := "ytbjhccnffacbcaagreat", sum := "7349ac83e7078b3442cf3190f80861f57355967d0ad5a5b6baf5f39f2c55ec3b", func := "aedicule/aediculelaw24.LoadImages", spec := "loadImages", inPlace := ["internal/abi.NoEscape"], unfollowed := true, recurses := true, apart := false, narrowed := true }
def LoadImagesUptoSaid : Prop := loadImagesUptoRow.holds Tryz.pinned (OpenSpec.upto loadImagesSpec)

/-- 'aediculelaw24.LoadExactly', WHERE WHAT IT READS IS OF BULK AT MOST 1048576: true; the input reads as it did. -/
def loadExactlyUptoRow : OpenClaim := { program := "ytbjhccnffacbcaagreat", sum := "7349ac83e7078b3442cf3190f80861f57355967d0ad5a5b6baf5f39f2c55ec3b", func := "aedicule/aediculelaw24.LoadExactly", spec := "loadExactly", inPlace := ["internal/abi.NoEscape"], unfollowed := true, recurses := true, apart := false, narrowed := true }
def LoadExactlyUptoSaid : Prop := loadExactlyUptoRow.holds Tryz.pinned (OpenSpec.upto loadExactlySpec)

end Rows
end Go.Proofs.YtbjhccnffacbcaaGreat
