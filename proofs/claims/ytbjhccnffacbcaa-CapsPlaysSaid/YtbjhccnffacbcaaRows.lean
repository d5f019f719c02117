/-
  No cell of these rows narrows 'for every input' (looked for: loops, veiled, ifaces, maps, wideKeys, modest, calm, conditions, laid).
  DERIVED. THE GIVEN ROWS OF THIS SEAT. 5 by the template 'for every input the law returns true; each argument reads behind the call as it read before'; 0 by the template 'total and deterministic' (their statements: YtbjhccnffacbcaaTotals.lean).
  GIVEN WITH THE SEED: the statements are not yours to turn. If you find one false, say at which input.
  Laid BY PROGRAM, IN A SANDBOX (cutbox-rows.mjs): the forced cells as the released guide's own fill.sh prints them over the translation 853dcd007c4399a6… (all of the seat's roots in one cut). By AI agents, Wed Nov 11 2026. No macro, syntax, notation, axiom, sorry.
-/
import Derived.Test.YtbjhccnffacbcaaChecked
import GoSem.Claim
import GoSem.ClaimJoined
import GoSem.ClaimMapViews
import Derived.JoinedTies
import Derived.KernelRfl
namespace Go.Proofs.Ytbjhccnffacbcaa
/- THE CELL 'sum', in the pinned program and in every row, IS THE sha256 OF THE DUMP (.gsa) THAT YtbjhccnffacbcaaProg.lean LOADS. Nothing in Lean hashes anything: it is a label: what it is worth is what the hold of that sum in a sandbox is worth. -/
noncomputable def Try.pinned : Pinned := { name := "ytbjhccnffacbcaa", sum := "853dcd007c4399a6b4da639bc08ad9807cf1256e6c20bd76c521a86e05a6ecb1", checked := Try.checked }
namespace Rows
def none {H : Type} : Left H := { results := [], args := [] }

/-- 'aediculelaw44.SlotsTorn': WHATEVER THE INPUT: true; the input reads as it did. -/
def slotsTornSpec : ChangeSpec := { name := "slotsTorn", fn := fun _ => fun
  | [d1, d2, d3] => { results := [.lit (.bool true)], args := [d1, d2, d3] }
  | _ => none }
def slotsTornRow : OpenClaim := { program := "ytbjhccnffacbcaa", sum := "853dcd007c4399a6b4da639bc08ad9807cf1256e6c20bd76c521a86e05a6ecb1", func := "aedicule/aediculelaw44.SlotsTorn", spec := "slotsTorn", inPlace := ["internal/abi.NoEscape", "internal/bytealg.MakeNoZero"], unfollowed := true, recurses := true, apart := false }
def SlotsTornSaid : Prop := slotsTornRow.holds Try.pinned (OpenSpec.ofChange slotsTornSpec)

/-- ITS FALSE NEIGHBOUR: 'it returns false'. Refute it at one input. -/
def slotsTornWrong : ChangeSpec := { name := "slotsTorn", fn := fun _ => fun
  | [d1, d2, d3] => { results := [.lit (.bool false)], args := [d1, d2, d3] }
  | _ => none }
def SlotsTornWrongFalsely : Prop := slotsTornRow.holds Try.pinned (OpenSpec.ofChange slotsTornWrong)

/-- 'aediculelaw44.SlotsKeys': WHATEVER THE INPUT: true; the input reads as it did. -/
def slotsKeysSpec : ChangeSpec := { name := "slotsKeys", fn := fun _ => fun
  | [d1, d2, d3, d4] => { results := [.lit (.bool true)], args := [d1, d2, d3, d4] }
  | _ => none }
def slotsKeysRow : OpenClaim := { program := "ytbjhccnffacbcaa", sum := "853dcd007c4399a6b4da639bc08ad9807cf1256e6c20bd76c521a86e05a6ecb1", func := "aedicule/aediculelaw44.SlotsKeys", spec := "slotsKeys", inPlace := ["internal/abi.NoEscape", "internal/bytealg.MakeNoZero"], unfollowed := true, recurses := true, apart := false }
def SlotsKeysSaid : Prop := slotsKeysRow.holds Try.pinned (OpenSpec.ofChange slotsKeysSpec)

/-- ITS FALSE NEIGHBOUR: 'it returns false'. Refute it at one input. -/
def slotsKeysWrong : ChangeSpec := { name := "slotsKeys", fn := fun _ => fun
  | [d1, d2, d3, d4] => { results := [.lit (.bool false)], args := [d1, d2, d3, d4] }
  | _ => none }
def SlotsKeysWrongFalsely : Prop := slotsKeysRow.holds Try.pinned (OpenSpec.ofChange slotsKeysWrong)

/-- 'aediculelaw19.CapsApart': WHATEVER THE INPUT: true; the input reads as it did. -/
def capsApartSpec : ChangeSpec := { name := "capsApart", fn := fun _ => fun
  | [d1, d2, d3, d4, d5] => { results := [.lit (.bool true)], args := [d1, d2, d3, d4, d5] }
  | _ => none }
def capsApartRow : OpenClaim := { program := "ytbjhccnffacbcaa", sum := "853dcd007c4399a6b4da639bc08ad9807cf1256e6c20bd76c521a86e05a6ecb1", func := "aedicule/aediculelaw19.CapsApart", spec := "capsApart", unfollowed := true, recurses := true, apart := false }
def CapsApartSaid : Prop := capsApartRow.holds Try.pinned (OpenSpec.ofChange capsApartSpec)

/-- ITS FALSE NEIGHBOUR: 'it returns false'. Refute it at one input. -/
def capsApartWrong : ChangeSpec := { name := "capsApart", fn := fun _ => fun
  | [d1, d2, d3, d4, d5] => { results := [.lit (.bool false)], args := [d1, d2, d3, d4, d5] }
  | _ => none }
def CapsApartWrongFalsely : Prop := capsApartRow.holds Try.pinned (OpenSpec.ofChange capsApartWrong)

/-- 'aediculelaw19.CapsPlays': WHATEVER THE INPUT: true; the input reads as it did. -/
def capsPlaysSpec : ChangeSpec := { name := "capsPlays", fn := fun _ => fun
  | [d1, d2, d3, d4, d5] => { results := [.lit (.bool true)], args := [d1, d2, d3, d4, d5] }
  | _ => none }
def capsPlaysRow : OpenClaim := { program := "ytbjhccnffacbcaa", sum := "853dcd007c4399a6b4da639bc08ad9807cf1256e6c20bd76c521a86e05a6ecb1", func := "aedicule/aediculelaw19.CapsPlays", spec := "capsPlays", unfollowed := true, recurses := true, apart := false }
def CapsPlaysSaid : Prop := capsPlaysRow.holds Try.pinned (OpenSpec.ofChange capsPlaysSpec)

/-- ITS FALSE NEIGHBOUR: 'it returns false'. Refute it at one input. -/
def capsPlaysWrong : ChangeSpec := { name := "capsPlays", fn := fun _ => fun
  | [d1, d2, d3, d4, d5] => { results := [.lit (.bool false)], args := [d1, d2, d3, d4, d5] }
  | _ => none }
def CapsPlaysWrongFalsely : Prop := capsPlaysRow.holds Try.pinned (OpenSpec.ofChange capsPlaysWrong)

/-- 'aediculelaw19.CapsNil': WHATEVER THE INPUT: true; the input reads as it did. -/
def capsNilSpec : ChangeSpec := { name := "capsNil", fn := fun _ => fun
  | [d1, d2] => { results := [.lit (.bool true)], args := [d1, d2] }
  | _ => none }
def capsNilRow : OpenClaim := { program := "ytbjhccnffacbcaa", sum := "853dcd007c4399a6b4da639bc08ad9807cf1256e6c20bd76c521a86e05a6ecb1", func := "aedicule/aediculelaw19.CapsNil", spec := "capsNil", unfollowed := true, recurses := true, apart := false }
def CapsNilSaid : Prop := capsNilRow.holds Try.pinned (OpenSpec.ofChange capsNilSpec)

/-- ITS FALSE NEIGHBOUR: 'it returns false'. Refute it at one input. -/
def capsNilWrong : ChangeSpec := { name := "capsNil", fn := fun _ => fun
  | [d1, d2] => { results := [.lit (.bool false)], args := [d1, d2] }
  | _ => none }
def CapsNilWrongFalsely : Prop := capsNilRow.holds Try.pinned (OpenSpec.ofChange capsNilWrong)

/- THE SECOND FORM. 'bulk': how many values and letters a reading holds, each counted each time it is reached (what is shared counts as often as it is met; a slice's spare places count too). A statement '..UptoSaid' is the law's where the arguments, and the package variables that the reading takes, are together of bulk at most 1048576: NARROWER than '..Said'. Prove '..Said' where nothing that the law and all that it calls make is longer than what came in: it says more and counts as full. Else prove '..UptoSaid'. A law counts once. -/
mutual
def uptoBulk {H : Type} : DataW H → Nat
  | .lit (.string bytes) => bytes.length + 1
  | .lit _ => 1
  | .nil => 1
  | .ptr d => uptoBulk d + 1
  | .slice elems spare => uptoBulkAll elems + uptoBulkAll spare + 1
  | .agg parts => uptoBulkAll parts + 1
  | .iface _ d => uptoBulk d + 1
  | .map entries => uptoBulkEntries entries + 1
  | .held _ => 1
def uptoBulkAll {H : Type} : List (DataW H) → Nat
  | [] => 0
  | d :: r => uptoBulk d + uptoBulkAll r
def uptoBulkEntries {H : Type} : List (Lit × DataW H) → Nat
  | [] => 0
  | x :: r => uptoBulkEntry x + uptoBulkEntries r
def uptoBulkEntry {H : Type} : Lit × DataW H → Nat
  | (.string bytes, d) => bytes.length + uptoBulk d + 1
  | (_, d) => uptoBulk d + 1
 end
def uptoSmall : (H : Type) → List (DataW H) → Bool := fun _ ds => decide (uptoBulkAll ds ≤ 1048576)
def OpenSpec.upto (s : _root_.Go.ChangeSpec) : _root_.Go.OpenSpec := { _root_.Go.OpenSpec.ofChange s with cond := some uptoSmall }

/-- 'aediculelaw44.SlotsTorn', WHERE WHAT IT READS IS OF BULK AT MOST 1048576: true; the input reads as it did. -/
def slotsTornUptoRow : OpenClaim := { program := "ytbjhccnffacbcaa", sum := "853dcd007c4399a6b4da639bc08ad9807cf1256e6c20bd76c521a86e05a6ecb1", func := "aedicule/aediculelaw44.SlotsTorn", spec := "slotsTorn", inPlace := ["internal/abi.NoEscape", "internal/bytealg.MakeNoZero"], unfollowed := true, recurses := true, apart := false, narrowed := true }
def SlotsTornUptoSaid : Prop := slotsTornUptoRow.holds Try.pinned (OpenSpec.upto slotsTornSpec)

/-- 'aediculelaw44.SlotsKeys', WHERE WHAT IT READS IS OF BULK AT MOST 1048576: true; the input reads as it did. -/
def slotsKeysUptoRow : OpenClaim := { program := "ytbjhccnffacbcaa", sum := "853dcd007c4399a6b4da639bc08ad9807cf1256e6c20bd76c521a86e05a6ecb1", func := "aedicule/aediculelaw44.SlotsKeys", spec := "slotsKeys", inPlace := ["internal/abi.NoEscape", "internal/bytealg.MakeNoZero"], unfollowed := true, recurses := true, apart := false, narrowed := true }
def SlotsKeysUptoSaid : Prop := slotsKeysUptoRow.holds Try.pinned (OpenSpec.upto slotsKeysSpec)

/-- 'aediculelaw19.CapsApart', WHERE WHAT IT READS IS OF BULK AT MOST 1048576: true; the input reads as it did. -/
def capsApartUptoRow : OpenClaim := { program := "ytbjhccnffacbcaa", sum := "853dcd007c4399a6b4da639bc08ad9807cf1256e6c20bd76c521a86e05a6ecb1", func := "aedicule/aediculelaw19.CapsApart", spec := "capsApart", unfollowed := true, recurses := true, apart := false, narrowed := true }
def CapsApartUptoSaid : Prop := capsApartUptoRow.holds Try.pinned (OpenSpec.upto capsApartSpec)

/-- 'aediculelaw19.CapsPlays', WHERE WHAT IT READS IS OF BULK AT MOST 1048576: true; the input reads as it did. -/
def capsPlaysUptoRow : OpenClaim := { program := "ytbjhccnffacbcaa", sum := "853dcd007c4399a6b4da639bc08ad9807cf1256e6c20bd76c521a86e05a6ecb1", func := "aedicule/aediculelaw19.CapsPlays", spec := "capsPlays", unfollowed := true, recurses := true, apart := false, narrowed := true }
def CapsPlaysUptoSaid : Prop := capsPlaysUptoRow.holds Try.pinned (OpenSpec.upto capsPlaysSpec)

/-- 'aediculelaw19.CapsNil', WHERE WHAT IT READS IS OF BULK AT MOST 1048576: true; the input reads as it did. -/
def capsNilUptoRow : OpenClaim := { program := "ytbjhccnffacbcaa", sum := "853dcd007c4399a6b4da639bc08ad9807cf1256e6c20bd76c521a86e05a6ecb1", func := "aedicule/aediculelaw19.CapsNil", spec := "capsNil", unfollowed := true, recurses := true, apart := false, narrowed := true }
def CapsNilUptoSaid : Prop := capsNilUptoRow.holds Try.pinned (OpenSpec.upto capsNilSpec)

end Rows
end Go.Proofs.Ytbjhccnffacbcaa
