/-
  No cell of these rows narrows 'for every input' (looked for: loops, veiled, ifaces, maps, wideKeys, modest, calm, conditions, laid).
  DERIVED. THE GIVEN ROWS OF THIS SEAT. 4 by the template 'for every input the law returns true; each argument reads behind the call as it read before'; 0 by the template 'total and deterministic' (their statements: YtnngbnenekjffaaTotals.lean).
  GIVEN WITH THE SEED: the statements are not yours to turn. If you find one false, say at which input.
  Laid BY PROGRAM, IN A SANDBOX (cutbox-rows.mjs): the forced cells as the released guide's own fill.sh prints them over the translation 7c338a3de16a367f… (all of the seat's roots in one cut). By AI agents, Wed Nov 11 2026. No macro, syntax, notation, axiom, sorry.
-/
import Derived.Test.YtnngbnenekjffaaChecked
import GoSem.Claim
import GoSem.ClaimJoined
import GoSem.ClaimMapViews
import Derived.JoinedTies
import Derived.KernelRfl
namespace Go.Proofs.Ytnngbnenekjffaa
/- THE CELL 'sum', in the pinned program and in every row, IS THE sha256 OF THE DUMP (.gsa) THAT YtnngbnenekjffaaProg.lean LOADS. Nothing in Lean hashes anything: it is a label: what it is worth is what the hold of that sum in a sandbox is worth. -/
noncomputable def Try.pinned : Pinned := { name := "ytnngbnenekjffaa", sum := "7c338a3de16a367f2376d445734f946f5663007a5ef4bb112d614e483865a1fd", checked := Try.checked }
namespace Rows
def none {H : Type} : Left H := { results := [], args := [] }

/-- 'aediculelaw11.DemandUnions': WHATEVER THE INPUT: true; the input reads as it did. -/
def demandUnionsSpec : ChangeSpec := { name := "demandUnions", fn := fun _ => fun
  | [d1, d2] => { results := [.lit (.bool true)], args := [d1, d2] }
  | _ => none }
def demandUnionsRow : OpenClaim := { program := "ytnngbnenekjffaa", sum := "7c338a3de16a367f2376d445734f946f5663007a5ef4bb112d614e483865a1fd", func := "aedicule/aediculelaw11.DemandUnions", spec := "demandUnions", unfollowed := true, recurses := true, apart := false }
def DemandUnionsSaid : Prop := demandUnionsRow.holds Try.pinned (OpenSpec.ofChange demandUnionsSpec)

/-- ITS FALSE NEIGHBOUR: 'it returns false'. Refute it at one input. -/
def demandUnionsWrong : ChangeSpec := { name := "demandUnions", fn := fun _ => fun
  | [d1, d2] => { results := [.lit (.bool false)], args := [d1, d2] }
  | _ => none }
def DemandUnionsWrongFalsely : Prop := demandUnionsRow.holds Try.pinned (OpenSpec.ofChange demandUnionsWrong)

/-- 'aediculelaw11.DemandLeast': WHATEVER THE INPUT: true; the input reads as it did. -/
def demandLeastSpec : ChangeSpec := { name := "demandLeast", fn := fun _ => fun
  | [d1, d2] => { results := [.lit (.bool true)], args := [d1, d2] }
  | _ => none }
def demandLeastRow : OpenClaim := { program := "ytnngbnenekjffaa", sum := "7c338a3de16a367f2376d445734f946f5663007a5ef4bb112d614e483865a1fd", func := "aedicule/aediculelaw11.DemandLeast", spec := "demandLeast", unfollowed := true, recurses := true, apart := false }
def DemandLeastSaid : Prop := demandLeastRow.holds Try.pinned (OpenSpec.ofChange demandLeastSpec)

/-- ITS FALSE NEIGHBOUR: 'it returns false'. Refute it at one input. -/
def demandLeastWrong : ChangeSpec := { name := "demandLeast", fn := fun _ => fun
  | [d1, d2] => { results := [.lit (.bool false)], args := [d1, d2] }
  | _ => none }
def DemandLeastWrongFalsely : Prop := demandLeastRow.holds Try.pinned (OpenSpec.ofChange demandLeastWrong)

/-- 'aediculelaw11.DemandMay': WHATEVER THE INPUT: true; the input reads as it did. -/
def demandMaySpec : ChangeSpec := { name := "demandMay", fn := fun _ => fun
  | [d1, d2, d3] => { results := [.lit (.bool true)], args := [d1, d2, d3] }
  | _ => none }
def demandMayRow : OpenClaim := { program := "ytnngbnenekjffaa", sum := "7c338a3de16a367f2376d445734f946f5663007a5ef4bb112d614e483865a1fd", func := "aedicule/aediculelaw11.DemandMay", spec := "demandMay", unfollowed := true, recurses := true, apart := false }
def DemandMaySaid : Prop := demandMayRow.holds Try.pinned (OpenSpec.ofChange demandMaySpec)

/-- ITS FALSE NEIGHBOUR: 'it returns false'. Refute it at one input. -/
def demandMayWrong : ChangeSpec := { name := "demandMay", fn := fun _ => fun
  | [d1, d2, d3] => { results := [.lit (.bool false)], args := [d1, d2, d3] }
  | _ => none }
def DemandMayWrongFalsely : Prop := demandMayRow.holds Try.pinned (OpenSpec.ofChange demandMayWrong)

/-- 'aediculelaw11.DemandOrder': WHATEVER THE INPUT: true; the input reads as it did. -/
def demandOrderSpec : ChangeSpec := { name := "demandOrder", fn := fun _ => fun
  | [d1, d2, d3] => { results := [.lit (.bool true)], args := [d1, d2, d3] }
  | _ => none }
def demandOrderRow : OpenClaim := { program := "ytnngbnenekjffaa", sum := "7c338a3de16a367f2376d445734f946f5663007a5ef4bb112d614e483865a1fd", func := "aedicule/aediculelaw11.DemandOrder", spec := "demandOrder", unfollowed := true, recurses := true, apart := false }
def DemandOrderSaid : Prop := demandOrderRow.holds Try.pinned (OpenSpec.ofChange demandOrderSpec)

/-- ITS FALSE NEIGHBOUR: 'it returns false'. Refute it at one input. -/
def demandOrderWrong : ChangeSpec := { name := "demandOrder", fn := fun _ => fun
  | [d1, d2, d3] => { results := [.lit (.bool false)], args := [d1, d2, d3] }
  | _ => none }
def DemandOrderWrongFalsely : Prop := demandOrderRow.holds Try.pinned (OpenSpec.ofChange demandOrderWrong)

/- THE SECOND FORM. 'bulk': how many values and letters a reading holds, each counted each time it is reached (what is shared counts as often as it is met; a slice's spare places count too). A statement '..UptoSaid' is the law's where the arguments, and the package variables that the reading takes, are together of bulk at most 1048576: NARROWER than '..Said'. Prove '..Said' where nothing that the law and all that it calls make is longer than what came in: it says more and counts as full. Else prove '..UptoSaid'. A law counts once. -/
mutual
def uptoBulk {H : Type} : DataW H → Nat
  | .lit (.string bytes) => bytes.length + 1
  | .lit _ => 1
  | .nil => 1
  | .ptr d => uptoBulk d + 1
  | .slice elems spare => uptoBulkAll elems + uptoBulkAll spare + 1
  | .agg parts => uptoBulkAll parts + 1
  | .iface _ d => uptoBulk d + 1
  | .map entries => uptoBulkEntries entries + 1
  | .held _ => 1
def uptoBulkAll {H : Type} : List (DataW H) → Nat
  | [] => 0
  | d :: r => uptoBulk d + uptoBulkAll r
def uptoBulkEntries {H : Type} : List (Lit × DataW H) → Nat
  | [] => 0
  | x :: r => uptoBulkEntry x + uptoBulkEntries r
def uptoBulkEntry {H : Type} : Lit × DataW H → Nat
  | (.string bytes, d) => bytes.length + uptoBulk d + 1
  | (_, d) => uptoBulk d + 1
 end
def uptoSmall : (H : Type) → List (DataW H) → Bool := fun _ ds => decide (uptoBulkAll ds ≤ 1048576)
def OpenSpec.upto (s : _root_.Go.ChangeSpec) : _root_.Go.OpenSpec := { _root_.Go.OpenSpec.ofChange s with cond := some uptoSmall }

/-- 'aediculelaw11.DemandUnions', WHERE WHAT IT READS IS OF BULK AT MOST 1048576: true; the input reads as it did. -/
def demandUnionsUptoRow : OpenClaim := { program := "ytnngbnenekjffaa", sum := "7c338a3de16a367f2376d445734f946f5663007a5ef4bb112d614e483865a1fd", func := "aedicule/aediculelaw11.DemandUnions", spec := "demandUnions", unfollowed := true, recurses := true, apart := false, narrowed := true }
def DemandUnionsUptoSaid : Prop := demandUnionsUptoRow.holds Try.pinned (OpenSpec.upto demandUnionsSpec)

/-- 'aediculelaw11.DemandLeast', WHERE WHAT IT READS IS OF BULK AT MOST 1048576: true; the input reads as it did. -/
def demandLeastUptoRow : OpenClaim := { program := "ytnngbnenekjffaa", sum := "7c338a3de16a367f2376d445734f946f5663007a5ef4bb112d614e483865a1fd", func := "aedicule/aediculelaw11.DemandLeast", spec := "demandLeast", unfollowed := true, recurses := true, apart := false, narrowed := true }
def DemandLeastUptoSaid : Prop := demandLeastUptoRow.holds Try.pinned (OpenSpec.upto demandLeastSpec)

/-- 'aediculelaw11.DemandMay', WHERE WHAT IT READS IS OF BULK AT MOST 1048576: true; the input reads as it did. -/
def demandMayUptoRow : OpenClaim := { program := "ytnngbnenekjffaa", sum := "7c338a3de16a367f2376d445734f946f5663007a5ef4bb112d614e483865a1fd", func := "aedicule/aediculelaw11.DemandMay", spec := "demandMay", unfollowed := true, recurses := true, apart := false, narrowed := true }
def DemandMayUptoSaid : Prop := demandMayUptoRow.holds Try.pinned (OpenSpec.upto demandMaySpec)

/-- 'aediculelaw11.DemandOrder', WHERE WHAT IT READS IS OF BULK AT MOST 1048576: true; the input reads as it did. -/
def demandOrderUptoRow : OpenClaim := { program := "ytnngbnenekjffaa", sum := "7c338a3de16a367f2376d445734f946f5663007a5ef4bb112d614e483865a1fd", func := "aedicule/aediculelaw11.DemandOrder", spec := "demandOrder", unfollowed := true, recurses := true, apart := false, narrowed := true }
def DemandOrderUptoSaid : Prop := demandOrderUptoRow.holds Try.pinned (OpenSpec.upto demandOrderSpec)

end Rows
end Go.Proofs.Ytnngbnenekjffaa
