/-
  NARROWER THAN 'FOR EVERY INPUT', by the rows' own cells (each row's printed sentence says how): RelocFills: laid · RelocBack: laid · AsmMakes: laid · AsmData: laid · AsmFills: laid · ObjMay: laid · ObjNames: laid · ObjFinds: laid.
  DERIVED. THE GIVEN ROWS OF THIS SEAT. 8 by the template 'for every input the law returns true; each argument reads behind the call as it read before'; 0 by the template 'total and deterministic' (their statements: YtnngbnenekjffaaDoorTotals.lean).
  GIVEN WITH THE SEED: the statements are not yours to turn. If you find one false, say at which input.
  Laid BY PROGRAM, IN A SANDBOX (cutbox-rows.mjs): the forced cells as the released guide's own fill.sh prints them over the translation c794f189c4f63b53… (all of the seat's roots in one cut). By AI agents, Wed Nov 11 2026. No macro, syntax, notation, axiom, sorry.
-/
import Derived.Test.YtnngbnenekjffaaDoorChecked
import GoSem.PinnedTables
import GoSem.Claim
import GoSem.ClaimJoined
import GoSem.ClaimMapViews
import Derived.JoinedTies
import Derived.KernelRfl
namespace Go.Proofs.YtnngbnenekjffaaDoor
/- THE CELL 'sum', in the pinned program and in every row, IS THE sha256 OF THE DUMP (.gsa) THAT YtnngbnenekjffaaDoorProg.lean LOADS. Nothing in Lean hashes anything: it is a label: what it is worth is what the hold of that sum in a sandbox is worth. -/
noncomputable def Tryd.pinned : Pinned := { name := "ytnngbnenekjffaadoor", sum := "c794f189c4f63b53c76bca0cdc9023ec2efb6eddb49a888b2d14656e412dce65", checked := Tryd.checked }
namespace Rows
def none {H : Type} : Left H := { results := [], args := [] }

/- WHAT THE LISTED PACKAGE-LEVEL VARIABLES READ AS WHEN THE CALL BEGINS. Each datum BY PROGRAM (the guide's laid-datum.mjs) off the statement by which the dump's own 'gosem.cut.vars' lays the variable. In a bare row this is a premise. The card (YtnngbnenekjffaaDoorCards.lean) ties it to the program's text. -/
def laid_unicode_utf8_acceptRanges {H : Type} : DataW H := .agg [.agg [.lit (.int .u8 128), .lit (.int .u8 191)], .agg [.lit (.int .u8 160), .lit (.int .u8 191)], .agg [.lit (.int .u8 128), .lit (.int .u8 159)], .agg [.lit (.int .u8 144), .lit (.int .u8 191)], .agg [.lit (.int .u8 128), .lit (.int .u8 143)], .agg [.lit (.int .u8 0), .lit (.int .u8 0)], .agg [.lit (.int .u8 0), .lit (.int .u8 0)], .agg [.lit (.int .u8 0), .lit (.int .u8 0)], .agg [.lit (.int .u8 0), .lit (.int .u8 0)], .agg [.lit (.int .u8 0), .lit (.int .u8 0)], .agg [.lit (.int .u8 0), .lit (.int .u8 0)], .agg [.lit (.int .u8 0), .lit (.int .u8 0)], .agg [.lit (.int .u8 0), .lit (.int .u8 0)], .agg [.lit (.int .u8 0), .lit (.int .u8 0)], .agg [.lit (.int .u8 0), .lit (.int .u8 0)], .agg [.lit (.int .u8 0), .lit (.int .u8 0)]]
/-- One of Go's own tables, pinned by name: the form's constant. -/
def laid_unicode_utf8_first : DataW Unit := Go.Pinned.utf8First

/-- 'aediculelaw15.RelocFills': WHATEVER THE INPUT: true; the input reads as it did. -/
def relocFillsSpec : ChangeSpec := { name := "relocFills", fn := fun _ => fun
  | [d1, d2, d3] => { results := [.lit (.bool true)], args := [d1, d2, d3] }
  | _ => none }
def relocFillsRow : OpenClaim := { program := "ytnngbnenekjffaadoor", sum := "c794f189c4f63b53c76bca0cdc9023ec2efb6eddb49a888b2d14656e412dce65", func := "aedicule/aediculelaw15.RelocFills", spec := "relocFills", inPlace := ["internal/bytealg.IndexByteString", "internal/bytealg.IndexString"], unfollowed := true, recurses := true, named := ["unicode/utf8.first", "unicode/utf8.acceptRanges", "internal/bytealg.MaxLen"], apart := false, laid := [("unicode/utf8.acceptRanges", laid_unicode_utf8_acceptRanges), ("unicode/utf8.first", laid_unicode_utf8_first)] }
def RelocFillsSaid : Prop := relocFillsRow.holds Tryd.pinned (OpenSpec.ofChange relocFillsSpec)

/-- ITS FALSE NEIGHBOUR: 'it returns false'. Refute it at one input. -/
def relocFillsWrong : ChangeSpec := { name := "relocFills", fn := fun _ => fun
  | [d1, d2, d3] => { results := [.lit (.bool false)], args := [d1, d2, d3] }
  | _ => none }
def RelocFillsWrongFalsely : Prop := relocFillsRow.holds Tryd.pinned (OpenSpec.ofChange relocFillsWrong)

/-- 'aediculelaw15.RelocBack': WHATEVER THE INPUT: true; the input reads as it did. -/
def relocBackSpec : ChangeSpec := { name := "relocBack", fn := fun _ => fun
  | [d1, d2, d3] => { results := [.lit (.bool true)], args := [d1, d2, d3] }
  | _ => none }
def relocBackRow : OpenClaim := { program := "ytnngbnenekjffaadoor", sum := "c794f189c4f63b53c76bca0cdc9023ec2efb6eddb49a888b2d14656e412dce65", func := "aedicule/aediculelaw15.RelocBack", spec := "relocBack", inPlace := ["internal/bytealg.IndexByteString", "internal/bytealg.IndexString"], unfollowed := true, recurses := true, named := ["unicode/utf8.first", "unicode/utf8.acceptRanges", "internal/bytealg.MaxLen"], apart := false, laid := [("unicode/utf8.acceptRanges", laid_unicode_utf8_acceptRanges), ("unicode/utf8.first", laid_unicode_utf8_first)] }
def RelocBackSaid : Prop := relocBackRow.holds Tryd.pinned (OpenSpec.ofChange relocBackSpec)

/-- ITS FALSE NEIGHBOUR: 'it returns false'. Refute it at one input. -/
def relocBackWrong : ChangeSpec := { name := "relocBack", fn := fun _ => fun
  | [d1, d2, d3] => { results := [.lit (.bool false)], args := [d1, d2, d3] }
  | _ => none }
def RelocBackWrongFalsely : Prop := relocBackRow.holds Tryd.pinned (OpenSpec.ofChange relocBackWrong)

/-- 'aediculelaw10.AsmMakes': WHATEVER THE INPUT: true; the input reads as it did. -/
def asmMakesSpec : ChangeSpec := { name := "asmMakes", fn := fun _ => fun
  | [d1, d2, d3, d4] => { results := [.lit (.bool true)], args := [d1, d2, d3, d4] }
  | _ => none }
def asmMakesRow : OpenClaim := { program := "ytnngbnenekjffaadoor", sum := "c794f189c4f63b53c76bca0cdc9023ec2efb6eddb49a888b2d14656e412dce65", func := "aedicule/aediculelaw10.AsmMakes", spec := "asmMakes", inPlace := ["internal/bytealg.IndexByteString", "internal/bytealg.IndexString"], unfollowed := true, recurses := true, named := ["unicode/utf8.first", "unicode/utf8.acceptRanges", "internal/bytealg.MaxLen"], apart := false, laid := [("unicode/utf8.acceptRanges", laid_unicode_utf8_acceptRanges), ("unicode/utf8.first", laid_unicode_utf8_first)] }
def AsmMakesSaid : Prop := asmMakesRow.holds Tryd.pinned (OpenSpec.ofChange asmMakesSpec)

/-- ITS FALSE NEIGHBOUR: 'it returns false'. Refute it at one input. -/
def asmMakesWrong : ChangeSpec := { name := "asmMakes", fn := fun _ => fun
  | [d1, d2, d3, d4] => { results := [.lit (.bool false)], args := [d1, d2, d3, d4] }
  | _ => none }
def AsmMakesWrongFalsely : Prop := asmMakesRow.holds Tryd.pinned (OpenSpec.ofChange asmMakesWrong)

/-- 'aediculelaw10.AsmData': WHATEVER THE INPUT: true; the input reads as it did. -/
def asmDataSpec : ChangeSpec := { name := "asmData", fn := fun _ => fun
  | [d] => { results := [.lit (.bool true)], args := [d] }
  | _ => none }
def asmDataRow : OpenClaim := { program := "ytnngbnenekjffaadoor", sum := "c794f189c4f63b53c76bca0cdc9023ec2efb6eddb49a888b2d14656e412dce65", func := "aedicule/aediculelaw10.AsmData", spec := "asmData", inPlace := ["internal/bytealg.IndexByteString", "internal/bytealg.IndexString"], unfollowed := true, recurses := true, named := ["unicode/utf8.first", "unicode/utf8.acceptRanges", "internal/bytealg.MaxLen"], apart := false, laid := [("unicode/utf8.acceptRanges", laid_unicode_utf8_acceptRanges), ("unicode/utf8.first", laid_unicode_utf8_first)] }
def AsmDataSaid : Prop := asmDataRow.holds Tryd.pinned (OpenSpec.ofChange asmDataSpec)

/-- ITS FALSE NEIGHBOUR: 'it returns false'. Refute it at one input. -/
def asmDataWrong : ChangeSpec := { name := "asmData", fn := fun _ => fun
  | [d] => { results := [.lit (.bool false)], args := [d] }
  | _ => none }
def AsmDataWrongFalsely : Prop := asmDataRow.holds Tryd.pinned (OpenSpec.ofChange asmDataWrong)

/-- 'aediculelaw10.AsmFills': WHATEVER THE INPUT: true; the input reads as it did. -/
def asmFillsSpec : ChangeSpec := { name := "asmFills", fn := fun _ => fun
  | [d1, d2, d3] => { results := [.lit (.bool true)], args := [d1, d2, d3] }
  | _ => none }
def asmFillsRow : OpenClaim := { program := "ytnngbnenekjffaadoor", sum := "c794f189c4f63b53c76bca0cdc9023ec2efb6eddb49a888b2d14656e412dce65", func := "aedicule/aediculelaw10.AsmFills", spec := "asmFills", inPlace := ["internal/bytealg.IndexByteString", "internal/bytealg.IndexString"], unfollowed := true, recurses := true, named := ["unicode/utf8.first", "unicode/utf8.acceptRanges", "internal/bytealg.MaxLen"], apart := false, laid := [("unicode/utf8.acceptRanges", laid_unicode_utf8_acceptRanges), ("unicode/utf8.first", laid_unicode_utf8_first)] }
def AsmFillsSaid : Prop := asmFillsRow.holds Tryd.pinned (OpenSpec.ofChange asmFillsSpec)

/-- ITS FALSE NEIGHBOUR: 'it returns false'. Refute it at one input. -/
def asmFillsWrong : ChangeSpec := { name := "asmFills", fn := fun _ => fun
  | [d1, d2, d3] => { results := [.lit (.bool false)], args := [d1, d2, d3] }
  | _ => none }
def AsmFillsWrongFalsely : Prop := asmFillsRow.holds Tryd.pinned (OpenSpec.ofChange asmFillsWrong)

/-- 'aediculelaw08.ObjMay': WHATEVER THE INPUT: true; the input reads as it did. -/
def objMaySpec : ChangeSpec := { name := "objMay", fn := fun _ => fun
  | [d1, d2, d3] => { results := [.lit (.bool true)], args := [d1, d2, d3] }
  | _ => none }
def objMayRow : OpenClaim := { program := "ytnngbnenekjffaadoor", sum := "c794f189c4f63b53c76bca0cdc9023ec2efb6eddb49a888b2d14656e412dce65", func := "aedicule/aediculelaw08.ObjMay", spec := "objMay", inPlace := ["internal/bytealg.IndexByteString", "internal/bytealg.IndexString"], unfollowed := true, recurses := true, named := ["unicode/utf8.first", "unicode/utf8.acceptRanges", "internal/bytealg.MaxLen"], apart := false, laid := [("unicode/utf8.acceptRanges", laid_unicode_utf8_acceptRanges), ("unicode/utf8.first", laid_unicode_utf8_first)] }
def ObjMaySaid : Prop := objMayRow.holds Tryd.pinned (OpenSpec.ofChange objMaySpec)

/-- ITS FALSE NEIGHBOUR: 'it returns false'. Refute it at one input. -/
def objMayWrong : ChangeSpec := { name := "objMay", fn := fun _ => fun
  | [d1, d2, d3] => { results := [.lit (.bool false)], args := [d1, d2, d3] }
  | _ => none }
def ObjMayWrongFalsely : Prop := objMayRow.holds Tryd.pinned (OpenSpec.ofChange objMayWrong)

/-- 'aediculelaw08.ObjNames': WHATEVER THE INPUT: true; the input reads as it did. -/
def objNamesSpec : ChangeSpec := { name := "objNames", fn := fun _ => fun
  | [d] => { results := [.lit (.bool true)], args := [d] }
  | _ => none }
def objNamesRow : OpenClaim := { program := "ytnngbnenekjffaadoor", sum := "c794f189c4f63b53c76bca0cdc9023ec2efb6eddb49a888b2d14656e412dce65", func := "aedicule/aediculelaw08.ObjNames", spec := "objNames", inPlace := ["internal/bytealg.IndexByteString", "internal/bytealg.IndexString"], unfollowed := true, recurses := true, named := ["unicode/utf8.first", "unicode/utf8.acceptRanges", "internal/bytealg.MaxLen"], apart := false, laid := [("unicode/utf8.acceptRanges", laid_unicode_utf8_acceptRanges), ("unicode/utf8.first", laid_unicode_utf8_first)] }
def ObjNamesSaid : Prop := objNamesRow.holds Tryd.pinned (OpenSpec.ofChange objNamesSpec)

/-- ITS FALSE NEIGHBOUR: 'it returns false'. Refute it at one input. -/
def objNamesWrong : ChangeSpec := { name := "objNames", fn := fun _ => fun
  | [d] => { results := [.lit (.bool false)], args := [d] }
  | _ => none }
def ObjNamesWrongFalsely : Prop := objNamesRow.holds Tryd.pinned (OpenSpec.ofChange objNamesWrong)

/-- 'aediculelaw08.ObjFinds': WHATEVER THE INPUT: true; the input reads as it did. -/
def objFindsSpec : ChangeSpec := { name := "objFinds", fn := fun _ => fun
  | [d] => { results := [.lit (.bool true)], args := [d] }
  | _ => none }
def objFindsRow : OpenClaim := { program := "ytnngbnenekjffaadoor", sum := "c794f189c4f63b53c76bca0cdc9023ec2efb6eddb49a888b2d14656e412dce65", func := "aedicule/aediculelaw08.ObjFinds", spec := "objFinds", inPlace := ["internal/bytealg.IndexByteString", "internal/bytealg.IndexString"], unfollowed := true, recurses := true, named := ["unicode/utf8.first", "unicode/utf8.acceptRanges", "internal/bytealg.MaxLen"], apart := false, laid := [("unicode/utf8.acceptRanges", laid_unicode_utf8_acceptRanges), ("unicode/utf8.first", laid_unicode_utf8_first)] }
def ObjFindsSaid : Prop := objFindsRow.holds Tryd.pinned (OpenSpec.ofChange objFindsSpec)

/-- ITS FALSE NEIGHBOUR: 'it returns false'. Refute it at one input. -/
def objFindsWrong : ChangeSpec := { name := "objFinds", fn := fun _ => fun
  | [d] => { results := [.lit (.bool false)], args := [d] }
  | _ => none }
def ObjFindsWrongFalsely : Prop := objFindsRow.holds Tryd.pinned (OpenSpec.ofChange objFindsWrong)

/- THE SECOND FORM. 'bulk': how many values and letters a reading holds, each counted each time it is reached (what is shared counts as often as it is met; a slice's spare places count too). A statement '..UptoSaid' is the law's where the arguments, and the package variables that the reading takes, are together of bulk at most 1048576: NARROWER than '..Said'. Prove '..Said' where nothing that the law and all that it calls make is longer than what came in: it says more and counts as full. Else prove '..UptoSaid'. A law counts once. -/
mutual
def uptoBulk {H : Type} : DataW H → Nat
  | .lit (.string bytes) => bytes.length + 1
  | .lit _ => 1
  | .nil => 1
  | .ptr d => uptoBulk d + 1
  | .slice elems spare => uptoBulkAll elems + uptoBulkAll spare + 1
  | .agg parts => uptoBulkAll parts + 1
  | .iface _ d => uptoBulk d + 1
  | .map entries => uptoBulkEntries entries + 1
  | .held _ => 1
def uptoBulkAll {H : Type} : List (DataW H) → Nat
  | [] => 0
  | d :: r => uptoBulk d + uptoBulkAll r
def uptoBulkEntries {H : Type} : List (Lit × DataW H) → Nat
  | [] => 0
  | x :: r => uptoBulkEntry x + uptoBulkEntries r
def uptoBulkEntry {H : Type} : Lit × DataW H → Nat
  | (.string bytes, d) => bytes.length + uptoBulk d + 1
  | (_, d) => uptoBulk d + 1
 end
def uptoSmall : (H : Type) → List (DataW H) → Bool := fun _ ds => decide (uptoBulkAll ds ≤ 1048576)
def OpenSpec.upto (s : _root_.Go.ChangeSpec) : _root_.Go.OpenSpec := { _root_.Go.OpenSpec.ofChange s with cond := some uptoSmall }

/-- 'aediculelaw15.RelocFills', WHERE WHAT IT READS IS OF BULK AT MOST 1048576: true; the input reads as it did. -/
def relocFillsUptoRow : OpenClaim := { program := "ytnngbnenekjffaadoor", sum := "c794f189c4f63b53c76bca0cdc9023ec2efb6eddb49a888b2d14656e412dce65", func := "aedicule/aediculelaw15.RelocFills", spec := "relocFills", inPlace := ["internal/bytealg.IndexByteString", "internal/bytealg.IndexString"], unfollowed := true, recurses := true, named := ["unicode/utf8.first", "unicode/utf8.acceptRanges", "internal/bytealg.MaxLen"], apart := false, laid := [("unicode/utf8.acceptRanges", laid_unicode_utf8_acceptRanges), ("unicode/utf8.first", laid_unicode_utf8_first)], narrowed := true }
def RelocFillsUptoSaid : Prop := relocFillsUptoRow.holds Tryd.pinned (OpenSpec.upto relocFillsSpec)

/-- 'aediculelaw15.RelocBack', WHERE WHAT IT READS IS OF BULK AT MOST 1048576: true; the input reads as it did. -/
def relocBackUptoRow : OpenClaim := { program := "ytnngbnenekjffaadoor", sum := "c794f189c4f63b53c76bca0cdc9023ec2efb6eddb49a888b2d14656e412dce65", func := "aedicule/aediculelaw15.RelocBack", spec := "relocBack", inPlace := ["internal/bytealg.IndexByteString", "internal/bytealg.IndexString"], unfollowed := true, recurses := true, named := ["unicode/utf8.first", "unicode/utf8.acceptRanges", "internal/bytealg.MaxLen"], apart := false, laid := [("unicode/utf8.acceptRanges", laid_unicode_utf8_acceptRanges), ("unicode/utf8.first", laid_unicode_utf8_first)], narrowed := true }
def RelocBackUptoSaid : Prop := relocBackUptoRow.holds Tryd.pinned (OpenSpec.upto relocBackSpec)

/-- 'aediculelaw10.AsmMakes', WHERE WHAT IT READS IS OF BULK AT MOST 1048576: true; the input reads as it did. -/
def asmMakesUptoRow : OpenClaim := { program := "ytnngbnenekjffaadoor", sum := "c794f189c4f63b53c76bca0cdc9023ec2efb6eddb49a888b2d14656e412dce65", func := "aedicule/aediculelaw10.AsmMakes", spec := "asmMakes", inPlace := ["internal/bytealg.IndexByteString", "internal/bytealg.IndexString"], unfollowed := true, recurses := true, named := ["unicode/utf8.first", "unicode/utf8.acceptRanges", "internal/bytealg.MaxLen"], apart := false, laid := [("unicode/utf8.acceptRanges", laid_unicode_utf8_acceptRanges), ("unicode/utf8.first", laid_unicode_utf8_first)], narrowed := true }
def AsmMakesUptoSaid : Prop := asmMakesUptoRow.holds Tryd.pinned (OpenSpec.upto asmMakesSpec)

/-- 'aediculelaw10.AsmData', WHERE WHAT IT READS IS OF BULK AT MOST 1048576: true; the input reads as it did. -/
def asmDataUptoRow : OpenClaim := { program := "ytnngbnenekjffaadoor", sum := "c794f189c4f63b53c76bca0cdc9023ec2efb6eddb49a888b2d14656e412dce65", func := "aedicule/aediculelaw10.AsmData", spec := "asmData", inPlace := ["internal/bytealg.IndexByteString", "internal/bytealg.IndexString"], unfollowed := true, recurses := true, named := ["unicode/utf8.first", "unicode/utf8.acceptRanges", "internal/bytealg.MaxLen"], apart := false, laid := [("unicode/utf8.acceptRanges", laid_unicode_utf8_acceptRanges), ("unicode/utf8.first", laid_unicode_utf8_first)], narrowed := true }
def AsmDataUptoSaid : Prop := asmDataUptoRow.holds Tryd.pinned (OpenSpec.upto asmDataSpec)

/-- 'aediculelaw10.AsmFills', WHERE WHAT IT READS IS OF BULK AT MOST 1048576: true; the input reads as it did. -/
def asmFillsUptoRow : OpenClaim := { program := "ytnngbnenekjffaadoor", sum := "c794f189c4f63b53c76bca0cdc9023ec2efb6eddb49a888b2d14656e412dce65", func := "aedicule/aediculelaw10.AsmFills", spec := "asmFills", inPlace := ["internal/bytealg.IndexByteString", "internal/bytealg.IndexString"], unfollowed := true, recurses := true, named := ["unicode/utf8.first", "unicode/utf8.acceptRanges", "internal/bytealg.MaxLen"], apart := false, laid := [("unicode/utf8.acceptRanges", laid_unicode_utf8_acceptRanges), ("unicode/utf8.first", laid_unicode_utf8_first)], narrowed := true }
def AsmFillsUptoSaid : Prop := asmFillsUptoRow.holds Tryd.pinned (OpenSpec.upto asmFillsSpec)

/-- 'aediculelaw08.ObjMay', WHERE WHAT IT READS IS OF BULK AT MOST 1048576: true; the input reads as it did. -/
def objMayUptoRow : OpenClaim := { program := "ytnngbnenekjffaadoor", sum := "c794f189c4f63b53c76bca0cdc9023ec2efb6eddb49a888b2d14656e412dce65", func := "aedicule/aediculelaw08.ObjMay", spec := "objMay", inPlace := ["internal/bytealg.IndexByteString", "internal/bytealg.IndexString"], unfollowed := true, recurses := true, named := ["unicode/utf8.first", "unicode/utf8.acceptRanges", "internal/bytealg.MaxLen"], apart := false, laid := [("unicode/utf8.acceptRanges", laid_unicode_utf8_acceptRanges), ("unicode/utf8.first", laid_unicode_utf8_first)], narrowed := true }
def ObjMayUptoSaid : Prop := objMayUptoRow.holds Tryd.pinned (OpenSpec.upto objMaySpec)

/-- 'aediculelaw08.ObjNames', WHERE WHAT IT READS IS OF BULK AT MOST 1048576: true; the input reads as it did. -/
def objNamesUptoRow : OpenClaim := { program := "ytnngbnenekjffaadoor", sum := "c794f189c4f63b53c76bca0cdc9023ec2efb6eddb49a888b2d14656e412dce65", func := "aedicule/aediculelaw08.ObjNames", spec := "objNames", inPlace := ["internal/bytealg.IndexByteString", "internal/bytealg.IndexString"], unfollowed := true, recurses := true, named := ["unicode/utf8.first", "unicode/utf8.acceptRanges", "internal/bytealg.MaxLen"], apart := false, laid := [("unicode/utf8.acceptRanges", laid_unicode_utf8_acceptRanges), ("unicode/utf8.first", laid_unicode_utf8_first)], narrowed := true }
def ObjNamesUptoSaid : Prop := objNamesUptoRow.holds Tryd.pinned (OpenSpec.upto objNamesSpec)

/-- 'aediculelaw08.ObjFinds', WHERE WHAT IT READS IS OF BULK AT MOST 1048576: true; the input reads as it did. -/
def objFindsUptoRow : OpenClaim := { program := "ytnngbnenekjffaadoor", sum := "c794f189c4f63b53c76bca0cdc9023ec2efb6eddb49a888b2d14656e412dce65", func := "aedicule/aediculelaw08.ObjFinds", spec := "objFinds", inPlace := ["internal/bytealg.IndexByteString", "internal/bytealg.IndexString"], unfollowed := true, recurses := true, named := ["unicode/utf8.first", "unicode/utf8.acceptRanges", "internal/bytealg.MaxLen"], apart := false, laid := [("unicode/utf8.acceptRanges", laid_unicode_utf8_acceptRanges), ("unicode/utf8.first", laid_unicode_utf8_first)], narrowed := true }
def ObjFindsUptoSaid : Prop := objFindsUptoRow.holds Tryd.pinned (OpenSpec.upto objFindsSpec)

end Rows
end Go.Proofs.YtnngbnenekjffaaDoor
