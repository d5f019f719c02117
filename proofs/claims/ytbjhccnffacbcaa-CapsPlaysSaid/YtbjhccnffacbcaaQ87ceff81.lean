/- General lemmas and walks: FWInsn, FWRef4, FWSha, FWSha2, FWRef2, FWMac, FWBuild, FWSlot, FWSlot2, FWSlot3, FWSlot4, FWSlot5, FWSlot6, FWSlot7, FWSlot8, FWSlot9, FWCap, FWDem, FWCap2, FWCap3, FWCap4, FWCap5, FWCap6, FWCap7, FWCap8, FWCap9, FWCap10, FWCap11, FWCap12, FWCap13, FWCap14, FWCap15, FWCap16, FWSeq, FWSeq2, FNSort, FNSort2, FNSort3, FNSort4, FWSeq3, FWCap17, FWCap18, FWCap19, FWCap20, FWCap21, FWCap22, FWCap23, FWCap24, FWCap25, FWCap26, WInsn, WRef4, WSha, WSha2, WRef2, WMac, WBuild, WSlot, WRep, WSlot2, WSlot3, WSlot4, WSlot5, WSlot6, WSlot7, WSlot8, WSlot9, WCap, WDem, WCap2, WCap3, WCap4, WCap5, WCap6, WCap7, WCap8, WCap9, WCap10. No condition but what each theorem names. -/
import Derived.Test.YtbjhccnffacbcaaQ9532813f
import Derived.Test.YtbjhccnffacbcaaQ726357e9
import Derived.Test.YtbjhccnffacbcaaChecked
import Derived.Test.YtbjhccnffacbcaaQ02f141bf
import Derived.Test.YtbjhccnffacbcaaQfc9067cb
import Derived.Shelf.Strings.Repeat
import Derived.Ground.Names2Prog
import Derived.Test.YtbjhccnffacbcaaProg
/-! from FWInsn -/
/- Closed facts, off the tables of the program. -/
namespace Go.Proofs.Ytbjhccnffacbcaa
open Go.Owl
namespace Fa
end Fa
end Go.Proofs.Ytbjhccnffacbcaa
/-! from FWRef4 -/
/- Closed facts, off the tables of the program. -/
namespace Go.Proofs.Ytbjhccnffacbcaa
open Go.Owl
namespace Fa
end Fa
end Go.Proofs.Ytbjhccnffacbcaa
/-! from FWSha -/
/- Closed facts, off the tables of the program. -/
namespace Go.Proofs.Ytbjhccnffacbcaa
open Go.Owl
namespace Fa
theorem I29 : tiB Try.prog 29 = some ([(vU32 0)], 1, 4) := by kernel_rfl
theorem I3 : tiB Try.prog 3 = some ([(vN 0)], 1, 8) := by kernel_rfl
theorem M : Try.prog.follows .mixedOrders = true := by kernel_rfl
end Fa
end Go.Proofs.Ytbjhccnffacbcaa
/-! from FWSha2 -/
/- Closed facts, off the tables of the program. -/
namespace Go.Proofs.Ytbjhccnffacbcaa
open Go.Owl
namespace Fa
end Fa
end Go.Proofs.Ytbjhccnffacbcaa
/-! from FWRef2 -/
/- Closed facts, off the tables of the program. -/
namespace Go.Proofs.Ytbjhccnffacbcaa
open Go.Owl
namespace Fa
end Fa
end Go.Proofs.Ytbjhccnffacbcaa
/-! from FWMac -/
/- Closed facts, off the tables of the program. -/
namespace Go.Proofs.Ytbjhccnffacbcaa
open Go.Owl
namespace Fa
end Fa
end Go.Proofs.Ytbjhccnffacbcaa
/-! from FWBuild -/
/- Closed facts, off the tables of the program. -/
namespace Go.Proofs.Ytbjhccnffacbcaa
open Go.Owl
namespace Fa
end Fa
end Go.Proofs.Ytbjhccnffacbcaa
/-! from FWSlot -/
/- Closed facts, off the tables of the program. -/
namespace Go.Proofs.Ytbjhccnffacbcaa
open Go.Owl
namespace Fa
end Fa
end Go.Proofs.Ytbjhccnffacbcaa
/-! from FWSlot2 -/
/- Closed facts, off the tables of the program. -/
namespace Go.Proofs.Ytbjhccnffacbcaa
open Go.Owl
namespace Fa
end Fa
end Go.Proofs.Ytbjhccnffacbcaa
/-! from FWSlot3 -/
/- Closed facts, off the tables of the program. -/
namespace Go.Proofs.Ytbjhccnffacbcaa
open Go.Owl
namespace Fa
end Fa
end Go.Proofs.Ytbjhccnffacbcaa
/-! from FWSlot4 -/
/- Closed facts, off the tables of the program. -/
namespace Go.Proofs.Ytbjhccnffacbcaa
open Go.Owl
namespace Fa
end Fa
end Go.Proofs.Ytbjhccnffacbcaa
/-! from FWSlot5 -/
/- Closed facts, off the tables of the program. -/
namespace Go.Proofs.Ytbjhccnffacbcaa
open Go.Owl
namespace Fa
end Fa
end Go.Proofs.Ytbjhccnffacbcaa
/-! from FWSlot6 -/
/- Closed facts, off the tables of the program. -/
namespace Go.Proofs.Ytbjhccnffacbcaa
open Go.Owl
namespace Fa
theorem C34 : callB Try.prog 34 = true := by kernel_rfl
theorem C54 : callB Try.prog 54 = true := by kernel_rfl
theorem F48_0 : faB Try.prog 48 0 = some (0, 1, true) := by kernel_rfl
theorem F48_1 : faB Try.prog 48 1 = some (1, 1, true) := by kernel_rfl
theorem I112 : tiB Try.prog 112 = some ([(vU32 0), (.slice none 0 0), (.map none)], 3, 40) := by kernel_rfl
theorem I46 : tiB Try.prog 46 = some ([(.slice none 0 0)], 1, 24) := by kernel_rfl
theorem I48 : tiB Try.prog 48 = some ([(vU32 0), (.slice none 0 0)], 2, 32) := by kernel_rfl
theorem PL112 : plB Try.prog 112 = some [(0, 2), (2, 1)] := by kernel_rfl
end Fa
end Go.Proofs.Ytbjhccnffacbcaa
/-! from FWSlot7 -/
/- Closed facts, off the tables of the program. -/
namespace Go.Proofs.Ytbjhccnffacbcaa
open Go.Owl
namespace Fa
theorem C18 : callB Try.prog 18 = true := by kernel_rfl
end Fa
end Go.Proofs.Ytbjhccnffacbcaa
/-! from FWSlot8 -/
/- Closed facts, off the tables of the program. -/
namespace Go.Proofs.Ytbjhccnffacbcaa
open Go.Owl
namespace Fa
theorem PL48 : plB Try.prog 48 = some [(0, 1), (1, 1)] := by kernel_rfl
end Fa
end Go.Proofs.Ytbjhccnffacbcaa
/-! from FWSlot9 -/
/- Closed facts, off the tables of the program. -/
namespace Go.Proofs.Ytbjhccnffacbcaa
open Go.Owl
namespace Fa
end Fa
end Go.Proofs.Ytbjhccnffacbcaa
/-! from FWCap -/
/- Closed facts, off the tables of the program. -/
namespace Go.Proofs.Ytbjhccnffacbcaa
open Go.Owl
namespace Fa
theorem F112_0 : faB Try.prog 112 0 = some (0, 2, false) := by kernel_rfl
theorem F112_1 : faB Try.prog 112 1 = some (2, 1, true) := by kernel_rfl
theorem F120_0 : faB Try.prog 120 0 = some (0, 4, false) := by kernel_rfl
theorem F120_1 : faB Try.prog 120 1 = some (4, 1, true) := by kernel_rfl
theorem F59_0 : faB Try.prog 59 0 = some (0, 1, true) := by kernel_rfl
theorem I120 : tiB Try.prog 120 = some ([(vU32 0), (.slice none 0 0), (.slice none 0 0), (.bool false), (vU32 0), (vU32 0)], 6, 72) := by kernel_rfl
theorem PL120 : plB Try.prog 120 = some [(0, 4), (4, 1), (5, 1)] := by kernel_rfl
theorem PT114 : Try.prog.underlying 114 = some (.pointer (Try.prog.pointee 114)) := by kernel_rfl
theorem PT52 : Try.prog.underlying 52 = some (.pointer (Try.prog.pointee 52)) := by kernel_rfl
theorem Z114 : zvB Try.prog 114 = some (.pointer none) := by kernel_rfl
end Fa
end Go.Proofs.Ytbjhccnffacbcaa
/-! from FWDem -/
/- Closed facts, off the tables of the program. -/
namespace Go.Proofs.Ytbjhccnffacbcaa
open Go.Owl
namespace Fa
theorem C102 : callB Try.prog 102 = true := by kernel_rfl
theorem C121 : callB Try.prog 121 = true := by kernel_rfl
theorem C63 : callB Try.prog 63 = true := by kernel_rfl
theorem C89 : callB Try.prog 89 = true := by kernel_rfl
theorem C90 : callB Try.prog 90 = true := by kernel_rfl
theorem C91 : callB Try.prog 91 = true := by kernel_rfl
theorem C92 : callB Try.prog 92 = true := by kernel_rfl
theorem C93 : callB Try.prog 93 = true := by kernel_rfl
theorem C94 : callB Try.prog 94 = true := by kernel_rfl
theorem F108_0 : faB Try.prog 108 0 = some (0, 1, true) := by kernel_rfl
theorem F108_1 : faB Try.prog 108 1 = some (1, 1, true) := by kernel_rfl
theorem F59_1 : faB Try.prog 59 1 = some (1, 1, true) := by kernel_rfl
theorem F59_2 : faB Try.prog 59 2 = some (2, 1, true) := by kernel_rfl
theorem I108 : tiB Try.prog 108 = some ([(vU32 0), (vU32 0)], 2, 8) := by kernel_rfl
theorem I50 : tiB Try.prog 50 = some ([(vU16 0)], 1, 2) := by kernel_rfl
end Fa
end Go.Proofs.Ytbjhccnffacbcaa
/-! from FWCap2 -/
/- Closed facts, off the tables of the program. -/
namespace Go.Proofs.Ytbjhccnffacbcaa
open Go.Owl
namespace Fa
end Fa
end Go.Proofs.Ytbjhccnffacbcaa
/-! from FWCap3 -/
/- Closed facts, off the tables of the program. -/
namespace Go.Proofs.Ytbjhccnffacbcaa
open Go.Owl
namespace Fa
theorem C123 : callB Try.prog 123 = true := by kernel_rfl
theorem C142 : callB Try.prog 142 = true := by kernel_rfl
theorem PL108 : plB Try.prog 108 = some [(0, 1), (1, 1)] := by kernel_rfl
end Fa
end Go.Proofs.Ytbjhccnffacbcaa
/-! from FWCap4 -/
/- Closed facts, off the tables of the program. -/
namespace Go.Proofs.Ytbjhccnffacbcaa
open Go.Owl
namespace Fa
theorem C122 : callB Try.prog 122 = true := by kernel_rfl
theorem C64 : callB Try.prog 64 = true := by kernel_rfl
theorem I114 : tiB Try.prog 114 = some ([(.pointer none)], 1, 8) := by kernel_rfl
theorem I59 : tiB Try.prog 59 = some ([(vU32 0), (.slice none 0 0), (.slice none 0 0), (.bool false)], 4, 64) := by kernel_rfl
end Fa
end Go.Proofs.Ytbjhccnffacbcaa
/-! from FWCap5 -/
/- Closed facts, off the tables of the program. -/
namespace Go.Proofs.Ytbjhccnffacbcaa
open Go.Owl
namespace Fa
theorem C25 : callB Try.prog 25 = true := by kernel_rfl
theorem C56 : callB Try.prog 56 = true := by kernel_rfl
theorem C96 : callB Try.prog 96 = true := by kernel_rfl
theorem C97 : callB Try.prog 97 = true := by kernel_rfl
theorem C98 : callB Try.prog 98 = true := by kernel_rfl
theorem I163 : tiB Try.prog 163 = some ([.nilFunc], 1, 8) := by kernel_rfl
end Fa
end Go.Proofs.Ytbjhccnffacbcaa
/-! from FWCap6 -/
/- Closed facts, off the tables of the program. -/
namespace Go.Proofs.Ytbjhccnffacbcaa
open Go.Owl
namespace Fa
theorem C95 : callB Try.prog 95 = true := by kernel_rfl
end Fa
end Go.Proofs.Ytbjhccnffacbcaa
/-! from FWCap7 -/
/- Closed facts, off the tables of the program. -/
namespace Go.Proofs.Ytbjhccnffacbcaa
open Go.Owl
namespace Fa
end Fa
end Go.Proofs.Ytbjhccnffacbcaa
/-! from FWCap8 -/
/- Closed facts, off the tables of the program. -/
namespace Go.Proofs.Ytbjhccnffacbcaa
open Go.Owl
namespace Fa
theorem C55 : callB Try.prog 55 = true := by kernel_rfl
theorem C57 : callB Try.prog 57 = true := by kernel_rfl
theorem C58 : callB Try.prog 58 = true := by kernel_rfl
theorem C59 : callB Try.prog 59 = true := by kernel_rfl
theorem I56 : tiB Try.prog 56 = some ([(.slice none 0 0)], 1, 24) := by kernel_rfl
theorem I57 : tiB Try.prog 57 = some ([(.slice none 0 0)], 1, 24) := by kernel_rfl
end Fa
end Go.Proofs.Ytbjhccnffacbcaa
/-! from FWCap9 -/
/- Closed facts, off the tables of the program. -/
namespace Go.Proofs.Ytbjhccnffacbcaa
open Go.Owl
namespace Fa
theorem C60 : callB Try.prog 60 = true := by kernel_rfl
theorem F120_2 : faB Try.prog 120 2 = some (5, 1, true) := by kernel_rfl
theorem F59_3 : faB Try.prog 59 3 = some (3, 1, true) := by kernel_rfl
end Fa
end Go.Proofs.Ytbjhccnffacbcaa
/-! from FWCap10 -/
/- Closed facts, off the tables of the program. -/
namespace Go.Proofs.Ytbjhccnffacbcaa
open Go.Owl
namespace Fa
end Fa
end Go.Proofs.Ytbjhccnffacbcaa
/-! from FWCap11 -/
/- Closed facts, off the tables of the program. -/
namespace Go.Proofs.Ytbjhccnffacbcaa
open Go.Owl
namespace Fa
end Fa
end Go.Proofs.Ytbjhccnffacbcaa
/-! from FWCap12 -/
/- Closed facts, off the tables of the program. -/
namespace Go.Proofs.Ytbjhccnffacbcaa
open Go.Owl
namespace Fa
end Fa
end Go.Proofs.Ytbjhccnffacbcaa
/-! from FWCap13 -/
/- Closed facts, off the tables of the program. -/
namespace Go.Proofs.Ytbjhccnffacbcaa
open Go.Owl
namespace Fa
end Fa
end Go.Proofs.Ytbjhccnffacbcaa
/-! from FWCap14 -/
/- Closed facts, off the tables of the program. -/
namespace Go.Proofs.Ytbjhccnffacbcaa
open Go.Owl
namespace Fa
end Fa
end Go.Proofs.Ytbjhccnffacbcaa
/-! from FWCap15 -/
/- Closed facts, off the tables of the program. -/
namespace Go.Proofs.Ytbjhccnffacbcaa
open Go.Owl
namespace Fa
end Fa
end Go.Proofs.Ytbjhccnffacbcaa
/-! from FWCap16 -/
/- Closed facts, off the tables of the program. -/
namespace Go.Proofs.Ytbjhccnffacbcaa
open Go.Owl
namespace Fa
theorem C17 : callB Try.prog 17 = true := by kernel_rfl
theorem C19 : callB Try.prog 19 = true := by kernel_rfl
theorem C21 : callB Try.prog 21 = true := by kernel_rfl
theorem C22 : callB Try.prog 22 = true := by kernel_rfl
theorem C23 : callB Try.prog 23 = true := by kernel_rfl
theorem C24 : callB Try.prog 24 = true := by kernel_rfl
theorem C26 : callB Try.prog 26 = true := by kernel_rfl
theorem C27 : callB Try.prog 27 = true := by kernel_rfl
theorem C28 : callB Try.prog 28 = true := by kernel_rfl
theorem C29 : callB Try.prog 29 = true := by kernel_rfl
theorem C31 : callB Try.prog 31 = true := by kernel_rfl
theorem C35 : callB Try.prog 35 = true := by kernel_rfl
theorem C39 : callB Try.prog 39 = true := by kernel_rfl
theorem F61_1 : faB Try.prog 61 1 = some (1, 1, true) := by kernel_rfl
theorem F61_2 : faB Try.prog 61 2 = some (2, 4, false) := by kernel_rfl
theorem F61_3 : faB Try.prog 61 3 = some (6, 1, true) := by kernel_rfl
theorem PL59 : plB Try.prog 59 = some [(0, 1), (1, 1), (2, 1), (3, 1)] := by kernel_rfl
end Fa
end Go.Proofs.Ytbjhccnffacbcaa
/-! from FWSeq -/
/- Closed facts, off the tables of the program. -/
namespace Go.Proofs.Ytbjhccnffacbcaa
open Go.Owl
namespace Fa
theorem C101 : callB Try.prog 101 = true := by kernel_rfl
theorem I64 : tiB Try.prog 64 = some ([(.slice none 0 0)], 1, 24) := by kernel_rfl
end Fa
end Go.Proofs.Ytbjhccnffacbcaa
/-! from FWSeq2 -/
/- Closed facts, off the tables of the program. -/
namespace Go.Proofs.Ytbjhccnffacbcaa
open Go.Owl
namespace Fa
theorem C124 : callB Try.prog 124 = true := by kernel_rfl
end Fa
end Go.Proofs.Ytbjhccnffacbcaa
/-! from FNSort -/
/- Closed facts, off the tables of the program. -/
namespace Go.Proofs.Ytbjhccnffacbcaa
open Go.Owl
namespace Fa
theorem C149 : callB Try.prog 149 = true := by kernel_rfl
theorem C168 : callB Try.prog 168 = true := by kernel_rfl
end Fa
end Go.Proofs.Ytbjhccnffacbcaa
/-! from FNSort2 -/
/- Closed facts, off the tables of the program. -/
namespace Go.Proofs.Ytbjhccnffacbcaa
open Go.Owl
namespace Fa
theorem C163 : callB Try.prog 163 = true := by kernel_rfl
theorem C166 : callB Try.prog 166 = true := by kernel_rfl
theorem C167 : callB Try.prog 167 = true := by kernel_rfl
theorem C173 : callB Try.prog 173 = true := by kernel_rfl
end Fa
end Go.Proofs.Ytbjhccnffacbcaa
/-! from FNSort3 -/
/- Closed facts, off the tables of the program. -/
namespace Go.Proofs.Ytbjhccnffacbcaa
open Go.Owl
namespace Fa
theorem C126 : callB Try.prog 126 = true := by kernel_rfl
theorem C153 : callB Try.prog 153 = true := by kernel_rfl
theorem C164 : callB Try.prog 164 = true := by kernel_rfl
theorem C165 : callB Try.prog 165 = true := by kernel_rfl
theorem I237 : tiB Try.prog 237 = some ([(vU64 0)], 1, 8) := by kernel_rfl
end Fa
end Go.Proofs.Ytbjhccnffacbcaa
/-! from FNSort4 -/
/- Closed facts, off the tables of the program. -/
namespace Go.Proofs.Ytbjhccnffacbcaa
open Go.Owl
namespace Fa
theorem C125 : callB Try.prog 125 = true := by kernel_rfl
theorem C143 : callB Try.prog 143 = true := by kernel_rfl
theorem C144 : callB Try.prog 144 = true := by kernel_rfl
theorem C145 : callB Try.prog 145 = true := by kernel_rfl
theorem C146 : callB Try.prog 146 = true := by kernel_rfl
theorem C147 : callB Try.prog 147 = true := by kernel_rfl
theorem C148 : callB Try.prog 148 = true := by kernel_rfl
theorem C150 : callB Try.prog 150 = true := by kernel_rfl
theorem C151 : callB Try.prog 151 = true := by kernel_rfl
end Fa
end Go.Proofs.Ytbjhccnffacbcaa
/-! from FWSeq3 -/
/- Closed facts, off the tables of the program. -/
namespace Go.Proofs.Ytbjhccnffacbcaa
open Go.Owl
namespace Fa
theorem C100 : callB Try.prog 100 = true := by kernel_rfl
theorem C99 : callB Try.prog 99 = true := by kernel_rfl
end Fa
end Go.Proofs.Ytbjhccnffacbcaa
/-! from FWCap17 -/
/- Closed facts, off the tables of the program. -/
namespace Go.Proofs.Ytbjhccnffacbcaa
open Go.Owl
namespace Fa
theorem C61 : callB Try.prog 61 = true := by kernel_rfl
theorem C62 : callB Try.prog 62 = true := by kernel_rfl
theorem I61 : tiB Try.prog 61 = some ([(vN 0), (vN 0), (vU32 0), (.slice none 0 0), (.slice none 0 0), (.bool false), (vU32 0)], 7, 88) := by kernel_rfl
end Fa
end Go.Proofs.Ytbjhccnffacbcaa
/-! from FWCap18 -/
/- Closed facts, off the tables of the program. -/
namespace Go.Proofs.Ytbjhccnffacbcaa
open Go.Owl
namespace Fa
theorem C16 : callB Try.prog 16 = true := by kernel_rfl
theorem C20 : callB Try.prog 20 = true := by kernel_rfl
theorem F61_0 : faB Try.prog 61 0 = some (0, 1, true) := by kernel_rfl
end Fa
end Go.Proofs.Ytbjhccnffacbcaa
/-! from FWCap19 -/
/- Closed facts, off the tables of the program. -/
namespace Go.Proofs.Ytbjhccnffacbcaa
open Go.Owl
namespace Fa
theorem C104 : callB Try.prog 104 = true := by kernel_rfl
theorem C106 : callB Try.prog 106 = true := by kernel_rfl
theorem C107 : callB Try.prog 107 = true := by kernel_rfl
theorem F81_0 : faB Try.prog 81 0 = some (0, 2, false) := by kernel_rfl
theorem F81_1 : faB Try.prog 81 1 = some (2, 1, true) := by kernel_rfl
theorem F86_0 : faB Try.prog 86 0 = some (0, 1, true) := by kernel_rfl
theorem F86_1 : faB Try.prog 86 1 = some (1, 4, false) := by kernel_rfl
theorem F86_2 : faB Try.prog 86 2 = some (5, 1, true) := by kernel_rfl
theorem F86_3 : faB Try.prog 86 3 = some (6, 1, true) := by kernel_rfl
theorem I86 : tiB Try.prog 86 = some ([(vN 0), (vU32 0), (.slice none 0 0), (.slice none 0 0), (.bool false), (vU32 0), (vU32 0)], 7, 80) := by kernel_rfl
end Fa
end Go.Proofs.Ytbjhccnffacbcaa
/-! from FWCap20 -/
/- Closed facts, off the tables of the program. -/
namespace Go.Proofs.Ytbjhccnffacbcaa
open Go.Owl
namespace Fa
theorem C69 : callB Try.prog 69 = true := by kernel_rfl
end Fa
end Go.Proofs.Ytbjhccnffacbcaa
/-! from FWCap21 -/
/- Closed facts, off the tables of the program. -/
namespace Go.Proofs.Ytbjhccnffacbcaa
open Go.Owl
namespace Fa
theorem FL108 : flatB Try.prog 108 = some [.int .u32, .int .u32] := by kernel_rfl
end Fa
end Go.Proofs.Ytbjhccnffacbcaa
/-! from FWCap22 -/
/- Closed facts, off the tables of the program. -/
namespace Go.Proofs.Ytbjhccnffacbcaa
open Go.Owl
namespace Fa
theorem C103 : callB Try.prog 103 = true := by kernel_rfl
theorem C105 : callB Try.prog 105 = true := by kernel_rfl
theorem C37 : callB Try.prog 37 = true := by kernel_rfl
theorem I79 : tiB Try.prog 79 = some ([(.slice none 0 0)], 1, 24) := by kernel_rfl
theorem PL86 : plB Try.prog 86 = some [(0, 1), (1, 4), (5, 1), (6, 1)] := by kernel_rfl
end Fa
end Go.Proofs.Ytbjhccnffacbcaa
/-! from FWCap23 -/
/- Closed facts, off the tables of the program. -/
namespace Go.Proofs.Ytbjhccnffacbcaa
open Go.Owl
namespace Fa
theorem C74 : callB Try.prog 74 = true := by kernel_rfl
end Fa
end Go.Proofs.Ytbjhccnffacbcaa
/-! from FWCap24 -/
/- Closed facts, off the tables of the program. -/
namespace Go.Proofs.Ytbjhccnffacbcaa
open Go.Owl
namespace Fa
end Fa
end Go.Proofs.Ytbjhccnffacbcaa
/-! from FWCap25 -/
/- Closed facts, off the tables of the program. -/
namespace Go.Proofs.Ytbjhccnffacbcaa
open Go.Owl
namespace Fa
theorem C65 : callB Try.prog 65 = true := by kernel_rfl
theorem C66 : callB Try.prog 66 = true := by kernel_rfl
theorem C67 : callB Try.prog 67 = true := by kernel_rfl
theorem C68 : callB Try.prog 68 = true := by kernel_rfl
theorem C70 : callB Try.prog 70 = true := by kernel_rfl
theorem C71 : callB Try.prog 71 = true := by kernel_rfl
theorem C72 : callB Try.prog 72 = true := by kernel_rfl
theorem C73 : callB Try.prog 73 = true := by kernel_rfl
end Fa
end Go.Proofs.Ytbjhccnffacbcaa
/-! from FWCap26 -/
/- Closed facts, off the tables of the program. -/
namespace Go.Proofs.Ytbjhccnffacbcaa
open Go.Owl
namespace Fa
theorem C33 : callB Try.prog 33 = true := by kernel_rfl
theorem C36 : callB Try.prog 36 = true := by kernel_rfl
theorem C38 : callB Try.prog 38 = true := by kernel_rfl
theorem I81 : tiB Try.prog 81 = some ([(vU32 0), (.slice none 0 0), (.slice none 0 0)], 3, 56) := by kernel_rfl
theorem PL81 : plB Try.prog 81 = some [(0, 2), (2, 1)] := by kernel_rfl
end Fa
end Go.Proofs.Ytbjhccnffacbcaa
/-! from WInsn -/
namespace Go.Proofs.Ytbjhccnffacbcaa
open Go.Owl Go.Spec
end Go.Proofs.Ytbjhccnffacbcaa
/-! from WRef4 -/
namespace Go.Proofs.Ytbjhccnffacbcaa
open Go.Owl Go.Spec
end Go.Proofs.Ytbjhccnffacbcaa
/-! from WSha -/
namespace Go.Proofs.Ytbjhccnffacbcaa
open Go.Owl Go.Spec
end Go.Proofs.Ytbjhccnffacbcaa
/-! from WSha2 -/
namespace Go.Proofs.Ytbjhccnffacbcaa
open Go.Owl Go.Spec
end Go.Proofs.Ytbjhccnffacbcaa
/-! from WRef2 -/
namespace Go.Proofs.Ytbjhccnffacbcaa
open Go.Owl Go.Spec
end Go.Proofs.Ytbjhccnffacbcaa
/-! from WMac -/
namespace Go.Proofs.Ytbjhccnffacbcaa
open Go.Owl Go.Spec
end Go.Proofs.Ytbjhccnffacbcaa
/-! from WBuild -/
namespace Go.Proofs.Ytbjhccnffacbcaa
open Go.Owl Go.Spec
end Go.Proofs.Ytbjhccnffacbcaa
/-! from WSlot -/
namespace Go.Proofs.Ytbjhccnffacbcaa
open Go.Owl Go.Spec
end Go.Proofs.Ytbjhccnffacbcaa
/-! from WRep -/
/- strings.Repeat of this program: the library's contract at its numbers. -/
namespace Go.Proofs
open Go.Shelf
end Go.Proofs
/-! from WSlot2 -/
namespace Go.Proofs.Ytbjhccnffacbcaa
open Go.Owl Go.Spec
end Go.Proofs.Ytbjhccnffacbcaa
/-! from WSlot3 -/
namespace Go.Proofs.Ytbjhccnffacbcaa
open Go.Owl Go.Spec
end Go.Proofs.Ytbjhccnffacbcaa
/-! from WSlot4 -/
namespace Go.Proofs.Ytbjhccnffacbcaa
open Go.Owl Go.Spec
end Go.Proofs.Ytbjhccnffacbcaa
/-! from WSlot5 -/
namespace Go.Proofs.Ytbjhccnffacbcaa
open Go.Owl Go.Spec
end Go.Proofs.Ytbjhccnffacbcaa
/-! from WSlot6 -/
namespace Go.Proofs.Ytbjhccnffacbcaa
open Go.Owl Go.Spec
set_option maxRecDepth 100000 in
theorem clone32_ok (lv : Value) (l : List UInt32) (w : World) (hA : Arr w lv 1 l.length (List.map vU32 l)) (hn : l.length < 2 ^ 40) :
  Calls Try.prog 54 #[lv] w (fun e w' => ∃ v, e = .returned v ∧ Owl.Own [] w w' [.row v 29 1 l.length (List.map vU32 l)]) := by
 refine enter (args := [lv]) Try.func54 rfl rfl ?_
 have H0 : Owl.Own [] w w [] := Own.start w []
 refine ws ?_
 refine wo (op_assign rfl ?_)
 refine wn ?_
 refine WC.seq ?_
 refine ws ?_
 refine wo (op_move rfl ?_)
 refine wo (op_eqlSN Try.underlying46 rfl (H0.arr hA) rfl ?_)
 refine wn ?_
 refine WC.cond rfl (fun (hb1 : (isNilS lv) = true) => ?_) (fun (hb1 : (isNilS lv) = false) => ?_)
 ·
  refine ws ?_
  refine wo (op_assign rfl ?_)
  refine wn ?_
  refine WC.ret ?_
  refine WQ.thenRet ?_
  refine WQ.out (.tmp rfl .nil) ?_
  obtain rfl : l = [] := List.eq_nil_of_length_eq_zero (hA.isNil0 hb1).1
  exact ⟨_, rfl, (H0.sel [] rfl rfl).nilRow 29 1⟩
 ·
  refine WC.skip ?_
  refine WQ.next ?_
  refine ws ?_
  refine wo (op_buildSlice (cs := []) H0 Try.underlying46 Fa.I29 rfl rfl rfl rfl (by decide) (by decide) (fun b2 w2 H2 => ?_))
  refine wo (op_move rfl ?_)
  refine wo (op_append (i := 0) H2 Try.underlying46 Fa.I29 rfl rfl rfl rfl (Src.ofArr Try.underlying46 (H2.arr hA)) (by simp [Value.oneCell']) (by omega) (by omega) (fun v3 w3 H3 => ?_))
  refine wo (op_assign rfl ?_)
  refine wn ?_
  refine WC.ret ?_
  refine WQ.out (.tmp rfl .nil) ?_
  have h := H3.sel [0] rfl rfl
  rw [Nat.zero_add, List.nil_append] at h
  exact ⟨_, rfl, h⟩
set_option maxRecDepth 100000 in
theorem hardE_ok (pg : UInt32) (lv : Value) (he : List UInt32) (w : World) (hA : Arr w lv 1 he.length (List.map vU32 he)) (hn : he.length < 2 ^ 40) :
  Calls Try.prog 34 #[(.agg #[(vU32 pg), lv])] w (fun e w' => e = .returned (vN (hardE pg he)) ∧ Fr [] w w') := by
 refine enter (args := [(.agg #[(vU32 pg), lv])]) Try.func34 rfl rfl ?_
 have H0 : Owl.Own [] w w [] := Own.start w []
 refine ws ?_
 refine wo (op_box H0 rfl rfl (fun b1 w1 H1 => ?_))
 refine wo (op_assign rfl ?_)
 refine wn ?_
 refine WC.seq ?_
 refine ws ?_
 refine wo (op_fieldAddr rfl Fa.F48_0 ?_)
 refine wo (op_load rfl (H1.cell (i := 0) rfl rfl) Try.underlying29 rfl ?_)
 refine wo (op_gtrU32 (b := 4096) rfl rfl ?_)
 refine wo (op_move rfl ?_)
 refine WL.split (t := 8) rfl (fun (hb2 : (decide (pg > (4096 : UInt32))) = true) => ?_) (fun (hb2 : (decide (pg > (4096 : UInt32))) = false) => ?_)
 ·
  have hc2 := of_decide_eq_true hb2
  refine WL.no rfl rfl rfl hb2 rfl ?_
  refine WL.no rfl rfl rfl hb2 rfl ?_
  refine WL.no rfl rfl rfl hb2 rfl ?_
  refine WL.no rfl rfl rfl hb2 rfl ?_
  refine wo (op_pickT rfl hb2 rfl ?_)
  refine wn ?_
  refine WC.yes rfl rfl ?_
  refine ws ?_
  refine wo (op_assign rfl ?_)
  refine wn ?_
  refine WC.ret ?_
  refine WQ.thenRet ?_
  refine WQ.out (.tmp rfl .nil) ?_
  exact ⟨by rw [hardE, if_pos (.inl (of_decide_eq_true hb2))]; rfl, H1.fr⟩
 ·
  have hc2 := of_decide_eq_false hb2
  refine WL.yes rfl rfl rfl hb2 rfl (op_fieldAddr rfl Fa.F48_1 ?_)
  refine WL.yes rfl rfl rfl hb2 rfl (op_load rfl (H1.cell (i := 0) rfl rfl) Try.underlying46 rfl ?_)
  refine WL.yes rfl rfl rfl hb2 rfl (op_lenA Try.underlying46 rfl (H1.arr hA) ?_)
  refine WL.yes rfl rfl rfl hb2 rfl (op_gtrN (b := 16) rfl rfl ?_)
  refine wo (op_pickF rfl hb2 rfl ?_)
  refine wn ?_
  refine WC.cond rfl (fun (hb3 : (decide (he.length > 16)) = true) => ?_) (fun (hb3 : (decide (he.length > 16)) = false) => ?_)
  ·
   have hc3 := of_decide_eq_true hb3
   refine ws ?_
   refine wo (op_assign rfl ?_)
   refine wn ?_
   refine WC.ret ?_
   refine WQ.thenRet ?_
   refine WQ.out (.tmp rfl .nil) ?_
   exact ⟨by rw [hardE, if_pos (.inr (.inl (of_decide_eq_true hb3)))]; rfl, H1.fr⟩
  ·
   have hc3 := of_decide_eq_false hb3
   refine WC.skip ?_
   refine WQ.next ?_
   refine WC.seq ?_
   refine ws ?_
   refine wo (op_fieldAddr rfl Fa.F48_1 ?_)
   refine wo (op_load rfl (H1.cell (i := 0) rfl rfl) Try.underlying46 rfl ?_)
   refine wo (op_lenA Try.underlying46 rfl (H1.arr hA) ?_)
   refine wo (op_move rfl ?_)
   refine wn ?_
   refine WC.block ?_
   refine WC.loop (α := Nat) (fun i => [(0, (.agg #[(vU32 pg), lv])), (1, (ptr b1 0)), (15, lv), (16, (vN he.length)), (17, (vN i))]) (fun i w' => (i ≤ he.length ∧ (∀ j, j < i → ¬ he.getD j 0 > 1024)) ∧ Owl.Own [] w w' [.blk b1 [(vU32 pg), lv] 48]) (fun i => he.length - i) 0 ⟨⟨Nat.zero_le _, fun j h => by omega⟩, H1⟩ ⟨rfl, rfl, rfl, rfl, rfl, trivial⟩ ?_
   rintro i w4 ⟨⟨hi1, hok⟩, H4⟩
   show WC _ _ _ _ _ [(0, (.agg #[(vU32 pg), lv])), (1, (ptr b1 0)), (15, lv), (16, (vN he.length)), (17, (vN i))] _
   refine ws ?_
   refine wo (op_lssN rfl rfl ?_)
   refine wn ?_
   refine WC.seq ?_
   refine WC.cond rfl (fun (hb5 : (decide (i < he.length)) = true) => ?_) (fun (hb5 : (decide (i < he.length)) = false) => ?_)
   ·
    have hc5 := of_decide_eq_true hb5
    refine WC.skip ?_
    refine WQ.next ?_
    refine WC.seq ?_
    refine WC.block ?_
    refine ws ?_
    refine wo (op_indexAddr1 Try.underlying46 Fa.I29 rfl (H4.arr hA) rfl (by omega) ?_)
    refine wo (op_load rfl ((H4.arr hA).at (get_map vU32 0 (Arr.ltM (H4.arr hA) (by omega)))) Try.underlying29 rfl ?_)
    refine wo (op_assign rfl ?_)
    refine wn ?_
    refine ws ?_
    refine wo (op_move rfl ?_)
    refine wo (op_gtrU32 (b := 1024) rfl rfl ?_)
    refine wn ?_
    refine WC.cond rfl (fun (hb6 : (decide ((he.getD i 0) > (1024 : UInt32))) = true) => ?_) (fun (hb6 : (decide ((he.getD i 0) > (1024 : UInt32))) = false) => ?_)
    ·
     have hc6 := of_decide_eq_true hb6
     refine ws ?_
     refine wo (op_assign rfl ?_)
     refine wn ?_
     refine WC.ret ?_
     refine WQ.inRet ?_
     refine WQ.thenRet ?_
     refine WQ.thenRet ?_
     refine WQ.inRet ?_
     refine WQ.thenRet ?_
     refine WQ.out (.tmp rfl .nil) ?_
     exact ⟨by rw [hardE, if_pos (.inr (.inr (any_yes (d := 0) (k := i) (by omega) hb6)))]; rfl, H4.fr⟩
    ·
     have hc6 := of_decide_eq_false hb6
     refine WC.skip ?_
     refine WQ.inNormal ?_
     refine WQ.next ?_
     refine WC.region ?_
     refine wo (op_addN (b := 1) rfl rfl (by omega) ?_)
     refine wo (op_move rfl ?_)
     refine WL.nil ?_
     exact WQ.round (i + 1) ⟨⟨by omega, fun j h => by rcases Nat.lt_or_ge j i with h9 | h9; exact hok j h9; rw [show j = i by omega]; exact of_decide_eq_false hb6⟩, H4⟩ ⟨rfl, rfl, rfl, rfl, rfl, trivial⟩ (by omega)
   ·
    have hc5 := of_decide_eq_false hb5
    refine WC.exit ?_
    refine WQ.thenExit ?_
    refine WQ.thenExit ?_
    refine WQ.inHere ?_
    refine WQ.next ?_
    refine ws ?_
    refine wo (op_assign rfl ?_)
    refine wn ?_
    refine WC.ret ?_
    refine WQ.out (.tmp rfl .nil) ?_
    exact ⟨by rw [hardE, if_neg (fun h => h.elim (of_decide_eq_false hb2) (fun h => h.elim (of_decide_eq_false hb3) (fun h => by rw [any_no (p := fun x : UInt32 => decide (x > 1024)) (d := 0) (fun j h1 => decide_eq_false (hok j (by omega)))] at h; cases h)))]; rfl, H4.fr⟩
set_option maxRecDepth 100000 in
theorem capsNew_ok (pg : UInt32) (lv : Value) (he : List UInt32) (w : World) (hA : Arr w lv 1 he.length (List.map vU32 he)) (hn : he.length < 2 ^ 40) (hok0 : hardE pg he = 0) :
  Calls Try.prog 18 #[(.agg #[(vU32 pg), lv])] w (fun e w' => ∃ c v mb, e = .returned (.tuple #[ptr c 0, vN 0]) ∧ Owl.Own [] w w' [.blk c [vU32 pg, v, .map (some mb)] 112, .row v 29 1 he.length (List.map vU32 he), .obj mb (mP .i64 [] 0)]) := by
 refine enter (args := [(.agg #[(vU32 pg), lv])]) Try.func18 rfl rfl ?_
 have H0 : Owl.Own [] w w [] := Own.start w []
 refine ws ?_
 refine wo (op_box H0 rfl rfl (fun b1 w1 H1 => ?_))
 refine wo (op_assign rfl ?_)
 refine wo (op_assign rfl ?_)
 refine wn ?_
 refine WC.seq ?_
 refine ws ?_
 refine wo (op_loadS (vs := [_, _]) rfl (H1.cells (i := 0) rfl rfl) Try.underlying48 rfl Fa.I48 rfl ?_)
 refine wo (op_callF Fa.C34 rfl ((hardE_ok pg _ he _ (H1.arr hA) hn).mono (fun e w2 hq => ?_)))
 obtain ⟨rfl, hf2⟩ := hq
 refine ⟨_, rfl, ?_⟩
 have H2 := H1.fr' hf2
 refine wo (op_assign rfl ?_)
 refine wn ?_
 refine ws ?_
 refine wo (op_move rfl ?_)
 refine wo (op_neqN (b := 0) rfl rfl ?_)
 refine wn ?_
 refine WC.no rfl (decide_eq_false (fun h => h hok0)) ?_
 refine WC.skip ?_
 refine WQ.next ?_
 refine ws ?_
 refine wo (op_fieldAddr rfl Fa.F48_1 ?_)
 refine wo (op_load rfl (H2.cell (i := 0) rfl rfl) Try.underlying46 rfl ?_)
 refine wo (op_callF Fa.C54 rfl ((clone32_ok _ he _ (H2.arr hA) hn).mono (fun e w3 hq => ?_)))
 obtain ⟨v3, rfl, hq3⟩ := hq
 refine ⟨_, rfl, ?_⟩
 have H3 : Owl.Own [] w w3 [.blk b1 [(vU32 pg), lv] 48, .row v3 29 1 he.length (List.map vU32 he)] := H2.splice [] [] [.row v3 29 1 he.length (List.map vU32 he)] rfl rfl hq3 (Fits.solid True.intro Fits.nil)
 refine wo (op_fieldAddr rfl Fa.F48_1 ?_)
 refine wo (op_storeB (i := 0) H3 rfl rfl rfl rfl (Arr.one (H3.arrR (i := 1) rfl)) Fa.I46 (fun w4 H4 => ?_))
 refine wn ?_
 refine ws ?_
 refine wo (op_loadS (vs := [_, _]) rfl (H4.cells (i := 0) rfl rfl) Try.underlying48 rfl Fa.I48 rfl ?_)
 refine wo (op_makeMapP (kk := .i64) H4 (fun b5 w5 H5 => ?_))
 refine wo (op_build (cs := [_, _, _]) Fa.I112 Fa.PL112 rfl rfl ?_)
 refine wo (op_box H5 rfl rfl (fun b6 w6 H6 => ?_))
 refine wo (op_assign rfl ?_)
 refine wo (op_assign rfl ?_)
 refine wn ?_
 refine WC.ret ?_
 refine WQ.out (.tmp rfl (.tmp rfl .nil)) ?_
 exact ⟨_, _, _, rfl, H6.sel [3, 1, 2] rfl rfl⟩
set_option maxRecDepth 100000 in
theorem capsNewB_ok (pg : UInt32) (lv : Value) (he : List UInt32) (w : World) (hA : Arr w lv 1 he.length (List.map vU32 he)) (hn : he.length < 2 ^ 40) (hbad : hardE pg he ≠ 0) :
  Calls Try.prog 18 #[(.agg #[(vU32 pg), lv])] w (fun e w' => e = .returned (.tuple #[.pointer none, vN 2]) ∧ Fr [] w w') := by
 refine enter (args := [(.agg #[(vU32 pg), lv])]) Try.func18 rfl rfl ?_
 have H0 : Owl.Own [] w w [] := Own.start w []
 refine ws ?_
 refine wo (op_box H0 rfl rfl (fun b1 w1 H1 => ?_))
 refine wo (op_assign rfl ?_)
 refine wo (op_assign rfl ?_)
 refine wn ?_
 refine WC.seq ?_
 refine ws ?_
 refine wo (op_loadS (vs := [_, _]) rfl (H1.cells (i := 0) rfl rfl) Try.underlying48 rfl Fa.I48 rfl ?_)
 refine wo (op_callF Fa.C34 rfl ((hardE_ok pg _ he _ (H1.arr hA) hn).mono (fun e w2 hq => ?_)))
 obtain ⟨rfl, hf2⟩ := hq
 refine ⟨_, rfl, ?_⟩
 have H2 := H1.fr' hf2
 refine wo (op_assign rfl ?_)
 refine wn ?_
 refine ws ?_
 refine wo (op_move rfl ?_)
 refine wo (op_neqN (b := 0) rfl rfl ?_)
 refine wn ?_
 refine WC.yes rfl (decide_eq_true hbad) ?_
 refine ws ?_
 refine wo (op_move rfl ?_)
 refine wo (op_assign rfl ?_)
 refine wo (op_assign rfl ?_)
 refine wn ?_
 refine WC.ret ?_
 refine WQ.thenRet ?_
 refine WQ.out (.tmp rfl (.tmp rfl .nil)) ?_
 exact ⟨by rw [hardE_2 hbad]; rfl, H2.fr⟩
end Go.Proofs.Ytbjhccnffacbcaa
/-! from WSlot7 -/
namespace Go.Proofs.Ytbjhccnffacbcaa
open Go.Owl Go.Spec
end Go.Proofs.Ytbjhccnffacbcaa
/-! from WSlot8 -/
namespace Go.Proofs.Ytbjhccnffacbcaa
open Go.Owl Go.Spec
end Go.Proofs.Ytbjhccnffacbcaa
/-! from WSlot9 -/
namespace Go.Proofs.Ytbjhccnffacbcaa
open Go.Owl Go.Spec
end Go.Proofs.Ytbjhccnffacbcaa
/-! from WCap -/
namespace Go.Proofs.Ytbjhccnffacbcaa
open Go.Owl Go.Spec
set_option maxRecDepth 100000 in
theorem free_ok (c : Nat) (pg : UInt32) (hv : Value) (he : List UInt32) (mb cn : Nat) (gs : List Gr) (w : World) (hC : cellsAt w c [(vU32 pg), hv, (.map (some mb))]) (hH : Arr w hv 1 he.length (List.map vU32 he)) (hM : w.heap[mb]? = some (mP .i64 (List.map Gr.me gs) cn)) (hG : BsOK 120 Gr.cells Gr.b gs w) (hS : grD.list.ok w gs) (hME : MEok (List.map Gr.me gs) cn)  :
  Calls Try.prog 25 #[(ptr c 0)] w (fun e w' => e = .returned (vU32 (freeS pg gs)) ∧ Fr [] w w') := by
 refine enter (args := [(ptr c 0)]) Try.func25 rfl rfl ?_
 have H0 : Owl.Own [] w w [Ent.bo c [(vU32 pg), hv, (.map (some mb))], Ent.ar hv 1 he.length (List.map vU32 he), Ent.mo .i64 mb (List.map Gr.me gs) cn, Ent.bsO 120 Gr.cells Gr.b gs, Ent.dp grD.list gs] := ((((((Own.start w []).oldB hC).oldA hH).mpOld hM).bsOld hG).dpOld hS)
 refine ws ?_
 refine wo (op_assign rfl ?_)
 refine wn ?_
 refine WC.seq ?_
 refine ws ?_
 refine wo (op_move rfl ?_)
 refine wo (op_eqlPN Fa.PT52 rfl rfl ?_)
 refine wn ?_
 refine WC.no rfl rfl ?_
 refine WC.skip ?_
 refine WQ.next ?_
 refine ws ?_
 refine wo (op_move rfl ?_)
 refine wo (op_nilCheck rfl ?_)
 refine wo (op_fieldAddr rfl Fa.F112_0 ?_)
 refine wo (op_fieldAddr rfl Fa.F48_0 ?_)
 refine wo (op_load rfl (H0.cellO (i := 0) rfl rfl) Try.underlying29 rfl ?_)
 refine wo (op_assign rfl ?_)
 refine wn ?_
 refine WC.seq ?_
 refine ws ?_
 refine wo (op_move rfl ?_)
 refine wo (op_nilCheck rfl ?_)
 refine wo (op_fieldAddr rfl Fa.F112_1 ?_)
 refine wo (op_load rfl (H0.cellO (i := 0) rfl rfl) Try.underlying110 rfl ?_)
 refine wo (op_rangeP H0 (H0.mpO (i := 2) rfl) Try.underlying110 rfl (fun b1 w1 H1 => ?_))
 refine wn ?_
 refine WC.block ?_
 refine WC.loop (α := List Gr × List Gr) (fun (sn, rst) => [(0, (ptr c 0)), (3, (vU32 (freeS pg sn))), (17, (ptr b1 0))]) (fun (sn, rst) w' => (gs.Perm (sn ++ rst)) ∧ Owl.Own [] w w' [Ent.bo c [(vU32 pg), hv, (.map (some mb))], Ent.ar hv 1 he.length (List.map vU32 he), Ent.mo .i64 mb (List.map Gr.me gs) cn, Ent.bsO 120 Gr.cells Gr.b gs, Ent.dp grD.list gs, .obj b1 (itO mb cn (List.map Gr.me sn))]) (fun (sn, rst) => rst.length) ([], gs) ⟨(List.Perm.refl _), H1⟩ ⟨rfl, (by rw [freeS_nil]; rfl), rfl, trivial⟩ ?_
 rintro ⟨sn, rst⟩ w2 ⟨hpm, H2⟩
 show WC _ _ _ _ _ [(0, (ptr c 0)), (3, (vU32 (freeS pg sn))), (17, (ptr b1 0))] _
 refine ws ?_
 refine wo (op_nextG (i := 5) (sn := sn) (rest := rst) H2 rfl (H2.mpO (i := 2) rfl) hME hpm rfl (fun h0 => ?_) (fun g3 rs3 hl3 hp3 w3 H3 => ?_))
 ·
  refine wo (op_extract rfl rfl ?_)
  refine wn ?_
  refine WC.seq ?_
  refine WC.no rfl rfl ?_
  refine WC.exit ?_
  refine WQ.thenExit ?_
  refine WQ.thenExit ?_
  refine WQ.inHere ?_
  refine WQ.next ?_
  refine ws ?_
  refine wo (op_move rfl ?_)
  refine wo (op_assign rfl ?_)
  refine wn ?_
  refine WC.ret ?_
  refine WQ.out (.tmp rfl .nil) ?_
  exact ⟨by rw [h0, List.append_nil] at hpm; rw [freeS_perm hpm]; rfl, H2.fr⟩
 ·
  have H4 : Owl.Own [] w w3 [Ent.bo c [(vU32 pg), hv, (.map (some mb))], Ent.ar hv 1 he.length (List.map vU32 he), Ent.mo .i64 mb (List.map Gr.me gs) cn, Ent.bsO 120 Gr.cells Gr.b gs, Ent.dp grD.list gs, .obj b1 (itO mb cn (List.map Gr.me (sn ++ [g3]))), Ent.bo g3.b [(vU32 g3.pg), g3.ev, g3.pv, (.bool g3.con), (vU32 g3.pp), (vU32 g3.tk)], Ent.ar g3.ev 2 g3.xs.length (List.flatMap xtc g3.xs), Ent.ar g3.pv 1 g3.ps.length (List.map vU16 g3.ps)] := (((H3.bsView (i := 3) (a := g3) rfl (hp3.mem_iff.2 (by simp))).dpView (i := 4) (a := g3) rfl (hp3.mem_iff.2 (by simp)) (fun w h => h.1) (fun b hb => List.mem_append.2 (.inl hb))).dpView (i := 4) (a := g3) rfl (hp3.mem_iff.2 (by simp)) (fun w h => h.2) (fun b hb => List.mem_append.2 (.inr hb)))
  refine wo (op_extract rfl rfl ?_)
  refine wn ?_
  refine WC.seq ?_
  refine WC.yes rfl rfl ?_
  refine WC.skip ?_
  refine WQ.next ?_
  refine WC.block ?_
  refine ws ?_
  refine wo (op_entryG (i := 5) (sn := sn) (g := g3) H4 rfl (H4.mpO (i := 2) rfl) hME hp3 rfl ?_)
  refine wo (op_extract rfl rfl ?_)
  refine wo (op_assign rfl ?_)
  refine wn ?_
  refine WC.draw 13 Fa.M H4 (HW.op rfl (fun w1 H1 => op_move rfl ⟨rfl, Fr.refl _ _⟩) (HW.op rfl (fun w1 H1 => op_move rfl ⟨rfl, Fr.refl _ _⟩) (HW.op rfl (fun w1 H1 => op_nilCheck rfl ⟨rfl, Fr.refl _ _⟩) (HW.op rfl (fun w1 H1 => op_fieldAddr rfl Fa.F120_0 ⟨rfl, Fr.refl _ _⟩) (HW.op rfl (fun w1 H1 => op_fieldAddr rfl Fa.F59_0 ⟨rfl, Fr.refl _ _⟩) (HW.op rfl (fun w1 H1 => op_load rfl (H1.cellO (i := 6) rfl rfl) Try.underlying29 rfl ⟨rfl, Fr.refl _ _⟩) (HW.op rfl (fun w1 H1 => op_move rfl ⟨rfl, Fr.refl _ _⟩) (HW.op rfl (fun w1 H1 => op_nilCheck rfl ⟨rfl, Fr.refl _ _⟩) (HW.op rfl (fun w1 H1 => op_fieldAddr rfl Fa.F120_1 ⟨rfl, Fr.refl _ _⟩) (HW.op rfl (fun w1 H1 => op_load rfl (H1.cellO (i := 6) rfl rfl) Try.underlying29 rfl ⟨rfl, Fr.refl _ _⟩) (HW.op rfl (fun w1 H1 => op_addU32 rfl rfl ⟨rfl, Fr.refl _ _⟩) (HW.op rfl (fun w1 H1 => op_subU32 rfl rfl ⟨rfl, Fr.refl _ _⟩) (HW.op rfl (fun w1 H1 => op_assign rfl ⟨rfl, Fr.refl _ _⟩)  HW.nil))))))))))))) (by kernel_rfl) ?_
  intro β5 w5 H5
  refine WL.nil ?_
  refine WQ.inNormal ?_
  exact WQ.round ((sn ++ [g3]), rs3) ⟨hp3, (H5.take 6)⟩ ⟨rfl, (by rw [freeS_snoc]; rfl), rfl, trivial⟩ (by show rs3.length < rst.length; omega)
set_option maxRecDepth 100000 in
theorem of_no (c : Nat) (pg : UInt32) (hv : Value) (he : List UInt32) (mb cn : Nat) (gs : List Gr) (env : Int) (w : World) (hC : cellsAt w c [(vU32 pg), hv, (.map (some mb))]) (hH : Arr w hv 1 he.length (List.map vU32 he)) (hM : w.heap[mb]? = some (mP .i64 (List.map Gr.me gs) cn)) (hG : BsOK 120 Gr.cells Gr.b gs w) (hS : grD.list.ok w gs) (hME : MEok (List.map Gr.me gs) cn) (no : ∀ g ∈ gs, (g.e : Int) ≠ env) :
  Calls Try.prog 60 #[(ptr c 0), (vI env)] w (fun e w' => ∃ b, e = .returned (.tuple #[ptr b 0, .bool false]) ∧ Owl.Own [] w w' [.blk b [vU32 0, .slice none 0 0, .slice none 0 0, .bool false, vU32 0, vU32 0] 120]) := by
 refine enter (args := [(ptr c 0), (vI env)]) Try.func60 rfl rfl ?_
 have H0 : Owl.Own [] w w [Ent.bo c [(vU32 pg), hv, (.map (some mb))], Ent.ar hv 1 he.length (List.map vU32 he), Ent.mo .i64 mb (List.map Gr.me gs) cn, Ent.bsO 120 Gr.cells Gr.b gs, Ent.dp grD.list gs] := ((((((Own.start w []).oldB hC).oldA hH).mpOld hM).bsOld hG).dpOld hS)
 refine ws ?_
 refine wo (op_assign rfl ?_)
 refine wo (op_assign rfl ?_)
 refine wn ?_
 refine WC.seq ?_
 refine ws ?_
 refine wo (op_move rfl ?_)
 refine wo (op_eqlPN Fa.PT52 rfl rfl ?_)
 refine wo (op_move rfl ?_)
 refine WL.yes rfl rfl rfl rfl rfl (op_move rfl ?_)
 refine WL.yes rfl rfl rfl rfl rfl (op_nilCheck rfl ?_)
 refine WL.yes rfl rfl rfl rfl rfl (op_fieldAddr rfl Fa.F112_1 ?_)
 refine WL.yes rfl rfl rfl rfl rfl (op_load rfl (H0.cellO (i := 0) rfl rfl) Try.underlying110 rfl ?_)
 refine WL.yes rfl rfl rfl rfl rfl (op_move rfl ?_)
 refine WL.yes rfl rfl rfl rfl rfl (op_lookG_no (H0.mpO (i := 2) rfl) no Try.underlying110 Try.underlying3 Fa.Z114 rfl rfl ?_)
 refine WL.yes rfl rfl rfl rfl rfl (op_eqlPN Fa.PT114 rfl rfl ?_)
 refine wo (op_pickF rfl rfl rfl ?_)
 refine wn ?_
 refine WC.yes rfl rfl ?_
 refine ws ?_
 refine wo (op_build (cs := [_, _, _, _, _, _]) Fa.I120 Fa.PL120 rfl rfl ?_)
 refine wo (op_box H0 rfl rfl (fun b1 w1 H1 => ?_))
 refine wo (op_assign rfl ?_)
 refine wo (op_assign rfl ?_)
 refine wn ?_
 refine WC.ret ?_
 refine WQ.thenRet ?_
 refine WQ.out (.tmp rfl (.tmp rfl .nil)) ?_
 exact ⟨_, rfl, H1.sel [5] rfl rfl⟩
set_option maxRecDepth 100000 in
theorem of_some (c : Nat) (pg : UInt32) (hv : Value) (he : List UInt32) (mb cn : Nat) (gs : List Gr) (env : Int) (g : Gr) (w : World) (hC : cellsAt w c [(vU32 pg), hv, (.map (some mb))]) (hH : Arr w hv 1 he.length (List.map vU32 he)) (hM : w.heap[mb]? = some (mP .i64 (List.map Gr.me gs) cn)) (hG : BsOK 120 Gr.cells Gr.b gs w) (hS : grD.list.ok w gs) (hME : MEok (List.map Gr.me gs) cn) (hg : g ∈ gs) (hge : (g.e : Int) = env) :
  Calls Try.prog 60 #[(ptr c 0), (vI env)] w (fun e w' => e = .returned (.tuple #[ptr g.b 0, .bool true]) ∧ Fr [] w w') := by
 refine enter (args := [(ptr c 0), (vI env)]) Try.func60 rfl rfl ?_
 have H0 : Owl.Own [] w w [Ent.bo c [(vU32 pg), hv, (.map (some mb))], Ent.ar hv 1 he.length (List.map vU32 he), Ent.mo .i64 mb (List.map Gr.me gs) cn, Ent.bsO 120 Gr.cells Gr.b gs, Ent.dp grD.list gs] := ((((((Own.start w []).oldB hC).oldA hH).mpOld hM).bsOld hG).dpOld hS)
 refine ws ?_
 refine wo (op_assign rfl ?_)
 refine wo (op_assign rfl ?_)
 refine wn ?_
 refine WC.seq ?_
 refine ws ?_
 refine wo (op_move rfl ?_)
 refine wo (op_eqlPN Fa.PT52 rfl rfl ?_)
 refine wo (op_move rfl ?_)
 refine WL.yes rfl rfl rfl rfl rfl (op_move rfl ?_)
 refine WL.yes rfl rfl rfl rfl rfl (op_nilCheck rfl ?_)
 refine WL.yes rfl rfl rfl rfl rfl (op_fieldAddr rfl Fa.F112_1 ?_)
 refine WL.yes rfl rfl rfl rfl rfl (op_load rfl (H0.cellO (i := 0) rfl rfl) Try.underlying110 rfl ?_)
 refine WL.yes rfl rfl rfl rfl rfl (op_move rfl ?_)
 have H1 : Owl.Own [] w w [Ent.bo c [(vU32 pg), hv, (.map (some mb))], Ent.ar hv 1 he.length (List.map vU32 he), Ent.mo .i64 mb (List.map Gr.me gs) cn, Ent.bsO 120 Gr.cells Gr.b gs, Ent.dp grD.list gs, Ent.bo g.b [(vU32 g.pg), g.ev, g.pv, (.bool g.con), (vU32 g.pp), (vU32 g.tk)], Ent.ar g.ev 2 g.xs.length (List.flatMap xtc g.xs), Ent.ar g.pv 1 g.ps.length (List.map vU16 g.ps)] := (((H0.bsView (i := 3) (a := g) rfl hg).dpView (i := 4) (a := g) rfl hg (fun w h => h.1) (fun b hb => List.mem_append.2 (.inl hb))).dpView (i := 4) (a := g) rfl hg (fun w h => h.2) (fun b hb => List.mem_append.2 (.inr hb)))
 refine WL.yes rfl rfl rfl rfl rfl (op_lookG_some (g := g) (H0.mpO (i := 2) rfl) hME hg hge Try.underlying110 Try.underlying3 rfl rfl ?_)
 refine WL.yes rfl rfl rfl rfl rfl (op_eqlPN Fa.PT114 rfl rfl ?_)
 refine wo (op_pickF rfl rfl rfl ?_)
 refine wn ?_
 refine WC.no rfl rfl ?_
 refine WC.skip ?_
 refine WQ.next ?_
 refine ws ?_
 refine wo (op_move rfl ?_)
 refine wo (op_nilCheck rfl ?_)
 refine wo (op_fieldAddr rfl Fa.F112_1 ?_)
 refine wo (op_load rfl (H1.cellO (i := 0) rfl rfl) Try.underlying110 rfl ?_)
 refine wo (op_move rfl ?_)
 refine wo (op_lookG_some (g := g) (H1.mpO (i := 2) rfl) hME hg hge Try.underlying110 Try.underlying3 rfl rfl ?_)
 refine wo (op_assign rfl ?_)
 refine wo (op_assign rfl ?_)
 refine wn ?_
 refine WC.ret ?_
 refine WQ.out (.tmp rfl (.tmp rfl .nil)) ?_
 exact ⟨rfl, H1.fr⟩
end Go.Proofs.Ytbjhccnffacbcaa
/-! from WDem -/
namespace Go.Proofs.Ytbjhccnffacbcaa
open Go.Owl Go.Spec
set_option maxRecDepth 100000 in
theorem xtbad_ok (x : Xt) (w : World) :
  Calls Try.prog 90 #[(.agg #[(vU32 x.id), (vU32 x.bl)])] w (fun e w' => e = .returned (.bool (xtBad x)) ∧ Fr [] w w') := by
 refine enter (args := [(.agg #[(vU32 x.id), (vU32 x.bl)])]) Try.func90 rfl rfl ?_
 have H0 : Owl.Own [] w w [] := Own.start w []
 refine ws ?_
 refine wo (op_box H0 rfl rfl (fun b1 w1 H1 => ?_))
 refine wo (op_assign rfl ?_)
 refine wn ?_
 refine ws ?_
 refine wo (op_fieldAddr rfl Fa.F108_0 ?_)
 refine wo (op_load rfl (H1.cell (i := 0) rfl rfl) Try.underlying29 rfl ?_)
 refine wo (op_geqU32 (b := 16) rfl rfl ?_)
 refine wo (op_move rfl ?_)
 refine WL.split (t := 6) rfl (fun (hb2 : (decide (x.id ≥ (16 : UInt32))) = true) => ?_) (fun (hb2 : (decide (x.id ≥ (16 : UInt32))) = false) => ?_)
 ·
  have hc2 := of_decide_eq_true hb2
  refine WL.no rfl rfl rfl hb2 rfl ?_
  refine WL.no rfl rfl rfl hb2 rfl ?_
  refine WL.no rfl rfl rfl hb2 rfl ?_
  refine wo (op_pickT rfl hb2 rfl ?_)
  refine wo (op_move rfl ?_)
  refine WL.no rfl rfl rfl rfl rfl ?_
  refine WL.no rfl rfl rfl rfl rfl ?_
  refine WL.no rfl rfl rfl rfl rfl ?_
  refine wo (op_pickT rfl rfl rfl ?_)
  refine wo (op_assign rfl ?_)
  refine wn ?_
  refine WC.ret ?_
  refine WQ.out (.tmp rfl .nil) ?_
  exact ⟨by (rw [xtBad, hb2]) <;> rfl, H1.fr⟩
 ·
  have hc2 := of_decide_eq_false hb2
  refine WL.yes rfl rfl rfl hb2 rfl (op_fieldAddr rfl Fa.F108_1 ?_)
  refine WL.yes rfl rfl rfl hb2 rfl (op_load rfl (H1.cell (i := 0) rfl rfl) Try.underlying29 rfl ?_)
  refine WL.yes rfl rfl rfl hb2 rfl (op_lssU32 (b := 1) rfl rfl ?_)
  refine wo (op_pickF rfl hb2 rfl ?_)
  refine wo (op_move rfl ?_)
  refine WL.split (t := 11) rfl (fun (hb3 : (decide (x.bl < (1 : UInt32))) = true) => ?_) (fun (hb3 : (decide (x.bl < (1 : UInt32))) = false) => ?_)
  ·
   have hc3 := of_decide_eq_true hb3
   refine WL.no rfl rfl rfl hb3 rfl ?_
   refine WL.no rfl rfl rfl hb3 rfl ?_
   refine WL.no rfl rfl rfl hb3 rfl ?_
   refine wo (op_pickT rfl hb3 rfl ?_)
   refine wo (op_assign rfl ?_)
   refine wn ?_
   refine WC.ret ?_
   refine WQ.out (.tmp rfl .nil) ?_
   exact ⟨by (rw [xtBad, hb2, hb3]) <;> rfl, H1.fr⟩
  ·
   have hc3 := of_decide_eq_false hb3
   refine WL.yes rfl rfl rfl hb3 rfl (op_fieldAddr rfl Fa.F108_1 ?_)
   refine WL.yes rfl rfl rfl hb3 rfl (op_load rfl (H1.cell (i := 0) rfl rfl) Try.underlying29 rfl ?_)
   refine WL.yes rfl rfl rfl hb3 rfl (op_gtrU32 (b := 1024) rfl rfl ?_)
   refine wo (op_pickF rfl hb3 rfl ?_)
   refine wo (op_assign rfl ?_)
   refine wn ?_
   refine WC.ret ?_
   refine WQ.out (.tmp rfl .nil) ?_
   exact ⟨by (rw [xtBad, hb2, hb3]) <;> rfl, H1.fr⟩
set_option maxRecDepth 100000 in
theorem xtlt_ok (x y : Xt) (w : World) :
  Calls Try.prog 92 #[(.agg #[(vU32 x.id), (vU32 x.bl)]), (.agg #[(vU32 y.id), (vU32 y.bl)])] w (fun e w' => e = .returned (.bool (xtLt x y)) ∧ Fr [] w w') := by
 refine enter (args := [(.agg #[(vU32 x.id), (vU32 x.bl)]), (.agg #[(vU32 y.id), (vU32 y.bl)])]) Try.func92 rfl rfl ?_
 have H0 : Owl.Own [] w w [] := Own.start w []
 refine ws ?_
 refine wo (op_box H0 rfl rfl (fun b1 w1 H1 => ?_))
 refine wo (op_box H1 rfl rfl (fun b2 w2 H2 => ?_))
 refine wo (op_assign rfl ?_)
 refine wn ?_
 refine ws ?_
 refine wo (op_fieldAddr rfl Fa.F108_0 ?_)
 refine wo (op_load rfl (H2.cell (i := 0) rfl rfl) Try.underlying29 rfl ?_)
 refine wo (op_fieldAddr rfl Fa.F108_0 ?_)
 refine wo (op_load rfl (H2.cell (i := 1) rfl rfl) Try.underlying29 rfl ?_)
 refine wo (op_lssU32 rfl rfl ?_)
 refine wo (op_assign rfl ?_)
 refine wn ?_
 refine WC.ret ?_
 refine WQ.out (.tmp rfl .nil) ?_
 exact ⟨rfl, H2.fr⟩
set_option maxRecDepth 100000 in
theorem u16lt_ok (x y : UInt16) (w : World) :
  Calls Try.prog 94 #[(vU16 x), (vU16 y)] w (fun e w' => e = .returned (.bool (u16Lt x y)) ∧ Fr [] w w') := by
 refine enter (args := [(vU16 x), (vU16 y)]) Try.func94 rfl rfl ?_
 have H0 : Owl.Own [] w w [] := Own.start w []
 refine ws ?_
 refine wo (op_assign rfl ?_)
 refine wn ?_
 refine ws ?_
 refine wo (op_move rfl ?_)
 refine wo (op_move rfl ?_)
 refine wo (op_lssU16 rfl rfl ?_)
 refine wo (op_assign rfl ?_)
 refine wn ?_
 refine WC.ret ?_
 refine WQ.out (.tmp rfl .nil) ?_
 exact ⟨rfl, H0.fr⟩
set_option maxRecDepth 100000 in
theorem idxX_ok (lv : Value) (l : List Xt) (w : World) (hA : Arr w lv 2 l.length (List.flatMap xtc l)) (hn : l.length < 2 ^ 47) :
  Calls Try.prog 121 #[lv, (.func (.func 90) #[] #[])] w (fun e w' => e = .returned (vI (fidx xtBad l)) ∧ Fr [] w w') := by
 refine enter (args := [lv, (.func (.func 90) #[] #[])]) Try.func121 rfl rfl ?_
 have H0 : Owl.Own [] w w [] := Own.start w []
 refine ws ?_
 refine wo (op_assign rfl ?_)
 refine wn ?_
 refine WC.seq ?_
 refine ws ?_
 refine wo (op_move rfl ?_)
 refine wo (op_lenA Try.underlying56 rfl (H0.arr hA) ?_)
 refine wo (op_move rfl ?_)
 refine wn ?_
 refine WC.block ?_
 refine WC.loop (α := Nat) (fun k => [(0, lv), (1, (.func (.func 90) #[] #[])), (7, (vN l.length)), (8, (vN k))]) (fun k w' => (k ≤ l.length ∧ (∀ j, j < k → xtBad (l.getD j Xt.zero) = false)) ∧ Owl.Own [] w w' []) (fun k => l.length - k) 0 ⟨⟨Nat.zero_le _, fun j h => by omega⟩, H0⟩ ⟨rfl, rfl, rfl, rfl, trivial⟩ ?_
 rintro k w1 ⟨⟨hk1, hok⟩, H1⟩
 show WC _ _ _ _ _ [(0, lv), (1, (.func (.func 90) #[] #[])), (7, (vN l.length)), (8, (vN k))] _
 refine ws ?_
 refine wo (op_lssN rfl rfl ?_)
 refine wn ?_
 refine WC.seq ?_
 refine WC.cond rfl (fun (hb2 : (decide (k < l.length)) = true) => ?_) (fun (hb2 : (decide (k < l.length)) = false) => ?_)
 ·
  have hc2 := of_decide_eq_true hb2
  refine WC.skip ?_
  refine WQ.next ?_
  refine WC.seq ?_
  refine WC.block ?_
  refine ws ?_
  refine wo (op_move rfl ?_)
  refine wo (op_assign rfl ?_)
  refine wn ?_
  refine ws ?_
  refine wo (op_move rfl ?_)
  refine wo (op_move rfl ?_)
  refine wo (op_move rfl ?_)
  refine wo (op_indexAddr Try.underlying56 Fa.I108 rfl (H1.arr hA) rfl (by omega) ?_)
  refine wo (op_loadSP (vs := xtc (l.getD k Xt.zero)) rfl (Arr.atsF (H1.arr hA) (fun _ => rfl) (by decide) Xt.zero (by omega)) Try.underlying108 rfl Fa.I108 rfl ?_)
  refine wo (op_call (f := 90) rfl Fa.C90 rfl ((xtbad_ok (l.getD k Xt.zero) _).mono (fun e w3 hq => ?_)))
  obtain ⟨rfl, hf3⟩ := hq
  refine ⟨_, rfl, ?_⟩
  have H3 := H1.fr' hf3
  refine wn ?_
  refine WC.cond rfl (fun (hb4 : (xtBad (l.getD k Xt.zero)) = true) => ?_) (fun (hb4 : (xtBad (l.getD k Xt.zero)) = false) => ?_)
  ·
   refine ws ?_
   refine wo (op_move rfl ?_)
   refine wo (op_assign rfl ?_)
   refine wn ?_
   refine WC.ret ?_
   refine WQ.inRet ?_
   refine WQ.thenRet ?_
   refine WQ.thenRet ?_
   refine WQ.inRet ?_
   refine WQ.thenRet ?_
   refine WQ.out (.tmp rfl .nil) ?_
   exact ⟨by rw [fidx_yes (d := Xt.zero) (by omega) hok hb4]; rfl, H3.fr⟩
  ·
   refine WC.skip ?_
   refine WQ.inNormal ?_
   refine WQ.next ?_
   refine WC.region ?_
   refine wo (op_addN (b := 1) rfl rfl (by omega) ?_)
   refine wo (op_move rfl ?_)
   refine WL.nil ?_
   exact WQ.round (k + 1) ⟨⟨by omega, allPrev hok hb4⟩, H3⟩ ⟨rfl, rfl, rfl, rfl, trivial⟩ (by omega)
 ·
  have hc2 := of_decide_eq_false hb2
  refine WC.exit ?_
  refine WQ.thenExit ?_
  refine WQ.thenExit ?_
  refine WQ.inHere ?_
  refine WQ.next ?_
  refine ws ?_
  refine wo (op_assign rfl ?_)
  refine wn ?_
  refine WC.ret ?_
  refine WQ.out (.tmp rfl .nil) ?_
  exact ⟨by rw [fidx_no (d := Xt.zero) (fun j hj => hok j (by omega))]; rfl, H1.fr⟩
set_option maxRecDepth 100000 in
theorem idx16_ok (lv : Value) (l : List UInt16) (y : UInt16) (w : World) (hA : Arr w lv 1 l.length (List.map vU16 l)) (hn : l.length < 2 ^ 47) :
  Calls Try.prog 102 #[lv, (vU16 y)] w (fun e w' => e = .returned (vI (fidx (u16Is y) l)) ∧ Fr [] w w') := by
 refine enter (args := [lv, (vU16 y)]) Try.func102 rfl rfl ?_
 have H0 : Owl.Own [] w w [] := Own.start w []
 refine ws ?_
 refine wo (op_assign rfl ?_)
 refine wn ?_
 refine WC.seq ?_
 refine ws ?_
 refine wo (op_move rfl ?_)
 refine wo (op_lenA Try.underlying57 rfl (H0.arr hA) ?_)
 refine wo (op_move rfl ?_)
 refine wn ?_
 refine WC.block ?_
 refine WC.loop (α := Nat) (fun k => [(0, lv), (1, (vU16 y)), (7, (vN l.length)), (8, (vN k))]) (fun k w' => (k ≤ l.length ∧ (∀ j, j < k → (u16Is y) (l.getD j 0) = false)) ∧ Owl.Own [] w w' []) (fun k => l.length - k) 0 ⟨⟨Nat.zero_le _, fun j h => by omega⟩, H0⟩ ⟨rfl, rfl, rfl, rfl, trivial⟩ ?_
 rintro k w1 ⟨⟨hk1, hok⟩, H1⟩
 show WC _ _ _ _ _ [(0, lv), (1, (vU16 y)), (7, (vN l.length)), (8, (vN k))] _
 refine ws ?_
 refine wo (op_lssN rfl rfl ?_)
 refine wn ?_
 refine WC.seq ?_
 refine WC.cond rfl (fun (hb2 : (decide (k < l.length)) = true) => ?_) (fun (hb2 : (decide (k < l.length)) = false) => ?_)
 ·
  have hc2 := of_decide_eq_true hb2
  refine WC.skip ?_
  refine WQ.next ?_
  refine WC.seq ?_
  refine WC.block ?_
  refine ws ?_
  refine wo (op_move rfl ?_)
  refine wo (op_assign rfl ?_)
  refine wn ?_
  refine ws ?_
  refine wo (op_move rfl ?_)
  refine wo (op_move rfl ?_)
  refine wo (op_move rfl ?_)
  refine wo (op_indexAddr1 Try.underlying57 Fa.I50 rfl (H1.arr hA) rfl (by omega) ?_)
  refine wo (op_load rfl ((H1.arr hA).at (get_map vU16 0 (Arr.ltM (H1.arr hA) (by omega)))) Try.underlying50 rfl ?_)
  refine wo (op_eqlU16 rfl rfl ?_)
  refine wn ?_
  refine WC.cond rfl (fun (hb3 : (decide (y = (l.getD k 0))) = true) => ?_) (fun (hb3 : (decide (y = (l.getD k 0))) = false) => ?_)
  ·
   have hc3 := of_decide_eq_true hb3
   refine ws ?_
   refine wo (op_move rfl ?_)
   refine wo (op_assign rfl ?_)
   refine wn ?_
   refine WC.ret ?_
   refine WQ.inRet ?_
   refine WQ.thenRet ?_
   refine WQ.thenRet ?_
   refine WQ.inRet ?_
   refine WQ.thenRet ?_
   refine WQ.out (.tmp rfl .nil) ?_
   exact ⟨by rw [fidx_yes (d := 0) (by omega) hok hb3]; rfl, H1.fr⟩
  ·
   have hc3 := of_decide_eq_false hb3
   refine WC.skip ?_
   refine WQ.inNormal ?_
   refine WQ.next ?_
   refine WC.region ?_
   refine wo (op_addN (b := 1) rfl rfl (by omega) ?_)
   refine wo (op_move rfl ?_)
   refine WL.nil ?_
   exact WQ.round (k + 1) ⟨⟨by omega, allPrev hok hb3⟩, H1⟩ ⟨rfl, rfl, rfl, rfl, trivial⟩ (by omega)
 ·
  have hc2 := of_decide_eq_false hb2
  refine WC.exit ?_
  refine WQ.thenExit ?_
  refine WQ.thenExit ?_
  refine WQ.inHere ?_
  refine WQ.next ?_
  refine ws ?_
  refine wo (op_assign rfl ?_)
  refine wn ?_
  refine WC.ret ?_
  refine WQ.out (.tmp rfl .nil) ?_
  exact ⟨by rw [fidx_no (d := 0) (fun j hj => hok j (by omega))]; rfl, H1.fr⟩
set_option maxRecDepth 100000 in
theorem conX_ok (lv : Value) (l : List Xt) (w : World) (hA : Arr w lv 2 l.length (List.flatMap xtc l)) (hn : l.length < 2 ^ 47) :
  Calls Try.prog 89 #[lv, (.func (.func 90) #[] #[])] w (fun e w' => e = .returned (.bool (l.any xtBad)) ∧ Fr [] w w') := by
 refine enter (args := [lv, (.func (.func 90) #[] #[])]) Try.func89 rfl rfl ?_
 have H0 : Owl.Own [] w w [] := Own.start w []
 refine ws ?_
 refine wo (op_assign rfl ?_)
 refine wn ?_
 refine ws ?_
 refine wo (op_move rfl ?_)
 refine wo (op_move rfl ?_)
 refine wo (op_callF Fa.C121 rfl ((idxX_ok _ l _ (H0.arr hA) (by omega)).mono (fun e w1 hq => ?_)))
 obtain ⟨rfl, hf1⟩ := hq
 refine ⟨_, rfl, ?_⟩
 have H1 := H0.fr' hf1
 refine wo (op_geqI (b := (0 : Int)) rfl rfl ?_)
 refine wo (op_assign rfl ?_)
 refine wn ?_
 refine WC.ret ?_
 refine WQ.out (.tmp rfl .nil) ?_
 exact ⟨by rw [← fidx_any]; rfl, H1.fr⟩
set_option maxRecDepth 100000 in
theorem con16_ok (lv : Value) (l : List UInt16) (y : UInt16) (w : World) (hA : Arr w lv 1 l.length (List.map vU16 l)) (hn : l.length < 2 ^ 47) :
  Calls Try.prog 63 #[lv, (vU16 y)] w (fun e w' => e = .returned (.bool (l.any (u16Is y))) ∧ Fr [] w w') := by
 refine enter (args := [lv, (vU16 y)]) Try.func63 rfl rfl ?_
 have H0 : Owl.Own [] w w [] := Own.start w []
 refine ws ?_
 refine wo (op_assign rfl ?_)
 refine wn ?_
 refine ws ?_
 refine wo (op_move rfl ?_)
 refine wo (op_move rfl ?_)
 refine wo (op_callF Fa.C102 rfl ((idx16_ok _ l y _ (H0.arr hA) (by omega)).mono (fun e w1 hq => ?_)))
 obtain ⟨rfl, hf1⟩ := hq
 refine ⟨_, rfl, ?_⟩
 have H1 := H0.fr' hf1
 refine wo (op_geqI (b := (0 : Int)) rfl rfl ?_)
 refine wo (op_assign rfl ?_)
 refine wn ?_
 refine WC.ret ?_
 refine WQ.out (.tmp rfl .nil) ?_
 exact ⟨by rw [← fidx_any]; rfl, H1.fr⟩
set_option maxRecDepth 100000 in
theorem risX_ok (lv : Value) (l : List Xt) (w : World) (hA : Arr w lv 2 l.length (List.flatMap xtc l)) (hn : l.length < 2 ^ 47) :
  Calls Try.prog 91 #[lv, (.func (.func 92) #[] #[])] w (fun e w' => e = .returned (.bool (ris xtLt l)) ∧ Fr [] w w') := by
 refine enter (args := [lv, (.func (.func 92) #[] #[])]) Try.func91 rfl rfl ?_
 have H0 : Owl.Own [] w w [] := Own.start w []
 refine ws ?_
 refine wo (op_assign rfl ?_)
 refine wn ?_
 refine WC.seq ?_
 refine ws ?_
 refine wo (op_move rfl ?_)
 refine wo (op_lenA Try.underlying56 rfl (H0.arr hA) ?_)
 refine wo (op_subI (a := ((l.length : Nat) : Int)) (b := ((1 : Nat) : Int)) rfl rfl (by omega) ?_)
 refine wo (op_move rfl ?_)
 refine wn ?_
 refine WC.block ?_
 refine WC.loop (α := Nat) (fun k => [(0, lv), (1, (.func (.func 92) #[] #[])), (8, (vI (((l.length : Nat) : Int) - ((1 : Nat) : Int)))), (9, (vN k))]) (fun k w' => (k ≤ l.length ∧ (∀ j, j < k → xtLt (l.getD j Xt.zero) (l.getD (j + 1) Xt.zero) = true)) ∧ Owl.Own [] w w' []) (fun k => l.length - k) 0 ⟨⟨Nat.zero_le _, fun j h => by omega⟩, H0⟩ ⟨rfl, rfl, rfl, rfl, trivial⟩ ?_
 rintro k w1 ⟨⟨hk1, hok⟩, H1⟩
 show WC _ _ _ _ _ [(0, lv), (1, (.func (.func 92) #[] #[])), (8, (vI (((l.length : Nat) : Int) - ((1 : Nat) : Int)))), (9, (vN k))] _
 refine ws ?_
 refine wo (op_lssI rfl rfl ?_)
 refine wn ?_
 refine WC.seq ?_
 refine WC.cond rfl (fun (hb2 : (decide ((k : Int) < (((l.length : Nat) : Int) - ((1 : Nat) : Int)))) = true) => ?_) (fun (hb2 : (decide ((k : Int) < (((l.length : Nat) : Int) - ((1 : Nat) : Int)))) = false) => ?_)
 ·
  have hc2 := of_decide_eq_true hb2
  refine WC.skip ?_
  refine WQ.next ?_
  refine WC.seq ?_
  refine WC.block ?_
  refine ws ?_
  refine wo (op_move rfl ?_)
  refine wo (op_assign rfl ?_)
  refine wn ?_
  refine WC.seq ?_
  refine WC.draw 12 Fa.M H1 (HW.op rfl (fun w1 H1 => op_move rfl ⟨rfl, Fr.refl _ _⟩) (HW.op rfl (fun w1 H1 => op_move rfl ⟨rfl, Fr.refl _ _⟩) (HW.op rfl (fun w1 H1 => op_move rfl ⟨rfl, Fr.refl _ _⟩) (HW.op rfl (fun w1 H1 => op_indexAddr Try.underlying56 Fa.I108 rfl (H1.arr hA) rfl (by omega) ⟨rfl, Fr.refl _ _⟩) (HW.op rfl (fun w1 H1 => op_loadSP (vs := xtc (l.getD k Xt.zero)) rfl (Arr.atsF (H1.arr hA) (fun _ => rfl) (by decide) Xt.zero (by omega)) Try.underlying108 rfl Fa.I108 rfl ⟨rfl, Fr.refl _ _⟩) (HW.op rfl (fun w1 H1 => op_move rfl ⟨rfl, Fr.refl _ _⟩) (HW.op rfl (fun w1 H1 => op_move rfl ⟨rfl, Fr.refl _ _⟩) (HW.op rfl (fun w1 H1 => op_addN (b := 1) rfl rfl (by omega) ⟨rfl, Fr.refl _ _⟩) (HW.op rfl (fun w1 H1 => op_indexAddr Try.underlying56 Fa.I108 rfl (H1.arr hA) rfl (by omega) ⟨rfl, Fr.refl _ _⟩) (HW.op rfl (fun w1 H1 => op_loadSP (vs := xtc (l.getD (k + 1) Xt.zero)) rfl (Arr.atsF (H1.arr hA) (fun _ => rfl) (by decide) Xt.zero (by omega)) Try.underlying108 rfl Fa.I108 rfl ⟨rfl, Fr.refl _ _⟩) (HW.op rfl (fun w1 H1 => op_call (f := 92) rfl Fa.C92 rfl ((xtlt_ok (l.getD k Xt.zero) (l.getD (k + 1) Xt.zero) _).mono (fun e w2 hq => ⟨_, hq.1, rfl, hq.2⟩))) (HW.op rfl (fun w1 H1 => op_not rfl ⟨rfl, Fr.refl _ _⟩)  HW.nil)))))))))))) (by kernel_rfl) ?_
  intro β4 w4 H4
  refine wn ?_
  refine WC.cond rfl (fun (hb5 : (!(xtLt (l.getD k Xt.zero) (l.getD (k + 1) Xt.zero))) = true) => ?_) (fun (hb5 : (!(xtLt (l.getD k Xt.zero) (l.getD (k + 1) Xt.zero))) = false) => ?_)
  ·
   have hn5 := (Bool.not_eq_true' _).mp hb5
   refine ws ?_
   refine wo (op_assign rfl ?_)
   refine wn ?_
   refine WC.ret ?_
   refine WQ.inRet ?_
   refine WQ.thenRet ?_
   refine WQ.thenRet ?_
   refine WQ.inRet ?_
   refine WQ.thenRet ?_
   refine WQ.out (.tmp rfl .nil) ?_
   exact ⟨by rw [ris_no (d := Xt.zero) (k := k) (by omega) (by simpa using hb5)]; rfl, H4.fr⟩
  ·
   have hn5 := (Bool.not_eq_false' _).mp hb5
   refine WC.skip ?_
   refine WQ.inNormal ?_
   refine WQ.next ?_
   refine WC.region ?_
   refine wo (op_addN (b := 1) rfl rfl (by omega) ?_)
   refine wo (op_move rfl ?_)
   refine WL.nil ?_
   exact WQ.round (k + 1) ⟨⟨by omega, allPrev hok (by simpa using hb5)⟩, H4⟩ ⟨rfl, rfl, rfl, rfl, trivial⟩ (by omega)
 ·
  have hc2 := of_decide_eq_false hb2
  refine WC.exit ?_
  refine WQ.thenExit ?_
  refine WQ.thenExit ?_
  refine WQ.inHere ?_
  refine WQ.next ?_
  refine ws ?_
  refine wo (op_assign rfl ?_)
  refine wn ?_
  refine WC.ret ?_
  refine WQ.out (.tmp rfl .nil) ?_
  exact ⟨by rw [ris_yes (d := Xt.zero) (fun j hj => hok j (by omega))]; rfl, H1.fr⟩
set_option maxRecDepth 100000 in
theorem ris16_ok (lv : Value) (l : List UInt16) (w : World) (hA : Arr w lv 1 l.length (List.map vU16 l)) (hn : l.length < 2 ^ 47) :
  Calls Try.prog 93 #[lv, (.func (.func 94) #[] #[])] w (fun e w' => e = .returned (.bool (ris u16Lt l)) ∧ Fr [] w w') := by
 refine enter (args := [lv, (.func (.func 94) #[] #[])]) Try.func93 rfl rfl ?_
 have H0 : Owl.Own [] w w [] := Own.start w []
 refine ws ?_
 refine wo (op_assign rfl ?_)
 refine wn ?_
 refine WC.seq ?_
 refine ws ?_
 refine wo (op_move rfl ?_)
 refine wo (op_lenA Try.underlying57 rfl (H0.arr hA) ?_)
 refine wo (op_subI (a := ((l.length : Nat) : Int)) (b := ((1 : Nat) : Int)) rfl rfl (by omega) ?_)
 refine wo (op_move rfl ?_)
 refine wn ?_
 refine WC.block ?_
 refine WC.loop (α := Nat) (fun k => [(0, lv), (1, (.func (.func 94) #[] #[])), (8, (vI (((l.length : Nat) : Int) - ((1 : Nat) : Int)))), (9, (vN k))]) (fun k w' => (k ≤ l.length ∧ (∀ j, j < k → u16Lt (l.getD j 0) (l.getD (j + 1) 0) = true)) ∧ Owl.Own [] w w' []) (fun k => l.length - k) 0 ⟨⟨Nat.zero_le _, fun j h => by omega⟩, H0⟩ ⟨rfl, rfl, rfl, rfl, trivial⟩ ?_
 rintro k w1 ⟨⟨hk1, hok⟩, H1⟩
 show WC _ _ _ _ _ [(0, lv), (1, (.func (.func 94) #[] #[])), (8, (vI (((l.length : Nat) : Int) - ((1 : Nat) : Int)))), (9, (vN k))] _
 refine ws ?_
 refine wo (op_lssI rfl rfl ?_)
 refine wn ?_
 refine WC.seq ?_
 refine WC.cond rfl (fun (hb2 : (decide ((k : Int) < (((l.length : Nat) : Int) - ((1 : Nat) : Int)))) = true) => ?_) (fun (hb2 : (decide ((k : Int) < (((l.length : Nat) : Int) - ((1 : Nat) : Int)))) = false) => ?_)
 ·
  have hc2 := of_decide_eq_true hb2
  refine WC.skip ?_
  refine WQ.next ?_
  refine WC.seq ?_
  refine WC.block ?_
  refine ws ?_
  refine wo (op_move rfl ?_)
  refine wo (op_assign rfl ?_)
  refine wn ?_
  refine WC.seq ?_
  refine WC.draw 12 Fa.M H1 (HW.op rfl (fun w1 H1 => op_move rfl ⟨rfl, Fr.refl _ _⟩) (HW.op rfl (fun w1 H1 => op_move rfl ⟨rfl, Fr.refl _ _⟩) (HW.op rfl (fun w1 H1 => op_move rfl ⟨rfl, Fr.refl _ _⟩) (HW.op rfl (fun w1 H1 => op_indexAddr1 Try.underlying57 Fa.I50 rfl (H1.arr hA) rfl (by omega) ⟨rfl, Fr.refl _ _⟩) (HW.op rfl (fun w1 H1 => op_load rfl ((H1.arr hA).at (get_map vU16 0 (Arr.ltM (H1.arr hA) (by omega)))) Try.underlying50 rfl ⟨rfl, Fr.refl _ _⟩) (HW.op rfl (fun w1 H1 => op_move rfl ⟨rfl, Fr.refl _ _⟩) (HW.op rfl (fun w1 H1 => op_move rfl ⟨rfl, Fr.refl _ _⟩) (HW.op rfl (fun w1 H1 => op_addN (b := 1) rfl rfl (by omega) ⟨rfl, Fr.refl _ _⟩) (HW.op rfl (fun w1 H1 => op_indexAddr1 Try.underlying57 Fa.I50 rfl (H1.arr hA) rfl (by omega) ⟨rfl, Fr.refl _ _⟩) (HW.op rfl (fun w1 H1 => op_load rfl ((H1.arr hA).at (get_map vU16 0 (Arr.ltM (H1.arr hA) (by omega)))) Try.underlying50 rfl ⟨rfl, Fr.refl _ _⟩) (HW.op rfl (fun w1 H1 => op_call (f := 94) rfl Fa.C94 rfl ((u16lt_ok (l.getD k 0) (l.getD (k + 1) 0) _).mono (fun e w2 hq => ⟨_, hq.1, rfl, hq.2⟩))) (HW.op rfl (fun w1 H1 => op_not rfl ⟨rfl, Fr.refl _ _⟩)  HW.nil)))))))))))) (by kernel_rfl) ?_
  intro β4 w4 H4
  refine wn ?_
  refine WC.cond rfl (fun (hb5 : (!(u16Lt (l.getD k 0) (l.getD (k + 1) 0))) = true) => ?_) (fun (hb5 : (!(u16Lt (l.getD k 0) (l.getD (k + 1) 0))) = false) => ?_)
  ·
   have hn5 := (Bool.not_eq_true' _).mp hb5
   refine ws ?_
   refine wo (op_assign rfl ?_)
   refine wn ?_
   refine WC.ret ?_
   refine WQ.inRet ?_
   refine WQ.thenRet ?_
   refine WQ.thenRet ?_
   refine WQ.inRet ?_
   refine WQ.thenRet ?_
   refine WQ.out (.tmp rfl .nil) ?_
   exact ⟨by rw [ris_no (d := 0) (k := k) (by omega) (by simpa using hb5)]; rfl, H4.fr⟩
  ·
   have hn5 := (Bool.not_eq_false' _).mp hb5
   refine WC.skip ?_
   refine WQ.inNormal ?_
   refine WQ.next ?_
   refine WC.region ?_
   refine wo (op_addN (b := 1) rfl rfl (by omega) ?_)
   refine wo (op_move rfl ?_)
   refine WL.nil ?_
   exact WQ.round (k + 1) ⟨⟨by omega, allPrev hok (by simpa using hb5)⟩, H4⟩ ⟨rfl, rfl, rfl, rfl, trivial⟩ (by omega)
 ·
  have hc2 := of_decide_eq_false hb2
  refine WC.exit ?_
  refine WQ.thenExit ?_
  refine WQ.thenExit ?_
  refine WQ.inHere ?_
  refine WQ.next ?_
  refine ws ?_
  refine wo (op_assign rfl ?_)
  refine wn ?_
  refine WC.ret ?_
  refine WQ.out (.tmp rfl .nil) ?_
  exact ⟨by rw [ris_yes (d := 0) (fun j hj => hok j (by omega))]; rfl, H1.fr⟩
set_option maxRecDepth 100000 in
theorem dcheck_ok (pg : UInt32) (ev pv : Value) (xs : List Xt) (ps : List UInt16) (con : Bool) (w : World) (hE : Arr w ev 2 xs.length (List.flatMap xtc xs)) (hP : Arr w pv 1 ps.length (List.map vU16 ps)) (hn : xs.length < 2 ^ 47) (hm : ps.length < 2 ^ 47) :
  Calls Try.prog 55 #[(.agg #[(vU32 pg), ev, pv, (.bool con)])] w (fun e w' => e = .returned (vN (mfE pg xs ps)) ∧ Fr [] w w') := by
 refine enter (args := [(.agg #[(vU32 pg), ev, pv, (.bool con)])]) Try.func55 rfl rfl ?_
 have H0 : Owl.Own [] w w [] := Own.start w []
 refine ws ?_
 refine wo (op_box H0 rfl rfl (fun b1 w1 H1 => ?_))
 refine wo (op_assign rfl ?_)
 refine wn ?_
 refine ws ?_
 refine wo (op_fieldAddr rfl Fa.F59_1 ?_)
 refine wo (op_load rfl (H1.cell (i := 0) rfl rfl) Try.underlying56 rfl ?_)
 refine wo (op_callF Fa.C89 rfl ((conX_ok _ xs _ (H1.arr hE) (by omega)).mono (fun e w2 hq => ?_)))
 obtain ⟨rfl, hf2⟩ := hq
 refine ⟨_, rfl, ?_⟩
 have H2 := H1.fr' hf2
 refine wo (op_assign rfl ?_)
 refine wn ?_
 refine WC.seq ?_
 refine ws ?_
 refine wo (op_move rfl ?_)
 refine wo (op_move rfl ?_)
 refine WL.split (t := 8) rfl (fun (hb3 : (xs.any xtBad) = true) => ?_) (fun (hb3 : (xs.any xtBad) = false) => ?_)
 ·
  refine WL.no rfl rfl rfl hb3 rfl ?_
  refine WL.no rfl rfl rfl hb3 rfl ?_
  refine WL.no rfl rfl rfl hb3 rfl ?_
  refine WL.no rfl rfl rfl hb3 rfl ?_
  refine wo (op_pickT rfl hb3 rfl ?_)
  refine wo (op_move rfl ?_)
  refine WL.no rfl rfl rfl rfl rfl ?_
  refine WL.no rfl rfl rfl rfl rfl ?_
  refine WL.no rfl rfl rfl rfl rfl ?_
  refine WL.no rfl rfl rfl rfl rfl ?_
  refine wo (op_pickT rfl rfl rfl ?_)
  refine wo (op_move rfl ?_)
  refine WL.no rfl rfl rfl rfl rfl ?_
  refine WL.no rfl rfl rfl rfl rfl ?_
  refine WL.no rfl rfl rfl rfl rfl ?_
  refine wo (op_pickT rfl rfl rfl ?_)
  refine wo (op_move rfl ?_)
  refine WL.no rfl rfl rfl rfl rfl ?_
  refine WL.no rfl rfl rfl rfl rfl ?_
  refine WL.no rfl rfl rfl rfl rfl ?_
  refine WL.no rfl rfl rfl rfl rfl ?_
  refine wo (op_pickT rfl rfl rfl ?_)
  refine wo (op_move rfl ?_)
  refine WL.no rfl rfl rfl rfl rfl ?_
  refine WL.no rfl rfl rfl rfl rfl ?_
  refine WL.no rfl rfl rfl rfl rfl ?_
  refine wo (op_pickT rfl rfl rfl ?_)
  refine wn ?_
  refine WC.yes rfl rfl ?_
  refine ws ?_
  refine wo (op_assign rfl ?_)
  refine wn ?_
  refine WC.ret ?_
  refine WQ.thenRet ?_
  refine WQ.out (.tmp rfl .nil) ?_
  exact ⟨by (rw [mfE, mfMay, hb3]) <;> rfl, H2.fr⟩
 ·
  refine WL.yes rfl rfl rfl hb3 rfl (op_fieldAddr rfl Fa.F59_1 ?_)
  refine WL.yes rfl rfl rfl hb3 rfl (op_load rfl (H2.cell (i := 0) rfl rfl) Try.underlying56 rfl ?_)
  refine WL.yes rfl rfl rfl hb3 rfl (op_callF Fa.C91 rfl ((risX_ok _ xs _ (H2.arr hE) (by omega)).mono (fun e w4 hq => ?_)))
  obtain ⟨rfl, hf4⟩ := hq
  refine ⟨_, rfl, ?_⟩
  have H4 := H2.fr' hf4
  refine WL.yes rfl rfl rfl hb3 rfl (op_not rfl ?_)
  refine wo (op_pickF rfl hb3 rfl ?_)
  refine wo (op_move rfl ?_)
  refine WL.split (t := 14) rfl (fun (hb5 : (!(ris xtLt xs)) = true) => ?_) (fun (hb5 : (!(ris xtLt xs)) = false) => ?_)
  ·
   have hn5 := (Bool.not_eq_true' _).mp hb5
   refine WL.no rfl rfl rfl hb5 rfl ?_
   refine WL.no rfl rfl rfl hb5 rfl ?_
   refine WL.no rfl rfl rfl hb5 rfl ?_
   refine WL.no rfl rfl rfl hb5 rfl ?_
   refine wo (op_pickT rfl hb5 rfl ?_)
   refine wo (op_move rfl ?_)
   refine WL.no rfl rfl rfl rfl rfl ?_
   refine WL.no rfl rfl rfl rfl rfl ?_
   refine WL.no rfl rfl rfl rfl rfl ?_
   refine wo (op_pickT rfl rfl rfl ?_)
   refine wo (op_move rfl ?_)
   refine WL.no rfl rfl rfl rfl rfl ?_
   refine WL.no rfl rfl rfl rfl rfl ?_
   refine WL.no rfl rfl rfl rfl rfl ?_
   refine WL.no rfl rfl rfl rfl rfl ?_
   refine wo (op_pickT rfl rfl rfl ?_)
   refine wo (op_move rfl ?_)
   refine WL.no rfl rfl rfl rfl rfl ?_
   refine WL.no rfl rfl rfl rfl rfl ?_
   refine WL.no rfl rfl rfl rfl rfl ?_
   refine wo (op_pickT rfl rfl rfl ?_)
   refine wn ?_
   refine WC.yes rfl rfl ?_
   refine ws ?_
   refine wo (op_assign rfl ?_)
   refine wn ?_
   refine WC.ret ?_
   refine WQ.thenRet ?_
   refine WQ.out (.tmp rfl .nil) ?_
   exact ⟨by (rw [mfE, mfMay, hb3, hn5]) <;> rfl, H4.fr⟩
  ·
   have hn5 := (Bool.not_eq_false' _).mp hb5
   refine WL.yes rfl rfl rfl hb5 rfl (op_fieldAddr rfl Fa.F59_2 ?_)
   refine WL.yes rfl rfl rfl hb5 rfl (op_load rfl (H4.cell (i := 0) rfl rfl) Try.underlying57 rfl ?_)
   refine WL.yes rfl rfl rfl hb5 rfl (op_callF Fa.C93 rfl ((ris16_ok _ ps _ (H4.arr hP) (by omega)).mono (fun e w6 hq => ?_)))
   obtain ⟨rfl, hf6⟩ := hq
   refine ⟨_, rfl, ?_⟩
   have H6 := H4.fr' hf6
   refine WL.yes rfl rfl rfl hb5 rfl (op_not rfl ?_)
   refine wo (op_pickF rfl hb5 rfl ?_)
   refine wo (op_move rfl ?_)
   refine WL.split (t := 20) rfl (fun (hb7 : (!(ris u16Lt ps)) = true) => ?_) (fun (hb7 : (!(ris u16Lt ps)) = false) => ?_)
   ·
    have hn7 := (Bool.not_eq_true' _).mp hb7
    refine WL.no rfl rfl rfl hb7 rfl ?_
    refine WL.no rfl rfl rfl hb7 rfl ?_
    refine WL.no rfl rfl rfl hb7 rfl ?_
    refine wo (op_pickT rfl hb7 rfl ?_)
    refine wo (op_move rfl ?_)
    refine WL.no rfl rfl rfl rfl rfl ?_
    refine WL.no rfl rfl rfl rfl rfl ?_
    refine WL.no rfl rfl rfl rfl rfl ?_
    refine WL.no rfl rfl rfl rfl rfl ?_
    refine wo (op_pickT rfl rfl rfl ?_)
    refine wo (op_move rfl ?_)
    refine WL.no rfl rfl rfl rfl rfl ?_
    refine WL.no rfl rfl rfl rfl rfl ?_
    refine WL.no rfl rfl rfl rfl rfl ?_
    refine wo (op_pickT rfl rfl rfl ?_)
    refine wn ?_
    refine WC.yes rfl rfl ?_
    refine ws ?_
    refine wo (op_assign rfl ?_)
    refine wn ?_
    refine WC.ret ?_
    refine WQ.thenRet ?_
    refine WQ.out (.tmp rfl .nil) ?_
    exact ⟨by (rw [mfE, mfMay, hb3, hn5, hn7]) <;> rfl, H6.fr⟩
   ·
    have hn7 := (Bool.not_eq_false' _).mp hb7
    refine WL.yes rfl rfl rfl hb7 rfl (op_fieldAddr rfl Fa.F59_2 ?_)
    refine WL.yes rfl rfl rfl hb7 rfl (op_load rfl (H6.cell (i := 0) rfl rfl) Try.underlying57 rfl ?_)
    refine WL.yes rfl rfl rfl hb7 rfl (op_callF Fa.C63 rfl ((con16_ok _ ps 0 _ (H6.arr hP) (by omega)).mono (fun e w8 hq => ?_)))
    obtain ⟨rfl, hf8⟩ := hq
    refine ⟨_, rfl, ?_⟩
    have H8 := H6.fr' hf8
    refine wo (op_pickF rfl hb7 rfl ?_)
    refine wo (op_move rfl ?_)
    refine WL.split (t := 25) rfl (fun (hb9 : (ps.any (u16Is 0)) = true) => ?_) (fun (hb9 : (ps.any (u16Is 0)) = false) => ?_)
    ·
     refine WL.no rfl rfl rfl hb9 rfl ?_
     refine WL.no rfl rfl rfl hb9 rfl ?_
     refine WL.no rfl rfl rfl hb9 rfl ?_
     refine WL.no rfl rfl rfl hb9 rfl ?_
     refine wo (op_pickT rfl hb9 rfl ?_)
     refine wo (op_move rfl ?_)
     refine WL.no rfl rfl rfl rfl rfl ?_
     refine WL.no rfl rfl rfl rfl rfl ?_
     refine WL.no rfl rfl rfl rfl rfl ?_
     refine wo (op_pickT rfl rfl rfl ?_)
     refine wn ?_
     refine WC.yes rfl rfl ?_
     refine ws ?_
     refine wo (op_assign rfl ?_)
     refine wn ?_
     refine WC.ret ?_
     refine WQ.thenRet ?_
     refine WQ.out (.tmp rfl .nil) ?_
     exact ⟨by (rw [mfE, mfMay, hb3, hn5, hn7, hb9]) <;> rfl, H8.fr⟩
    ·
     refine WL.yes rfl rfl rfl hb9 rfl (op_fieldAddr rfl Fa.F59_2 ?_)
     refine WL.yes rfl rfl rfl hb9 rfl (op_load rfl (H8.cell (i := 0) rfl rfl) Try.underlying57 rfl ?_)
     refine WL.yes rfl rfl rfl hb9 rfl (op_lenA Try.underlying57 rfl (H8.arr hP) ?_)
     refine WL.yes rfl rfl rfl hb9 rfl (op_gtrN (b := 16) rfl rfl ?_)
     refine wo (op_pickF rfl hb9 rfl ?_)
     refine wo (op_move rfl ?_)
     refine WL.split (t := 31) rfl (fun (hb10 : (decide (ps.length > 16)) = true) => ?_) (fun (hb10 : (decide (ps.length > 16)) = false) => ?_)
     ·
      have hc10 := of_decide_eq_true hb10
      refine WL.no rfl rfl rfl hb10 rfl ?_
      refine WL.no rfl rfl rfl hb10 rfl ?_
      refine WL.no rfl rfl rfl hb10 rfl ?_
      refine wo (op_pickT rfl hb10 rfl ?_)
      refine wn ?_
      refine WC.yes rfl rfl ?_
      refine ws ?_
      refine wo (op_assign rfl ?_)
      refine wn ?_
      refine WC.ret ?_
      refine WQ.thenRet ?_
      refine WQ.out (.tmp rfl .nil) ?_
      exact ⟨by (rw [mfE, mfMay, hb3, hn5, hn7, hb9, hb10]) <;> rfl, H8.fr⟩
     ·
      have hc10 := of_decide_eq_false hb10
      refine WL.yes rfl rfl rfl hb10 rfl (op_fieldAddr rfl Fa.F59_0 ?_)
      refine WL.yes rfl rfl rfl hb10 rfl (op_load rfl (H8.cell (i := 0) rfl rfl) Try.underlying29 rfl ?_)
      refine WL.yes rfl rfl rfl hb10 rfl (op_gtrU32 (b := 1024) rfl rfl ?_)
      refine wo (op_pickF rfl hb10 rfl ?_)
      refine wn ?_
      refine WC.cond rfl (fun (hb11 : (decide (pg > (1024 : UInt32))) = true) => ?_) (fun (hb11 : (decide (pg > (1024 : UInt32))) = false) => ?_)
      ·
       have hc11 := of_decide_eq_true hb11
       refine ws ?_
       refine wo (op_assign rfl ?_)
       refine wn ?_
       refine WC.ret ?_
       refine WQ.thenRet ?_
       refine WQ.out (.tmp rfl .nil) ?_
       exact ⟨by (rw [mfE, mfMay, hb3, hn5, hn7, hb9, hb10, hb11]) <;> rfl, H8.fr⟩
      ·
       have hc11 := of_decide_eq_false hb11
       refine WC.skip ?_
       refine WQ.next ?_
       refine ws ?_
       refine wo (op_assign rfl ?_)
       refine wn ?_
       refine WC.ret ?_
       refine WQ.out (.tmp rfl .nil) ?_
       exact ⟨by (rw [mfE, mfMay, hb3, hn5, hn7, hb9, hb10, hb11]) <;> rfl, H8.fr⟩
end Go.Proofs.Ytbjhccnffacbcaa
/-! from WCap2 -/
namespace Go.Proofs.Ytbjhccnffacbcaa
open Go.Owl Go.Spec
set_option maxRecDepth 100000 in
theorem none_ok (c : Nat) (pg : UInt32) (hv : Value) (he : List UInt32) (mb cn : Nat) (gs : List Gr) (mp : UInt32) (ev pv : Value) (xs : List Xt) (ps : List UInt16) (con : Bool) (w : World) (hC : cellsAt w c [(vU32 pg), hv, (.map (some mb))]) (hH : Arr w hv 1 he.length (List.map vU32 he)) (hM : w.heap[mb]? = some (mP .i64 (List.map Gr.me gs) cn)) (hG : BsOK 120 Gr.cells Gr.b gs w) (hS : grD.list.ok w gs) (hME : MEok (List.map Gr.me gs) cn) (hE : Arr w ev 2 xs.length (List.flatMap xtc xs)) (hP : Arr w pv 1 ps.length (List.map vU16 ps)) (hn : xs.length < 2 ^ 40) (hm : ps.length < 2 ^ 40) (hhe : he.length < 2 ^ 32) :
  Calls Try.prog 96 #[(ptr c 0), (.agg #[(vU32 mp), ev, pv, (.bool con)])] w (fun e w' => e = .returned (vN (noneE he xs)) ∧ Fr [] w w') := by
 refine enter (args := [(ptr c 0), (.agg #[(vU32 mp), ev, pv, (.bool con)])]) Try.func96 rfl rfl ?_
 have H0 : Owl.Own [] w w [Ent.bo c [(vU32 pg), hv, (.map (some mb))], Ent.ar hv 1 he.length (List.map vU32 he), Ent.mo .i64 mb (List.map Gr.me gs) cn, Ent.bsO 120 Gr.cells Gr.b gs, Ent.dp grD.list gs] := ((((((Own.start w []).oldB hC).oldA hH).mpOld hM).bsOld hG).dpOld hS)
 refine ws ?_
 refine wo (op_box H0 rfl rfl (fun b1 w1 H1 => ?_))
 refine wo (op_assign rfl ?_)
 refine wn ?_
 refine WC.seq ?_
 refine ws ?_
 refine wo (op_fieldAddr rfl Fa.F59_1 ?_)
 refine wo (op_load rfl (H1.cell (i := 5) rfl rfl) Try.underlying56 rfl ?_)
 refine wo (op_lenA Try.underlying56 rfl (H1.arr hE) ?_)
 refine wo (op_move rfl ?_)
 refine wn ?_
 refine WC.block ?_
 refine WC.loop (α := Nat) (fun k => [(0, (ptr c 0)), (8, ev), (9, (vN xs.length)), (10, (vN k))]) (fun k w' => (k ≤ xs.length ∧ (∀ j, j < k → ¬ (xs.getD j Xt.zero).id.toNat ≥ he.length)) ∧ Owl.Own [] w w' [Ent.bo c [(vU32 pg), hv, (.map (some mb))], Ent.ar hv 1 he.length (List.map vU32 he), Ent.mo .i64 mb (List.map Gr.me gs) cn, Ent.bsO 120 Gr.cells Gr.b gs, Ent.dp grD.list gs, .blk b1 [(vU32 mp), ev, pv, (.bool con)] 59]) (fun k => xs.length - k) 0 ⟨⟨Nat.zero_le _, fun j h => by omega⟩, H1⟩ ⟨rfl, rfl, rfl, rfl, trivial⟩ ?_
 rintro k w2 ⟨⟨hk1, hok⟩, H2⟩
 show WC _ _ _ _ _ [(0, (ptr c 0)), (8, ev), (9, (vN xs.length)), (10, (vN k))] _
 refine ws ?_
 refine wo (op_lssN rfl rfl ?_)
 refine wn ?_
 refine WC.seq ?_
 refine WC.cond rfl (fun (hb3 : (decide (k < xs.length)) = true) => ?_) (fun (hb3 : (decide (k < xs.length)) = false) => ?_)
 ·
  have hc3 := of_decide_eq_true hb3
  refine WC.skip ?_
  refine WQ.next ?_
  refine WC.seq ?_
  refine WC.block ?_
  refine ws ?_
  refine wo (op_indexAddr Try.underlying56 Fa.I108 rfl (H2.arr hE) rfl (by omega) ?_)
  refine wo (op_loadSP (vs := xtc (xs.getD k Xt.zero)) rfl (Arr.atsF (H2.arr hE) (fun _ => rfl) (by decide) Xt.zero (by omega)) Try.underlying108 rfl Fa.I108 rfl ?_)
  refine wo (op_alloc H2 Fa.I108 (fun b4 w4 H4 => ?_))
  refine wo (op_storeBW (i := 6) H4 rfl rfl rfl rfl rfl Fa.I108 (fun w5 H5 => ?_))
  refine wn ?_
  refine WC.seq ?_
  refine WC.draw 10 Fa.M H5 (HW.op rfl (fun w1 H1 => op_fieldAddr rfl Fa.F108_0 ⟨rfl, Fr.refl _ _⟩) (HW.op rfl (fun w1 H1 => op_load rfl (H1.cell (i := 6) rfl rfl) Try.underlying29 rfl ⟨rfl, Fr.refl _ _⟩) (HW.op rfl (fun w1 H1 => op_convU32N (hs := Try.underlying29) (hd := Try.underlying3) rfl ⟨rfl, Fr.refl _ _⟩) (HW.op rfl (fun w1 H1 => op_move rfl ⟨rfl, Fr.refl _ _⟩) (HW.op rfl (fun w1 H1 => op_nilCheck rfl ⟨rfl, Fr.refl _ _⟩) (HW.op rfl (fun w1 H1 => op_fieldAddr rfl Fa.F112_0 ⟨rfl, Fr.refl _ _⟩) (HW.op rfl (fun w1 H1 => op_fieldAddr rfl Fa.F48_1 ⟨rfl, Fr.refl _ _⟩) (HW.op rfl (fun w1 H1 => op_load rfl (H1.cellO (i := 0) rfl rfl) Try.underlying46 rfl ⟨rfl, Fr.refl _ _⟩) (HW.op rfl (fun w1 H1 => op_lenA Try.underlying46 rfl (H1.arrO (i := 1) rfl) ⟨rfl, Fr.refl _ _⟩) (HW.op rfl (fun w1 H1 => op_geqN rfl rfl ⟨rfl, Fr.refl _ _⟩)  HW.nil)))))))))) (by kernel_rfl) ?_
  intro β6 w6 H6
  refine wn ?_
  refine WC.cond rfl (fun (hb7 : (decide ((xs.getD k Xt.zero).id.toNat ≥ he.length)) = true) => ?_) (fun (hb7 : (decide ((xs.getD k Xt.zero).id.toNat ≥ he.length)) = false) => ?_)
  ·
   have hc7 := of_decide_eq_true hb7
   refine ws ?_
   refine wo (op_assign rfl ?_)
   refine wn ?_
   refine WC.ret ?_
   refine WQ.inRet ?_
   refine WQ.thenRet ?_
   refine WQ.thenRet ?_
   refine WQ.inRet ?_
   refine WQ.thenRet ?_
   refine WQ.out (.tmp rfl .nil) ?_
   exact ⟨by rw [noneE_yes (k := k) (by omega) (of_decide_eq_true hb7)]; rfl, H6.fr⟩
  ·
   have hc7 := of_decide_eq_false hb7
   refine WC.skip ?_
   refine WQ.inNormal ?_
   refine WQ.next ?_
   refine WC.region ?_
   refine wo (op_addN (b := 1) rfl rfl (by omega) ?_)
   refine wo (op_move rfl ?_)
   refine WL.nil ?_
   exact WQ.round (k + 1) ⟨⟨by omega, fun j h => by rcases Nat.lt_or_ge j k with h9 | h9; exact hok j h9; rw [show j = k by omega]; exact of_decide_eq_false hb7⟩, (H6.take 6)⟩ ⟨rfl, rfl, rfl, rfl, trivial⟩ (by omega)
 ·
  have hc3 := of_decide_eq_false hb3
  refine WC.exit ?_
  refine WQ.thenExit ?_
  refine WQ.thenExit ?_
  refine WQ.inHere ?_
  refine WQ.next ?_
  refine ws ?_
  refine wo (op_assign rfl ?_)
  refine wn ?_
  refine WC.ret ?_
  refine WQ.out (.tmp rfl .nil) ?_
  exact ⟨by rw [noneE_no (fun j hj => hok j (by omega))]; rfl, H2.fr⟩
set_option maxRecDepth 100000 in
theorem long_ok (c : Nat) (pg : UInt32) (hv : Value) (he : List UInt32) (mb cn : Nat) (gs : List Gr) (mp : UInt32) (ev pv : Value) (xs : List Xt) (ps : List UInt16) (con : Bool) (w : World) (hC : cellsAt w c [(vU32 pg), hv, (.map (some mb))]) (hH : Arr w hv 1 he.length (List.map vU32 he)) (hM : w.heap[mb]? = some (mP .i64 (List.map Gr.me gs) cn)) (hG : BsOK 120 Gr.cells Gr.b gs w) (hS : grD.list.ok w gs) (hME : MEok (List.map Gr.me gs) cn) (hE : Arr w ev 2 xs.length (List.flatMap xtc xs)) (hP : Arr w pv 1 ps.length (List.map vU16 ps)) (hn : xs.length < 2 ^ 40) (hm : ps.length < 2 ^ 40) (hhe : he.length < 2 ^ 32) :
  Calls Try.prog 97 #[(ptr c 0), (.agg #[(vU32 mp), ev, pv, (.bool con)])] w (fun e w' => e = .returned (vN (longE he xs)) ∧ Fr [] w w') := by
 refine enter (args := [(ptr c 0), (.agg #[(vU32 mp), ev, pv, (.bool con)])]) Try.func97 rfl rfl ?_
 have H0 : Owl.Own [] w w [Ent.bo c [(vU32 pg), hv, (.map (some mb))], Ent.ar hv 1 he.length (List.map vU32 he), Ent.mo .i64 mb (List.map Gr.me gs) cn, Ent.bsO 120 Gr.cells Gr.b gs, Ent.dp grD.list gs] := ((((((Own.start w []).oldB hC).oldA hH).mpOld hM).bsOld hG).dpOld hS)
 refine ws ?_
 refine wo (op_box H0 rfl rfl (fun b1 w1 H1 => ?_))
 refine wo (op_assign rfl ?_)
 refine wn ?_
 refine WC.seq ?_
 refine ws ?_
 refine wo (op_fieldAddr rfl Fa.F59_1 ?_)
 refine wo (op_load rfl (H1.cell (i := 5) rfl rfl) Try.underlying56 rfl ?_)
 refine wo (op_lenA Try.underlying56 rfl (H1.arr hE) ?_)
 refine wo (op_move rfl ?_)
 refine wn ?_
 refine WC.block ?_
 refine WC.loop (α := Nat) (fun k => [(0, (ptr c 0)), (8, ev), (9, (vN xs.length)), (10, (vN k))]) (fun k w' => (k ≤ xs.length ∧ (∀ j, j < k → longX he (xs.getD j Xt.zero) = false)) ∧ Owl.Own [] w w' [Ent.bo c [(vU32 pg), hv, (.map (some mb))], Ent.ar hv 1 he.length (List.map vU32 he), Ent.mo .i64 mb (List.map Gr.me gs) cn, Ent.bsO 120 Gr.cells Gr.b gs, Ent.dp grD.list gs, .blk b1 [(vU32 mp), ev, pv, (.bool con)] 59]) (fun k => xs.length - k) 0 ⟨⟨Nat.zero_le _, fun j h => by omega⟩, H1⟩ ⟨rfl, rfl, rfl, rfl, trivial⟩ ?_
 rintro k w2 ⟨⟨hk1, hok⟩, H2⟩
 show WC _ _ _ _ _ [(0, (ptr c 0)), (8, ev), (9, (vN xs.length)), (10, (vN k))] _
 refine ws ?_
 refine wo (op_lssN rfl rfl ?_)
 refine wn ?_
 refine WC.seq ?_
 refine WC.cond rfl (fun (hb3 : (decide (k < xs.length)) = true) => ?_) (fun (hb3 : (decide (k < xs.length)) = false) => ?_)
 ·
  have hc3 := of_decide_eq_true hb3
  refine WC.skip ?_
  refine WQ.next ?_
  refine WC.seq ?_
  refine WC.block ?_
  refine ws ?_
  refine wo (op_indexAddr Try.underlying56 Fa.I108 rfl (H2.arr hE) rfl (by omega) ?_)
  refine wo (op_loadSP (vs := xtc (xs.getD k Xt.zero)) rfl (Arr.atsF (H2.arr hE) (fun _ => rfl) (by decide) Xt.zero (by omega)) Try.underlying108 rfl Fa.I108 rfl ?_)
  refine wo (op_alloc H2 Fa.I108 (fun b4 w4 H4 => ?_))
  refine wo (op_storeBW (i := 6) H4 rfl rfl rfl rfl rfl Fa.I108 (fun w5 H5 => ?_))
  refine wn ?_
  refine WC.seq ?_
  refine bsplit (fun (hb6 : (decide ((xs.getD k Xt.zero).id.toNat < he.length)) = true) => ?_) (fun (hb6 : (decide ((xs.getD k Xt.zero).id.toNat < he.length)) = false) => ?_)
  ·
   have hc6 := of_decide_eq_true hb6
   refine WC.draw 24 Fa.M H5 (HW.op rfl (fun w1 H1 => op_fieldAddr rfl Fa.F108_0 ⟨rfl, Fr.refl _ _⟩) (HW.op rfl (fun w1 H1 => op_load rfl (H1.cell (i := 6) rfl rfl) Try.underlying29 rfl ⟨rfl, Fr.refl _ _⟩) (HW.op rfl (fun w1 H1 => op_convU32N (hs := Try.underlying29) (hd := Try.underlying3) rfl ⟨rfl, Fr.refl _ _⟩) (HW.op rfl (fun w1 H1 => op_move rfl ⟨rfl, Fr.refl _ _⟩) (HW.op rfl (fun w1 H1 => op_nilCheck rfl ⟨rfl, Fr.refl _ _⟩) (HW.op rfl (fun w1 H1 => op_fieldAddr rfl Fa.F112_0 ⟨rfl, Fr.refl _ _⟩) (HW.op rfl (fun w1 H1 => op_fieldAddr rfl Fa.F48_1 ⟨rfl, Fr.refl _ _⟩) (HW.op rfl (fun w1 H1 => op_load rfl (H1.cellO (i := 0) rfl rfl) Try.underlying46 rfl ⟨rfl, Fr.refl _ _⟩) (HW.op rfl (fun w1 H1 => op_lenA Try.underlying46 rfl (H1.arrO (i := 1) rfl) ⟨rfl, Fr.refl _ _⟩) (HW.op rfl (fun w1 H1 => op_lssN rfl rfl ⟨rfl, Fr.refl _ _⟩) (HW.op rfl (fun w1 H1 => op_move rfl ⟨rfl, Fr.refl _ _⟩) (HW.yes rfl rfl rfl hb6 (fun w1 H1 => op_fieldAddr rfl Fa.F108_1 ⟨rfl, Fr.refl _ _⟩) (HW.yes rfl rfl rfl hb6 (fun w1 H1 => op_load rfl (H1.cell (i := 6) rfl rfl) Try.underlying29 rfl ⟨rfl, Fr.refl _ _⟩) (HW.yes rfl rfl rfl hb6 (fun w1 H1 => op_move rfl ⟨rfl, Fr.refl _ _⟩) (HW.yes rfl rfl rfl hb6 (fun w1 H1 => op_nilCheck rfl ⟨rfl, Fr.refl _ _⟩) (HW.yes rfl rfl rfl hb6 (fun w1 H1 => op_fieldAddr rfl Fa.F112_0 ⟨rfl, Fr.refl _ _⟩) (HW.yes rfl rfl rfl hb6 (fun w1 H1 => op_fieldAddr rfl Fa.F48_1 ⟨rfl, Fr.refl _ _⟩) (HW.yes rfl rfl rfl hb6 (fun w1 H1 => op_load rfl (H1.cellO (i := 0) rfl rfl) Try.underlying46 rfl ⟨rfl, Fr.refl _ _⟩) (HW.yes rfl rfl rfl hb6 (fun w1 H1 => op_fieldAddr rfl Fa.F108_0 ⟨rfl, Fr.refl _ _⟩) (HW.yes rfl rfl rfl hb6 (fun w1 H1 => op_load rfl (H1.cell (i := 6) rfl rfl) Try.underlying29 rfl ⟨rfl, Fr.refl _ _⟩) (HW.yes rfl rfl rfl hb6 (fun w1 H1 => op_indexAddr1 Try.underlying46 Fa.I29 rfl (H1.arrO (i := 1) rfl) rfl (by omega) ⟨rfl, Fr.refl _ _⟩) (HW.yes rfl rfl rfl hb6 (fun w1 H1 => op_load rfl ((H1.arrO (i := 1) rfl).at (get_map vU32 0 (Arr.ltM (H1.arrO (i := 1) rfl) (by omega)))) Try.underlying29 rfl ⟨rfl, Fr.refl _ _⟩) (HW.yes rfl rfl rfl hb6 (fun w1 H1 => op_gtrU32 rfl rfl ⟨rfl, Fr.refl _ _⟩) (HW.op rfl (fun w1 H1 => op_pickT rfl hb6 rfl ⟨rfl, Fr.refl _ _⟩)  HW.nil)))))))))))))))))))))))) (by kernel_rfl) ?_
   intro β7 w7 H7
   refine wn ?_
   refine WC.cond rfl (fun (hb8 : (decide ((xs.getD k Xt.zero).bl > (he.getD (xs.getD k Xt.zero).id.toNat 0))) = true) => ?_) (fun (hb8 : (decide ((xs.getD k Xt.zero).bl > (he.getD (xs.getD k Xt.zero).id.toNat 0))) = false) => ?_)
   ·
    have hc8 := of_decide_eq_true hb8
    refine ws ?_
    refine wo (op_assign rfl ?_)
    refine wn ?_
    refine WC.ret ?_
    refine WQ.inRet ?_
    refine WQ.thenRet ?_
    refine WQ.thenRet ?_
    refine WQ.inRet ?_
    refine WQ.thenRet ?_
    refine WQ.out (.tmp rfl .nil) ?_
    exact ⟨by rw [longE_yes (k := k) (by omega) (by rw [longX, hb6, hb8]; rfl)]; rfl, H7.fr⟩
   ·
    have hc8 := of_decide_eq_false hb8
    refine WC.skip ?_
    refine WQ.inNormal ?_
    refine WQ.next ?_
    refine WC.region ?_
    refine wo (op_addN (b := 1) rfl rfl (by omega) ?_)
    refine wo (op_move rfl ?_)
    refine WL.nil ?_
    exact WQ.round (k + 1) ⟨⟨by omega, fun j h => by rcases Nat.lt_or_ge j k with h9 | h9; exact hok j h9; rw [show j = k by omega]; exact (by rw [longX, hb6, hb8]; rfl)⟩, (H7.take 6)⟩ ⟨rfl, rfl, rfl, rfl, trivial⟩ (by omega)
  ·
   have hc6 := of_decide_eq_false hb6
   refine WC.draw 24 Fa.M H5 (HW.op rfl (fun w1 H1 => op_fieldAddr rfl Fa.F108_0 ⟨rfl, Fr.refl _ _⟩) (HW.op rfl (fun w1 H1 => op_load rfl (H1.cell (i := 6) rfl rfl) Try.underlying29 rfl ⟨rfl, Fr.refl _ _⟩) (HW.op rfl (fun w1 H1 => op_convU32N (hs := Try.underlying29) (hd := Try.underlying3) rfl ⟨rfl, Fr.refl _ _⟩) (HW.op rfl (fun w1 H1 => op_move rfl ⟨rfl, Fr.refl _ _⟩) (HW.op rfl (fun w1 H1 => op_nilCheck rfl ⟨rfl, Fr.refl _ _⟩) (HW.op rfl (fun w1 H1 => op_fieldAddr rfl Fa.F112_0 ⟨rfl, Fr.refl _ _⟩) (HW.op rfl (fun w1 H1 => op_fieldAddr rfl Fa.F48_1 ⟨rfl, Fr.refl _ _⟩) (HW.op rfl (fun w1 H1 => op_load rfl (H1.cellO (i := 0) rfl rfl) Try.underlying46 rfl ⟨rfl, Fr.refl _ _⟩) (HW.op rfl (fun w1 H1 => op_lenA Try.underlying46 rfl (H1.arrO (i := 1) rfl) ⟨rfl, Fr.refl _ _⟩) (HW.op rfl (fun w1 H1 => op_lssN rfl rfl ⟨rfl, Fr.refl _ _⟩) (HW.op rfl (fun w1 H1 => op_move rfl ⟨rfl, Fr.refl _ _⟩) (HW.no rfl rfl rfl hb6 (HW.no rfl rfl rfl hb6 (HW.no rfl rfl rfl hb6 (HW.no rfl rfl rfl hb6 (HW.no rfl rfl rfl hb6 (HW.no rfl rfl rfl hb6 (HW.no rfl rfl rfl hb6 (HW.no rfl rfl rfl hb6 (HW.no rfl rfl rfl hb6 (HW.no rfl rfl rfl hb6 (HW.no rfl rfl rfl hb6 (HW.no rfl rfl rfl hb6 (HW.op rfl (fun w1 H1 => op_pickF rfl hb6 rfl ⟨rfl, Fr.refl _ _⟩)  HW.nil)))))))))))))))))))))))) (by kernel_rfl) ?_
   intro β9 w9 H9
   refine wn ?_
   refine WC.no rfl rfl ?_
   refine WC.skip ?_
   refine WQ.inNormal ?_
   refine WQ.next ?_
   refine WC.region ?_
   refine wo (op_addN (b := 1) rfl rfl (by omega) ?_)
   refine wo (op_move rfl ?_)
   refine WL.nil ?_
   exact WQ.round (k + 1) ⟨⟨by omega, fun j h => by rcases Nat.lt_or_ge j k with h9 | h9; exact hok j h9; rw [show j = k by omega]; exact (by rw [longX, hb6]; rfl)⟩, (H9.take 6)⟩ ⟨rfl, rfl, rfl, rfl, trivial⟩ (by omega)
 ·
  have hc3 := of_decide_eq_false hb3
  refine WC.exit ?_
  refine WQ.thenExit ?_
  refine WQ.thenExit ?_
  refine WQ.inHere ?_
  refine WQ.next ?_
  refine ws ?_
  refine wo (op_assign rfl ?_)
  refine wn ?_
  refine WC.ret ?_
  refine WQ.out (.tmp rfl .nil) ?_
  exact ⟨by rw [longE_no (fun j hj => hok j (by omega))]; rfl, H2.fr⟩
end Go.Proofs.Ytbjhccnffacbcaa
/-! from WCap3 -/
namespace Go.Proofs.Ytbjhccnffacbcaa
open Go.Owl Go.Spec
set_option maxRecDepth 100000 in
theorem extent_ok (mp : UInt32) (ev pv : Value) (xs : List Xt) (ps : List UInt16) (con : Bool) (id : UInt32) (w : World) (hE : Arr w ev 2 xs.length (List.flatMap xtc xs)) (hP : Arr w pv 1 ps.length (List.map vU16 ps)) (hn : xs.length < 2 ^ 40) (hm : ps.length < 2 ^ 40) :
  Calls Try.prog 64 #[(.agg #[(vU32 mp), ev, pv, (.bool con)]), (vU32 id)] w (fun e w' => e = .returned (.tuple #[.agg #[vU32 (extG xs id).id, vU32 (extG xs id).bl], .bool (hasX xs id)]) ∧ Fr [] w w') := by
 refine enter (args := [(.agg #[(vU32 mp), ev, pv, (.bool con)]), (vU32 id)]) Try.func64 rfl rfl ?_
 have H0 : Owl.Own [] w w [] := Own.start w []
 refine ws ?_
 refine wo (op_box H0 rfl rfl (fun b1 w1 H1 => ?_))
 refine wo (op_alloc H1 Fa.I108 (fun b2 w2 H2 => ?_))
 refine wo (op_assign rfl ?_)
 refine wn ?_
 refine WC.seq ?_
 refine ws ?_
 refine wo (op_fieldAddr rfl Fa.F59_1 ?_)
 refine wo (op_load rfl (H2.cell (i := 0) rfl rfl) Try.underlying56 rfl ?_)
 refine wo (op_lenA Try.underlying56 rfl (H2.arr hE) ?_)
 refine wo (op_move rfl ?_)
 refine wn ?_
 refine WC.block ?_
 refine WC.loop (α := Nat) (fun k => [(0, (.agg #[(vU32 mp), ev, pv, (.bool con)])), (1, (vU32 id)), (4, (ptr b2 0)), (9, ev), (10, (vN xs.length)), (11, (vN k))]) (fun k w' => (k ≤ xs.length ∧ (∀ j, j < k → xtIs id (xs.getD j Xt.zero) = false)) ∧ Owl.Own [] w w' [.blk b1 [(vU32 mp), ev, pv, (.bool con)] 59, .blk b2 [(vU32 0), (vU32 0)] 108]) (fun k => xs.length - k) 0 ⟨⟨Nat.zero_le _, fun j h => by omega⟩, H2⟩ ⟨rfl, rfl, rfl, rfl, rfl, rfl, trivial⟩ ?_
 rintro k w3 ⟨⟨hk1, hok⟩, H3⟩
 show WC _ _ _ _ _ [(0, (.agg #[(vU32 mp), ev, pv, (.bool con)])), (1, (vU32 id)), (4, (ptr b2 0)), (9, ev), (10, (vN xs.length)), (11, (vN k))] _
 refine ws ?_
 refine wo (op_lssN rfl rfl ?_)
 refine wn ?_
 refine WC.seq ?_
 refine WC.cond rfl (fun (hb4 : (decide (k < xs.length)) = true) => ?_) (fun (hb4 : (decide (k < xs.length)) = false) => ?_)
 ·
  have hc4 := of_decide_eq_true hb4
  refine WC.skip ?_
  refine WQ.next ?_
  refine WC.seq ?_
  refine WC.block ?_
  refine ws ?_
  refine wo (op_indexAddr Try.underlying56 Fa.I108 rfl (H3.arr hE) rfl (by omega) ?_)
  refine wo (op_loadSP (vs := xtc (xs.getD k Xt.zero)) rfl (Arr.atsF (H3.arr hE) (fun _ => rfl) (by decide) Xt.zero (by omega)) Try.underlying108 rfl Fa.I108 rfl ?_)
  refine wo (op_alloc H3 Fa.I108 (fun b5 w5 H5 => ?_))
  refine wo (op_storeBW (i := 2) H5 rfl rfl rfl rfl rfl Fa.I108 (fun w6 H6 => ?_))
  refine wn ?_
  refine ws ?_
  refine wo (op_fieldAddr rfl Fa.F108_0 ?_)
  refine wo (op_load rfl (H6.cell (i := 2) rfl rfl) Try.underlying29 rfl ?_)
  refine wo (op_move rfl ?_)
  refine wo (op_eqlU32 rfl rfl ?_)
  refine wn ?_
  refine WC.cond rfl (fun (hb7 : (decide ((xs.getD k Xt.zero).id = id)) = true) => ?_) (fun (hb7 : (decide ((xs.getD k Xt.zero).id = id)) = false) => ?_)
  ·
   have hc7 := of_decide_eq_true hb7
   refine ws ?_
   refine wo (op_loadS (vs := [_, _]) rfl (H6.cells (i := 2) rfl rfl) Try.underlying108 rfl Fa.I108 rfl ?_)
   refine wo (op_storeBW (i := 1) H6 rfl rfl rfl rfl rfl Fa.I108 (fun w8 H8 => ?_))
   refine wo (op_assign rfl ?_)
   refine wn ?_
   refine WC.ret ?_
   refine WQ.inRet ?_
   refine WQ.thenRet ?_
   refine WQ.thenRet ?_
   refine WQ.inRet ?_
   refine WQ.thenRet ?_
   refine WQ.out (.cell rfl (run_loadVarS (vs := [_, _]) (H8.cells (i := 1) rfl rfl) Try.underlying108 rfl Fa.I108 rfl) (.tmp rfl .nil)) ?_
   exact ⟨by rw [(extG_yes (k := k) (by omega) hok hb7).1, (extG_yes (k := k) (by omega) hok hb7).2]; rfl, H8.fr⟩
  ·
   have hc7 := of_decide_eq_false hb7
   refine WC.skip ?_
   refine WQ.inNormal ?_
   refine WQ.next ?_
   refine WC.region ?_
   refine wo (op_addN (b := 1) rfl rfl (by omega) ?_)
   refine wo (op_move rfl ?_)
   refine WL.nil ?_
   exact WQ.round (k + 1) ⟨⟨by omega, allPrev hok hb7⟩, (H6.take 2)⟩ ⟨rfl, rfl, rfl, rfl, rfl, rfl, trivial⟩ (by omega)
 ·
  have hc4 := of_decide_eq_false hb4
  refine WC.exit ?_
  refine WQ.thenExit ?_
  refine WQ.thenExit ?_
  refine WQ.inHere ?_
  refine WQ.next ?_
  refine ws ?_
  refine wo (op_build (cs := [_, _]) Fa.I108 Fa.PL108 rfl rfl ?_)
  refine wo (op_storeBW (i := 1) H3 rfl rfl rfl rfl rfl Fa.I108 (fun w9 H9 => ?_))
  refine wo (op_assign rfl ?_)
  refine wn ?_
  refine WC.ret ?_
  refine WQ.out (.cell rfl (run_loadVarS (vs := [_, _]) (H9.cells (i := 1) rfl rfl) Try.underlying108 rfl Fa.I108 rfl) (.tmp rfl .nil)) ?_
  exact ⟨by rw [(extG_no (fun j hj => hok j (by omega))).1, (extG_no (fun j hj => hok j (by omega))).2]; rfl, H9.fr⟩
set_option maxRecDepth 100000 in
theorem busyP_ok (y : UInt16) (cb : Nat) (g : Gr) (w : World) (hCb : cellsAt w cb [(ptr g.b 0)]) (hGb : cellsAt w g.b [(vU32 g.pg), g.ev, g.pv, (.bool g.con), (vU32 g.pp), (vU32 g.tk)]) (hGe : Arr w g.ev 2 g.xs.length (List.flatMap xtc g.xs)) (hGp : Arr w g.pv 1 g.ps.length (List.map vU16 g.ps)) (hgp : g.ps.length < 2 ^ 40) :
  Calls Try.prog 123 #[(vU16 y), (ptr cb 0)] w (fun e w' => e = .returned (.bool (busyQ g y)) ∧ Fr [] w w') := by
 refine enter (args := [(vU16 y), (ptr cb 0)]) Try.func123 rfl rfl ?_
 have H0 : Owl.Own [] w w [Ent.bo cb [(ptr g.b 0)], Ent.bo g.b [(vU32 g.pg), g.ev, g.pv, (.bool g.con), (vU32 g.pp), (vU32 g.tk)], Ent.ar g.ev 2 g.xs.length (List.flatMap xtc g.xs), Ent.ar g.pv 1 g.ps.length (List.map vU16 g.ps)] := (((((Own.start w []).oldB hCb).oldB hGb).oldA hGe).oldA hGp)
 refine ws ?_
 refine wo (op_assign rfl ?_)
 refine wn ?_
 refine ws ?_
 refine wo (op_load rfl (H0.cellO (i := 0) rfl rfl) Try.underlying114 rfl ?_)
 refine wo (op_nilCheck rfl ?_)
 refine wo (op_fieldAddr rfl Fa.F120_0 ?_)
 refine wo (op_fieldAddr rfl Fa.F59_2 ?_)
 refine wo (op_load rfl (H0.cellO (i := 1) rfl rfl) Try.underlying57 rfl ?_)
 refine wo (op_move rfl ?_)
 refine wo (op_callF Fa.C63 rfl ((con16_ok _ g.ps y _ (H0.arrO (i := 3) rfl) (by omega)).mono (fun e w1 hq => ?_)))
 obtain ⟨rfl, hf1⟩ := hq
 refine ⟨_, rfl, ?_⟩
 have H1 := H0.fr' hf1
 refine wo (op_assign rfl ?_)
 refine wn ?_
 refine WC.ret ?_
 refine WQ.out (.tmp rfl .nil) ?_
 exact ⟨rfl, H1.fr⟩
set_option maxRecDepth 100000 in
theorem idxB_ok (cb : Nat) (g : Gr) (lv : Value) (l : List UInt16) (w : World) (hA : Arr w lv 1 l.length (List.map vU16 l)) (hCb : cellsAt w cb [(ptr g.b 0)]) (hGb : cellsAt w g.b [(vU32 g.pg), g.ev, g.pv, (.bool g.con), (vU32 g.pp), (vU32 g.tk)]) (hGe : Arr w g.ev 2 g.xs.length (List.flatMap xtc g.xs)) (hGp : Arr w g.pv 1 g.ps.length (List.map vU16 g.ps)) (hgp : g.ps.length < 2 ^ 40) (hn : l.length < 2 ^ 40) :
  Calls Try.prog 142 #[lv, (.func (.func 123) #[] #[(ptr cb 0)])] w (fun e w' => e = .returned (vI (fidx (busyQ g) l)) ∧ Fr [] w w') := by
 refine enter (args := [lv, (.func (.func 123) #[] #[(ptr cb 0)])]) Try.func142 rfl rfl ?_
 have H0 : Owl.Own [] w w [Ent.bo cb [(ptr g.b 0)], Ent.bo g.b [(vU32 g.pg), g.ev, g.pv, (.bool g.con), (vU32 g.pp), (vU32 g.tk)], Ent.ar g.ev 2 g.xs.length (List.flatMap xtc g.xs), Ent.ar g.pv 1 g.ps.length (List.map vU16 g.ps)] := (((((Own.start w []).oldB hCb).oldB hGb).oldA hGe).oldA hGp)
 refine ws ?_
 refine wo (op_assign rfl ?_)
 refine wn ?_
 refine WC.seq ?_
 refine ws ?_
 refine wo (op_move rfl ?_)
 refine wo (op_lenA Try.underlying57 rfl (H0.arr hA) ?_)
 refine wo (op_move rfl ?_)
 refine wn ?_
 refine WC.block ?_
 refine WC.loop (α := Nat) (fun k => [(0, lv), (1, (.func (.func 123) #[] #[(ptr cb 0)])), (7, (vN l.length)), (8, (vN k))]) (fun k w' => (k ≤ l.length ∧ (∀ j, j < k → busyQ g (l.getD j 0) = false)) ∧ Owl.Own [] w w' [Ent.bo cb [(ptr g.b 0)], Ent.bo g.b [(vU32 g.pg), g.ev, g.pv, (.bool g.con), (vU32 g.pp), (vU32 g.tk)], Ent.ar g.ev 2 g.xs.length (List.flatMap xtc g.xs), Ent.ar g.pv 1 g.ps.length (List.map vU16 g.ps)]) (fun k => l.length - k) 0 ⟨⟨Nat.zero_le _, fun j h => by omega⟩, H0⟩ ⟨rfl, rfl, rfl, rfl, trivial⟩ ?_
 rintro k w1 ⟨⟨hk1, hok⟩, H1⟩
 show WC _ _ _ _ _ [(0, lv), (1, (.func (.func 123) #[] #[(ptr cb 0)])), (7, (vN l.length)), (8, (vN k))] _
 refine ws ?_
 refine wo (op_lssN rfl rfl ?_)
 refine wn ?_
 refine WC.seq ?_
 refine WC.cond rfl (fun (hb2 : (decide (k < l.length)) = true) => ?_) (fun (hb2 : (decide (k < l.length)) = false) => ?_)
 ·
  have hc2 := of_decide_eq_true hb2
  refine WC.skip ?_
  refine WQ.next ?_
  refine WC.seq ?_
  refine WC.block ?_
  refine ws ?_
  refine wo (op_move rfl ?_)
  refine wo (op_assign rfl ?_)
  refine wn ?_
  refine ws ?_
  refine wo (op_move rfl ?_)
  refine wo (op_move rfl ?_)
  refine wo (op_move rfl ?_)
  refine wo (op_indexAddr1 Try.underlying57 Fa.I50 rfl (H1.arr hA) rfl (by omega) ?_)
  refine wo (op_load rfl ((H1.arr hA).at (get_map vU16 0 (Arr.ltM (H1.arr hA) (by omega)))) Try.underlying50 rfl ?_)
  refine wo (op_call (f := 123) rfl Fa.C123 rfl ((busyP_ok (l.getD k 0) cb g _ (H1.cellsAtO (i := 0) rfl) (H1.cellsAtO (i := 1) rfl) (H1.arrO (i := 2) rfl) (H1.arrO (i := 3) rfl) hgp).mono (fun e w3 hq => ?_)))
  obtain ⟨rfl, hf3⟩ := hq
  refine ⟨_, rfl, ?_⟩
  have H3 := H1.fr' hf3
  refine wn ?_
  refine WC.cond rfl (fun (hb4 : (busyQ g (l.getD k 0)) = true) => ?_) (fun (hb4 : (busyQ g (l.getD k 0)) = false) => ?_)
  ·
   refine ws ?_
   refine wo (op_move rfl ?_)
   refine wo (op_assign rfl ?_)
   refine wn ?_
   refine WC.ret ?_
   refine WQ.inRet ?_
   refine WQ.thenRet ?_
   refine WQ.thenRet ?_
   refine WQ.inRet ?_
   refine WQ.thenRet ?_
   refine WQ.out (.tmp rfl .nil) ?_
   exact ⟨by rw [fidx_yes (d := 0) (by omega) hok hb4]; rfl, H3.fr⟩
  ·
   refine WC.skip ?_
   refine WQ.inNormal ?_
   refine WQ.next ?_
   refine WC.region ?_
   refine wo (op_addN (b := 1) rfl rfl (by omega) ?_)
   refine wo (op_move rfl ?_)
   refine WL.nil ?_
   exact WQ.round (k + 1) ⟨⟨by omega, allPrev hok hb4⟩, H3⟩ ⟨rfl, rfl, rfl, rfl, trivial⟩ (by omega)
 ·
  have hc2 := of_decide_eq_false hb2
  refine WC.exit ?_
  refine WQ.thenExit ?_
  refine WQ.thenExit ?_
  refine WQ.inHere ?_
  refine WQ.next ?_
  refine ws ?_
  refine wo (op_assign rfl ?_)
  refine wn ?_
  refine WC.ret ?_
  refine WQ.out (.tmp rfl .nil) ?_
  exact ⟨by rw [fidx_no (d := 0) (fun j hj => hok j (by omega))]; rfl, H1.fr⟩
set_option maxRecDepth 100000 in
theorem conB_ok (cb : Nat) (g : Gr) (lv : Value) (l : List UInt16) (w : World) (hA : Arr w lv 1 l.length (List.map vU16 l)) (hCb : cellsAt w cb [(ptr g.b 0)]) (hGb : cellsAt w g.b [(vU32 g.pg), g.ev, g.pv, (.bool g.con), (vU32 g.pp), (vU32 g.tk)]) (hGe : Arr w g.ev 2 g.xs.length (List.flatMap xtc g.xs)) (hGp : Arr w g.pv 1 g.ps.length (List.map vU16 g.ps)) (hgp : g.ps.length < 2 ^ 40) (hn : l.length < 2 ^ 40) :
  Calls Try.prog 122 #[lv, (.func (.func 123) #[] #[(ptr cb 0)])] w (fun e w' => e = .returned (.bool (l.any (busyQ g))) ∧ Fr [] w w') := by
 refine enter (args := [lv, (.func (.func 123) #[] #[(ptr cb 0)])]) Try.func122 rfl rfl ?_
 have H0 : Owl.Own [] w w [Ent.bo cb [(ptr g.b 0)], Ent.bo g.b [(vU32 g.pg), g.ev, g.pv, (.bool g.con), (vU32 g.pp), (vU32 g.tk)], Ent.ar g.ev 2 g.xs.length (List.flatMap xtc g.xs), Ent.ar g.pv 1 g.ps.length (List.map vU16 g.ps)] := (((((Own.start w []).oldB hCb).oldB hGb).oldA hGe).oldA hGp)
 refine ws ?_
 refine wo (op_assign rfl ?_)
 refine wn ?_
 refine ws ?_
 refine wo (op_move rfl ?_)
 refine wo (op_move rfl ?_)
 refine wo (op_callF Fa.C142 rfl ((idxB_ok cb g _ l _ (H0.arr hA) (H0.cellsAtO (i := 0) rfl) (H0.cellsAtO (i := 1) rfl) (H0.arrO (i := 2) rfl) (H0.arrO (i := 3) rfl) hgp hn).mono (fun e w1 hq => ?_)))
 obtain ⟨rfl, hf1⟩ := hq
 refine ⟨_, rfl, ?_⟩
 have H1 := H0.fr' hf1
 refine wo (op_geqI (b := (0 : Int)) rfl rfl ?_)
 refine wo (op_assign rfl ?_)
 refine wn ?_
 refine WC.ret ?_
 refine WQ.out (.tmp rfl .nil) ?_
 exact ⟨by rw [← fidx_any]; rfl, H1.fr⟩
end Go.Proofs.Ytbjhccnffacbcaa
/-! from WCap4 -/
namespace Go.Proofs.Ytbjhccnffacbcaa
open Go.Owl Go.Spec
set_option maxHeartbeats 2000000 in
set_option maxRecDepth 100000 in
theorem busy_ok (c : Nat) (pg : UInt32) (hv : Value) (he : List UInt32) (mb cn : Nat) (gs : List Gr) (mp : UInt32) (ev pv : Value) (xs : List Xt) (ps : List UInt16) (con : Bool) (w : World) (hC : cellsAt w c [(vU32 pg), hv, (.map (some mb))]) (hH : Arr w hv 1 he.length (List.map vU32 he)) (hM : w.heap[mb]? = some (mP .i64 (List.map Gr.me gs) cn)) (hG : BsOK 120 Gr.cells Gr.b gs w) (hS : grD.list.ok w gs) (hME : MEok (List.map Gr.me gs) cn) (hfit : ∀ g ∈ gs, g.ps.length < 2 ^ 40 ∧ g.xs.length < 2 ^ 40) (hE : Arr w ev 2 xs.length (List.flatMap xtc xs)) (hP : Arr w pv 1 ps.length (List.map vU16 ps)) (hn : xs.length < 2 ^ 40) (hm : ps.length < 2 ^ 40) (hhe : he.length < 2 ^ 32) :
    Calls Try.prog 98 #[(ptr c 0), (.agg #[(vU32 mp), ev, pv, (.bool con)])] w (fun e w' => e = .returned (vN (busyE gs xs ps)) ∧ Fr [] w w') := by
  refine enter (args := [(ptr c 0), (.agg #[(vU32 mp), ev, pv, (.bool con)])]) Try.func98 rfl rfl ?_
  have H0 : Owl.Own [] w w [Ent.bo c [(vU32 pg), hv, (.map (some mb))], Ent.ar hv 1 he.length (List.map vU32 he), Ent.mo .i64 mb (List.map Gr.me gs) cn, Ent.bsO 120 Gr.cells Gr.b gs, Ent.dp grD.list gs] := ((((((Own.start w []).oldB hC).oldA hH).mpOld hM).bsOld hG).dpOld hS)
  refine ws ?_
  refine wo (op_box H0 rfl rfl (fun b1 w1 H1 => ?_))
  refine wo (op_assign rfl ?_)
  refine wn ?_
  refine WC.seq ?_
  refine ws ?_
  refine wo (op_move rfl ?_)
  refine wo (op_nilCheck rfl ?_)
  refine wo (op_fieldAddr rfl Fa.F112_1 ?_)
  refine wo (op_load rfl (H1.cellO (i := 0) rfl rfl) Try.underlying110 rfl ?_)
  refine wo (op_rangeP H1 (H1.mpO (i := 2) rfl) Try.underlying110 rfl (fun b2 w2 H2 => ?_))
  refine wn ?_
  refine WC.block ?_
  refine WC.loop (α := List Gr × List Gr) (fun (sn, rst) => [(3, (ptr b1 0)), (15, (ptr b2 0))]) (fun (sn, rst) w' => (gs.Perm (sn ++ rst) ∧ ∀ g ∈ sn, busyG xs ps g = false) ∧ Owl.Own [] w w' [Ent.bo c [(vU32 pg), hv, (.map (some mb))], Ent.ar hv 1 he.length (List.map vU32 he), Ent.mo .i64 mb (List.map Gr.me gs) cn, Ent.bsO 120 Gr.cells Gr.b gs, Ent.dp grD.list gs, .blk b1 [(vU32 mp), ev, pv, (.bool con)] 59, .obj b2 (itO mb cn (List.map Gr.me sn))]) (fun (sn, rst) => rst.length) ([], gs) ⟨⟨List.Perm.refl _, fun g h => (by cases h)⟩, H2⟩ ⟨rfl, rfl, trivial⟩ ?_
  rintro ⟨sn, rst⟩ w3 ⟨⟨hpm, hno⟩, H3⟩
  show WC _ _ _ _ _ [(3, (ptr b1 0)), (15, (ptr b2 0))] _
  refine ws ?_
  refine wo (op_nextG (i := 6) (sn := sn) (rest := rst) H3 rfl (H3.mpO (i := 2) rfl) hME hpm rfl (fun h0 => ?_) (fun g4 rs4 hl4 hp4 w4 H4 => ?_))
  ·
    refine wo (op_extract rfl rfl ?_)
    refine wn ?_
    refine WC.seq ?_
    refine WC.no rfl rfl ?_
    refine WC.exit ?_
    refine WQ.thenExit ?_
    refine WQ.thenExit ?_
    refine WQ.inHere ?_
    refine WQ.next ?_
    refine ws ?_
    refine wo (op_assign rfl ?_)
    refine wn ?_
    refine WC.ret ?_
    refine WQ.out (.tmp rfl .nil) ?_
    exact ⟨by rw [h0, List.append_nil] at hpm; rw [busyE_no hpm hno]; rfl, H3.fr⟩
  ·
    have H5 : Owl.Own [] w w4 [Ent.bo c [(vU32 pg), hv, (.map (some mb))], Ent.ar hv 1 he.length (List.map vU32 he), Ent.mo .i64 mb (List.map Gr.me gs) cn, Ent.bsO 120 Gr.cells Gr.b gs, Ent.dp grD.list gs, .blk b1 [(vU32 mp), ev, pv, (.bool con)] 59, .obj b2 (itO mb cn (List.map Gr.me (sn ++ [g4]))), Ent.bo g4.b [(vU32 g4.pg), g4.ev, g4.pv, (.bool g4.con), (vU32 g4.pp), (vU32 g4.tk)], Ent.ar g4.ev 2 g4.xs.length (List.flatMap xtc g4.xs), Ent.ar g4.pv 1 g4.ps.length (List.map vU16 g4.ps)] := (((H4.bsView (i := 3) (a := g4) rfl (hp4.mem_iff.2 (by simp))).dpView (i := 4) (a := g4) rfl (hp4.mem_iff.2 (by simp)) (fun w h => h.1) (fun b hb => List.mem_append.2 (.inl hb))).dpView (i := 4) (a := g4) rfl (hp4.mem_iff.2 (by simp)) (fun w h => h.2) (fun b hb => List.mem_append.2 (.inr hb)))
    have hgf := hfit g4 (hp4.mem_iff.2 (by simp))
    have hgp := hgf.1
    have hgx := hgf.2
    refine wo (op_extract rfl rfl ?_)
    refine wn ?_
    refine WC.seq ?_
    refine WC.yes rfl rfl ?_
    refine WC.skip ?_
    refine WQ.next ?_
    refine WC.block ?_
    refine ws ?_
    refine wo (op_entryG (i := 6) (sn := sn) (g := g4) H5 rfl (H5.mpO (i := 2) rfl) hME hp4 rfl ?_)
    refine wo (op_extract rfl rfl ?_)
    refine wo (op_alloc H5 Fa.I114 (fun b6 w6 H6 => ?_))
    refine wo (op_storeB (i := 10) H6 rfl rfl rfl rfl rfl Fa.I114 (fun w7 H7 => ?_))
    refine wn ?_
    refine WC.seq ?_
    refine ws ?_
    refine wo (op_fieldAddr rfl Fa.F59_2 ?_)
    refine wo (op_load rfl (H7.cell (i := 5) rfl rfl) Try.underlying57 rfl ?_)
    refine wo (op_makeFunc rfl rfl ?_)
    refine wo (op_callF Fa.C122 rfl ((conB_ok b6 g4 _ ps _ (H7.arr hP) (H7.cellsAt (i := 10) rfl) (H7.cellsAtO (i := 7) rfl) (H7.arrO (i := 8) rfl) (H7.arrO (i := 9) rfl) hgp hm).mono (fun e w8 hq => ?_)))
    obtain ⟨rfl, hf8⟩ := hq
    refine ⟨_, rfl, ?_⟩
    have H8 := H7.fr' hf8
    refine wn ?_
    refine WC.cond rfl (fun (hb9 : (ps.any (busyQ g4)) = true) => ?_) (fun (hb9 : (ps.any (busyQ g4)) = false) => ?_)
    ·
      refine ws ?_
      refine wo (op_assign rfl ?_)
      refine wn ?_
      refine WC.ret ?_
      refine WQ.thenRet ?_
      refine WQ.inRet ?_
      refine WQ.thenRet ?_
      refine WQ.inRet ?_
      refine WQ.thenRet ?_
      refine WQ.out (.tmp rfl .nil) ?_
      exact ⟨by rw [busyE_yes (g := g4) (hp4.mem_iff.2 (by simp)) (by rw [busyG, hb9]; rfl)]; rfl, H8.fr⟩
    ·
      refine WC.skip ?_
      refine WQ.next ?_
      refine ws ?_
      refine wo (op_fieldAddr rfl Fa.F59_1 ?_)
      refine wo (op_load rfl (H8.cell (i := 5) rfl rfl) Try.underlying56 rfl ?_)
      refine wo (op_lenA Try.underlying56 rfl (H8.arr hE) ?_)
      refine wo (op_move rfl ?_)
      refine wn ?_
      refine WC.block ?_
      refine WC.loop (α := Nat) (fun k => [(3, (ptr b1 0)), (6, (ptr b6 0)), (15, (ptr b2 0)), (25, ev), (26, (vN xs.length)), (27, (vN k))]) (fun k w' => (k ≤ xs.length ∧ (∀ j, j < k → busyX g4 (xs.getD j Xt.zero) = false)) ∧ Owl.Own [] w w' [Ent.bo c [(vU32 pg), hv, (.map (some mb))], Ent.ar hv 1 he.length (List.map vU32 he), Ent.mo .i64 mb (List.map Gr.me gs) cn, Ent.bsO 120 Gr.cells Gr.b gs, Ent.dp grD.list gs, .blk b1 [(vU32 mp), ev, pv, (.bool con)] 59, .obj b2 (itO mb cn (List.map Gr.me (sn ++ [g4]))), Ent.bo g4.b [(vU32 g4.pg), g4.ev, g4.pv, (.bool g4.con), (vU32 g4.pp), (vU32 g4.tk)], Ent.ar g4.ev 2 g4.xs.length (List.flatMap xtc g4.xs), Ent.ar g4.pv 1 g4.ps.length (List.map vU16 g4.ps), .blk b6 [(ptr g4.b 0)] 114]) (fun k => xs.length - k) 0 ⟨⟨Nat.zero_le _, fun j h => by omega⟩, H8⟩ ⟨rfl, rfl, rfl, rfl, rfl, rfl, trivial⟩ ?_
      rintro k w10 ⟨⟨hk1, hok⟩, H10⟩
      show WC _ _ _ _ _ [(3, (ptr b1 0)), (6, (ptr b6 0)), (15, (ptr b2 0)), (25, ev), (26, (vN xs.length)), (27, (vN k))] _
      refine ws ?_
      refine wo (op_lssN rfl rfl ?_)
      refine wn ?_
      refine WC.seq ?_
      refine WC.cond rfl (fun (hb11 : (decide (k < xs.length)) = true) => ?_) (fun (hb11 : (decide (k < xs.length)) = false) => ?_)
      ·
        have hc11 := of_decide_eq_true hb11
        refine WC.skip ?_
        refine WQ.next ?_
        refine WC.seq ?_
        refine WC.block ?_
        refine ws ?_
        refine wo (op_indexAddr Try.underlying56 Fa.I108 rfl (H10.arr hE) rfl (by omega) ?_)
        refine wo (op_loadSP (vs := xtc (xs.getD k Xt.zero)) rfl (Arr.atsF (H10.arr hE) (fun _ => rfl) (by decide) Xt.zero (by omega)) Try.underlying108 rfl Fa.I108 rfl ?_)
        refine wo (op_alloc H10 Fa.I108 (fun b12 w12 H12 => ?_))
        refine wo (op_storeBW (i := 11) H12 rfl rfl rfl rfl rfl Fa.I108 (fun w13 H13 => ?_))
        refine wn ?_
        refine WC.seq ?_
        refine WC.held 13 rfl Fa.M H13 (fun w' => ∃ L', Owl.Own [] w w' ([Ent.bo c [(vU32 pg), hv, (.map (some mb))], Ent.ar hv 1 he.length (List.map vU32 he), Ent.mo .i64 mb (List.map Gr.me gs) cn, Ent.bsO 120 Gr.cells Gr.b gs, Ent.dp grD.list gs, .blk b1 [(vU32 mp), ev, pv, (.bool con)] 59, .obj b2 (itO mb cn (List.map Gr.me (sn ++ [g4]))), Ent.bo g4.b [(vU32 g4.pg), g4.ev, g4.pv, (.bool g4.con), (vU32 g4.pp), (vU32 g4.tk)], Ent.ar g4.ev 2 g4.xs.length (List.flatMap xtc g4.xs), Ent.ar g4.pv 1 g4.ps.length (List.map vU16 g4.ps), .blk b6 [(ptr g4.b 0)] 114, .blk b12 [(vU32 (xs.getD k Xt.zero).id), (vU32 (xs.getD k Xt.zero).bl)] 108] ++ L')) ?_
        intro w14 H14
        refine WH.take (i := 0) (v := (ptr g4.b 0)) rfl rfl (.inl rfl) rfl (by kernel_rfl) ⟨[], H14⟩ (fun wX hSX => hSX.elim fun LX HX => op_load rfl (HX.cell (i := 10) rfl rfl) Try.underlying114 rfl ⟨rfl, rfl⟩) ?_
        refine WH.take (i := 4) (v := (ptr b12 0)) rfl rfl (.inl rfl) rfl (by kernel_rfl) ⟨[], H14⟩ (fun wX hSX => hSX.elim fun LX HX => op_fieldAddr rfl Fa.F108_0 ⟨rfl, rfl⟩) ?_
        refine WH.take (i := 5) (v := (vU32 (xs.getD k Xt.zero).id)) rfl rfl (.inl rfl) rfl (by kernel_rfl) ⟨[], H14⟩ (fun wX hSX => hSX.elim fun LX HX => op_load rfl (HX.cell (i := 11) rfl rfl) Try.underlying29 rfl ⟨rfl, rfl⟩) ?_
        refine WH.named (fun W hW => ?_)
        have st9_6 : ∀ (b25201 : Nat) (wS : World), Owl.Own [] w wS [Ent.bo c [(vU32 pg), hv, (.map (some mb))], Ent.ar hv 1 he.length (List.map vU32 he), Ent.mo .i64 mb (List.map Gr.me gs) cn, Ent.bsO 120 Gr.cells Gr.b gs, Ent.dp grD.list gs, .blk b1 [(vU32 mp), ev, pv, (.bool con)] 59, .obj b2 (itO mb cn (List.map Gr.me (sn ++ [g4]))), Ent.bo g4.b [(vU32 g4.pg), g4.ev, g4.pv, (.bool g4.con), (vU32 g4.pp), (vU32 g4.tk)], Ent.ar g4.ev 2 g4.xs.length (List.flatMap xtc g4.xs), Ent.ar g4.pv 1 g4.ps.length (List.map vU16 g4.ps), .blk b6 [(ptr g4.b 0)] 114, .blk b12 [(vU32 (xs.getD k Xt.zero).id), (vU32 (xs.getD k Xt.zero).bl)] 108, .blk b25201 [(vU32 (extG g4.xs ((xs.getD k Xt.zero).id)).id), (vU32 (extG g4.xs ((xs.getD k Xt.zero).id)).bl)] 108] → W 0 #[tt, tt, tt, tt, tt, tt, tt, tt, tt, tt, tt, tt, tt] [(3, (ptr b1 0)), (6, (ptr b6 0)), (8, (ptr b12 0)), (9, (ptr b25201 0)), (10, (.bool (hasX g4.xs ((xs.getD k Xt.zero).id)))), (15, (ptr b2 0)), (25, ev), (26, (vN xs.length)), (27, (vN k)), (28, (.bool (decide (k < xs.length)))), (29, (.pointer (some (sp ev (k * 2))))), (30, (.agg #[(vU32 (xs.getD k Xt.zero).id), (vU32 (xs.getD k Xt.zero).bl)])), (31, (.tuple #[(.agg #[(vU32 (extG g4.xs ((xs.getD k Xt.zero).id)).id), (vU32 (extG g4.xs ((xs.getD k Xt.zero).id)).bl)]), (.bool (hasX g4.xs ((xs.getD k Xt.zero).id)))])), (32, (ptr g4.b 0)), (33, (ptr g4.b 0)), (34, (ptr g4.b 0)), (35, (.agg #[(vU32 g4.pg), g4.ev, g4.pv, (.bool g4.con)])), (36, (ptr b12 0)), (37, (vU32 (xs.getD k Xt.zero).id)), (38, (.tuple #[(.agg #[(vU32 (extG g4.xs ((xs.getD k Xt.zero).id)).id), (vU32 (extG g4.xs ((xs.getD k Xt.zero).id)).bl)]), (.bool (hasX g4.xs ((xs.getD k Xt.zero).id)))])), (39, (.agg #[(vU32 (extG g4.xs ((xs.getD k Xt.zero).id)).id), (vU32 (extG g4.xs ((xs.getD k Xt.zero).id)).bl)])), (40, (.bool (hasX g4.xs ((xs.getD k Xt.zero).id))))] wS := by
          intro b25201 wS HS
          rw [hW]
          refine WH.done (by kernel_rfl) ?_
          refine WQ.next ?_
          refine ws ?_
          refine wo (op_move rfl ?_)
          refine wn ?_
          refine WC.cond rfl (fun (hb16 : (hasX g4.xs ((xs.getD k Xt.zero).id)) = true) => ?_) (fun (hb16 : (hasX g4.xs ((xs.getD k Xt.zero).id)) = false) => ?_)
          ·
            refine ws ?_
            refine wo (op_assign rfl ?_)
            refine wn ?_
            refine WC.ret ?_
            refine WQ.inRet ?_
            refine WQ.thenRet ?_
            refine WQ.thenRet ?_
            refine WQ.inRet ?_
            refine WQ.inRet ?_
            refine WQ.thenRet ?_
            refine WQ.inRet ?_
            refine WQ.thenRet ?_
            refine WQ.out (.tmp rfl .nil) ?_
            exact ⟨by rw [busyE_yes (g := g4) (hp4.mem_iff.2 (by simp)) (by rw [busyG, any_yes (p := busyX g4) (d := Xt.zero) (k := k) (by omega) hb16, Bool.or_true])]; rfl, HS.fr⟩
          ·
            refine WC.skip ?_
            refine WQ.inNormal ?_
            refine WQ.next ?_
            refine WC.region ?_
            refine wo (op_addN (b := 1) rfl rfl (by omega) ?_)
            refine wo (op_move rfl ?_)
            refine WL.nil ?_
            exact WQ.round (k + 1) ⟨⟨by omega, allPrev hok hb16⟩, (HS.take 11)⟩ ⟨rfl, rfl, rfl, rfl, rfl, rfl, trivial⟩ (by omega)
        have st9_5 : ∀ (b25201 : Nat) (wS : World), Owl.Own [] w wS [Ent.bo c [(vU32 pg), hv, (.map (some mb))], Ent.ar hv 1 he.length (List.map vU32 he), Ent.mo .i64 mb (List.map Gr.me gs) cn, Ent.bsO 120 Gr.cells Gr.b gs, Ent.dp grD.list gs, .blk b1 [(vU32 mp), ev, pv, (.bool con)] 59, .obj b2 (itO mb cn (List.map Gr.me (sn ++ [g4]))), Ent.bo g4.b [(vU32 g4.pg), g4.ev, g4.pv, (.bool g4.con), (vU32 g4.pp), (vU32 g4.tk)], Ent.ar g4.ev 2 g4.xs.length (List.flatMap xtc g4.xs), Ent.ar g4.pv 1 g4.ps.length (List.map vU16 g4.ps), .blk b6 [(ptr g4.b 0)] 114, .blk b12 [(vU32 (xs.getD k Xt.zero).id), (vU32 (xs.getD k Xt.zero).bl)] 108, .blk b25201 [(vU32 0), (vU32 0)] 108] → W 2 #[tt, tt, tt, tt, tt, tt, tt, tt, tt, tt, tt, ff, ff] [(3, (ptr b1 0)), (6, (ptr b6 0)), (8, (ptr b12 0)), (9, (ptr b25201 0)), (15, (ptr b2 0)), (25, ev), (26, (vN xs.length)), (27, (vN k)), (28, (.bool (decide (k < xs.length)))), (29, (.pointer (some (sp ev (k * 2))))), (30, (.agg #[(vU32 (xs.getD k Xt.zero).id), (vU32 (xs.getD k Xt.zero).bl)])), (31, (.tuple #[(.agg #[(vU32 (extG g4.xs ((xs.getD k Xt.zero).id)).id), (vU32 (extG g4.xs ((xs.getD k Xt.zero).id)).bl)]), (.bool (hasX g4.xs ((xs.getD k Xt.zero).id)))])), (32, (ptr g4.b 0)), (33, (ptr g4.b 0)), (34, (ptr g4.b 0)), (35, (.agg #[(vU32 g4.pg), g4.ev, g4.pv, (.bool g4.con)])), (36, (ptr b12 0)), (37, (vU32 (xs.getD k Xt.zero).id)), (38, (.tuple #[(.agg #[(vU32 (extG g4.xs ((xs.getD k Xt.zero).id)).id), (vU32 (extG g4.xs ((xs.getD k Xt.zero).id)).bl)]), (.bool (hasX g4.xs ((xs.getD k Xt.zero).id)))])), (39, (.agg #[(vU32 (extG g4.xs ((xs.getD k Xt.zero).id)).id), (vU32 (extG g4.xs ((xs.getD k Xt.zero).id)).bl)])), (40, (.bool (hasX g4.xs ((xs.getD k Xt.zero).id))))] wS := by
          intro b25201 wS HS
          rw [hW]
          refine WH.all1 (i := 11) (by kernel_rfl) ?_
          ·
            refine WHS.op (i := 11) rfl (.inl rfl) rfl (op_storeBW (i := 12) HS rfl rfl rfl rfl rfl Fa.I108 (fun w25221 H25221 => ?_))
            refine ⟨⟨[.blk b25201 [(vU32 (extG g4.xs ((xs.getD k Xt.zero).id)).id), (vU32 (extG g4.xs ((xs.getD k Xt.zero).id)).bl)] 108], H25221⟩, ?_⟩
            refine WH.take (i := 12) (v := (.bool (hasX g4.xs ((xs.getD k Xt.zero).id)))) rfl rfl (.inl rfl) rfl (by kernel_rfl) ⟨[.blk b25201 [(vU32 (extG g4.xs ((xs.getD k Xt.zero).id)).id), (vU32 (extG g4.xs ((xs.getD k Xt.zero).id)).bl)] 108], H25221⟩ (fun wX hSX => hSX.elim fun LX HX => op_assign rfl ⟨rfl, rfl⟩) ?_
            have hq := st9_6 b25201 w25221 H25221
            rw [hW] at hq
            exact WH.cv hq
        have st9_3 : ∀ (wS : World), Owl.Own [] w wS [Ent.bo c [(vU32 pg), hv, (.map (some mb))], Ent.ar hv 1 he.length (List.map vU32 he), Ent.mo .i64 mb (List.map Gr.me gs) cn, Ent.bsO 120 Gr.cells Gr.b gs, Ent.dp grD.list gs, .blk b1 [(vU32 mp), ev, pv, (.bool con)] 59, .obj b2 (itO mb cn (List.map Gr.me (sn ++ [g4]))), Ent.bo g4.b [(vU32 g4.pg), g4.ev, g4.pv, (.bool g4.con), (vU32 g4.pp), (vU32 g4.tk)], Ent.ar g4.ev 2 g4.xs.length (List.flatMap xtc g4.xs), Ent.ar g4.pv 1 g4.ps.length (List.map vU16 g4.ps), .blk b6 [(ptr g4.b 0)] 114, .blk b12 [(vU32 (xs.getD k Xt.zero).id), (vU32 (xs.getD k Xt.zero).bl)] 108] → W 3 #[tt, tt, tt, tt, tt, tt, tt, tt, tt, tt, ff, ff, ff] [(3, (ptr b1 0)), (6, (ptr b6 0)), (8, (ptr b12 0)), (15, (ptr b2 0)), (25, ev), (26, (vN xs.length)), (27, (vN k)), (28, (.bool (decide (k < xs.length)))), (29, (.pointer (some (sp ev (k * 2))))), (30, (.agg #[(vU32 (xs.getD k Xt.zero).id), (vU32 (xs.getD k Xt.zero).bl)])), (31, (.tuple #[(.agg #[(vU32 (extG g4.xs ((xs.getD k Xt.zero).id)).id), (vU32 (extG g4.xs ((xs.getD k Xt.zero).id)).bl)]), (.bool (hasX g4.xs ((xs.getD k Xt.zero).id)))])), (32, (ptr g4.b 0)), (33, (ptr g4.b 0)), (34, (ptr g4.b 0)), (35, (.agg #[(vU32 g4.pg), g4.ev, g4.pv, (.bool g4.con)])), (36, (ptr b12 0)), (37, (vU32 (xs.getD k Xt.zero).id)), (38, (.tuple #[(.agg #[(vU32 (extG g4.xs ((xs.getD k Xt.zero).id)).id), (vU32 (extG g4.xs ((xs.getD k Xt.zero).id)).bl)]), (.bool (hasX g4.xs ((xs.getD k Xt.zero).id)))])), (39, (.agg #[(vU32 (extG g4.xs ((xs.getD k Xt.zero).id)).id), (vU32 (extG g4.xs ((xs.getD k Xt.zero).id)).bl)])), (40, (.bool (hasX g4.xs ((xs.getD k Xt.zero).id))))] wS := by
          intro wS HS
          rw [hW]
          refine WH.all1 (i := 10) (by kernel_rfl) ?_
          ·
            refine WHS.op (i := 10) rfl (.inl rfl) rfl (op_alloc HS Fa.I108 (fun b25201 w25201 H25201 => ?_))
            refine ⟨⟨[.blk b25201 [(vU32 0), (vU32 0)] 108], H25201⟩, ?_⟩
            have hq := st9_5 b25201 w25201 H25201
            rw [hW] at hq
            exact WH.cv hq
        have st9_4 : ∀ (b25201 : Nat) (wS : World), Owl.Own [] w wS [Ent.bo c [(vU32 pg), hv, (.map (some mb))], Ent.ar hv 1 he.length (List.map vU32 he), Ent.mo .i64 mb (List.map Gr.me gs) cn, Ent.bsO 120 Gr.cells Gr.b gs, Ent.dp grD.list gs, .blk b1 [(vU32 mp), ev, pv, (.bool con)] 59, .obj b2 (itO mb cn (List.map Gr.me (sn ++ [g4]))), Ent.bo g4.b [(vU32 g4.pg), g4.ev, g4.pv, (.bool g4.con), (vU32 g4.pp), (vU32 g4.tk)], Ent.ar g4.ev 2 g4.xs.length (List.flatMap xtc g4.xs), Ent.ar g4.pv 1 g4.ps.length (List.map vU16 g4.ps), .blk b6 [(ptr g4.b 0)] 114, .blk b12 [(vU32 (xs.getD k Xt.zero).id), (vU32 (xs.getD k Xt.zero).bl)] 108, .blk b25201 [(vU32 0), (vU32 0)] 108] → W 6 #[tt, tt, tt, tt, tt, tt, ff, ff, ff, ff, tt, ff, ff] [(3, (ptr b1 0)), (6, (ptr b6 0)), (8, (ptr b12 0)), (9, (ptr b25201 0)), (15, (ptr b2 0)), (25, ev), (26, (vN xs.length)), (27, (vN k)), (28, (.bool (decide (k < xs.length)))), (29, (.pointer (some (sp ev (k * 2))))), (30, (.agg #[(vU32 (xs.getD k Xt.zero).id), (vU32 (xs.getD k Xt.zero).bl)])), (32, (ptr g4.b 0)), (33, (ptr g4.b 0)), (34, (ptr g4.b 0)), (35, (.agg #[(vU32 g4.pg), g4.ev, g4.pv, (.bool g4.con)])), (36, (ptr b12 0)), (37, (vU32 (xs.getD k Xt.zero).id))] wS := by
          intro b25201 wS HS
          rw [hW]
          refine WH.all1 (i := 6) (by kernel_rfl) ?_
          ·
            refine WHS.op (i := 6) rfl (.inl rfl) rfl (op_callF Fa.C64 rfl ((extent_ok g4.pg _ _ g4.xs g4.ps g4.con ((xs.getD k Xt.zero).id) _ (HS.arrO (i := 8) rfl) (HS.arrO (i := 9) rfl) (by omega) (by omega)).mono (fun e w25121 hq => ?_)))
            obtain ⟨rfl, hf25121⟩ := hq
            refine ⟨_, rfl, ?_⟩
            have H25121 := HS.fr' hf25121
            refine ⟨⟨[.blk b25201 [(vU32 0), (vU32 0)] 108], H25121⟩, ?_⟩
            refine WH.take (i := 7) (v := (.tuple #[(.agg #[(vU32 (extG g4.xs ((xs.getD k Xt.zero).id)).id), (vU32 (extG g4.xs ((xs.getD k Xt.zero).id)).bl)]), (.bool (hasX g4.xs ((xs.getD k Xt.zero).id)))])) rfl rfl (.inl rfl) rfl (by kernel_rfl) ⟨[.blk b25201 [(vU32 0), (vU32 0)] 108], H25121⟩ (fun wX hSX => hSX.elim fun LX HX => op_move rfl ⟨rfl, rfl⟩) ?_
            refine WH.take (i := 8) (v := (.agg #[(vU32 (extG g4.xs ((xs.getD k Xt.zero).id)).id), (vU32 (extG g4.xs ((xs.getD k Xt.zero).id)).bl)])) rfl rfl (.inl rfl) rfl (by kernel_rfl) ⟨[.blk b25201 [(vU32 0), (vU32 0)] 108], H25121⟩ (fun wX hSX => hSX.elim fun LX HX => op_extract rfl rfl ⟨rfl, rfl⟩) ?_
            refine WH.take (i := 9) (v := (.bool (hasX g4.xs ((xs.getD k Xt.zero).id)))) rfl rfl (.inl rfl) rfl (by kernel_rfl) ⟨[.blk b25201 [(vU32 0), (vU32 0)] 108], H25121⟩ (fun wX hSX => hSX.elim fun LX HX => op_extract rfl rfl ⟨rfl, rfl⟩) ?_
            have hq := st9_5 b25201 w25121 H25121
            rw [hW] at hq
            exact WH.cv hq
        have st9_1 : ∀ (wS : World), Owl.Own [] w wS [Ent.bo c [(vU32 pg), hv, (.map (some mb))], Ent.ar hv 1 he.length (List.map vU32 he), Ent.mo .i64 mb (List.map Gr.me gs) cn, Ent.bsO 120 Gr.cells Gr.b gs, Ent.dp grD.list gs, .blk b1 [(vU32 mp), ev, pv, (.bool con)] 59, .obj b2 (itO mb cn (List.map Gr.me (sn ++ [g4]))), Ent.bo g4.b [(vU32 g4.pg), g4.ev, g4.pv, (.bool g4.con), (vU32 g4.pp), (vU32 g4.tk)], Ent.ar g4.ev 2 g4.xs.length (List.flatMap xtc g4.xs), Ent.ar g4.pv 1 g4.ps.length (List.map vU16 g4.ps), .blk b6 [(ptr g4.b 0)] 114, .blk b12 [(vU32 (xs.getD k Xt.zero).id), (vU32 (xs.getD k Xt.zero).bl)] 108] → W 7 #[tt, tt, tt, tt, tt, tt, ff, ff, ff, ff, ff, ff, ff] [(3, (ptr b1 0)), (6, (ptr b6 0)), (8, (ptr b12 0)), (15, (ptr b2 0)), (25, ev), (26, (vN xs.length)), (27, (vN k)), (28, (.bool (decide (k < xs.length)))), (29, (.pointer (some (sp ev (k * 2))))), (30, (.agg #[(vU32 (xs.getD k Xt.zero).id), (vU32 (xs.getD k Xt.zero).bl)])), (32, (ptr g4.b 0)), (33, (ptr g4.b 0)), (34, (ptr g4.b 0)), (35, (.agg #[(vU32 g4.pg), g4.ev, g4.pv, (.bool g4.con)])), (36, (ptr b12 0)), (37, (vU32 (xs.getD k Xt.zero).id))] wS := by
          intro wS HS
          rw [hW]
          refine WH.all2 (i := 6) (j := 10) (by kernel_rfl) ?_ ?_
          ·
            refine WHS.op (i := 6) rfl (.inl rfl) rfl (op_callF Fa.C64 rfl ((extent_ok g4.pg _ _ g4.xs g4.ps g4.con ((xs.getD k Xt.zero).id) _ (HS.arrO (i := 8) rfl) (HS.arrO (i := 9) rfl) (by omega) (by omega)).mono (fun e w25121 hq => ?_)))
            obtain ⟨rfl, hf25121⟩ := hq
            refine ⟨_, rfl, ?_⟩
            have H25121 := HS.fr' hf25121
            refine ⟨⟨[], H25121⟩, ?_⟩
            refine WH.take (i := 7) (v := (.tuple #[(.agg #[(vU32 (extG g4.xs ((xs.getD k Xt.zero).id)).id), (vU32 (extG g4.xs ((xs.getD k Xt.zero).id)).bl)]), (.bool (hasX g4.xs ((xs.getD k Xt.zero).id)))])) rfl rfl (.inl rfl) rfl (by kernel_rfl) ⟨[], H25121⟩ (fun wX hSX => hSX.elim fun LX HX => op_move rfl ⟨rfl, rfl⟩) ?_
            refine WH.take (i := 8) (v := (.agg #[(vU32 (extG g4.xs ((xs.getD k Xt.zero).id)).id), (vU32 (extG g4.xs ((xs.getD k Xt.zero).id)).bl)])) rfl rfl (.inl rfl) rfl (by kernel_rfl) ⟨[], H25121⟩ (fun wX hSX => hSX.elim fun LX HX => op_extract rfl rfl ⟨rfl, rfl⟩) ?_
            refine WH.take (i := 9) (v := (.bool (hasX g4.xs ((xs.getD k Xt.zero).id)))) rfl rfl (.inl rfl) rfl (by kernel_rfl) ⟨[], H25121⟩ (fun wX hSX => hSX.elim fun LX HX => op_extract rfl rfl ⟨rfl, rfl⟩) ?_
            have hq := st9_3 w25121 H25121
            rw [hW] at hq
            exact WH.cv hq
          ·
            refine WHS.op (i := 10) rfl (.inl rfl) rfl (op_alloc HS Fa.I108 (fun b25201 w25201 H25201 => ?_))
            refine ⟨⟨[.blk b25201 [(vU32 0), (vU32 0)] 108], H25201⟩, ?_⟩
            have hq := st9_4 b25201 w25201 H25201
            rw [hW] at hq
            exact WH.cv hq
        have st9_2 : ∀ (b25201 : Nat) (wS : World), Owl.Own [] w wS [Ent.bo c [(vU32 pg), hv, (.map (some mb))], Ent.ar hv 1 he.length (List.map vU32 he), Ent.mo .i64 mb (List.map Gr.me gs) cn, Ent.bsO 120 Gr.cells Gr.b gs, Ent.dp grD.list gs, .blk b1 [(vU32 mp), ev, pv, (.bool con)] 59, .obj b2 (itO mb cn (List.map Gr.me (sn ++ [g4]))), Ent.bo g4.b [(vU32 g4.pg), g4.ev, g4.pv, (.bool g4.con), (vU32 g4.pp), (vU32 g4.tk)], Ent.ar g4.ev 2 g4.xs.length (List.flatMap xtc g4.xs), Ent.ar g4.pv 1 g4.ps.length (List.map vU16 g4.ps), .blk b6 [(ptr g4.b 0)] 114, .blk b12 [(vU32 (xs.getD k Xt.zero).id), (vU32 (xs.getD k Xt.zero).bl)] 108, .blk b25201 [(vU32 0), (vU32 0)] 108] → W 9 #[tt, ff, ff, ff, tt, tt, ff, ff, ff, ff, tt, ff, ff] [(3, (ptr b1 0)), (6, (ptr b6 0)), (8, (ptr b12 0)), (9, (ptr b25201 0)), (15, (ptr b2 0)), (25, ev), (26, (vN xs.length)), (27, (vN k)), (28, (.bool (decide (k < xs.length)))), (29, (.pointer (some (sp ev (k * 2))))), (30, (.agg #[(vU32 (xs.getD k Xt.zero).id), (vU32 (xs.getD k Xt.zero).bl)])), (32, (ptr g4.b 0)), (36, (ptr b12 0)), (37, (vU32 (xs.getD k Xt.zero).id))] wS := by
          intro b25201 wS HS
          rw [hW]
          refine WH.all1 (i := 1) (by kernel_rfl) ?_
          ·
            refine WHS.op (i := 1) rfl (.inl rfl) rfl (op_nilCheck rfl ?_)
            refine ⟨⟨[.blk b25201 [(vU32 0), (vU32 0)] 108], HS⟩, ?_⟩
            refine WH.take (i := 2) (v := (ptr g4.b 0)) rfl rfl (.inl rfl) rfl (by kernel_rfl) ⟨[.blk b25201 [(vU32 0), (vU32 0)] 108], HS⟩ (fun wX hSX => hSX.elim fun LX HX => op_fieldAddr rfl Fa.F120_0 ⟨rfl, rfl⟩) ?_
            refine WH.take (i := 3) (v := (.agg #[(vU32 g4.pg), g4.ev, g4.pv, (.bool g4.con)])) rfl rfl (.inl rfl) rfl (by kernel_rfl) ⟨[.blk b25201 [(vU32 0), (vU32 0)] 108], HS⟩ (fun wX hSX => hSX.elim fun LX HX => op_loadS (vs := [_, _, _, _]) rfl (HX.cellsO (i := 7) rfl rfl) Try.underlying59 rfl Fa.I59 rfl ⟨rfl, rfl⟩) ?_
            have hq := st9_4 b25201 wS HS
            rw [hW] at hq
            exact WH.cv hq
        have st9_0 : ∀ (wS : World), Owl.Own [] w wS [Ent.bo c [(vU32 pg), hv, (.map (some mb))], Ent.ar hv 1 he.length (List.map vU32 he), Ent.mo .i64 mb (List.map Gr.me gs) cn, Ent.bsO 120 Gr.cells Gr.b gs, Ent.dp grD.list gs, .blk b1 [(vU32 mp), ev, pv, (.bool con)] 59, .obj b2 (itO mb cn (List.map Gr.me (sn ++ [g4]))), Ent.bo g4.b [(vU32 g4.pg), g4.ev, g4.pv, (.bool g4.con), (vU32 g4.pp), (vU32 g4.tk)], Ent.ar g4.ev 2 g4.xs.length (List.flatMap xtc g4.xs), Ent.ar g4.pv 1 g4.ps.length (List.map vU16 g4.ps), .blk b6 [(ptr g4.b 0)] 114, .blk b12 [(vU32 (xs.getD k Xt.zero).id), (vU32 (xs.getD k Xt.zero).bl)] 108] → W 10 #[tt, ff, ff, ff, tt, tt, ff, ff, ff, ff, ff, ff, ff] [(3, (ptr b1 0)), (6, (ptr b6 0)), (8, (ptr b12 0)), (15, (ptr b2 0)), (25, ev), (26, (vN xs.length)), (27, (vN k)), (28, (.bool (decide (k < xs.length)))), (29, (.pointer (some (sp ev (k * 2))))), (30, (.agg #[(vU32 (xs.getD k Xt.zero).id), (vU32 (xs.getD k Xt.zero).bl)])), (32, (ptr g4.b 0)), (36, (ptr b12 0)), (37, (vU32 (xs.getD k Xt.zero).id))] wS := by
          intro wS HS
          rw [hW]
          refine WH.all2 (i := 1) (j := 10) (by kernel_rfl) ?_ ?_
          ·
            refine WHS.op (i := 1) rfl (.inl rfl) rfl (op_nilCheck rfl ?_)
            refine ⟨⟨[], HS⟩, ?_⟩
            refine WH.take (i := 2) (v := (ptr g4.b 0)) rfl rfl (.inl rfl) rfl (by kernel_rfl) ⟨[], HS⟩ (fun wX hSX => hSX.elim fun LX HX => op_fieldAddr rfl Fa.F120_0 ⟨rfl, rfl⟩) ?_
            refine WH.take (i := 3) (v := (.agg #[(vU32 g4.pg), g4.ev, g4.pv, (.bool g4.con)])) rfl rfl (.inl rfl) rfl (by kernel_rfl) ⟨[], HS⟩ (fun wX hSX => hSX.elim fun LX HX => op_loadS (vs := [_, _, _, _]) rfl (HX.cellsO (i := 7) rfl rfl) Try.underlying59 rfl Fa.I59 rfl ⟨rfl, rfl⟩) ?_
            have hq := st9_1 wS HS
            rw [hW] at hq
            exact WH.cv hq
          ·
            refine WHS.op (i := 10) rfl (.inl rfl) rfl (op_alloc HS Fa.I108 (fun b25201 w25201 H25201 => ?_))
            refine ⟨⟨[.blk b25201 [(vU32 0), (vU32 0)] 108], H25201⟩, ?_⟩
            have hq := st9_2 b25201 w25201 H25201
            rw [hW] at hq
            exact WH.cv hq
        have hq := st9_0 w14 H14
        rw [hW] at hq ⊢
        exact WH.cv hq
      ·
        have hc11 := of_decide_eq_false hb11
        refine WC.exit ?_
        refine WQ.thenExit ?_
        refine WQ.thenExit ?_
        refine WQ.inHere ?_
        refine WQ.inNormal ?_
        exact WQ.round ((sn ++ [g4]), rs4) ⟨⟨hp4, fun g' hg' => by
          rcases List.mem_append.1 hg' with h9 | h9
          · exact hno g' h9
          · rw [List.mem_singleton] at h9; subst h9; rw [busyG, hb9, any_no (d := Xt.zero) (fun j hj => hok j (by omega))]; rfl⟩, (H10.take 7)⟩ ⟨rfl, rfl, trivial⟩ (by show rs4.length < rst.length; omega)
end Go.Proofs.Ytbjhccnffacbcaa
/-! from WCap5 -/
namespace Go.Proofs.Ytbjhccnffacbcaa
open Go.Owl Go.Spec
set_option maxRecDepth 100000 in
theorem full_ok (c : Nat) (pg : UInt32) (hv : Value) (he : List UInt32) (mb cn : Nat) (gs : List Gr) (mp : UInt32) (ev pv : Value) (xs : List Xt) (ps : List UInt16) (con : Bool) (pb : Nat) (pages : UInt32) (w : World) (hC : cellsAt w c [(vU32 pg), hv, (.map (some mb))]) (hH : Arr w hv 1 he.length (List.map vU32 he)) (hM : w.heap[mb]? = some (mP .i64 (List.map Gr.me gs) cn)) (hG : BsOK 120 Gr.cells Gr.b gs w) (hS : grD.list.ok w gs) (hPb : cellsAt w pb [(vU32 pages)]) (hME : MEok (List.map Gr.me gs) cn) (hE : Arr w ev 2 xs.length (List.flatMap xtc xs)) (hP : Arr w pv 1 ps.length (List.map vU16 ps)) :
  Calls Try.prog 56 #[(ptr c 0), (.agg #[(vU32 mp), ev, pv, (.bool con)]), (ptr pb 0)] w (fun e w' => e = .returned (vN (fullE pg gs mp pages)) ∧ Fr [] w w') := by
 refine enter (args := [(ptr c 0), (.agg #[(vU32 mp), ev, pv, (.bool con)]), (ptr pb 0)]) Try.func56 rfl rfl ?_
 have H0 : Owl.Own [] w w [Ent.bo c [(vU32 pg), hv, (.map (some mb))], Ent.ar hv 1 he.length (List.map vU32 he), Ent.mo .i64 mb (List.map Gr.me gs) cn, Ent.bsO 120 Gr.cells Gr.b gs, Ent.dp grD.list gs, Ent.bo pb [(vU32 pages)]] := (((((((Own.start w []).oldB hC).oldA hH).mpOld hM).bsOld hG).dpOld hS).oldB hPb)
 refine ws ?_
 refine wo (op_box H0 rfl rfl (fun b1 w1 H1 => ?_))
 refine wo (op_assign rfl ?_)
 refine wn ?_
 refine WC.seq ?_
 refine WC.seq ?_
 refine WC.draw 7 Fa.M H1 (HW.op rfl (fun w1 H1 => op_fieldAddr rfl Fa.F59_0 ⟨rfl, Fr.refl _ _⟩) (HW.op rfl (fun w1 H1 => op_load rfl (H1.cell (i := 6) rfl rfl) Try.underlying29 rfl ⟨rfl, Fr.refl _ _⟩) (HW.op rfl (fun w1 H1 => op_load rfl (H1.cellO (i := 5) rfl rfl) Try.underlying29 rfl ⟨rfl, Fr.refl _ _⟩) (HW.op rfl (fun w1 H1 => op_addU32 rfl rfl ⟨rfl, Fr.refl _ _⟩) (HW.op rfl (fun w1 H1 => op_move rfl ⟨rfl, Fr.refl _ _⟩) (HW.op rfl (fun w1 H1 => op_callF Fa.C25 rfl ((free_ok c pg hv he mb cn gs _ (H1.cellsAtO (i := 0) rfl) (H1.arrO (i := 1) rfl) (H1.mpO (i := 2) rfl) (H1.bsR (i := 3) rfl) (H1.dpO (i := 4) rfl) hME).mono (fun e w2 hq => ⟨_, hq.1, rfl, hq.2⟩))) (HW.op rfl (fun w1 H1 => op_gtrU32 rfl rfl ⟨rfl, Fr.refl _ _⟩)  HW.nil))))))) (by kernel_rfl) ?_
 intro β3 w3 H3
 refine wn ?_
 refine WC.cond rfl (fun (hb4 : (decide ((mp + pages) > (freeS pg gs))) = true) => ?_) (fun (hb4 : (decide ((mp + pages) > (freeS pg gs))) = false) => ?_)
 ·
  have hc4 := of_decide_eq_true hb4
  refine ws ?_
  refine wo (op_assign rfl ?_)
  refine wn ?_
  refine WC.ret ?_
  refine WQ.thenRet ?_
  refine WQ.out (.tmp rfl .nil) ?_
  exact ⟨by rw [fullE, if_pos (of_decide_eq_true hb4)]; rfl, H3.fr⟩
 ·
  have hc4 := of_decide_eq_false hb4
  refine WC.skip ?_
  refine WQ.next ?_
  refine ws ?_
  refine wo (op_assign rfl ?_)
  refine wn ?_
  refine WC.ret ?_
  refine WQ.out (.tmp rfl .nil) ?_
  exact ⟨by rw [fullE, if_neg (of_decide_eq_false hb4)]; rfl, H3.fr⟩
set_option maxHeartbeats 1000000 in
set_option maxRecDepth 100000 in
theorem each_ok (c : Nat) (pg : UInt32) (hv : Value) (he : List UInt32) (mb cn : Nat) (gs : List Gr) (mp : UInt32) (ev pv : Value) (xs : List Xt) (ps : List UInt16) (con : Bool) (pb : Nat) (pages : UInt32) (lv : Value) (w : World) (hC : cellsAt w c [(vU32 pg), hv, (.map (some mb))]) (hH : Arr w hv 1 he.length (List.map vU32 he)) (hM : w.heap[mb]? = some (mP .i64 (List.map Gr.me gs) cn)) (hG : BsOK 120 Gr.cells Gr.b gs w) (hS : grD.list.ok w gs) (hPb : cellsAt w pb [(vU32 pages)]) (hME : MEok (List.map Gr.me gs) cn) (hfit : ∀ g ∈ gs, g.ps.length < 2 ^ 40 ∧ g.xs.length < 2 ^ 40) (hE : Arr w ev 2 xs.length (List.flatMap xtc xs)) (hP : Arr w pv 1 ps.length (List.map vU16 ps)) (hn : xs.length < 2 ^ 40) (hm : ps.length < 2 ^ 40) (hhe : he.length < 2 ^ 32) (hL : Arr w lv 1 4 [(.func (.func 96) #[] #[]), (.func (.func 97) #[] #[]), (.func (.func 98) #[] #[]), (.func (.func 56) #[] #[(ptr pb 0)])]) :
  Calls Try.prog 95 #[(ptr c 0), (.agg #[(vU32 mp), ev, pv, (.bool con)]), lv] w (fun e w' => e = .returned (vN (whyE pg he gs mp xs ps pages)) ∧ Fr [] w w') := by
 refine enter (args := [(ptr c 0), (.agg #[(vU32 mp), ev, pv, (.bool con)]), lv]) Try.func95 rfl rfl ?_
 have H0 : Owl.Own [] w w [Ent.bo c [(vU32 pg), hv, (.map (some mb))], Ent.ar hv 1 he.length (List.map vU32 he), Ent.mo .i64 mb (List.map Gr.me gs) cn, Ent.bsO 120 Gr.cells Gr.b gs, Ent.dp grD.list gs, Ent.bo pb [(vU32 pages)]] := (((((((Own.start w []).oldB hC).oldA hH).mpOld hM).bsOld hG).dpOld hS).oldB hPb)
 refine ws ?_
 refine wo (op_box H0 rfl rfl (fun b1 w1 H1 => ?_))
 refine wo (op_assign rfl ?_)
 refine wn ?_
 refine WC.seq ?_
 refine ws ?_
 refine wo (op_move rfl ?_)
 refine wo (op_lenA Try.underlying188 rfl (H1.arr hL) ?_)
 refine wo (op_move rfl ?_)
 refine wn ?_
 refine WC.block ?_
 refine WC.unroll 4 ?_
 refine ws ?_
 refine wo (op_lssN rfl rfl ?_)
 refine wn ?_
 refine WC.seq ?_
 refine WC.yes rfl rfl ?_
 refine WC.skip ?_
 refine WQ.next ?_
 refine WC.seq ?_
 refine WC.block ?_
 refine ws ?_
 refine wo (op_indexAddr1 Try.underlying188 Fa.I163 rfl (H1.arr hL) rfl (by simp) ?_)
 refine wo (op_load rfl ((H1.arr hL).at rfl) Try.underlying163 rfl ?_)
 refine wo (op_assign rfl ?_)
 refine wn ?_
 refine ws ?_
 refine wo (op_move rfl ?_)
 refine wo (op_move rfl ?_)
 refine wo (op_loadS (vs := [_, _, _, _]) rfl (H1.cells (i := 6) rfl rfl) Try.underlying59 rfl Fa.I59 rfl ?_)
 refine wo (op_call (f := 96) rfl Fa.C96 rfl ((none_ok c pg hv he mb cn gs mp _ _ xs ps con _ (H1.cellsAtO (i := 0) rfl) (H1.arrO (i := 1) rfl) (H1.mpO (i := 2) rfl) (H1.bsR (i := 3) rfl) (H1.dpO (i := 4) rfl) hME (H1.arr hE) (H1.arr hP) hn hm hhe).mono (fun e w2 hq => ?_)))
 obtain ⟨rfl, hf2⟩ := hq
 refine ⟨_, rfl, ?_⟩
 have H2 := H1.fr' hf2
 refine wo (op_assign rfl ?_)
 refine wn ?_
 refine ws ?_
 refine wo (op_move rfl ?_)
 refine wo (op_neqN (b := 0) rfl rfl ?_)
 refine wn ?_
 refine WC.cond rfl (fun (hb3 : (decide ((noneE he xs) ≠ 0)) = true) => ?_) (fun (hb3 : (decide ((noneE he xs) ≠ 0)) = false) => ?_)
 ·
  have hc3 := of_decide_eq_true hb3
  refine ws ?_
  refine wo (op_move rfl ?_)
  refine wo (op_assign rfl ?_)
  refine wn ?_
  refine WC.ret ?_
  refine WQ.inRet ?_
  refine WQ.thenRet ?_
  refine WQ.thenRet ?_
  refine WQ.inRet ?_
  refine WQ.thenRet ?_
  refine WQ.out (.tmp rfl .nil) ?_
  exact ⟨by rw [whyE, if_pos (of_decide_eq_true hb3)]; rfl, H2.fr⟩
 ·
  have hc3 := of_decide_eq_false hb3
  refine WC.skip ?_
  refine WQ.inNormal ?_
  refine WQ.next ?_
  refine WC.region ?_
  refine wo (op_addN (b := 1) rfl rfl (by simp) ?_)
  refine wo (op_move rfl ?_)
  refine WL.nil ?_
  refine WQ.again ?_
  refine ws ?_
  refine wo (op_lssN rfl rfl ?_)
  refine wn ?_
  refine WC.seq ?_
  refine WC.yes rfl rfl ?_
  refine WC.skip ?_
  refine WQ.next ?_
  refine WC.seq ?_
  refine WC.block ?_
  refine ws ?_
  refine wo (op_indexAddr1 Try.underlying188 Fa.I163 rfl (H2.arr hL) rfl (by simp) ?_)
  refine wo (op_load rfl ((H2.arr hL).at rfl) Try.underlying163 rfl ?_)
  refine wo (op_assign rfl ?_)
  refine wn ?_
  refine ws ?_
  refine wo (op_move rfl ?_)
  refine wo (op_move rfl ?_)
  refine wo (op_loadS (vs := [_, _, _, _]) rfl (H2.cells (i := 6) rfl rfl) Try.underlying59 rfl Fa.I59 rfl ?_)
  refine wo (op_call (f := 97) rfl Fa.C97 rfl ((long_ok c pg hv he mb cn gs mp _ _ xs ps con _ (H2.cellsAtO (i := 0) rfl) (H2.arrO (i := 1) rfl) (H2.mpO (i := 2) rfl) (H2.bsR (i := 3) rfl) (H2.dpO (i := 4) rfl) hME (H2.arr hE) (H2.arr hP) hn hm hhe).mono (fun e w4 hq => ?_)))
  obtain ⟨rfl, hf4⟩ := hq
  refine ⟨_, rfl, ?_⟩
  have H4 := H2.fr' hf4
  refine wo (op_assign rfl ?_)
  refine wn ?_
  refine ws ?_
  refine wo (op_move rfl ?_)
  refine wo (op_neqN (b := 0) rfl rfl ?_)
  refine wn ?_
  refine WC.cond rfl (fun (hb5 : (decide ((longE he xs) ≠ 0)) = true) => ?_) (fun (hb5 : (decide ((longE he xs) ≠ 0)) = false) => ?_)
  ·
   have hc5 := of_decide_eq_true hb5
   refine ws ?_
   refine wo (op_move rfl ?_)
   refine wo (op_assign rfl ?_)
   refine wn ?_
   refine WC.ret ?_
   refine WQ.inRet ?_
   refine WQ.thenRet ?_
   refine WQ.thenRet ?_
   refine WQ.inRet ?_
   refine WQ.thenRet ?_
   refine WQ.out (.tmp rfl .nil) ?_
   exact ⟨by rw [whyE, if_neg (of_decide_eq_false hb3), if_pos (of_decide_eq_true hb5)]; rfl, H4.fr⟩
  ·
   have hc5 := of_decide_eq_false hb5
   refine WC.skip ?_
   refine WQ.inNormal ?_
   refine WQ.next ?_
   refine WC.region ?_
   refine wo (op_addN (b := 1) rfl rfl (by simp) ?_)
   refine wo (op_move rfl ?_)
   refine WL.nil ?_
   refine WQ.again ?_
   refine ws ?_
   refine wo (op_lssN rfl rfl ?_)
   refine wn ?_
   refine WC.seq ?_
   refine WC.yes rfl rfl ?_
   refine WC.skip ?_
   refine WQ.next ?_
   refine WC.seq ?_
   refine WC.block ?_
   refine ws ?_
   refine wo (op_indexAddr1 Try.underlying188 Fa.I163 rfl (H4.arr hL) rfl (by simp) ?_)
   refine wo (op_load rfl ((H4.arr hL).at rfl) Try.underlying163 rfl ?_)
   refine wo (op_assign rfl ?_)
   refine wn ?_
   refine ws ?_
   refine wo (op_move rfl ?_)
   refine wo (op_move rfl ?_)
   refine wo (op_loadS (vs := [_, _, _, _]) rfl (H4.cells (i := 6) rfl rfl) Try.underlying59 rfl Fa.I59 rfl ?_)
   refine wo (op_call (f := 98) rfl Fa.C98 rfl ((busy_ok c pg hv he mb cn gs mp _ _ xs ps con _ (H4.cellsAtO (i := 0) rfl) (H4.arrO (i := 1) rfl) (H4.mpO (i := 2) rfl) (H4.bsR (i := 3) rfl) (H4.dpO (i := 4) rfl) hME hfit (H4.arr hE) (H4.arr hP) hn hm hhe).mono (fun e w6 hq => ?_)))
   obtain ⟨rfl, hf6⟩ := hq
   refine ⟨_, rfl, ?_⟩
   have H6 := H4.fr' hf6
   refine wo (op_assign rfl ?_)
   refine wn ?_
   refine ws ?_
   refine wo (op_move rfl ?_)
   refine wo (op_neqN (b := 0) rfl rfl ?_)
   refine wn ?_
   refine WC.cond rfl (fun (hb7 : (decide ((busyE gs xs ps) ≠ 0)) = true) => ?_) (fun (hb7 : (decide ((busyE gs xs ps) ≠ 0)) = false) => ?_)
   ·
    have hc7 := of_decide_eq_true hb7
    refine ws ?_
    refine wo (op_move rfl ?_)
    refine wo (op_assign rfl ?_)
    refine wn ?_
    refine WC.ret ?_
    refine WQ.inRet ?_
    refine WQ.thenRet ?_
    refine WQ.thenRet ?_
    refine WQ.inRet ?_
    refine WQ.thenRet ?_
    refine WQ.out (.tmp rfl .nil) ?_
    exact ⟨by rw [whyE, if_neg (of_decide_eq_false hb3), if_neg (of_decide_eq_false hb5), if_pos (of_decide_eq_true hb7)]; rfl, H6.fr⟩
   ·
    have hc7 := of_decide_eq_false hb7
    refine WC.skip ?_
    refine WQ.inNormal ?_
    refine WQ.next ?_
    refine WC.region ?_
    refine wo (op_addN (b := 1) rfl rfl (by simp) ?_)
    refine wo (op_move rfl ?_)
    refine WL.nil ?_
    refine WQ.again ?_
    refine ws ?_
    refine wo (op_lssN rfl rfl ?_)
    refine wn ?_
    refine WC.seq ?_
    refine WC.yes rfl rfl ?_
    refine WC.skip ?_
    refine WQ.next ?_
    refine WC.seq ?_
    refine WC.block ?_
    refine ws ?_
    refine wo (op_indexAddr1 Try.underlying188 Fa.I163 rfl (H6.arr hL) rfl (by simp) ?_)
    refine wo (op_load rfl ((H6.arr hL).at rfl) Try.underlying163 rfl ?_)
    refine wo (op_assign rfl ?_)
    refine wn ?_
    refine ws ?_
    refine wo (op_move rfl ?_)
    refine wo (op_move rfl ?_)
    refine wo (op_loadS (vs := [_, _, _, _]) rfl (H6.cells (i := 6) rfl rfl) Try.underlying59 rfl Fa.I59 rfl ?_)
    refine wo (op_call (f := 56) rfl Fa.C56 rfl ((full_ok c pg hv he mb cn gs mp _ _ xs ps con pb pages _ (H6.cellsAtO (i := 0) rfl) (H6.arrO (i := 1) rfl) (H6.mpO (i := 2) rfl) (H6.bsR (i := 3) rfl) (H6.dpO (i := 4) rfl) (H6.cellsAtO (i := 5) rfl) hME (H6.arr hE) (H6.arr hP)).mono (fun e w8 hq => ?_)))
    obtain ⟨rfl, hf8⟩ := hq
    refine ⟨_, rfl, ?_⟩
    have H8 := H6.fr' hf8
    refine wo (op_assign rfl ?_)
    refine wn ?_
    refine ws ?_
    refine wo (op_move rfl ?_)
    refine wo (op_neqN (b := 0) rfl rfl ?_)
    refine wn ?_
    refine WC.cond rfl (fun (hb9 : (decide ((fullE pg gs mp pages) ≠ 0)) = true) => ?_) (fun (hb9 : (decide ((fullE pg gs mp pages) ≠ 0)) = false) => ?_)
    ·
     have hc9 := of_decide_eq_true hb9
     refine ws ?_
     refine wo (op_move rfl ?_)
     refine wo (op_assign rfl ?_)
     refine wn ?_
     refine WC.ret ?_
     refine WQ.inRet ?_
     refine WQ.thenRet ?_
     refine WQ.thenRet ?_
     refine WQ.inRet ?_
     refine WQ.thenRet ?_
     refine WQ.out (.tmp rfl .nil) ?_
     exact ⟨by rw [whyE, if_neg (of_decide_eq_false hb3), if_neg (of_decide_eq_false hb5), if_neg (of_decide_eq_false hb7)]; rfl, H8.fr⟩
    ·
     have hc9 := of_decide_eq_false hb9
     refine WC.skip ?_
     refine WQ.inNormal ?_
     refine WQ.next ?_
     refine WC.region ?_
     refine wo (op_addN (b := 1) rfl rfl (by simp) ?_)
     refine wo (op_move rfl ?_)
     refine WL.nil ?_
     refine WQ.again ?_
     refine ws ?_
     refine wo (op_lssN rfl rfl ?_)
     refine wn ?_
     refine WC.seq ?_
     refine WC.no rfl rfl ?_
     refine WC.exit ?_
     refine WQ.thenExit ?_
     refine WQ.thenExit ?_
     refine WQ.inHere ?_
     refine WQ.next ?_
     refine ws ?_
     refine wo (op_assign rfl ?_)
     refine wn ?_
     refine WC.ret ?_
     refine WQ.out (.tmp rfl .nil) ?_
     exact ⟨by rw [whyE, if_neg (of_decide_eq_false hb3), if_neg (of_decide_eq_false hb5), if_neg (of_decide_eq_false hb7), show fullE pg gs mp pages = 0 from Classical.not_not.1 (of_decide_eq_false hb9)]; rfl, H8.fr⟩
end Go.Proofs.Ytbjhccnffacbcaa
/-! from WCap6 -/
namespace Go.Proofs.Ytbjhccnffacbcaa
open Go.Owl Go.Spec
set_option maxRecDepth 100000 in
theorem call_ok (c : Nat) (pg : UInt32) (hv : Value) (he : List UInt32) (mb cn : Nat) (gs : List Gr) (mp : UInt32) (ev pv : Value) (xs : List Xt) (ps : List UInt16) (con : Bool) (pb : Nat) (pages : UInt32) (w : World) (hC : cellsAt w c [(vU32 pg), hv, (.map (some mb))]) (hH : Arr w hv 1 he.length (List.map vU32 he)) (hM : w.heap[mb]? = some (mP .i64 (List.map Gr.me gs) cn)) (hG : BsOK 120 Gr.cells Gr.b gs w) (hS : grD.list.ok w gs) (hPb : cellsAt w pb [(vU32 pages)]) (hME : MEok (List.map Gr.me gs) cn) (hfit : ∀ g ∈ gs, g.ps.length < 2 ^ 40 ∧ g.xs.length < 2 ^ 40) (hE : Arr w ev 2 xs.length (List.flatMap xtc xs)) (hP : Arr w pv 1 ps.length (List.map vU16 ps)) (hn : xs.length < 2 ^ 40) (hm : ps.length < 2 ^ 40) (hhe : he.length < 2 ^ 32) :
  Calls Try.prog 57 #[(ptr c 0), (.agg #[(vU32 mp), ev, pv, (.bool con)]), (.func (.func 56) #[] #[(ptr pb 0)])] w (fun e w' => e = .returned (vN (whyE pg he gs mp xs ps pages)) ∧ Fr [] w w') := by
 refine enter (args := [(ptr c 0), (.agg #[(vU32 mp), ev, pv, (.bool con)]), (.func (.func 56) #[] #[(ptr pb 0)])]) Try.func57 rfl rfl ?_
 have H0 : Owl.Own [] w w [Ent.bo c [(vU32 pg), hv, (.map (some mb))], Ent.ar hv 1 he.length (List.map vU32 he), Ent.mo .i64 mb (List.map Gr.me gs) cn, Ent.bsO 120 Gr.cells Gr.b gs, Ent.dp grD.list gs, Ent.bo pb [(vU32 pages)]] := (((((((Own.start w []).oldB hC).oldA hH).mpOld hM).bsOld hG).dpOld hS).oldB hPb)
 refine ws ?_
 refine wo (op_box H0 rfl rfl (fun b1 w1 H1 => ?_))
 refine wo (op_assign rfl ?_)
 refine wn ?_
 refine ws ?_
 refine wo (op_move rfl ?_)
 refine wo (op_loadS (vs := [_, _, _, _]) rfl (H1.cells (i := 6) rfl rfl) Try.underlying59 rfl Fa.I59 rfl ?_)
 refine wo (op_move rfl ?_)
 refine wo (op_buildSlice (cs := [_, _, _, _]) H1 Try.underlying188 Fa.I163 rfl rfl rfl rfl (by decide) (by decide) (fun b2 w2 H2 => ?_))
 refine wo (op_callF Fa.C95 rfl ((each_ok c pg hv he mb cn gs mp _ _ xs ps con pb pages _ _ (H2.cellsAtO (i := 0) rfl) (H2.arrO (i := 1) rfl) (H2.mpO (i := 2) rfl) (H2.bsR (i := 3) rfl) (H2.dpO (i := 4) rfl) (H2.cellsAtO (i := 5) rfl) hME hfit (H2.arr hE) (H2.arr hP) hn hm hhe (H2.arrR (i := 7) rfl)).mono (fun e w3 hq => ?_)))
 obtain ⟨rfl, hf3⟩ := hq
 refine ⟨_, rfl, ?_⟩
 have H3 := H2.fr' hf3
 refine wo (op_assign rfl ?_)
 refine wn ?_
 refine WC.ret ?_
 refine WQ.out (.tmp rfl .nil) ?_
 exact ⟨rfl, H3.fr⟩
end Go.Proofs.Ytbjhccnffacbcaa
/-! from WCap7 -/
namespace Go.Proofs.Ytbjhccnffacbcaa
open Go.Owl Go.Spec
set_option maxRecDepth 100000 in
theorem cloneX_ok (lv : Value) (l : List Xt) (w : World) (hA : Arr w lv 2 l.length (List.flatMap xtc l)) (hn : l.length < 2 ^ 40) :
  Calls Try.prog 58 #[lv] w (fun e w' => ∃ v, e = .returned v ∧ Owl.Own [] w w' [.row v 108 2 l.length (List.flatMap xtc l)]) := by
 refine enter (args := [lv]) Try.func58 rfl rfl ?_
 have H0 : Owl.Own [] w w [] := Own.start w []
 refine ws ?_
 refine wo (op_assign rfl ?_)
 refine wn ?_
 refine WC.seq ?_
 refine ws ?_
 refine wo (op_move rfl ?_)
 refine wo (op_eqlSN Try.underlying56 rfl (H0.arr hA) rfl ?_)
 refine wn ?_
 refine WC.cond rfl (fun (hb1 : (isNilS lv) = true) => ?_) (fun (hb1 : (isNilS lv) = false) => ?_)
 ·
  refine ws ?_
  refine wo (op_assign rfl ?_)
  refine wn ?_
  refine WC.ret ?_
  refine WQ.thenRet ?_
  refine WQ.out (.tmp rfl .nil) ?_
  obtain rfl : l = [] := List.eq_nil_of_length_eq_zero (hA.isNil0 hb1).1
  exact ⟨_, rfl, (H0.sel [] rfl rfl).nilRow 108 2⟩
 ·
  refine WC.skip ?_
  refine WQ.next ?_
  refine ws ?_
  refine wo (op_buildSlice (cs := []) H0 Try.underlying56 Fa.I108 rfl rfl rfl rfl (by decide) (by decide) (fun b2 w2 H2 => ?_))
  refine wo (op_move rfl ?_)
  refine wo (op_appendF (f := xtc) (l := []) (l' := l) (i := 0) H2 Try.underlying56 Fa.I108 rfl rfl rfl rfl (Src.ofArr Try.underlying56 (H2.arr hA)) (one_flat (fun _ => by simp [xtc, Value.oneCell'])) (by omega) (by omega) (fun v3 w3 H3 => ?_))
  refine wo (op_assign rfl ?_)
  refine wn ?_
  refine WC.ret ?_
  refine WQ.out (.tmp rfl .nil) ?_
  have h := H3.sel [0] rfl rfl
  rw [Nat.zero_add, List.nil_append] at h
  exact ⟨_, rfl, h⟩
set_option maxRecDepth 100000 in
theorem clone16_ok (lv : Value) (l : List UInt16) (w : World) (hA : Arr w lv 1 l.length (List.map vU16 l)) (hn : l.length < 2 ^ 40) :
  Calls Try.prog 59 #[lv] w (fun e w' => ∃ v, e = .returned v ∧ Owl.Own [] w w' [.row v 50 1 l.length (List.map vU16 l)]) := by
 refine enter (args := [lv]) Try.func59 rfl rfl ?_
 have H0 : Owl.Own [] w w [] := Own.start w []
 refine ws ?_
 refine wo (op_assign rfl ?_)
 refine wn ?_
 refine WC.seq ?_
 refine ws ?_
 refine wo (op_move rfl ?_)
 refine wo (op_eqlSN Try.underlying57 rfl (H0.arr hA) rfl ?_)
 refine wn ?_
 refine WC.cond rfl (fun (hb1 : (isNilS lv) = true) => ?_) (fun (hb1 : (isNilS lv) = false) => ?_)
 ·
  refine ws ?_
  refine wo (op_assign rfl ?_)
  refine wn ?_
  refine WC.ret ?_
  refine WQ.thenRet ?_
  refine WQ.out (.tmp rfl .nil) ?_
  obtain rfl : l = [] := List.eq_nil_of_length_eq_zero (hA.isNil0 hb1).1
  exact ⟨_, rfl, (H0.sel [] rfl rfl).nilRow 50 1⟩
 ·
  refine WC.skip ?_
  refine WQ.next ?_
  refine ws ?_
  refine wo (op_buildSlice (cs := []) H0 Try.underlying57 Fa.I50 rfl rfl rfl rfl (by decide) (by decide) (fun b2 w2 H2 => ?_))
  refine wo (op_move rfl ?_)
  refine wo (op_append (i := 0) H2 Try.underlying57 Fa.I50 rfl rfl rfl rfl (Src.ofArr Try.underlying57 (H2.arr hA)) (by simp [Value.oneCell']) (by omega) (by omega) (fun v3 w3 H3 => ?_))
  refine wo (op_assign rfl ?_)
  refine wn ?_
  refine WC.ret ?_
  refine WQ.out (.tmp rfl .nil) ?_
  have h := H3.sel [0] rfl rfl
  rw [Nat.zero_add, List.nil_append] at h
  exact ⟨_, rfl, h⟩
end Go.Proofs.Ytbjhccnffacbcaa
/-! from WCap8 -/
namespace Go.Proofs.Ytbjhccnffacbcaa
open Go.Owl Go.Spec
set_option maxHeartbeats 1000000 in
set_option maxRecDepth 100000 in
theorem grant_no (c : Nat) (pg : UInt32) (hv : Value) (he : List UInt32) (mb cn : Nat) (gs : List Gr) (en : Nat) (mp : UInt32) (ev pv : Value) (xs : List Xt) (ps : List UInt16) (con : Bool) (pages : UInt32) (T : List Nat) (w : World) (H : Owl.Own T w w [.blk c [(vU32 pg), hv, (.map (some mb))] 112, Ent.ar hv 1 he.length (List.map vU32 he), .obj mb (mP .i64 (List.map Gr.me gs) cn), Ent.bs 120 Gr.cells Gr.b gs, Ent.dp grD.list gs, Ent.ar ev 2 xs.length (List.flatMap xtc xs), Ent.ar pv 1 ps.length (List.map vU16 ps)]) (hME : MEok (List.map Gr.me gs) cn) (h1 : 1 ≤ en) (h8 : en ≤ 8) (hn : xs.length < 2 ^ 40) (hm : ps.length < 2 ^ 40) (hhe : he.length < 2 ^ 32) (hfit : ∀ g ∈ gs, g.ps.length < 2 ^ 40 ∧ g.xs.length < 2 ^ 40) (hmf : mfE mp xs ps = 0) (hpg : ¬ pages > 4096) (no : ∀ g ∈ gs, (g.e : Int) ≠ (en : Int)) (hw : (whyE pg he gs mp xs ps pages) ≠ 0) :
  Calls Try.prog 19 #[(ptr c 0), (vN en), (.agg #[(vU32 mp), ev, pv, (.bool con)]), (vU32 pages)] w (fun e w' => e = .returned (vN (whyE pg he gs mp xs ps pages)) ∧ Owl.Own T w w' [.blk c [(vU32 pg), hv, (.map (some mb))] 112, Ent.ar hv 1 he.length (List.map vU32 he), .obj mb (mP .i64 (List.map Gr.me gs) cn), Ent.bs 120 Gr.cells Gr.b gs, Ent.dp grD.list gs, Ent.ar ev 2 xs.length (List.flatMap xtc xs), Ent.ar pv 1 ps.length (List.map vU16 ps)]) := by
 refine enter (args := [(ptr c 0), (vN en), (.agg #[(vU32 mp), ev, pv, (.bool con)]), (vU32 pages)]) Try.func19 rfl rfl ?_
 refine ws ?_
 refine wo (op_box H rfl rfl (fun b1 w1 H1 => ?_))
 refine wo (op_box H1 rfl rfl (fun b2 w2 H2 => ?_))
 refine wo (op_assign rfl ?_)
 refine wn ?_
 refine WC.seq ?_
 refine WC.block ?_
 refine ws ?_
 refine wo (op_move rfl ?_)
 refine wo (op_eqlPN Fa.PT52 rfl rfl ?_)
 refine wo (op_assign rfl ?_)
 refine wn ?_
 refine WC.no rfl rfl ?_
 refine ws ?_
 refine wo (op_move rfl ?_)
 refine wo (op_lssN (b := 1) rfl rfl ?_)
 refine wo (op_move rfl ?_)
 refine WL.yes rfl rfl rfl (decide_eq_false (by omega)) rfl (op_move rfl ?_)
 refine WL.yes rfl rfl rfl (decide_eq_false (by omega)) rfl (op_gtrN (b := 8) rfl rfl ?_)
 refine wo (op_pickF rfl (decide_eq_false (by omega)) rfl ?_)
 refine wo (op_move rfl ?_)
 refine WL.yes rfl rfl rfl (decide_eq_false (by omega)) rfl (op_loadS (vs := [_, _, _, _]) rfl (H2.cells (i := 7) rfl rfl) Try.underlying59 rfl Fa.I59 rfl ?_)
 refine WL.yes rfl rfl rfl (decide_eq_false (by omega)) rfl (op_callF Fa.C55 rfl ((dcheck_ok mp _ _ xs ps con _ (H2.arrO (i := 5) rfl) (H2.arrO (i := 6) rfl) (by omega) (by omega)).mono (fun e w3 hq => ?_)))
 obtain ⟨rfl, hf3⟩ := hq
 refine ⟨_, rfl, ?_⟩
 have H3 := H2.fr' hf3
 refine WL.yes rfl rfl rfl (decide_eq_false (by omega)) rfl (op_neqN (b := 0) rfl rfl ?_)
 refine wo (op_pickF rfl (decide_eq_false (by omega)) rfl ?_)
 refine wo (op_move rfl ?_)
 refine WL.yes rfl rfl rfl (decide_eq_false (fun h => h hmf)) rfl (op_load rfl (H3.cell (i := 8) rfl rfl) Try.underlying29 rfl ?_)
 refine WL.yes rfl rfl rfl (decide_eq_false (fun h => h hmf)) rfl (op_gtrU32 (b := 4096) rfl rfl ?_)
 refine wo (op_pickF rfl (decide_eq_false (fun h => h hmf)) rfl ?_)
 refine wo (op_assign rfl ?_)
 refine wn ?_
 refine WC.no rfl (decide_eq_false hpg) ?_
 refine ws ?_
 refine wo (op_move rfl ?_)
 refine wo (op_nilCheck rfl ?_)
 refine wo (op_fieldAddr rfl Fa.F112_1 ?_)
 refine wo (op_load rfl (H3.cell (i := 0) rfl rfl) Try.underlying110 rfl ?_)
 refine wo (op_move rfl ?_)
 refine wo (op_lookG_no (H3.mp (i := 2) rfl) no Try.underlying110 Try.underlying3 Fa.Z114 rfl rfl ?_)
 refine wo (op_neqPN Fa.PT114 rfl rfl ?_)
 refine wo (op_assign rfl ?_)
 refine wn ?_
 refine WC.no rfl rfl ?_
 refine WC.skip ?_
 refine WQ.inNormal ?_
 refine WQ.next ?_
 refine ws ?_
 refine wo (op_makeFunc rfl rfl ?_)
 refine wo (op_assign rfl ?_)
 refine wn ?_
 refine WC.seq ?_
 refine ws ?_
 refine wo (op_move rfl ?_)
 refine wo (op_loadS (vs := [_, _, _, _]) rfl (H3.cells (i := 7) rfl rfl) Try.underlying59 rfl Fa.I59 rfl ?_)
 refine wo (op_move rfl ?_)
 refine wo (op_callF Fa.C57 rfl ((call_ok c pg hv he mb cn gs mp _ _ xs ps con b2 pages _ (H3.cellsAt (i := 0) rfl) (H3.arrO (i := 1) rfl) (H3.mp (i := 2) rfl) (H3.bsG (i := 3) rfl) (H3.dpO (i := 4) rfl) (H3.cellsAt (i := 8) rfl) hME hfit (H3.arrO (i := 5) rfl) (H3.arrO (i := 6) rfl) hn hm hhe).mono (fun e w4 hq => ?_)))
 obtain ⟨rfl, hf4⟩ := hq
 refine ⟨_, rfl, ?_⟩
 have H4 := H3.fr' hf4
 refine wo (op_assign rfl ?_)
 refine wn ?_
 refine ws ?_
 refine wo (op_move rfl ?_)
 refine wo (op_neqN (b := 0) rfl rfl ?_)
 refine wn ?_
 refine WC.yes rfl (decide_eq_true hw) ?_
 refine ws ?_
 refine wo (op_move rfl ?_)
 refine wo (op_assign rfl ?_)
 refine wn ?_
 refine WC.ret ?_
 refine WQ.thenRet ?_
 refine WQ.out (.tmp rfl .nil) ?_
 exact ⟨rfl, H4.sel [0, 1, 2, 3, 4, 5, 6] rfl rfl⟩
set_option maxHeartbeats 1000000 in
set_option maxRecDepth 100000 in
theorem grant_have (c : Nat) (pg : UInt32) (hv : Value) (he : List UInt32) (mb cn : Nat) (gs : List Gr) (en : Nat) (mp : UInt32) (ev pv : Value) (xs : List Xt) (ps : List UInt16) (con : Bool) (pages : UInt32) (g : Gr) (T : List Nat) (w : World) (H : Owl.Own T w w [.blk c [(vU32 pg), hv, (.map (some mb))] 112, Ent.ar hv 1 he.length (List.map vU32 he), .obj mb (mP .i64 (List.map Gr.me gs) cn), Ent.bs 120 Gr.cells Gr.b gs, Ent.dp grD.list gs, Ent.ar ev 2 xs.length (List.flatMap xtc xs), Ent.ar pv 1 ps.length (List.map vU16 ps)]) (hME : MEok (List.map Gr.me gs) cn) (h1 : 1 ≤ en) (h8 : en ≤ 8) (hn : xs.length < 2 ^ 40) (hm : ps.length < 2 ^ 40) (hhe : he.length < 2 ^ 32) (hfit : ∀ g ∈ gs, g.ps.length < 2 ^ 40 ∧ g.xs.length < 2 ^ 40) (hmf : mfE mp xs ps = 0) (hpg : ¬ pages > 4096) (hg : g ∈ gs) (hge : (g.e : Int) = (en : Int)) :
  Calls Try.prog 19 #[(ptr c 0), (vN en), (.agg #[(vU32 mp), ev, pv, (.bool con)]), (vU32 pages)] w (fun e w' => e = .returned (vN 9) ∧ Owl.Own T w w' [.blk c [(vU32 pg), hv, (.map (some mb))] 112, Ent.ar hv 1 he.length (List.map vU32 he), .obj mb (mP .i64 (List.map Gr.me gs) cn), Ent.bs 120 Gr.cells Gr.b gs, Ent.dp grD.list gs, Ent.ar ev 2 xs.length (List.flatMap xtc xs), Ent.ar pv 1 ps.length (List.map vU16 ps)]) := by
 refine enter (args := [(ptr c 0), (vN en), (.agg #[(vU32 mp), ev, pv, (.bool con)]), (vU32 pages)]) Try.func19 rfl rfl ?_
 refine ws ?_
 refine wo (op_box H rfl rfl (fun b1 w1 H1 => ?_))
 refine wo (op_box H1 rfl rfl (fun b2 w2 H2 => ?_))
 refine wo (op_assign rfl ?_)
 refine wn ?_
 refine WC.seq ?_
 refine WC.block ?_
 refine ws ?_
 refine wo (op_move rfl ?_)
 refine wo (op_eqlPN Fa.PT52 rfl rfl ?_)
 refine wo (op_assign rfl ?_)
 refine wn ?_
 refine WC.no rfl rfl ?_
 refine ws ?_
 refine wo (op_move rfl ?_)
 refine wo (op_lssN (b := 1) rfl rfl ?_)
 refine wo (op_move rfl ?_)
 refine WL.yes rfl rfl rfl (decide_eq_false (by omega)) rfl (op_move rfl ?_)
 refine WL.yes rfl rfl rfl (decide_eq_false (by omega)) rfl (op_gtrN (b := 8) rfl rfl ?_)
 refine wo (op_pickF rfl (decide_eq_false (by omega)) rfl ?_)
 refine wo (op_move rfl ?_)
 refine WL.yes rfl rfl rfl (decide_eq_false (by omega)) rfl (op_loadS (vs := [_, _, _, _]) rfl (H2.cells (i := 7) rfl rfl) Try.underlying59 rfl Fa.I59 rfl ?_)
 refine WL.yes rfl rfl rfl (decide_eq_false (by omega)) rfl (op_callF Fa.C55 rfl ((dcheck_ok mp _ _ xs ps con _ (H2.arrO (i := 5) rfl) (H2.arrO (i := 6) rfl) (by omega) (by omega)).mono (fun e w3 hq => ?_)))
 obtain ⟨rfl, hf3⟩ := hq
 refine ⟨_, rfl, ?_⟩
 have H3 := H2.fr' hf3
 refine WL.yes rfl rfl rfl (decide_eq_false (by omega)) rfl (op_neqN (b := 0) rfl rfl ?_)
 refine wo (op_pickF rfl (decide_eq_false (by omega)) rfl ?_)
 refine wo (op_move rfl ?_)
 refine WL.yes rfl rfl rfl (decide_eq_false (fun h => h hmf)) rfl (op_load rfl (H3.cell (i := 8) rfl rfl) Try.underlying29 rfl ?_)
 refine WL.yes rfl rfl rfl (decide_eq_false (fun h => h hmf)) rfl (op_gtrU32 (b := 4096) rfl rfl ?_)
 refine wo (op_pickF rfl (decide_eq_false (fun h => h hmf)) rfl ?_)
 refine wo (op_assign rfl ?_)
 refine wn ?_
 refine WC.no rfl (decide_eq_false hpg) ?_
 refine ws ?_
 refine wo (op_move rfl ?_)
 refine wo (op_nilCheck rfl ?_)
 refine wo (op_fieldAddr rfl Fa.F112_1 ?_)
 refine wo (op_load rfl (H3.cell (i := 0) rfl rfl) Try.underlying110 rfl ?_)
 refine wo (op_move rfl ?_)
 refine wo (op_lookG_some (g := g) (H3.mp (i := 2) rfl) hME hg hge Try.underlying110 Try.underlying3 rfl rfl ?_)
 refine wo (op_neqPN Fa.PT114 rfl rfl ?_)
 refine wo (op_assign rfl ?_)
 refine wn ?_
 refine WC.yes rfl rfl ?_
 refine ws ?_
 refine wo (op_assign rfl ?_)
 refine wn ?_
 refine WC.ret ?_
 refine WQ.inRet ?_
 refine WQ.thenRet ?_
 refine WQ.out (.tmp rfl .nil) ?_
 exact ⟨rfl, H3.sel [0, 1, 2, 3, 4, 5, 6] rfl rfl⟩
set_option maxHeartbeats 2000000 in
set_option maxRecDepth 100000 in
theorem grant_yes (c : Nat) (pg : UInt32) (hv : Value) (he : List UInt32) (mb cn : Nat) (gs : List Gr) (en : Nat) (mp : UInt32) (ev pv : Value) (xs : List Xt) (ps : List UInt16) (con : Bool) (pages : UInt32) (T : List Nat) (w : World) (H : Owl.Own T w w [.blk c [(vU32 pg), hv, (.map (some mb))] 112, Ent.ar hv 1 he.length (List.map vU32 he), .obj mb (mP .i64 (List.map Gr.me gs) cn), Ent.bs 120 Gr.cells Gr.b gs, Ent.dp grD.list gs, Ent.ar ev 2 xs.length (List.flatMap xtc xs), Ent.ar pv 1 ps.length (List.map vU16 ps)]) (hME : MEok (List.map Gr.me gs) cn) (h1 : 1 ≤ en) (h8 : en ≤ 8) (hn : xs.length < 2 ^ 40) (hm : ps.length < 2 ^ 40) (hhe : he.length < 2 ^ 32) (hfit : ∀ g ∈ gs, g.ps.length < 2 ^ 40 ∧ g.xs.length < 2 ^ 40) (hmf : mfE mp xs ps = 0) (hpg : ¬ pages > 4096) (no : ∀ g ∈ gs, (g.e : Int) ≠ (en : Int)) (hw : (whyE pg he gs mp xs ps pages) = 0) (hT : ∀ b ∈ T, b = c ∨ b = mb ∨ b ∈ List.map Gr.b gs) :
    Calls Try.prog 19 #[(ptr c 0), (vN en), (.agg #[(vU32 mp), ev, pv, (.bool con)]), (vU32 pages)] w (fun e w' => ∃ b v1 v2, e = .returned (vN 0) ∧ (∀ x ∈ grD.ft (Gr.mk en b cn mp v1 xs v2 ps con pages 0), w.heap.size ≤ x) ∧ Owl.Own T w w' [.blk c [(vU32 pg), hv, (.map (some mb))] 112, Ent.ar hv 1 he.length (List.map vU32 he), .obj mb (mP .i64 (List.map Gr.me (gs ++ [(Gr.mk en b cn mp v1 xs v2 ps con pages 0)])) (cn + 1)), Ent.bs 120 Gr.cells Gr.b (gs ++ [(Gr.mk en b cn mp v1 xs v2 ps con pages 0)]), Ent.dp grD.list (gs ++ [(Gr.mk en b cn mp v1 xs v2 ps con pages 0)]), Ent.ar ev 2 xs.length (List.flatMap xtc xs), Ent.ar pv 1 ps.length (List.map vU16 ps)]) := by
  refine enter (args := [(ptr c 0), (vN en), (.agg #[(vU32 mp), ev, pv, (.bool con)]), (vU32 pages)]) Try.func19 rfl rfl ?_
  refine ws ?_
  refine wo (op_box H rfl rfl (fun b1 w1 H1 => ?_))
  refine wo (op_box H1 rfl rfl (fun b2 w2 H2 => ?_))
  refine wo (op_assign rfl ?_)
  refine wn ?_
  refine WC.seq ?_
  refine WC.block ?_
  refine ws ?_
  refine wo (op_move rfl ?_)
  refine wo (op_eqlPN Fa.PT52 rfl rfl ?_)
  refine wo (op_assign rfl ?_)
  refine wn ?_
  refine WC.no rfl rfl ?_
  refine ws ?_
  refine wo (op_move rfl ?_)
  refine wo (op_lssN (b := 1) rfl rfl ?_)
  refine wo (op_move rfl ?_)
  refine WL.yes rfl rfl rfl (decide_eq_false (by omega)) rfl (op_move rfl ?_)
  refine WL.yes rfl rfl rfl (decide_eq_false (by omega)) rfl (op_gtrN (b := 8) rfl rfl ?_)
  refine wo (op_pickF rfl (decide_eq_false (by omega)) rfl ?_)
  refine wo (op_move rfl ?_)
  refine WL.yes rfl rfl rfl (decide_eq_false (by omega)) rfl (op_loadS (vs := [_, _, _, _]) rfl (H2.cells (i := 7) rfl rfl) Try.underlying59 rfl Fa.I59 rfl ?_)
  refine WL.yes rfl rfl rfl (decide_eq_false (by omega)) rfl (op_callF Fa.C55 rfl ((dcheck_ok mp _ _ xs ps con _ (H2.arrO (i := 5) rfl) (H2.arrO (i := 6) rfl) (by omega) (by omega)).mono (fun e w3 hq => ?_)))
  obtain ⟨rfl, hf3⟩ := hq
  refine ⟨_, rfl, ?_⟩
  have H3 := H2.fr' hf3
  refine WL.yes rfl rfl rfl (decide_eq_false (by omega)) rfl (op_neqN (b := 0) rfl rfl ?_)
  refine wo (op_pickF rfl (decide_eq_false (by omega)) rfl ?_)
  refine wo (op_move rfl ?_)
  refine WL.yes rfl rfl rfl (decide_eq_false (fun h => h hmf)) rfl (op_load rfl (H3.cell (i := 8) rfl rfl) Try.underlying29 rfl ?_)
  refine WL.yes rfl rfl rfl (decide_eq_false (fun h => h hmf)) rfl (op_gtrU32 (b := 4096) rfl rfl ?_)
  refine wo (op_pickF rfl (decide_eq_false (fun h => h hmf)) rfl ?_)
  refine wo (op_assign rfl ?_)
  refine wn ?_
  refine WC.no rfl (decide_eq_false hpg) ?_
  refine ws ?_
  refine wo (op_move rfl ?_)
  refine wo (op_nilCheck rfl ?_)
  refine wo (op_fieldAddr rfl Fa.F112_1 ?_)
  refine wo (op_load rfl (H3.cell (i := 0) rfl rfl) Try.underlying110 rfl ?_)
  refine wo (op_move rfl ?_)
  refine wo (op_lookG_no (H3.mp (i := 2) rfl) no Try.underlying110 Try.underlying3 Fa.Z114 rfl rfl ?_)
  refine wo (op_neqPN Fa.PT114 rfl rfl ?_)
  refine wo (op_assign rfl ?_)
  refine wn ?_
  refine WC.no rfl rfl ?_
  refine WC.skip ?_
  refine WQ.inNormal ?_
  refine WQ.next ?_
  refine ws ?_
  refine wo (op_makeFunc rfl rfl ?_)
  refine wo (op_assign rfl ?_)
  refine wn ?_
  refine WC.seq ?_
  refine ws ?_
  refine wo (op_move rfl ?_)
  refine wo (op_loadS (vs := [_, _, _, _]) rfl (H3.cells (i := 7) rfl rfl) Try.underlying59 rfl Fa.I59 rfl ?_)
  refine wo (op_move rfl ?_)
  refine wo (op_callF Fa.C57 rfl ((call_ok c pg hv he mb cn gs mp _ _ xs ps con b2 pages _ (H3.cellsAt (i := 0) rfl) (H3.arrO (i := 1) rfl) (H3.mp (i := 2) rfl) (H3.bsG (i := 3) rfl) (H3.dpO (i := 4) rfl) (H3.cellsAt (i := 8) rfl) hME hfit (H3.arrO (i := 5) rfl) (H3.arrO (i := 6) rfl) hn hm hhe).mono (fun e w4 hq => ?_)))
  obtain ⟨rfl, hf4⟩ := hq
  refine ⟨_, rfl, ?_⟩
  have H4 := H3.fr' hf4
  refine wo (op_assign rfl ?_)
  refine wn ?_
  refine ws ?_
  refine wo (op_move rfl ?_)
  refine wo (op_neqN (b := 0) rfl rfl ?_)
  refine wn ?_
  refine WC.no rfl (decide_eq_false (fun h => h hw)) ?_
  refine WC.skip ?_
  refine WQ.next ?_
  refine WC.seq ?_
  refine WC.draw 7 Fa.M H4 (HW.op rfl (fun w1 H1 => op_fieldAddr rfl Fa.F59_1 ⟨rfl, Fr.refl _ _⟩) (HW.op rfl (fun w1 H1 => op_load rfl (H1.cell (i := 7) rfl rfl) Try.underlying56 rfl ⟨rfl, Fr.refl _ _⟩) (HW.flt (mk := fun bq => bq.2) (ent := fun bq => .row bq.2 108 2 xs.length (List.flatMap xtc xs)) rfl (fun w1 H1 => op_callF Fa.C58 rfl ((cloneX_ok _ xs _ (H1.arrO (i := 5) rfl) (by omega)).mono (fun e w2 ⟨v, he, hO⟩ => ⟨_, he, (0, v), rfl, hO, True.intro⟩))) (HW.op rfl (fun w1 H1 => op_fieldAddr rfl Fa.F59_2 ⟨rfl, Fr.refl _ _⟩) (HW.op rfl (fun w1 H1 => op_load rfl (H1.cell (i := 7) rfl rfl) Try.underlying57 rfl ⟨rfl, Fr.refl _ _⟩) (HW.flt (mk := fun bq => bq.2) (ent := fun bq => .row bq.2 50 1 ps.length (List.map vU16 ps)) rfl (fun w1 H1 => op_callF Fa.C59 rfl ((clone16_ok _ ps _ (H1.arrO (i := 6) rfl) (by omega)).mono (fun e w2 ⟨v, he, hO⟩ => ⟨_, he, (0, v), rfl, hO, True.intro⟩))) (HW.op rfl (fun w1 H1 => op_fieldAddr rfl Fa.F59_1 ⟨rfl, Fr.refl _ _⟩)  HW.nil))))))) (by kernel_rfl) ?_
  intro β7 w7 H7
  refine wo (op_storeB (i := 7) H7 rfl rfl rfl rfl (Arr.one (H7.arrR (i := 9) rfl)) Fa.I56 (fun w8 H8 => ?_))
  refine wo (op_fieldAddr rfl Fa.F59_2 ?_)
  refine wo (op_storeB (i := 7) H8 rfl rfl rfl rfl (Arr.one (H8.arrR (i := 10) rfl)) Fa.I57 (fun w9 H9 => ?_))
  refine wn ?_
  refine WC.seq ?_
  refine WC.draw 9 Fa.M H9 (HW.op rfl (fun w1 H1 => op_move rfl ⟨rfl, Fr.refl _ _⟩) (HW.op rfl (fun w1 H1 => op_nilCheck rfl ⟨rfl, Fr.refl _ _⟩) (HW.op rfl (fun w1 H1 => op_fieldAddr rfl Fa.F112_1 ⟨rfl, Fr.refl _ _⟩) (HW.op rfl (fun w1 H1 => op_load rfl (H1.cell (i := 0) rfl rfl) Try.underlying110 rfl ⟨rfl, Fr.refl _ _⟩) (HW.op rfl (fun w1 H1 => op_move rfl ⟨rfl, Fr.refl _ _⟩) (HW.op rfl (fun w1 H1 => op_loadS (vs := [_, _, _, _]) rfl (H1.cells (i := 7) rfl rfl) Try.underlying59 rfl Fa.I59 rfl ⟨rfl, Fr.refl _ _⟩) (HW.op rfl (fun w1 H1 => op_load rfl (H1.cell (i := 8) rfl rfl) Try.underlying29 rfl ⟨rfl, Fr.refl _ _⟩) (HW.op rfl (fun w1 H1 => op_build (cs := [_, _, _, _, _, _]) Fa.I120 Fa.PL120 rfl rfl ⟨rfl, Fr.refl _ _⟩) (HW.flt (mk := fun bq => ptr bq.1 0) (ent := fun bq => .blk bq.1 _ _) rfl (fun w1 _ => op_box (Own.start w1 []) rfl rfl (fun bq w2 H2 => ⟨(bq, undef), rfl, H2, True.intro⟩))  HW.nil))))))))) (by kernel_rfl) ?_
  intro β10 w10 H10
  refine wo (op_updP (i := 2) (k := en) H10 rfl Try.underlying110 Try.underlying3 (fun x hx hk => by obtain ⟨g, hg, rfl⟩ := List.mem_map.1 hx; exact no g hg (by show ((Gr.me g).k : Int) = _; omega)) rfl rfl rfl (fun w11 H11 => ?_))
  refine wn ?_
  refine ws ?_
  refine wo (op_assign rfl ?_)
  refine wn ?_
  refine WC.ret ?_
  refine WQ.out (.tmp rfl .nil) ?_
  have h := H11
  rw [show List.map Gr.me gs ++ [ME.mk en (β10 8).1 cn] = List.map Gr.me (gs ++ [(Gr.mk en (β10 8).1 cn mp (β7 2).2 xs (β7 5).2 ps con pages 0)]) from by rw [List.map_append]; rfl] at h
  have h2 := h.fold (i := 3) (j := 11) (f := Gr.cells) (bl := Gr.b) (a := (Gr.mk en (β10 8).1 cn mp (β7 2).2 xs (β7 5).2 ps con pages 0)) (l1 := gs) (l2 := []) (by rw [List.append_nil]; rfl) rfl rfl rfl rfl
  have hz1 := h2.rowFreshT (i := 9) rfl (fun b hb => by
    rcases hT b hb with h9 | h9 | h9
    · exact ⟨0, _, rfl, by decide, congrArg some h9.symm⟩
    · exact ⟨2, _, rfl, by decide, congrArg some h9.symm⟩
    · exact ⟨3, _, rfl, by decide, by show b ∈ List.map Gr.b (gs ++ [_]); rw [List.map_append]; exact List.mem_append.2 (.inl h9)⟩)
  have hz2 := h2.rowFreshT (i := 10) rfl (fun b hb => by
    rcases hT b hb with h9 | h9 | h9
    · exact ⟨0, _, rfl, by decide, congrArg some h9.symm⟩
    · exact ⟨2, _, rfl, by decide, congrArg some h9.symm⟩
    · exact ⟨3, _, rfl, by decide, by show b ∈ List.map Gr.b (gs ++ [_]); rw [List.map_append]; exact List.mem_append.2 (.inl h9)⟩)
  have h3 := (h2.freeze (i := 9) rfl).freeze (i := 10) rfl
  have h4 := h3.join (i := 9) (j := 10) (sr := grD.st (Gr.mk en (β10 8).1 cn mp (β7 2).2 xs (β7 5).2 ps con pages 0)) rfl rfl (fun p q => ⟨p, q⟩) (fun b hb => List.mem_append.1 hb)
  have h5 := Own.dpSnoc (D := grD) (l := gs) (a := (Gr.mk en (β10 8).1 cn mp (β7 2).2 xs (β7 5).2 ps con pages 0)) (i := 4) (j := 12) h4 rfl rfl
  exact ⟨_, _, _, rfl, fun x hx => (List.mem_append.1 hx).elim (hz1 x) (hz2 x), h5.sel [0, 1, 2, 3, 13, 5, 6] rfl rfl⟩
end Go.Proofs.Ytbjhccnffacbcaa
/-! from WCap9 -/
namespace Go.Proofs.Ytbjhccnffacbcaa
open Go.Owl Go.Spec
set_option maxRecDepth 100000 in
theorem left_some (c : Nat) (pg : UInt32) (hv : Value) (he : List UInt32) (mb cn : Nat) (gs : List Gr) (env : Int) (g : Gr) (w : World) (hC : cellsAt w c [(vU32 pg), hv, (.map (some mb))]) (hH : Arr w hv 1 he.length (List.map vU32 he)) (hM : w.heap[mb]? = some (mP .i64 (List.map Gr.me gs) cn)) (hG : BsOK 120 Gr.cells Gr.b gs w) (hS : grD.list.ok w gs) (hME : MEok (List.map Gr.me gs) cn) (hg : g ∈ gs) (hge : (g.e : Int) = env) (hgp : g.ps.length < 2 ^ 40) (hgx : g.xs.length < 2 ^ 40) :
  Calls Try.prog 27 #[(ptr c 0), (vI env)] w (fun e w' => e = .returned (vU32 (g.pg - g.tk)) ∧ Fr [] w w') := by
 refine enter (args := [(ptr c 0), (vI env)]) Try.func27 rfl rfl ?_
 have H0 : Owl.Own [] w w [Ent.bo c [(vU32 pg), hv, (.map (some mb))], Ent.ar hv 1 he.length (List.map vU32 he), Ent.mo .i64 mb (List.map Gr.me gs) cn, Ent.bsO 120 Gr.cells Gr.b gs, Ent.dp grD.list gs] := ((((((Own.start w []).oldB hC).oldA hH).mpOld hM).bsOld hG).dpOld hS)
 refine ws ?_
 refine wo (op_assign rfl ?_)
 refine wn ?_
 refine ws ?_
 refine wo (op_move rfl ?_)
 refine wo (op_move rfl ?_)
 have H1 : Owl.Own [] w w [Ent.bo c [(vU32 pg), hv, (.map (some mb))], Ent.ar hv 1 he.length (List.map vU32 he), Ent.mo .i64 mb (List.map Gr.me gs) cn, Ent.bsO 120 Gr.cells Gr.b gs, Ent.dp grD.list gs, Ent.bo g.b [(vU32 g.pg), g.ev, g.pv, (.bool g.con), (vU32 g.pp), (vU32 g.tk)], Ent.ar g.ev 2 g.xs.length (List.flatMap xtc g.xs), Ent.ar g.pv 1 g.ps.length (List.map vU16 g.ps)] := (((H0.bsView (i := 3) (a := g) rfl hg).dpView (i := 4) (a := g) rfl hg (fun w h => h.1) (fun b hb => List.mem_append.2 (.inl hb))).dpView (i := 4) (a := g) rfl hg (fun w h => h.2) (fun b hb => List.mem_append.2 (.inr hb)))
 refine wo (op_callF Fa.C60 rfl ((of_some c pg hv he mb cn gs env g _ (H1.cellsAtO (i := 0) rfl) (H1.arrO (i := 1) rfl) (H1.mpO (i := 2) rfl) (H1.bsR (i := 3) rfl) (H1.dpO (i := 4) rfl) hME hg hge).mono (fun e w2 hq => ?_)))
 obtain ⟨rfl, hf2⟩ := hq
 refine ⟨_, rfl, ?_⟩
 have H2 := H1.fr' hf2
 refine wo (op_move rfl ?_)
 refine wo (op_extract rfl rfl ?_)
 refine wo (op_extract rfl rfl ?_)
 refine wo (op_assign rfl ?_)
 refine wo (op_assign rfl ?_)
 refine wn ?_
 refine WC.seq ?_
 refine WC.draw 11 Fa.M H2 (HW.op rfl (fun w1 H1 => op_move rfl ⟨rfl, Fr.refl _ _⟩) (HW.op rfl (fun w1 H1 => op_nilCheck rfl ⟨rfl, Fr.refl _ _⟩) (HW.op rfl (fun w1 H1 => op_fieldAddr rfl Fa.F120_0 ⟨rfl, Fr.refl _ _⟩) (HW.op rfl (fun w1 H1 => op_fieldAddr rfl Fa.F59_0 ⟨rfl, Fr.refl _ _⟩) (HW.op rfl (fun w1 H1 => op_load rfl (H1.cellO (i := 5) rfl rfl) Try.underlying29 rfl ⟨rfl, Fr.refl _ _⟩) (HW.op rfl (fun w1 H1 => op_move rfl ⟨rfl, Fr.refl _ _⟩) (HW.op rfl (fun w1 H1 => op_nilCheck rfl ⟨rfl, Fr.refl _ _⟩) (HW.op rfl (fun w1 H1 => op_fieldAddr rfl Fa.F120_2 ⟨rfl, Fr.refl _ _⟩) (HW.op rfl (fun w1 H1 => op_load rfl (H1.cellO (i := 5) rfl rfl) Try.underlying29 rfl ⟨rfl, Fr.refl _ _⟩) (HW.op rfl (fun w1 H1 => op_subU32 rfl rfl ⟨rfl, Fr.refl _ _⟩) (HW.op rfl (fun w1 H1 => op_assign rfl ⟨rfl, Fr.refl _ _⟩)  HW.nil))))))))))) (by kernel_rfl) ?_
 intro β3 w3 H3
 refine wn ?_
 refine WC.ret ?_
 refine WQ.out (.tmp rfl .nil) ?_
 exact ⟨rfl, H3.fr⟩
set_option maxRecDepth 100000 in
theorem console_some (c : Nat) (pg : UInt32) (hv : Value) (he : List UInt32) (mb cn : Nat) (gs : List Gr) (env : Int) (g : Gr) (w : World) (hC : cellsAt w c [(vU32 pg), hv, (.map (some mb))]) (hH : Arr w hv 1 he.length (List.map vU32 he)) (hM : w.heap[mb]? = some (mP .i64 (List.map Gr.me gs) cn)) (hG : BsOK 120 Gr.cells Gr.b gs w) (hS : grD.list.ok w gs) (hME : MEok (List.map Gr.me gs) cn) (hg : g ∈ gs) (hge : (g.e : Int) = env) (hgp : g.ps.length < 2 ^ 40) (hgx : g.xs.length < 2 ^ 40) :
  Calls Try.prog 31 #[(ptr c 0), (vI env)] w (fun e w' => e = .returned (.bool g.con) ∧ Fr [] w w') := by
 refine enter (args := [(ptr c 0), (vI env)]) Try.func31 rfl rfl ?_
 have H0 : Owl.Own [] w w [Ent.bo c [(vU32 pg), hv, (.map (some mb))], Ent.ar hv 1 he.length (List.map vU32 he), Ent.mo .i64 mb (List.map Gr.me gs) cn, Ent.bsO 120 Gr.cells Gr.b gs, Ent.dp grD.list gs] := ((((((Own.start w []).oldB hC).oldA hH).mpOld hM).bsOld hG).dpOld hS)
 refine ws ?_
 refine wo (op_assign rfl ?_)
 refine wn ?_
 refine ws ?_
 refine wo (op_move rfl ?_)
 refine wo (op_move rfl ?_)
 have H1 : Owl.Own [] w w [Ent.bo c [(vU32 pg), hv, (.map (some mb))], Ent.ar hv 1 he.length (List.map vU32 he), Ent.mo .i64 mb (List.map Gr.me gs) cn, Ent.bsO 120 Gr.cells Gr.b gs, Ent.dp grD.list gs, Ent.bo g.b [(vU32 g.pg), g.ev, g.pv, (.bool g.con), (vU32 g.pp), (vU32 g.tk)], Ent.ar g.ev 2 g.xs.length (List.flatMap xtc g.xs), Ent.ar g.pv 1 g.ps.length (List.map vU16 g.ps)] := (((H0.bsView (i := 3) (a := g) rfl hg).dpView (i := 4) (a := g) rfl hg (fun w h => h.1) (fun b hb => List.mem_append.2 (.inl hb))).dpView (i := 4) (a := g) rfl hg (fun w h => h.2) (fun b hb => List.mem_append.2 (.inr hb)))
 refine wo (op_callF Fa.C60 rfl ((of_some c pg hv he mb cn gs env g _ (H1.cellsAtO (i := 0) rfl) (H1.arrO (i := 1) rfl) (H1.mpO (i := 2) rfl) (H1.bsR (i := 3) rfl) (H1.dpO (i := 4) rfl) hME hg hge).mono (fun e w2 hq => ?_)))
 obtain ⟨rfl, hf2⟩ := hq
 refine ⟨_, rfl, ?_⟩
 have H2 := H1.fr' hf2
 refine wo (op_move rfl ?_)
 refine wo (op_extract rfl rfl ?_)
 refine wo (op_extract rfl rfl ?_)
 refine wo (op_assign rfl ?_)
 refine wo (op_assign rfl ?_)
 refine wn ?_
 refine ws ?_
 refine wo (op_move rfl ?_)
 refine wo (op_nilCheck rfl ?_)
 refine wo (op_fieldAddr rfl Fa.F120_0 ?_)
 refine wo (op_fieldAddr rfl Fa.F59_3 ?_)
 refine wo (op_load rfl (H2.cellO (i := 5) rfl rfl) Try.underlying4 rfl ?_)
 refine wo (op_assign rfl ?_)
 refine wn ?_
 refine WC.ret ?_
 refine WQ.out (.tmp rfl .nil) ?_
 exact ⟨rfl, H2.fr⟩
set_option maxRecDepth 100000 in
theorem port_some (c : Nat) (pg : UInt32) (hv : Value) (he : List UInt32) (mb cn : Nat) (gs : List Gr) (env : Int) (g : Gr) (y : UInt16) (w : World) (hC : cellsAt w c [(vU32 pg), hv, (.map (some mb))]) (hH : Arr w hv 1 he.length (List.map vU32 he)) (hM : w.heap[mb]? = some (mP .i64 (List.map Gr.me gs) cn)) (hG : BsOK 120 Gr.cells Gr.b gs w) (hS : grD.list.ok w gs) (hME : MEok (List.map Gr.me gs) cn) (hg : g ∈ gs) (hge : (g.e : Int) = env) (hgp : g.ps.length < 2 ^ 40) (hgx : g.xs.length < 2 ^ 40) :
  Calls Try.prog 28 #[(ptr c 0), (vI env), (vU16 y)] w (fun e w' => e = .returned (.bool (busyQ g y)) ∧ Fr [] w w') := by
 refine enter (args := [(ptr c 0), (vI env), (vU16 y)]) Try.func28 rfl rfl ?_
 have H0 : Owl.Own [] w w [Ent.bo c [(vU32 pg), hv, (.map (some mb))], Ent.ar hv 1 he.length (List.map vU32 he), Ent.mo .i64 mb (List.map Gr.me gs) cn, Ent.bsO 120 Gr.cells Gr.b gs, Ent.dp grD.list gs] := ((((((Own.start w []).oldB hC).oldA hH).mpOld hM).bsOld hG).dpOld hS)
 refine ws ?_
 refine wo (op_assign rfl ?_)
 refine wn ?_
 refine ws ?_
 refine wo (op_move rfl ?_)
 refine wo (op_move rfl ?_)
 have H1 : Owl.Own [] w w [Ent.bo c [(vU32 pg), hv, (.map (some mb))], Ent.ar hv 1 he.length (List.map vU32 he), Ent.mo .i64 mb (List.map Gr.me gs) cn, Ent.bsO 120 Gr.cells Gr.b gs, Ent.dp grD.list gs, Ent.bo g.b [(vU32 g.pg), g.ev, g.pv, (.bool g.con), (vU32 g.pp), (vU32 g.tk)], Ent.ar g.ev 2 g.xs.length (List.flatMap xtc g.xs), Ent.ar g.pv 1 g.ps.length (List.map vU16 g.ps)] := (((H0.bsView (i := 3) (a := g) rfl hg).dpView (i := 4) (a := g) rfl hg (fun w h => h.1) (fun b hb => List.mem_append.2 (.inl hb))).dpView (i := 4) (a := g) rfl hg (fun w h => h.2) (fun b hb => List.mem_append.2 (.inr hb)))
 refine wo (op_callF Fa.C60 rfl ((of_some c pg hv he mb cn gs env g _ (H1.cellsAtO (i := 0) rfl) (H1.arrO (i := 1) rfl) (H1.mpO (i := 2) rfl) (H1.bsR (i := 3) rfl) (H1.dpO (i := 4) rfl) hME hg hge).mono (fun e w2 hq => ?_)))
 obtain ⟨rfl, hf2⟩ := hq
 refine ⟨_, rfl, ?_⟩
 have H2 := H1.fr' hf2
 refine wo (op_move rfl ?_)
 refine wo (op_extract rfl rfl ?_)
 refine wo (op_extract rfl rfl ?_)
 refine wo (op_assign rfl ?_)
 refine wo (op_assign rfl ?_)
 refine wn ?_
 refine ws ?_
 refine wo (op_move rfl ?_)
 refine wo (op_nilCheck rfl ?_)
 refine wo (op_fieldAddr rfl Fa.F120_0 ?_)
 refine wo (op_fieldAddr rfl Fa.F59_2 ?_)
 refine wo (op_load rfl (H2.cellO (i := 5) rfl rfl) Try.underlying57 rfl ?_)
 refine wo (op_move rfl ?_)
 refine wo (op_callF Fa.C63 rfl ((con16_ok _ g.ps y _ (H2.arrO (i := 7) rfl) (by omega)).mono (fun e w3 hq => ?_)))
 obtain ⟨rfl, hf3⟩ := hq
 refine ⟨_, rfl, ?_⟩
 have H3 := H2.fr' hf3
 refine wo (op_assign rfl ?_)
 refine wn ?_
 refine WC.ret ?_
 refine WQ.out (.tmp rfl .nil) ?_
 exact ⟨rfl, H3.fr⟩
set_option maxRecDepth 100000 in
theorem block_some (c : Nat) (pg : UInt32) (hv : Value) (he : List UInt32) (mb cn : Nat) (gs : List Gr) (env : Int) (g : Gr) (id bk : UInt32) (w : World) (hC : cellsAt w c [(vU32 pg), hv, (.map (some mb))]) (hH : Arr w hv 1 he.length (List.map vU32 he)) (hM : w.heap[mb]? = some (mP .i64 (List.map Gr.me gs) cn)) (hG : BsOK 120 Gr.cells Gr.b gs w) (hS : grD.list.ok w gs) (hME : MEok (List.map Gr.me gs) cn) (hg : g ∈ gs) (hge : (g.e : Int) = env) (hgp : g.ps.length < 2 ^ 40) (hgx : g.xs.length < 2 ^ 40) :
  Calls Try.prog 29 #[(ptr c 0), (vI env), (vU32 id), (vU32 bk)] w (fun e w' => e = .returned (.bool (hasX g.xs id && decide (bk < (extG g.xs id).bl))) ∧ Fr [] w w') := by
 refine enter (args := [(ptr c 0), (vI env), (vU32 id), (vU32 bk)]) Try.func29 rfl rfl ?_
 have H0 : Owl.Own [] w w [Ent.bo c [(vU32 pg), hv, (.map (some mb))], Ent.ar hv 1 he.length (List.map vU32 he), Ent.mo .i64 mb (List.map Gr.me gs) cn, Ent.bsO 120 Gr.cells Gr.b gs, Ent.dp grD.list gs] := ((((((Own.start w []).oldB hC).oldA hH).mpOld hM).bsOld hG).dpOld hS)
 refine ws ?_
 refine wo (op_assign rfl ?_)
 refine wn ?_
 refine ws ?_
 refine wo (op_move rfl ?_)
 refine wo (op_move rfl ?_)
 have H1 : Owl.Own [] w w [Ent.bo c [(vU32 pg), hv, (.map (some mb))], Ent.ar hv 1 he.length (List.map vU32 he), Ent.mo .i64 mb (List.map Gr.me gs) cn, Ent.bsO 120 Gr.cells Gr.b gs, Ent.dp grD.list gs, Ent.bo g.b [(vU32 g.pg), g.ev, g.pv, (.bool g.con), (vU32 g.pp), (vU32 g.tk)], Ent.ar g.ev 2 g.xs.length (List.flatMap xtc g.xs), Ent.ar g.pv 1 g.ps.length (List.map vU16 g.ps)] := (((H0.bsView (i := 3) (a := g) rfl hg).dpView (i := 4) (a := g) rfl hg (fun w h => h.1) (fun b hb => List.mem_append.2 (.inl hb))).dpView (i := 4) (a := g) rfl hg (fun w h => h.2) (fun b hb => List.mem_append.2 (.inr hb)))
 refine wo (op_callF Fa.C60 rfl ((of_some c pg hv he mb cn gs env g _ (H1.cellsAtO (i := 0) rfl) (H1.arrO (i := 1) rfl) (H1.mpO (i := 2) rfl) (H1.bsR (i := 3) rfl) (H1.dpO (i := 4) rfl) hME hg hge).mono (fun e w2 hq => ?_)))
 obtain ⟨rfl, hf2⟩ := hq
 refine ⟨_, rfl, ?_⟩
 have H2 := H1.fr' hf2
 refine wo (op_move rfl ?_)
 refine wo (op_extract rfl rfl ?_)
 refine wo (op_extract rfl rfl ?_)
 refine wo (op_assign rfl ?_)
 refine wo (op_assign rfl ?_)
 refine wn ?_
 refine WC.seq ?_
 refine ws ?_
 refine wo (op_move rfl ?_)
 refine wo (op_nilCheck rfl ?_)
 refine wo (op_fieldAddr rfl Fa.F120_0 ?_)
 refine wo (op_loadS (vs := [_, _, _, _]) rfl (H2.cellsO (i := 5) rfl rfl) Try.underlying59 rfl Fa.I59 rfl ?_)
 refine wo (op_move rfl ?_)
 refine wo (op_callF Fa.C64 rfl ((extent_ok g.pg _ _ g.xs g.ps g.con id _ (H2.arrO (i := 6) rfl) (H2.arrO (i := 7) rfl) hgx hgp).mono (fun e w3 hq => ?_)))
 obtain ⟨rfl, hf3⟩ := hq
 refine ⟨_, rfl, ?_⟩
 have H3 := H2.fr' hf3
 refine wo (op_move rfl ?_)
 refine wo (op_extract rfl rfl ?_)
 refine wo (op_extract rfl rfl ?_)
 refine wo (op_alloc H3 Fa.I108 (fun b4 w4 H4 => ?_))
 refine wo (op_storeBW (i := 8) H4 rfl rfl rfl rfl rfl Fa.I108 (fun w5 H5 => ?_))
 refine wo (op_assign rfl ?_)
 refine wn ?_
 refine ws ?_
 refine wo (op_move rfl ?_)
 refine wn ?_
 refine WC.cond rfl (fun (hb6 : (hasX g.xs id) = true) => ?_) (fun (hb6 : (hasX g.xs id) = false) => ?_)
 ·
  refine ws ?_
  refine wo (op_move rfl ?_)
  refine wo (op_fieldAddr rfl Fa.F108_1 ?_)
  refine wo (op_load rfl (H5.cell (i := 8) rfl rfl) Try.underlying29 rfl ?_)
  refine wo (op_lssU32 rfl rfl ?_)
  refine wo (op_assign rfl ?_)
  refine wn ?_
  refine WC.ret ?_
  refine WQ.thenRet ?_
  refine WQ.out (.tmp rfl .nil) ?_
  exact ⟨by rw [hb6, Bool.true_and]; rfl, H5.fr⟩
 ·
  refine WC.skip ?_
  refine WQ.next ?_
  refine ws ?_
  refine wo (op_assign rfl ?_)
  refine wn ?_
  refine WC.ret ?_
  refine WQ.out (.tmp rfl .nil) ?_
  exact ⟨by rw [hb6, Bool.false_and]; rfl, H5.fr⟩
set_option maxRecDepth 100000 in
theorem left_no (c : Nat) (pg : UInt32) (hv : Value) (he : List UInt32) (mb cn : Nat) (gs : List Gr) (env : Int) (w : World) (hC : cellsAt w c [(vU32 pg), hv, (.map (some mb))]) (hH : Arr w hv 1 he.length (List.map vU32 he)) (hM : w.heap[mb]? = some (mP .i64 (List.map Gr.me gs) cn)) (hG : BsOK 120 Gr.cells Gr.b gs w) (hS : grD.list.ok w gs) (hME : MEok (List.map Gr.me gs) cn) (no : ∀ g ∈ gs, (g.e : Int) ≠ env) :
  Calls Try.prog 27 #[(ptr c 0), (vI env)] w (fun e w' => e = .returned (vU32 0) ∧ Fr [] w w') := by
 refine enter (args := [(ptr c 0), (vI env)]) Try.func27 rfl rfl ?_
 have H0 : Owl.Own [] w w [Ent.bo c [(vU32 pg), hv, (.map (some mb))], Ent.ar hv 1 he.length (List.map vU32 he), Ent.mo .i64 mb (List.map Gr.me gs) cn, Ent.bsO 120 Gr.cells Gr.b gs, Ent.dp grD.list gs] := ((((((Own.start w []).oldB hC).oldA hH).mpOld hM).bsOld hG).dpOld hS)
 refine ws ?_
 refine wo (op_assign rfl ?_)
 refine wn ?_
 refine ws ?_
 refine wo (op_move rfl ?_)
 refine wo (op_move rfl ?_)
 refine wo (op_callF Fa.C60 rfl ((of_no c pg hv he mb cn gs env _ (H0.cellsAtO (i := 0) rfl) (H0.arrO (i := 1) rfl) (H0.mpO (i := 2) rfl) (H0.bsR (i := 3) rfl) (H0.dpO (i := 4) rfl) hME no).mono (fun e w1 hq => ?_)))
 obtain ⟨b1, rfl, hq1⟩ := hq
 refine ⟨_, rfl, ?_⟩
 have H1 : Owl.Own [] w w1 [Ent.bo c [(vU32 pg), hv, (.map (some mb))], Ent.ar hv 1 he.length (List.map vU32 he), Ent.mo .i64 mb (List.map Gr.me gs) cn, Ent.bsO 120 Gr.cells Gr.b gs, Ent.dp grD.list gs, .blk b1 [(vU32 0), (.slice none 0 0), (.slice none 0 0), (.bool false), (vU32 0), (vU32 0)] 120] := H0.splice [] [] [.blk b1 [(vU32 0), (.slice none 0 0), (.slice none 0 0), (.bool false), (vU32 0), (vU32 0)] 120] rfl rfl hq1 (Fits.solid True.intro Fits.nil)
 refine wo (op_move rfl ?_)
 refine wo (op_extract rfl rfl ?_)
 refine wo (op_extract rfl rfl ?_)
 refine wo (op_assign rfl ?_)
 refine wo (op_assign rfl ?_)
 refine wn ?_
 refine WC.seq ?_
 refine WC.draw 11 Fa.M H1 (HW.op rfl (fun w1 H1 => op_move rfl ⟨rfl, Fr.refl _ _⟩) (HW.op rfl (fun w1 H1 => op_nilCheck rfl ⟨rfl, Fr.refl _ _⟩) (HW.op rfl (fun w1 H1 => op_fieldAddr rfl Fa.F120_0 ⟨rfl, Fr.refl _ _⟩) (HW.op rfl (fun w1 H1 => op_fieldAddr rfl Fa.F59_0 ⟨rfl, Fr.refl _ _⟩) (HW.op rfl (fun w1 H1 => op_load rfl (H1.cell (i := 5) rfl rfl) Try.underlying29 rfl ⟨rfl, Fr.refl _ _⟩) (HW.op rfl (fun w1 H1 => op_move rfl ⟨rfl, Fr.refl _ _⟩) (HW.op rfl (fun w1 H1 => op_nilCheck rfl ⟨rfl, Fr.refl _ _⟩) (HW.op rfl (fun w1 H1 => op_fieldAddr rfl Fa.F120_2 ⟨rfl, Fr.refl _ _⟩) (HW.op rfl (fun w1 H1 => op_load rfl (H1.cell (i := 5) rfl rfl) Try.underlying29 rfl ⟨rfl, Fr.refl _ _⟩) (HW.op rfl (fun w1 H1 => op_subU32 (a := 0) (b := 0) rfl rfl ⟨rfl, Fr.refl _ _⟩) (HW.op rfl (fun w1 H1 => op_assign rfl ⟨rfl, Fr.refl _ _⟩)  HW.nil))))))))))) (by kernel_rfl) ?_
 intro β2 w2 H2
 refine wn ?_
 refine WC.ret ?_
 refine WQ.out (.tmp rfl .nil) ?_
 exact ⟨rfl, H2.fr⟩
set_option maxRecDepth 100000 in
theorem console_no (c : Nat) (pg : UInt32) (hv : Value) (he : List UInt32) (mb cn : Nat) (gs : List Gr) (env : Int) (w : World) (hC : cellsAt w c [(vU32 pg), hv, (.map (some mb))]) (hH : Arr w hv 1 he.length (List.map vU32 he)) (hM : w.heap[mb]? = some (mP .i64 (List.map Gr.me gs) cn)) (hG : BsOK 120 Gr.cells Gr.b gs w) (hS : grD.list.ok w gs) (hME : MEok (List.map Gr.me gs) cn) (no : ∀ g ∈ gs, (g.e : Int) ≠ env) :
  Calls Try.prog 31 #[(ptr c 0), (vI env)] w (fun e w' => e = .returned (.bool false) ∧ Fr [] w w') := by
 refine enter (args := [(ptr c 0), (vI env)]) Try.func31 rfl rfl ?_
 have H0 : Owl.Own [] w w [Ent.bo c [(vU32 pg), hv, (.map (some mb))], Ent.ar hv 1 he.length (List.map vU32 he), Ent.mo .i64 mb (List.map Gr.me gs) cn, Ent.bsO 120 Gr.cells Gr.b gs, Ent.dp grD.list gs] := ((((((Own.start w []).oldB hC).oldA hH).mpOld hM).bsOld hG).dpOld hS)
 refine ws ?_
 refine wo (op_assign rfl ?_)
 refine wn ?_
 refine ws ?_
 refine wo (op_move rfl ?_)
 refine wo (op_move rfl ?_)
 refine wo (op_callF Fa.C60 rfl ((of_no c pg hv he mb cn gs env _ (H0.cellsAtO (i := 0) rfl) (H0.arrO (i := 1) rfl) (H0.mpO (i := 2) rfl) (H0.bsR (i := 3) rfl) (H0.dpO (i := 4) rfl) hME no).mono (fun e w1 hq => ?_)))
 obtain ⟨b1, rfl, hq1⟩ := hq
 refine ⟨_, rfl, ?_⟩
 have H1 : Owl.Own [] w w1 [Ent.bo c [(vU32 pg), hv, (.map (some mb))], Ent.ar hv 1 he.length (List.map vU32 he), Ent.mo .i64 mb (List.map Gr.me gs) cn, Ent.bsO 120 Gr.cells Gr.b gs, Ent.dp grD.list gs, .blk b1 [(vU32 0), (.slice none 0 0), (.slice none 0 0), (.bool false), (vU32 0), (vU32 0)] 120] := H0.splice [] [] [.blk b1 [(vU32 0), (.slice none 0 0), (.slice none 0 0), (.bool false), (vU32 0), (vU32 0)] 120] rfl rfl hq1 (Fits.solid True.intro Fits.nil)
 refine wo (op_move rfl ?_)
 refine wo (op_extract rfl rfl ?_)
 refine wo (op_extract rfl rfl ?_)
 refine wo (op_assign rfl ?_)
 refine wo (op_assign rfl ?_)
 refine wn ?_
 refine ws ?_
 refine wo (op_move rfl ?_)
 refine wo (op_nilCheck rfl ?_)
 refine wo (op_fieldAddr rfl Fa.F120_0 ?_)
 refine wo (op_fieldAddr rfl Fa.F59_3 ?_)
 refine wo (op_load rfl (H1.cell (i := 5) rfl rfl) Try.underlying4 rfl ?_)
 refine wo (op_assign rfl ?_)
 refine wn ?_
 refine WC.ret ?_
 refine WQ.out (.tmp rfl .nil) ?_
 exact ⟨rfl, H1.fr⟩
set_option maxRecDepth 100000 in
theorem port_no (c : Nat) (pg : UInt32) (hv : Value) (he : List UInt32) (mb cn : Nat) (gs : List Gr) (env : Int) (y : UInt16) (w : World) (hC : cellsAt w c [(vU32 pg), hv, (.map (some mb))]) (hH : Arr w hv 1 he.length (List.map vU32 he)) (hM : w.heap[mb]? = some (mP .i64 (List.map Gr.me gs) cn)) (hG : BsOK 120 Gr.cells Gr.b gs w) (hS : grD.list.ok w gs) (hME : MEok (List.map Gr.me gs) cn) (no : ∀ g ∈ gs, (g.e : Int) ≠ env) :
  Calls Try.prog 28 #[(ptr c 0), (vI env), (vU16 y)] w (fun e w' => e = .returned (.bool false) ∧ Fr [] w w') := by
 refine enter (args := [(ptr c 0), (vI env), (vU16 y)]) Try.func28 rfl rfl ?_
 have H0 : Owl.Own [] w w [Ent.bo c [(vU32 pg), hv, (.map (some mb))], Ent.ar hv 1 he.length (List.map vU32 he), Ent.mo .i64 mb (List.map Gr.me gs) cn, Ent.bsO 120 Gr.cells Gr.b gs, Ent.dp grD.list gs] := ((((((Own.start w []).oldB hC).oldA hH).mpOld hM).bsOld hG).dpOld hS)
 refine ws ?_
 refine wo (op_assign rfl ?_)
 refine wn ?_
 refine ws ?_
 refine wo (op_move rfl ?_)
 refine wo (op_move rfl ?_)
 refine wo (op_callF Fa.C60 rfl ((of_no c pg hv he mb cn gs env _ (H0.cellsAtO (i := 0) rfl) (H0.arrO (i := 1) rfl) (H0.mpO (i := 2) rfl) (H0.bsR (i := 3) rfl) (H0.dpO (i := 4) rfl) hME no).mono (fun e w1 hq => ?_)))
 obtain ⟨b1, rfl, hq1⟩ := hq
 refine ⟨_, rfl, ?_⟩
 have H1 : Owl.Own [] w w1 [Ent.bo c [(vU32 pg), hv, (.map (some mb))], Ent.ar hv 1 he.length (List.map vU32 he), Ent.mo .i64 mb (List.map Gr.me gs) cn, Ent.bsO 120 Gr.cells Gr.b gs, Ent.dp grD.list gs, .blk b1 [(vU32 0), (.slice none 0 0), (.slice none 0 0), (.bool false), (vU32 0), (vU32 0)] 120] := H0.splice [] [] [.blk b1 [(vU32 0), (.slice none 0 0), (.slice none 0 0), (.bool false), (vU32 0), (vU32 0)] 120] rfl rfl hq1 (Fits.solid True.intro Fits.nil)
 refine wo (op_move rfl ?_)
 refine wo (op_extract rfl rfl ?_)
 refine wo (op_extract rfl rfl ?_)
 refine wo (op_assign rfl ?_)
 refine wo (op_assign rfl ?_)
 refine wn ?_
 refine ws ?_
 refine wo (op_move rfl ?_)
 refine wo (op_nilCheck rfl ?_)
 refine wo (op_fieldAddr rfl Fa.F120_0 ?_)
 refine wo (op_fieldAddr rfl Fa.F59_2 ?_)
 refine wo (op_load rfl (H1.cell (i := 5) rfl rfl) Try.underlying57 rfl ?_)
 refine wo (op_move rfl ?_)
 refine wo (op_callF Fa.C63 rfl ((con16_ok _ [] y _ (Arr.nil _ _) (by simp)).mono (fun e w2 hq => ?_)))
 obtain ⟨rfl, hf2⟩ := hq
 refine ⟨_, rfl, ?_⟩
 have H2 := H1.fr' hf2
 refine wo (op_assign rfl ?_)
 refine wn ?_
 refine WC.ret ?_
 refine WQ.out (.tmp rfl .nil) ?_
 exact ⟨rfl, H2.fr⟩
set_option maxRecDepth 100000 in
theorem block_no (c : Nat) (pg : UInt32) (hv : Value) (he : List UInt32) (mb cn : Nat) (gs : List Gr) (env : Int) (id bk : UInt32) (w : World) (hC : cellsAt w c [(vU32 pg), hv, (.map (some mb))]) (hH : Arr w hv 1 he.length (List.map vU32 he)) (hM : w.heap[mb]? = some (mP .i64 (List.map Gr.me gs) cn)) (hG : BsOK 120 Gr.cells Gr.b gs w) (hS : grD.list.ok w gs) (hME : MEok (List.map Gr.me gs) cn) (no : ∀ g ∈ gs, (g.e : Int) ≠ env) :
  Calls Try.prog 29 #[(ptr c 0), (vI env), (vU32 id), (vU32 bk)] w (fun e w' => e = .returned (.bool false) ∧ Fr [] w w') := by
 refine enter (args := [(ptr c 0), (vI env), (vU32 id), (vU32 bk)]) Try.func29 rfl rfl ?_
 have H0 : Owl.Own [] w w [Ent.bo c [(vU32 pg), hv, (.map (some mb))], Ent.ar hv 1 he.length (List.map vU32 he), Ent.mo .i64 mb (List.map Gr.me gs) cn, Ent.bsO 120 Gr.cells Gr.b gs, Ent.dp grD.list gs] := ((((((Own.start w []).oldB hC).oldA hH).mpOld hM).bsOld hG).dpOld hS)
 refine ws ?_
 refine wo (op_assign rfl ?_)
 refine wn ?_
 refine ws ?_
 refine wo (op_move rfl ?_)
 refine wo (op_move rfl ?_)
 refine wo (op_callF Fa.C60 rfl ((of_no c pg hv he mb cn gs env _ (H0.cellsAtO (i := 0) rfl) (H0.arrO (i := 1) rfl) (H0.mpO (i := 2) rfl) (H0.bsR (i := 3) rfl) (H0.dpO (i := 4) rfl) hME no).mono (fun e w1 hq => ?_)))
 obtain ⟨b1, rfl, hq1⟩ := hq
 refine ⟨_, rfl, ?_⟩
 have H1 : Owl.Own [] w w1 [Ent.bo c [(vU32 pg), hv, (.map (some mb))], Ent.ar hv 1 he.length (List.map vU32 he), Ent.mo .i64 mb (List.map Gr.me gs) cn, Ent.bsO 120 Gr.cells Gr.b gs, Ent.dp grD.list gs, .blk b1 [(vU32 0), (.slice none 0 0), (.slice none 0 0), (.bool false), (vU32 0), (vU32 0)] 120] := H0.splice [] [] [.blk b1 [(vU32 0), (.slice none 0 0), (.slice none 0 0), (.bool false), (vU32 0), (vU32 0)] 120] rfl rfl hq1 (Fits.solid True.intro Fits.nil)
 refine wo (op_move rfl ?_)
 refine wo (op_extract rfl rfl ?_)
 refine wo (op_extract rfl rfl ?_)
 refine wo (op_assign rfl ?_)
 refine wo (op_assign rfl ?_)
 refine wn ?_
 refine WC.seq ?_
 refine ws ?_
 refine wo (op_move rfl ?_)
 refine wo (op_nilCheck rfl ?_)
 refine wo (op_fieldAddr rfl Fa.F120_0 ?_)
 refine wo (op_loadS (vs := [_, _, _, _]) rfl (H1.cells (i := 5) rfl rfl) Try.underlying59 rfl Fa.I59 rfl ?_)
 refine wo (op_move rfl ?_)
 refine wo (op_callF Fa.C64 rfl ((extent_ok 0 _ _ [] [] false id _ (Arr.nil _ _) (Arr.nil _ _) (by simp) (by simp)).mono (fun e w2 hq => ?_)))
 obtain ⟨rfl, hf2⟩ := hq
 refine ⟨_, rfl, ?_⟩
 have H2 := H1.fr' hf2
 refine wo (op_move rfl ?_)
 refine wo (op_extract rfl rfl ?_)
 refine wo (op_extract rfl rfl ?_)
 refine wo (op_alloc H2 Fa.I108 (fun b3 w3 H3 => ?_))
 refine wo (op_storeBW (i := 6) H3 rfl rfl rfl rfl rfl Fa.I108 (fun w4 H4 => ?_))
 refine wo (op_assign rfl ?_)
 refine wn ?_
 refine ws ?_
 refine wo (op_move rfl ?_)
 refine wn ?_
 refine WC.cond rfl (fun (hb5 : (hasX [] id) = true) => ?_) (fun (hb5 : (hasX [] id) = false) => ?_)
 ·
  refine ws ?_
  refine wo (op_move rfl ?_)
  refine wo (op_fieldAddr rfl Fa.F108_1 ?_)
  refine wo (op_load rfl (H4.cell (i := 6) rfl rfl) Try.underlying29 rfl ?_)
  refine wo (op_lssU32 rfl rfl ?_)
  refine wo (op_assign rfl ?_)
  refine wn ?_
  refine WC.ret ?_
  refine WQ.thenRet ?_
  refine WQ.out (.tmp rfl .nil) ?_
  exact absurd hb5 (by simp [hasX])
 ·
  refine WC.skip ?_
  refine WQ.next ?_
  refine ws ?_
  refine wo (op_assign rfl ?_)
  refine wn ?_
  refine WC.ret ?_
  refine WQ.out (.tmp rfl .nil) ?_
  exact ⟨rfl, H4.fr⟩
end Go.Proofs.Ytbjhccnffacbcaa
/-! from WCap10 -/
namespace Go.Proofs.Ytbjhccnffacbcaa
open Go.Owl Go.Spec
set_option maxRecDepth 100000 in
theorem release_yes (c : Nat) (pg : UInt32) (hv : Value) (he : List UInt32) (mb cn : Nat) (l1 l2 : List Gr) (g : Gr) (env : Int) (T : List Nat) (w : World) (H : Owl.Own T w w [.blk c [(vU32 pg), hv, (.map (some mb))] 112, Ent.ar hv 1 he.length (List.map vU32 he), .obj mb (mP .i64 (List.map Gr.me (l1 ++ g :: l2)) cn), Ent.bs 120 Gr.cells Gr.b (l1 ++ g :: l2), Ent.dp grD.list (l1 ++ g :: l2)]) (hME : MEok (List.map Gr.me (l1 ++ g :: l2)) cn) (hge : (g.e : Int) = env) :
  Calls Try.prog 21 #[(ptr c 0), (vI env)] w (fun e w' => e = .returned (vN 0) ∧ Owl.Own T w w' [.blk c [(vU32 pg), hv, (.map (some mb))] 112, Ent.ar hv 1 he.length (List.map vU32 he), .obj mb (mP .i64 (List.map Gr.me (l1 ++ l2)) cn), Ent.bs 120 Gr.cells Gr.b (l1 ++ l2), Ent.dp grD.list (l1 ++ l2)]) := by
 refine enter (args := [(ptr c 0), (vI env)]) Try.func21 rfl rfl ?_
 refine ws ?_
 refine wo (op_assign rfl ?_)
 refine wn ?_
 refine WC.seq ?_
 refine WC.block ?_
 refine ws ?_
 refine wo (op_move rfl ?_)
 refine wo (op_eqlPN Fa.PT52 rfl rfl ?_)
 refine wo (op_assign rfl ?_)
 refine wn ?_
 refine WC.no rfl rfl ?_
 refine ws ?_
 refine wo (op_move rfl ?_)
 refine wo (op_nilCheck rfl ?_)
 refine wo (op_fieldAddr rfl Fa.F112_1 ?_)
 refine wo (op_load rfl (H.cell (i := 0) rfl rfl) Try.underlying110 rfl ?_)
 refine wo (op_move rfl ?_)
 refine wo (op_lookG_some (g := g) (H.mp (i := 2) rfl) hME (by simp) hge Try.underlying110 Try.underlying3 rfl rfl ?_)
 refine wo (op_eqlPN Fa.PT114 rfl rfl ?_)
 refine wo (op_assign rfl ?_)
 refine wn ?_
 refine WC.no rfl rfl ?_
 refine WC.skip ?_
 refine WQ.inNormal ?_
 refine WQ.next ?_
 refine ws ?_
 refine wo (op_move rfl ?_)
 refine wo (op_nilCheck rfl ?_)
 refine wo (op_fieldAddr rfl Fa.F112_1 ?_)
 refine wo (op_load rfl (H.cell (i := 0) rfl rfl) Try.underlying110 rfl ?_)
 refine wo (op_move rfl ?_)
 have H1 : Owl.Own T w w [.blk c [(vU32 pg), hv, (.map (some mb))] 112, Ent.ar hv 1 he.length (List.map vU32 he), .obj mb (mP .i64 (List.map Gr.me l1 ++ Gr.me g :: List.map Gr.me l2) cn), Ent.bs 120 Gr.cells Gr.b (l1 ++ g :: l2), Ent.dp grD.list (l1 ++ g :: l2)] := by
  have h := H
  rw [List.map_append, List.map_cons] at h
  exact h
 refine wo (op_delP (i := 2) (l1 := (List.map Gr.me l1)) (l2 := (List.map Gr.me l2)) H1 rfl Try.underlying110 Try.underlying3 (fun x hx hk => by rw [List.map_append, List.map_cons] at hME; exact hME.left x hx (hk.trans hge.symm)) hge rfl rfl (fun w2 H2 => ?_))
 refine wn ?_
 refine ws ?_
 refine wo (op_assign rfl ?_)
 refine wn ?_
 refine WC.ret ?_
 refine WQ.out (.tmp rfl .nil) ?_
 have h := H2
 rw [← List.map_append] at h
 have h2 := h.focus (i := 3) (l1 := l1) (l2 := l2) (a := g) (f := Gr.cells) (bl := Gr.b) rfl
 have h3 := h2.dpLess (i := 4) (D := grD) (l' := l1 ++ l2) rfl (fun x hx => by rcases List.mem_append.1 hx with h9 | h9 <;> simp [h9])
 exact ⟨rfl, h3.sel [0, 1, 2, 3, 6] rfl rfl⟩
set_option maxRecDepth 100000 in
theorem release_no (c : Nat) (pg : UInt32) (hv : Value) (he : List UInt32) (mb cn : Nat) (gs : List Gr) (env : Int) (w : World) (hC : cellsAt w c [(vU32 pg), hv, (.map (some mb))]) (hH : Arr w hv 1 he.length (List.map vU32 he)) (hM : w.heap[mb]? = some (mP .i64 (List.map Gr.me gs) cn)) (hG : BsOK 120 Gr.cells Gr.b gs w) (hS : grD.list.ok w gs) (hME : MEok (List.map Gr.me gs) cn) (no : ∀ g ∈ gs, (g.e : Int) ≠ env) :
  Calls Try.prog 21 #[(ptr c 0), (vI env)] w (fun e w' => e = .returned (vN 3) ∧ Fr [] w w') := by
 refine enter (args := [(ptr c 0), (vI env)]) Try.func21 rfl rfl ?_
 have H0 : Owl.Own [] w w [Ent.bo c [(vU32 pg), hv, (.map (some mb))], Ent.ar hv 1 he.length (List.map vU32 he), Ent.mo .i64 mb (List.map Gr.me gs) cn, Ent.bsO 120 Gr.cells Gr.b gs, Ent.dp grD.list gs] := ((((((Own.start w []).oldB hC).oldA hH).mpOld hM).bsOld hG).dpOld hS)
 refine ws ?_
 refine wo (op_assign rfl ?_)
 refine wn ?_
 refine WC.seq ?_
 refine WC.block ?_
 refine ws ?_
 refine wo (op_move rfl ?_)
 refine wo (op_eqlPN Fa.PT52 rfl rfl ?_)
 refine wo (op_assign rfl ?_)
 refine wn ?_
 refine WC.no rfl rfl ?_
 refine ws ?_
 refine wo (op_move rfl ?_)
 refine wo (op_nilCheck rfl ?_)
 refine wo (op_fieldAddr rfl Fa.F112_1 ?_)
 refine wo (op_load rfl (H0.cellO (i := 0) rfl rfl) Try.underlying110 rfl ?_)
 refine wo (op_move rfl ?_)
 refine wo (op_lookG_no (H0.mpO (i := 2) rfl) no Try.underlying110 Try.underlying3 Fa.Z114 rfl rfl ?_)
 refine wo (op_eqlPN Fa.PT114 rfl rfl ?_)
 refine wo (op_assign rfl ?_)
 refine wn ?_
 refine WC.yes rfl rfl ?_
 refine ws ?_
 refine wo (op_assign rfl ?_)
 refine wn ?_
 refine WC.ret ?_
 refine WQ.inRet ?_
 refine WQ.thenRet ?_
 refine WQ.out (.tmp rfl .nil) ?_
 exact ⟨rfl, H0.fr⟩
end Go.Proofs.Ytbjhccnffacbcaa
