/- Closed facts, off the tables of the program. -/
import Derived.Test.YtfdlkkhhakjgeaaOwl10
import Derived.Test.YtfdlkkhhakjgeaaChecked
namespace Go.Proofs.Ytfdlkkhhakjgeaa
open Go.Owl
namespace Fa
theorem C13 : callB Try.prog 13 = true := by kernel_rfl
theorem C14 : callB Try.prog 14 = true := by kernel_rfl
theorem C15 : callB Try.prog 15 = true := by kernel_rfl
theorem C18 : callB Try.prog 18 = true := by kernel_rfl
theorem C21 : callB Try.prog 21 = true := by kernel_rfl
theorem C22 : callB Try.prog 22 = true := by kernel_rfl
theorem C23 : callB Try.prog 23 = true := by kernel_rfl
theorem C24 : callB Try.prog 24 = true := by kernel_rfl
theorem C25 : callB Try.prog 25 = true := by kernel_rfl
theorem C26 : callB Try.prog 26 = true := by kernel_rfl
theorem C27 : callB Try.prog 27 = true := by kernel_rfl
theorem C28 : callB Try.prog 28 = true := by kernel_rfl
theorem C29 : callB Try.prog 29 = true := by kernel_rfl
theorem C30 : callB Try.prog 30 = true := by kernel_rfl
theorem C31 : callB Try.prog 31 = true := by kernel_rfl
theorem C32 : callB Try.prog 32 = true := by kernel_rfl
theorem C33 : callB Try.prog 33 = true := by kernel_rfl
theorem C34 : callB Try.prog 34 = true := by kernel_rfl
theorem C35 : callB Try.prog 35 = true := by kernel_rfl
theorem C36 : callB Try.prog 36 = true := by kernel_rfl
theorem C37 : callB Try.prog 37 = true := by kernel_rfl
theorem C41 : callB Try.prog 41 = true := by kernel_rfl
theorem C42 : callB Try.prog 42 = true := by kernel_rfl
theorem C43 : callB Try.prog 43 = true := by kernel_rfl
theorem C44 : callB Try.prog 44 = true := by kernel_rfl
theorem C45 : callB Try.prog 45 = true := by kernel_rfl
theorem C46 : callB Try.prog 46 = true := by kernel_rfl
theorem C47 : callB Try.prog 47 = true := by kernel_rfl
theorem C48 : callB Try.prog 48 = true := by kernel_rfl
theorem C49 : callB Try.prog 49 = true := by kernel_rfl
theorem C50 : callB Try.prog 50 = true := by kernel_rfl
theorem C51 : callB Try.prog 51 = true := by kernel_rfl
theorem C52 : callB Try.prog 52 = true := by kernel_rfl
theorem C53 : callB Try.prog 53 = true := by kernel_rfl
theorem C54 : callB Try.prog 54 = true := by kernel_rfl
theorem C55 : callB Try.prog 55 = true := by kernel_rfl
theorem C57 : callB Try.prog 57 = true := by kernel_rfl
theorem C58 : callB Try.prog 58 = true := by kernel_rfl
theorem C59 : callB Try.prog 59 = true := by kernel_rfl
theorem C60 : callB Try.prog 60 = true := by kernel_rfl
theorem C61 : callB Try.prog 61 = true := by kernel_rfl
theorem C62 : callB Try.prog 62 = true := by kernel_rfl
theorem C63 : callB Try.prog 63 = true := by kernel_rfl
theorem C64 : callB Try.prog 64 = true := by kernel_rfl
theorem C65 : callB Try.prog 65 = true := by kernel_rfl
theorem C66 : callB Try.prog 66 = true := by kernel_rfl
theorem CO5 : Try.prog.cellsOf 5 = 1 := by kernel_rfl
theorem CO81 : Try.prog.cellsOf 81 = 2 := by kernel_rfl
theorem F24_0 : faB Try.prog 24 0 = some (0, 1, true) := by kernel_rfl
theorem F24_1 : faB Try.prog 24 1 = some (1, 1, true) := by kernel_rfl
theorem F24_2 : faB Try.prog 24 2 = some (2, 1, true) := by kernel_rfl
theorem F24_3 : faB Try.prog 24 3 = some (3, 1, true) := by kernel_rfl
theorem F24_4 : faB Try.prog 24 4 = some (4, 1, true) := by kernel_rfl
theorem F76_0 : faB Try.prog 76 0 = some (0, 8, false) := by kernel_rfl
theorem F76_1 : faB Try.prog 76 1 = some (8, 1, true) := by kernel_rfl
theorem F76_2 : faB Try.prog 76 2 = some (9, 1, true) := by kernel_rfl
theorem F81_0 : faB Try.prog 81 0 = some (0, 1, true) := by kernel_rfl
theorem F81_1 : faB Try.prog 81 1 = some (1, 1, true) := by kernel_rfl
theorem F88_0 : faB Try.prog 88 0 = some (0, 1, true) := by kernel_rfl
theorem F88_1 : faB Try.prog 88 1 = some (1, 1, true) := by kernel_rfl
theorem FL24 : flatB Try.prog 24 = some [.int .u8, .int .u8, .int .u8, .int .u8, .int .u32] := by kernel_rfl
theorem I22 : tiB Try.prog 22 = some ([(vU32 0)], 1, 4) := by kernel_rfl
theorem I24 : tiB Try.prog 24 = some ([(vU8 0), (vU8 0), (vU8 0), (vU8 0), (vU32 0)], 5, 8) := by kernel_rfl
theorem I3 : tiB Try.prog 3 = some ([(vN 0)], 1, 8) := by kernel_rfl
theorem I31 : tiB Try.prog 31 = some ([(.slice none 0 0)], 1, 24) := by kernel_rfl
theorem I5 : tiB Try.prog 5 = some ([(vU8 0)], 1, 1) := by kernel_rfl
theorem I65 : tiB Try.prog 65 = some ((List.replicate 256 (vU8 0)), 256, 256) := by kernel_rfl
theorem I73 : tiB Try.prog 73 = some ([(vU32 0), (vU32 0), (vU32 0), (vU32 0), (vU32 0), (vU32 0), (vU32 0), (vU32 0)], 8, 32) := by kernel_rfl
theorem I76 : tiB Try.prog 76 = some ([(vU32 0), (vU32 0), (vU32 0), (vU32 0), (vU32 0), (vU32 0), (vU32 0), (vU32 0), (.slice none 0 0), (vN 0)], 10, 64) := by kernel_rfl
theorem I79 : tiB Try.prog 79 = some ([(.pointer none)], 1, 8) := by kernel_rfl
theorem I81 : tiB Try.prog 81 = some ([(.pointer none), (.slice none 0 0)], 2, 32) := by kernel_rfl
theorem I88 : tiB Try.prog 88 = some ([(.pointer none), (str [])], 2, 24) := by kernel_rfl
theorem I9 : tiB Try.prog 9 = some ([(str [])], 1, 16) := by kernel_rfl
theorem I95 : tiB Try.prog 95 = some ((List.replicate 64 (vU32 0)), 64, 256) := by kernel_rfl
theorem LI81_81 : liesAt Try.prog Try.prog.depth 81 1 0 81 1 = true := by kernel_rfl
theorem M : Try.prog.follows .mixedOrders = true := by kernel_rfl
theorem PL24 : plB Try.prog 24 = some [(0, 1), (1, 1), (2, 1), (3, 1), (4, 1)] := by kernel_rfl
theorem PL76 : plB Try.prog 76 = some [(0, 8), (8, 1), (9, 1)] := by kernel_rfl
theorem PL88 : plB Try.prog 88 = some [(0, 1), (1, 1)] := by kernel_rfl
theorem PT45 : Try.prog.underlying 45 = some (.pointer (Try.prog.pointee 45)) := by kernel_rfl
theorem PT56 : Try.prog.underlying 56 = some (.pointer (Try.prog.pointee 56)) := by kernel_rfl
theorem PT79 : Try.prog.underlying 79 = some (.pointer (Try.prog.pointee 79)) := by kernel_rfl
end Fa
end Go.Proofs.Ytfdlkkhhakjgeaa
