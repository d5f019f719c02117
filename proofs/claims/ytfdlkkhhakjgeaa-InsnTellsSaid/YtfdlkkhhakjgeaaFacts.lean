/- Closed facts, off the tables of the program. -/
import Derived.Test.YtfdlkkhhakjgeaaOwl10
import Derived.Test.YtfdlkkhhakjgeaaChecked
namespace Go.Proofs.Ytfdlkkhhakjgeaa
open Go.Owl
namespace Fa
theorem C13 : callB Try.prog 13 = true := by kernel_rfl
theorem C14 : callB Try.prog 14 = true := by kernel_rfl
theorem C15 : callB Try.prog 15 = true := by kernel_rfl
theorem C16 : callB Try.prog 16 = true := by kernel_rfl
theorem C17 : callB Try.prog 17 = true := by kernel_rfl
theorem C18 : callB Try.prog 18 = true := by kernel_rfl
theorem C19 : callB Try.prog 19 = true := by kernel_rfl
theorem C20 : callB Try.prog 20 = true := by kernel_rfl
theorem C36 : callB Try.prog 36 = true := by kernel_rfl
theorem C37 : callB Try.prog 37 = true := by kernel_rfl
theorem C38 : callB Try.prog 38 = true := by kernel_rfl
theorem C39 : callB Try.prog 39 = true := by kernel_rfl
theorem C40 : callB Try.prog 40 = true := by kernel_rfl
theorem C41 : callB Try.prog 41 = true := by kernel_rfl
theorem C42 : callB Try.prog 42 = true := by kernel_rfl
theorem C55 : callB Try.prog 55 = true := by kernel_rfl
theorem C56 : callB Try.prog 56 = true := by kernel_rfl
theorem F24_0 : faB Try.prog 24 0 = some (0, 1, true) := by kernel_rfl
theorem F24_1 : faB Try.prog 24 1 = some (1, 1, true) := by kernel_rfl
theorem F24_2 : faB Try.prog 24 2 = some (2, 1, true) := by kernel_rfl
theorem F24_3 : faB Try.prog 24 3 = some (3, 1, true) := by kernel_rfl
theorem F24_4 : faB Try.prog 24 4 = some (4, 1, true) := by kernel_rfl
theorem F38_0 : faB Try.prog 38 0 = some (0, 1, true) := by kernel_rfl
theorem F38_1 : faB Try.prog 38 1 = some (1, 1, true) := by kernel_rfl
theorem F38_2 : faB Try.prog 38 2 = some (2, 1, true) := by kernel_rfl
theorem F38_3 : faB Try.prog 38 3 = some (3, 1, true) := by kernel_rfl
theorem FL24 : flatB Try.prog 24 = some [.int .u8, .int .u8, .int .u8, .int .u8, .int .u32] := by kernel_rfl
theorem I24 : tiB Try.prog 24 = some ([(vU8 0), (vU8 0), (vU8 0), (vU8 0), (vU32 0)], 5, 8) := by kernel_rfl
theorem I38 : tiB Try.prog 38 = some ([(.bool false), (.bool false), (.bool false), (.bool false)], 4, 4) := by kernel_rfl
theorem I5 : tiB Try.prog 5 = some ([(vU8 0)], 1, 1) := by kernel_rfl
theorem I65 : tiB Try.prog 65 = some ((List.replicate 256 (vU8 0)), 256, 256) := by kernel_rfl
theorem M : Try.prog.follows .mixedOrders = true := by kernel_rfl
theorem PL24 : plB Try.prog 24 = some [(0, 1), (1, 1), (2, 1), (3, 1), (4, 1)] := by kernel_rfl
theorem PL38 : plB Try.prog 38 = some [(0, 1), (1, 1), (2, 1), (3, 1)] := by kernel_rfl
end Fa
end Go.Proofs.Ytfdlkkhhakjgeaa
