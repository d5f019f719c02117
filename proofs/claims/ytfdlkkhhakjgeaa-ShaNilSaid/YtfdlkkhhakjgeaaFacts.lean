/- Closed facts, off the tables of the program. -/
import Derived.Test.YtfdlkkhhakjgeaaOwl10
import Derived.Test.YtfdlkkhhakjgeaaChecked
namespace Go.Proofs.Ytfdlkkhhakjgeaa
open Go.Owl
namespace Fa
theorem C21 : callB Try.prog 21 = true := by kernel_rfl
theorem C22 : callB Try.prog 22 = true := by kernel_rfl
theorem C23 : callB Try.prog 23 = true := by kernel_rfl
theorem C24 : callB Try.prog 24 = true := by kernel_rfl
theorem C25 : callB Try.prog 25 = true := by kernel_rfl
theorem C26 : callB Try.prog 26 = true := by kernel_rfl
theorem C27 : callB Try.prog 27 = true := by kernel_rfl
theorem C43 : callB Try.prog 43 = true := by kernel_rfl
theorem C44 : callB Try.prog 44 = true := by kernel_rfl
theorem C45 : callB Try.prog 45 = true := by kernel_rfl
theorem C46 : callB Try.prog 46 = true := by kernel_rfl
theorem C47 : callB Try.prog 47 = true := by kernel_rfl
theorem C48 : callB Try.prog 48 = true := by kernel_rfl
theorem C57 : callB Try.prog 57 = true := by kernel_rfl
theorem C58 : callB Try.prog 58 = true := by kernel_rfl
theorem C59 : callB Try.prog 59 = true := by kernel_rfl
theorem C60 : callB Try.prog 60 = true := by kernel_rfl
theorem C61 : callB Try.prog 61 = true := by kernel_rfl
theorem C62 : callB Try.prog 62 = true := by kernel_rfl
theorem C63 : callB Try.prog 63 = true := by kernel_rfl
theorem C65 : callB Try.prog 65 = true := by kernel_rfl
theorem C66 : callB Try.prog 66 = true := by kernel_rfl
theorem F76_0 : faB Try.prog 76 0 = some (0, 8, false) := by kernel_rfl
theorem F76_1 : faB Try.prog 76 1 = some (8, 1, true) := by kernel_rfl
theorem F76_2 : faB Try.prog 76 2 = some (9, 1, true) := by kernel_rfl
theorem I22 : tiB Try.prog 22 = some ([(vU32 0)], 1, 4) := by kernel_rfl
theorem I3 : tiB Try.prog 3 = some ([(vN 0)], 1, 8) := by kernel_rfl
theorem I31 : tiB Try.prog 31 = some ([(.slice none 0 0)], 1, 24) := by kernel_rfl
theorem I5 : tiB Try.prog 5 = some ([(vU8 0)], 1, 1) := by kernel_rfl
theorem I73 : tiB Try.prog 73 = some ([(vU32 0), (vU32 0), (vU32 0), (vU32 0), (vU32 0), (vU32 0), (vU32 0), (vU32 0)], 8, 32) := by kernel_rfl
theorem I76 : tiB Try.prog 76 = some ([(vU32 0), (vU32 0), (vU32 0), (vU32 0), (vU32 0), (vU32 0), (vU32 0), (vU32 0), (.slice none 0 0), (vN 0)], 10, 64) := by kernel_rfl
theorem I9 : tiB Try.prog 9 = some ([(str [])], 1, 16) := by kernel_rfl
theorem I95 : tiB Try.prog 95 = some ((List.replicate 64 (vU32 0)), 64, 256) := by kernel_rfl
theorem M : Try.prog.follows .mixedOrders = true := by kernel_rfl
theorem PL76 : plB Try.prog 76 = some [(0, 8), (8, 1), (9, 1)] := by kernel_rfl
theorem PT45 : Try.prog.underlying 45 = some (.pointer (Try.prog.pointee 45)) := by kernel_rfl
end Fa
end Go.Proofs.Ytfdlkkhhakjgeaa
