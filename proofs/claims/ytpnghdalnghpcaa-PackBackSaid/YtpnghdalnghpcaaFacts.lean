/- Closed facts, off the tables of the program. -/
import Derived.Test.YtpnghdalnghpcaaOwl10
import Derived.Test.YtpnghdalnghpcaaChecked
namespace Go.Proofs.Ytpnghdalnghpcaa
open Go.Owl
namespace Fa
theorem C117 : callB Try.prog 117 = true := by kernel_rfl
theorem C15 : callB Try.prog 15 = true := by kernel_rfl
theorem C16 : callB Try.prog 16 = true := by kernel_rfl
theorem C17 : callB Try.prog 17 = true := by kernel_rfl
theorem C18 : callB Try.prog 18 = true := by kernel_rfl
theorem C19 : callB Try.prog 19 = true := by kernel_rfl
theorem C20 : callB Try.prog 20 = true := by kernel_rfl
theorem C21 : callB Try.prog 21 = true := by kernel_rfl
theorem C22 : callB Try.prog 22 = true := by kernel_rfl
theorem C23 : callB Try.prog 23 = true := by kernel_rfl
theorem C24 : callB Try.prog 24 = true := by kernel_rfl
theorem C25 : callB Try.prog 25 = true := by kernel_rfl
theorem C26 : callB Try.prog 26 = true := by kernel_rfl
theorem C27 : callB Try.prog 27 = true := by kernel_rfl
theorem C28 : callB Try.prog 28 = true := by kernel_rfl
theorem C29 : callB Try.prog 29 = true := by kernel_rfl
theorem C30 : callB Try.prog 30 = true := by kernel_rfl
theorem C31 : callB Try.prog 31 = true := by kernel_rfl
theorem C32 : callB Try.prog 32 = true := by kernel_rfl
theorem C33 : callB Try.prog 33 = true := by kernel_rfl
theorem C34 : callB Try.prog 34 = true := by kernel_rfl
theorem C35 : callB Try.prog 35 = true := by kernel_rfl
theorem C36 : callB Try.prog 36 = true := by kernel_rfl
theorem C73 : callB Try.prog 73 = true := by kernel_rfl
theorem C74 : callB Try.prog 74 = true := by kernel_rfl
theorem C75 : callB Try.prog 75 = true := by kernel_rfl
theorem C76 : callB Try.prog 76 = true := by kernel_rfl
theorem C77 : callB Try.prog 77 = true := by kernel_rfl
theorem C78 : callB Try.prog 78 = true := by kernel_rfl
theorem F105_0 : faB Try.prog 105 0 = some (0, 1, true) := by kernel_rfl
theorem F105_1 : faB Try.prog 105 1 = some (1, 1, true) := by kernel_rfl
theorem F105_2 : faB Try.prog 105 2 = some (2, 1, true) := by kernel_rfl
theorem F107_0 : faB Try.prog 107 0 = some (0, 3, false) := by kernel_rfl
theorem F47_0 : faB Try.prog 47 0 = some (0, 1, true) := by kernel_rfl
theorem F47_1 : faB Try.prog 47 1 = some (1, 1, true) := by kernel_rfl
theorem F49_0 : faB Try.prog 49 0 = some (0, 1, true) := by kernel_rfl
theorem F49_1 : faB Try.prog 49 1 = some (1, 1, true) := by kernel_rfl
theorem I105 : tiB Try.prog 105 = some ([(str []), (vN 0), (vN 0)], 3, 32) := by kernel_rfl
theorem I107 : tiB Try.prog 107 = some ([(str []), (vN 0), (vN 0)], 3, 32) := by kernel_rfl
theorem I26 : tiB Try.prog 26 = some ([(vN 0)], 1, 8) := by kernel_rfl
theorem I3 : tiB Try.prog 3 = some ([(vN 0)], 1, 8) := by kernel_rfl
theorem I47 : tiB Try.prog 47 = some ([(str []), (vN 0)], 2, 24) := by kernel_rfl
theorem I49 : tiB Try.prog 49 = some ([(vN 0), (vN 0)], 2, 16) := by kernel_rfl
theorem I5 : tiB Try.prog 5 = some ([(vU8 0)], 1, 1) := by kernel_rfl
theorem I9 : tiB Try.prog 9 = some ([(str [])], 1, 16) := by kernel_rfl
theorem M : Try.prog.follows .mixedOrders = true := by kernel_rfl
theorem PL105 : plB Try.prog 105 = some [(0, 1), (1, 1), (2, 1)] := by kernel_rfl
theorem PL107 : plB Try.prog 107 = some [(0, 3)] := by kernel_rfl
theorem PL47 : plB Try.prog 47 = some [(0, 1), (1, 1)] := by kernel_rfl
theorem PT34 : Try.prog.underlying 34 = some (.pointer (Try.prog.pointee 34)) := by kernel_rfl
end Fa
end Go.Proofs.Ytpnghdalnghpcaa
