/- General lemmas and walks: Facts, Facts2, FWLog4, FWLog5, FWLog6, FWLog7, FWLaw39, FWLaw39b, FWLaw39c, FWLaw39d, FWDem, FWImg, FWImg2, FWImg3, FWImg4, FWImg5, FWImg6, FWImg7, FWImg8, FWImg9, FWImg10, FWImg11, FWImg12, FWImg13, FWImg14, FWImg15, FWImg16, FWSeal, FWSeal2, FWSeal3, FWSeal4, FWSeal5, FWSeal6, WDem, WImg, WPack, WPack2, WImg2. No condition but what each theorem names. -/
import Derived.Test.YtpnghdalnghpcaaQ793b7ef6
import Derived.Test.YtpnghdalnghpcaaChecked
import Derived.Test.YtpnghdalnghpcaaQ8b1839b4
import Derived.Test.YtpnghdalnghpcaaQ3677b7f3
/-! from Facts -/
/- Closed facts, off the tables of the program. -/
namespace Go.Proofs.Ytpnghdalnghpcaa
open Go.Owl
namespace Fa
theorem C109 : callB Try.prog 109 = true := by kernel_rfl
theorem C110 : callB Try.prog 110 = true := by kernel_rfl
theorem C111 : callB Try.prog 111 = true := by kernel_rfl
theorem C114 : callB Try.prog 114 = true := by kernel_rfl
theorem C115 : callB Try.prog 115 = true := by kernel_rfl
theorem C116 : callB Try.prog 116 = true := by kernel_rfl
theorem C117 : callB Try.prog 117 = true := by kernel_rfl
theorem C131 : callB Try.prog 131 = true := by kernel_rfl
theorem C132 : callB Try.prog 132 = true := by kernel_rfl
theorem C133 : callB Try.prog 133 = true := by kernel_rfl
theorem C134 : callB Try.prog 134 = true := by kernel_rfl
theorem C135 : callB Try.prog 135 = true := by kernel_rfl
theorem C136 : callB Try.prog 136 = true := by kernel_rfl
theorem C137 : callB Try.prog 137 = true := by kernel_rfl
theorem C138 : callB Try.prog 138 = true := by kernel_rfl
theorem C143 : callB Try.prog 143 = true := by kernel_rfl
theorem C144 : callB Try.prog 144 = true := by kernel_rfl
theorem C145 : callB Try.prog 145 = true := by kernel_rfl
theorem C146 : callB Try.prog 146 = true := by kernel_rfl
theorem C147 : callB Try.prog 147 = true := by kernel_rfl
theorem C148 : callB Try.prog 148 = true := by kernel_rfl
theorem C149 : callB Try.prog 149 = true := by kernel_rfl
theorem C150 : callB Try.prog 150 = true := by kernel_rfl
theorem C151 : callB Try.prog 151 = true := by kernel_rfl
theorem C152 : callB Try.prog 152 = true := by kernel_rfl
theorem C153 : callB Try.prog 153 = true := by kernel_rfl
theorem C154 : callB Try.prog 154 = true := by kernel_rfl
theorem C17 : callB Try.prog 17 = true := by kernel_rfl
theorem C18 : callB Try.prog 18 = true := by kernel_rfl
theorem C24 : callB Try.prog 24 = true := by kernel_rfl
theorem C25 : callB Try.prog 25 = true := by kernel_rfl
theorem C29 : callB Try.prog 29 = true := by kernel_rfl
theorem C30 : callB Try.prog 30 = true := by kernel_rfl
theorem C31 : callB Try.prog 31 = true := by kernel_rfl
theorem C32 : callB Try.prog 32 = true := by kernel_rfl
theorem C35 : callB Try.prog 35 = true := by kernel_rfl
theorem C36 : callB Try.prog 36 = true := by kernel_rfl
theorem C65 : callB Try.prog 65 = true := by kernel_rfl
theorem C73 : callB Try.prog 73 = true := by kernel_rfl
theorem C74 : callB Try.prog 74 = true := by kernel_rfl
theorem C75 : callB Try.prog 75 = true := by kernel_rfl
theorem C76 : callB Try.prog 76 = true := by kernel_rfl
theorem C77 : callB Try.prog 77 = true := by kernel_rfl
theorem C78 : callB Try.prog 78 = true := by kernel_rfl
theorem F105_0 : faB Try.prog 105 0 = some (0, 1, true) := by kernel_rfl
theorem F105_1 : faB Try.prog 105 1 = some (1, 1, true) := by kernel_rfl
theorem F105_2 : faB Try.prog 105 2 = some (2, 1, true) := by kernel_rfl
theorem F107_0 : faB Try.prog 107 0 = some (0, 3, false) := by kernel_rfl
theorem F185_0 : faB Try.prog 185 0 = some (0, 1, true) := by kernel_rfl
theorem F185_1 : faB Try.prog 185 1 = some (1, 1, true) := by kernel_rfl
theorem F198_0 : faB Try.prog 198 0 = some (0, 8, false) := by kernel_rfl
theorem F198_1 : faB Try.prog 198 1 = some (8, 1, true) := by kernel_rfl
theorem F198_2 : faB Try.prog 198 2 = some (9, 1, true) := by kernel_rfl
theorem F47_0 : faB Try.prog 47 0 = some (0, 1, true) := by kernel_rfl
theorem F47_1 : faB Try.prog 47 1 = some (1, 1, true) := by kernel_rfl
theorem I105 : tiB Try.prog 105 = some ([(str []), (vN 0), (vN 0)], 3, 32) := by kernel_rfl
theorem I107 : tiB Try.prog 107 = some ([(str []), (vN 0), (vN 0)], 3, 32) := by kernel_rfl
theorem I185 : tiB Try.prog 185 = some ([(.pointer none), (str [])], 2, 24) := by kernel_rfl
theorem I195 : tiB Try.prog 195 = some ([(vU32 0), (vU32 0), (vU32 0), (vU32 0), (vU32 0), (vU32 0), (vU32 0), (vU32 0)], 8, 32) := by kernel_rfl
theorem I198 : tiB Try.prog 198 = some ([(vU32 0), (vU32 0), (vU32 0), (vU32 0), (vU32 0), (vU32 0), (vU32 0), (vU32 0), (.slice none 0 0), (vN 0)], 10, 64) := by kernel_rfl
theorem I204 : tiB Try.prog 204 = some ((List.replicate 64 (vU32 0)), 64, 256) := by kernel_rfl
theorem I22 : tiB Try.prog 22 = some ([(vU32 0)], 1, 4) := by kernel_rfl
theorem I26 : tiB Try.prog 26 = some ([(vN 0)], 1, 8) := by kernel_rfl
theorem I3 : tiB Try.prog 3 = some ([(vN 0)], 1, 8) := by kernel_rfl
theorem I47 : tiB Try.prog 47 = some ([(str []), (vN 0)], 2, 24) := by kernel_rfl
theorem I5 : tiB Try.prog 5 = some ([(vU8 0)], 1, 1) := by kernel_rfl
theorem I73 : tiB Try.prog 73 = some ([(.slice none 0 0)], 1, 24) := by kernel_rfl
theorem I9 : tiB Try.prog 9 = some ([(str [])], 1, 16) := by kernel_rfl
theorem M : Try.prog.follows .mixedOrders = true := by kernel_rfl
theorem PL105 : plB Try.prog 105 = some [(0, 1), (1, 1), (2, 1)] := by kernel_rfl
theorem PL107 : plB Try.prog 107 = some [(0, 3)] := by kernel_rfl
theorem PL185 : plB Try.prog 185 = some [(0, 1), (1, 1)] := by kernel_rfl
theorem PL198 : plB Try.prog 198 = some [(0, 8), (8, 1), (9, 1)] := by kernel_rfl
theorem PL47 : plB Try.prog 47 = some [(0, 1), (1, 1)] := by kernel_rfl
theorem PT157 : Try.prog.underlying 157 = some (.pointer (Try.prog.pointee 157)) := by kernel_rfl
theorem PT182 : Try.prog.underlying 182 = some (.pointer (Try.prog.pointee 182)) := by kernel_rfl
theorem PT34 : Try.prog.underlying 34 = some (.pointer (Try.prog.pointee 34)) := by kernel_rfl
end Fa
end Go.Proofs.Ytpnghdalnghpcaa
/-! from Facts2 -/
/- Closed facts, off the tables of the program. -/
namespace Go.Proofs.Ytpnghdalnghpcaa
open Go.Owl
namespace Fa
theorem C71 : callB Try.prog 71 = true := by kernel_rfl
end Fa
end Go.Proofs.Ytpnghdalnghpcaa
/-! from FWLog4 -/
/- Closed facts, off the tables of the program. -/
namespace Go.Proofs.Ytpnghdalnghpcaa
open Go.Owl
namespace Fa
end Fa
end Go.Proofs.Ytpnghdalnghpcaa
/-! from FWLog5 -/
/- Closed facts, off the tables of the program. -/
namespace Go.Proofs.Ytpnghdalnghpcaa
open Go.Owl
namespace Fa
end Fa
end Go.Proofs.Ytpnghdalnghpcaa
/-! from FWLog6 -/
/- Closed facts, off the tables of the program. -/
namespace Go.Proofs.Ytpnghdalnghpcaa
open Go.Owl
namespace Fa
end Fa
end Go.Proofs.Ytpnghdalnghpcaa
/-! from FWLog7 -/
/- Closed facts, off the tables of the program. -/
namespace Go.Proofs.Ytpnghdalnghpcaa
open Go.Owl
namespace Fa
end Fa
end Go.Proofs.Ytpnghdalnghpcaa
/-! from FWLaw39 -/
/- Closed facts, off the tables of the program. -/
namespace Go.Proofs.Ytpnghdalnghpcaa
open Go.Owl
namespace Fa
end Fa
end Go.Proofs.Ytpnghdalnghpcaa
/-! from FWLaw39b -/
/- Closed facts, off the tables of the program. -/
namespace Go.Proofs.Ytpnghdalnghpcaa
open Go.Owl
namespace Fa
end Fa
end Go.Proofs.Ytpnghdalnghpcaa
/-! from FWLaw39c -/
/- Closed facts, off the tables of the program. -/
namespace Go.Proofs.Ytpnghdalnghpcaa
open Go.Owl
namespace Fa
end Fa
end Go.Proofs.Ytpnghdalnghpcaa
/-! from FWLaw39d -/
/- Closed facts, off the tables of the program. -/
namespace Go.Proofs.Ytpnghdalnghpcaa
open Go.Owl
namespace Fa
end Fa
end Go.Proofs.Ytpnghdalnghpcaa
/-! from FWDem -/
/- Closed facts, off the tables of the program. -/
namespace Go.Proofs.Ytpnghdalnghpcaa
open Go.Owl
namespace Fa
theorem C118 : callB Try.prog 118 = true := by kernel_rfl
theorem C119 : callB Try.prog 119 = true := by kernel_rfl
theorem C120 : callB Try.prog 120 = true := by kernel_rfl
theorem C121 : callB Try.prog 121 = true := by kernel_rfl
theorem C122 : callB Try.prog 122 = true := by kernel_rfl
theorem C123 : callB Try.prog 123 = true := by kernel_rfl
theorem C124 : callB Try.prog 124 = true := by kernel_rfl
theorem C139 : callB Try.prog 139 = true := by kernel_rfl
theorem C140 : callB Try.prog 140 = true := by kernel_rfl
theorem C141 : callB Try.prog 141 = true := by kernel_rfl
theorem F130_0 : faB Try.prog 130 0 = some (0, 1, true) := by kernel_rfl
theorem F130_1 : faB Try.prog 130 1 = some (1, 1, true) := by kernel_rfl
theorem F56_0 : faB Try.prog 56 0 = some (0, 1, true) := by kernel_rfl
theorem F56_1 : faB Try.prog 56 1 = some (1, 1, true) := by kernel_rfl
theorem F56_2 : faB Try.prog 56 2 = some (2, 1, true) := by kernel_rfl
theorem I130 : tiB Try.prog 130 = some ([(vU32 0), (vU32 0)], 2, 8) := by kernel_rfl
theorem I92 : tiB Try.prog 92 = some ([(vU16 0)], 1, 2) := by kernel_rfl
end Fa
end Go.Proofs.Ytpnghdalnghpcaa
/-! from FWImg -/
/- Closed facts, off the tables of the program. -/
namespace Go.Proofs.Ytpnghdalnghpcaa
open Go.Owl
namespace Fa
theorem C125 : callB Try.prog 125 = true := by kernel_rfl
theorem C82 : callB Try.prog 82 = true := by kernel_rfl
theorem C83 : callB Try.prog 83 = true := by kernel_rfl
theorem C84 : callB Try.prog 84 = true := by kernel_rfl
theorem F111_0 : faB Try.prog 111 0 = some (0, 1, true) := by kernel_rfl
theorem F111_1 : faB Try.prog 111 1 = some (1, 1, true) := by kernel_rfl
theorem F111_2 : faB Try.prog 111 2 = some (2, 1, true) := by kernel_rfl
theorem F59_0 : faB Try.prog 59 0 = some (0, 4, false) := by kernel_rfl
theorem F59_1 : faB Try.prog 59 1 = some (4, 1, true) := by kernel_rfl
theorem F59_2 : faB Try.prog 59 2 = some (5, 1, true) := by kernel_rfl
theorem I111 : tiB Try.prog 111 = some ([(vU32 0), (vU8 0), (str [])], 3, 24) := by kernel_rfl
theorem I56 : tiB Try.prog 56 = some ([(vU32 0), (.slice none 0 0), (.slice none 0 0), (.bool false)], 4, 64) := by kernel_rfl
end Fa
end Go.Proofs.Ytpnghdalnghpcaa
/-! from FWImg2 -/
/- Closed facts, off the tables of the program. -/
namespace Go.Proofs.Ytpnghdalnghpcaa
open Go.Owl
namespace Fa
theorem C126 : callB Try.prog 126 = true := by kernel_rfl
theorem C85 : callB Try.prog 85 = true := by kernel_rfl
theorem CO121 : Try.prog.cellsOf 121 = 2 := by kernel_rfl
theorem CO123 : Try.prog.cellsOf 123 = 2 := by kernel_rfl
theorem CO5 : Try.prog.cellsOf 5 = 1 := by kernel_rfl
theorem F121_0 : faB Try.prog 121 0 = some (0, 1, true) := by kernel_rfl
theorem F121_1 : faB Try.prog 121 1 = some (1, 1, true) := by kernel_rfl
theorem F123_0 : faB Try.prog 123 0 = some (0, 2, false) := by kernel_rfl
theorem I119 : tiB Try.prog 119 = some ([(.pointer none)], 1, 8) := by kernel_rfl
theorem LI123_121 : liesAt Try.prog Try.prog.depth 123 1 0 121 1 = true := by kernel_rfl
theorem PT119 : Try.prog.underlying 119 = some (.pointer (Try.prog.pointee 119)) := by kernel_rfl
end Fa
end Go.Proofs.Ytpnghdalnghpcaa
/-! from FWImg3 -/
/- Closed facts, off the tables of the program. -/
namespace Go.Proofs.Ytpnghdalnghpcaa
open Go.Owl
namespace Fa
theorem C40 : callB Try.prog 40 = true := by kernel_rfl
theorem C86 : callB Try.prog 86 = true := by kernel_rfl
theorem C87 : callB Try.prog 87 = true := by kernel_rfl
theorem F56_3 : faB Try.prog 56 3 = some (3, 1, true) := by kernel_rfl
theorem I123 : tiB Try.prog 123 = some ([(.pointer none), (.slice none 0 0)], 2, 32) := by kernel_rfl
theorem I59 : tiB Try.prog 59 = some ([(vU32 0), (.slice none 0 0), (.slice none 0 0), (.bool false), (vU32 0), (.slice none 0 0)], 6, 96) := by kernel_rfl
end Fa
end Go.Proofs.Ytpnghdalnghpcaa
/-! from FWImg4 -/
/- Closed facts, off the tables of the program. -/
namespace Go.Proofs.Ytpnghdalnghpcaa
open Go.Owl
namespace Fa
theorem C88 : callB Try.prog 88 = true := by kernel_rfl
theorem FL111 : flatB Try.prog 111 = some [.int .u32, .int .u8, .string] := by kernel_rfl
theorem FL130 : flatB Try.prog 130 = some [.int .u32, .int .u32] := by kernel_rfl
end Fa
end Go.Proofs.Ytpnghdalnghpcaa
/-! from FWImg5 -/
/- Closed facts, off the tables of the program. -/
namespace Go.Proofs.Ytpnghdalnghpcaa
open Go.Owl
namespace Fa
theorem C79 : callB Try.prog 79 = true := by kernel_rfl
theorem C81 : callB Try.prog 81 = true := by kernel_rfl
theorem I53 : tiB Try.prog 53 = some ([(.slice none 0 0)], 1, 24) := by kernel_rfl
theorem I54 : tiB Try.prog 54 = some ([(.slice none 0 0)], 1, 24) := by kernel_rfl
theorem I57 : tiB Try.prog 57 = some ([(.slice none 0 0)], 1, 24) := by kernel_rfl
end Fa
end Go.Proofs.Ytpnghdalnghpcaa
/-! from FWImg6 -/
/- Closed facts, off the tables of the program. -/
namespace Go.Proofs.Ytpnghdalnghpcaa
open Go.Owl
namespace Fa
theorem C91 : callB Try.prog 91 = true := by kernel_rfl
theorem C92 : callB Try.prog 92 = true := by kernel_rfl
theorem C93 : callB Try.prog 93 = true := by kernel_rfl
theorem C94 : callB Try.prog 94 = true := by kernel_rfl
end Fa
end Go.Proofs.Ytpnghdalnghpcaa
/-! from FWImg7 -/
/- Closed facts, off the tables of the program. -/
namespace Go.Proofs.Ytpnghdalnghpcaa
open Go.Owl
namespace Fa
theorem C47 : callB Try.prog 47 = true := by kernel_rfl
end Fa
end Go.Proofs.Ytpnghdalnghpcaa
/-! from FWImg8 -/
/- Closed facts, off the tables of the program. -/
namespace Go.Proofs.Ytpnghdalnghpcaa
open Go.Owl
namespace Fa
end Fa
end Go.Proofs.Ytpnghdalnghpcaa
/-! from FWImg9 -/
/- Closed facts, off the tables of the program. -/
namespace Go.Proofs.Ytpnghdalnghpcaa
open Go.Owl
namespace Fa
theorem C95 : callB Try.prog 95 = true := by kernel_rfl
end Fa
end Go.Proofs.Ytpnghdalnghpcaa
/-! from FWImg10 -/
/- Closed facts, off the tables of the program. -/
namespace Go.Proofs.Ytpnghdalnghpcaa
open Go.Owl
namespace Fa
theorem C96 : callB Try.prog 96 = true := by kernel_rfl
theorem F138_0 : faB Try.prog 138 0 = some (0, 1, true) := by kernel_rfl
theorem I138 : tiB Try.prog 138 = some ([(.pointer none)], 1, 8) := by kernel_rfl
theorem PL111 : plB Try.prog 111 = some [(0, 1), (1, 1), (2, 1)] := by kernel_rfl
end Fa
end Go.Proofs.Ytpnghdalnghpcaa
/-! from FWImg11 -/
/- Closed facts, off the tables of the program. -/
namespace Go.Proofs.Ytpnghdalnghpcaa
open Go.Owl
namespace Fa
theorem C97 : callB Try.prog 97 = true := by kernel_rfl
theorem I4 : tiB Try.prog 4 = some ([(.bool false)], 1, 1) := by kernel_rfl
theorem PL130 : plB Try.prog 130 = some [(0, 1), (1, 1)] := by kernel_rfl
theorem PL138 : plB Try.prog 138 = some [(0, 1)] := by kernel_rfl
theorem PL59 : plB Try.prog 59 = some [(0, 4), (4, 1), (5, 1)] := by kernel_rfl
end Fa
end Go.Proofs.Ytpnghdalnghpcaa
/-! from FWImg12 -/
/- Closed facts, off the tables of the program. -/
namespace Go.Proofs.Ytpnghdalnghpcaa
open Go.Owl
namespace Fa
theorem C41 : callB Try.prog 41 = true := by kernel_rfl
theorem C43 : callB Try.prog 43 = true := by kernel_rfl
theorem C49 : callB Try.prog 49 = true := by kernel_rfl
end Fa
end Go.Proofs.Ytpnghdalnghpcaa
/-! from FWImg13 -/
/- Closed facts, off the tables of the program. -/
namespace Go.Proofs.Ytpnghdalnghpcaa
open Go.Owl
namespace Fa
theorem C37 : callB Try.prog 37 = true := by kernel_rfl
theorem C39 : callB Try.prog 39 = true := by kernel_rfl
end Fa
end Go.Proofs.Ytpnghdalnghpcaa
/-! from FWImg14 -/
/- Closed facts, off the tables of the program. -/
namespace Go.Proofs.Ytpnghdalnghpcaa
open Go.Owl
namespace Fa
end Fa
end Go.Proofs.Ytpnghdalnghpcaa
/-! from FWImg15 -/
/- Closed facts, off the tables of the program. -/
namespace Go.Proofs.Ytpnghdalnghpcaa
open Go.Owl
namespace Fa
theorem C98 : callB Try.prog 98 = true := by kernel_rfl
end Fa
end Go.Proofs.Ytpnghdalnghpcaa
/-! from FWImg16 -/
/- Closed facts, off the tables of the program. -/
namespace Go.Proofs.Ytpnghdalnghpcaa
open Go.Owl
namespace Fa
theorem C48 : callB Try.prog 48 = true := by kernel_rfl
theorem C50 : callB Try.prog 50 = true := by kernel_rfl
end Fa
end Go.Proofs.Ytpnghdalnghpcaa
/-! from FWSeal -/
/- Closed facts, off the tables of the program. -/
namespace Go.Proofs.Ytpnghdalnghpcaa
open Go.Owl
namespace Fa
theorem C112 : callB Try.prog 112 = true := by kernel_rfl
theorem C70 : callB Try.prog 70 = true := by kernel_rfl
theorem F161_0 : faB Try.prog 161 0 = some (0, 6, false) := by kernel_rfl
theorem F161_1 : faB Try.prog 161 1 = some (6, 1, true) := by kernel_rfl
theorem I161 : tiB Try.prog 161 = some ([(vU32 0), (.slice none 0 0), (.slice none 0 0), (.bool false), (vU32 0), (.slice none 0 0), (str [])], 7, 112) := by kernel_rfl
theorem PL161 : plB Try.prog 161 = some [(0, 6), (6, 1)] := by kernel_rfl
end Fa
end Go.Proofs.Ytpnghdalnghpcaa
/-! from FWSeal2 -/
/- Closed facts, off the tables of the program. -/
namespace Go.Proofs.Ytpnghdalnghpcaa
open Go.Owl
namespace Fa
theorem C113 : callB Try.prog 113 = true := by kernel_rfl
end Fa
end Go.Proofs.Ytpnghdalnghpcaa
/-! from FWSeal3 -/
/- Closed facts, off the tables of the program. -/
namespace Go.Proofs.Ytpnghdalnghpcaa
open Go.Owl
namespace Fa
end Fa
end Go.Proofs.Ytpnghdalnghpcaa
/-! from FWSeal4 -/
/- Closed facts, off the tables of the program. -/
namespace Go.Proofs.Ytpnghdalnghpcaa
open Go.Owl
namespace Fa
theorem C67 : callB Try.prog 67 = true := by kernel_rfl
theorem C68 : callB Try.prog 68 = true := by kernel_rfl
end Fa
end Go.Proofs.Ytpnghdalnghpcaa
/-! from FWSeal5 -/
/- Closed facts, off the tables of the program. -/
namespace Go.Proofs.Ytpnghdalnghpcaa
open Go.Owl
namespace Fa
theorem C66 : callB Try.prog 66 = true := by kernel_rfl
end Fa
end Go.Proofs.Ytpnghdalnghpcaa
/-! from FWSeal6 -/
/- Closed facts, off the tables of the program. -/
namespace Go.Proofs.Ytpnghdalnghpcaa
open Go.Owl
namespace Fa
theorem C69 : callB Try.prog 69 = true := by kernel_rfl
theorem C72 : callB Try.prog 72 = true := by kernel_rfl
end Fa
end Go.Proofs.Ytpnghdalnghpcaa
/-! from WDem -/
namespace Go.Proofs.Ytpnghdalnghpcaa
open Go.Owl Go.Spec
set_option maxRecDepth 100000 in
theorem xtbad_ok (x : Xt) (w : World) :
    Calls Try.prog 119 #[(.agg #[(vU32 x.id), (vU32 x.bl)])] w (fun e w' => e = .returned (.bool (xtBad x)) ∧ Fr [] w w') := by
  refine enter (args := [(.agg #[(vU32 x.id), (vU32 x.bl)])]) Try.func119 rfl rfl ?_
  have H0 : Own [] w w [] := Own.start w []
  refine WC.seq ?_
  refine WC.region ?_
  refine WL.op rfl rfl (op_box H0 rfl rfl (fun b1 w1 H1 => ?_))
  refine WL.op rfl rfl (op_assign rfl ?_)
  refine WL.nil ?_
  refine WQ.next ?_
  refine WC.seq ?_
  refine WC.region ?_
  refine WL.op rfl rfl (op_fieldAddr rfl Fa.F130_0 ?_)
  refine WL.op rfl rfl (op_load rfl (H1.cell (i := 0) rfl rfl) Try.underlying22 rfl ?_)
  refine WL.op rfl rfl (op_geqU32 (b := 16) rfl rfl ?_)
  refine WL.op rfl rfl (op_move rfl ?_)
  refine WL.split (t := 6) rfl (fun (hb2 : (decide (x.id ≥ (16 : UInt32))) = true) => ?_) (fun (hb2 : (decide (x.id ≥ (16 : UInt32))) = false) => ?_)
  ·
    have hc2 := of_decide_eq_true hb2
    refine WL.no rfl rfl rfl hb2 rfl ?_
    refine WL.no rfl rfl rfl hb2 rfl ?_
    refine WL.no rfl rfl rfl hb2 rfl ?_
    refine WL.op rfl rfl (op_pickT rfl hb2 rfl ?_)
    refine WL.op rfl rfl (op_move rfl ?_)
    refine WL.no rfl rfl rfl rfl rfl ?_
    refine WL.no rfl rfl rfl rfl rfl ?_
    refine WL.no rfl rfl rfl rfl rfl ?_
    refine WL.op rfl rfl (op_pickT rfl rfl rfl ?_)
    refine WL.op rfl rfl (op_assign rfl ?_)
    refine WL.nil ?_
    refine WQ.next ?_
    refine WC.ret ?_
    refine WQ.out (.tmp rfl .nil) ?_
    exact ⟨by (rw [xtBad, hb2]) <;> rfl, H1.fr⟩
  ·
    have hc2 := of_decide_eq_false hb2
    refine WL.yes rfl rfl rfl hb2 rfl (op_fieldAddr rfl Fa.F130_1 ?_)
    refine WL.yes rfl rfl rfl hb2 rfl (op_load rfl (H1.cell (i := 0) rfl rfl) Try.underlying22 rfl ?_)
    refine WL.yes rfl rfl rfl hb2 rfl (op_lssU32 (b := 1) rfl rfl ?_)
    refine WL.op rfl rfl (op_pickF rfl hb2 rfl ?_)
    refine WL.op rfl rfl (op_move rfl ?_)
    refine WL.split (t := 11) rfl (fun (hb3 : (decide (x.bl < (1 : UInt32))) = true) => ?_) (fun (hb3 : (decide (x.bl < (1 : UInt32))) = false) => ?_)
    ·
      have hc3 := of_decide_eq_true hb3
      refine WL.no rfl rfl rfl hb3 rfl ?_
      refine WL.no rfl rfl rfl hb3 rfl ?_
      refine WL.no rfl rfl rfl hb3 rfl ?_
      refine WL.op rfl rfl (op_pickT rfl hb3 rfl ?_)
      refine WL.op rfl rfl (op_assign rfl ?_)
      refine WL.nil ?_
      refine WQ.next ?_
      refine WC.ret ?_
      refine WQ.out (.tmp rfl .nil) ?_
      exact ⟨by (rw [xtBad, hb2, hb3]) <;> rfl, H1.fr⟩
    ·
      have hc3 := of_decide_eq_false hb3
      refine WL.yes rfl rfl rfl hb3 rfl (op_fieldAddr rfl Fa.F130_1 ?_)
      refine WL.yes rfl rfl rfl hb3 rfl (op_load rfl (H1.cell (i := 0) rfl rfl) Try.underlying22 rfl ?_)
      refine WL.yes rfl rfl rfl hb3 rfl (op_gtrU32 (b := 1024) rfl rfl ?_)
      refine WL.op rfl rfl (op_pickF rfl hb3 rfl ?_)
      refine WL.op rfl rfl (op_assign rfl ?_)
      refine WL.nil ?_
      refine WQ.next ?_
      refine WC.ret ?_
      refine WQ.out (.tmp rfl .nil) ?_
      exact ⟨by (rw [xtBad, hb2, hb3]) <;> rfl, H1.fr⟩
set_option maxRecDepth 100000 in
theorem xtlt_ok (x y : Xt) (w : World) :
    Calls Try.prog 121 #[(.agg #[(vU32 x.id), (vU32 x.bl)]), (.agg #[(vU32 y.id), (vU32 y.bl)])] w (fun e w' => e = .returned (.bool (xtLt x y)) ∧ Fr [] w w') := by
  refine enter (args := [(.agg #[(vU32 x.id), (vU32 x.bl)]), (.agg #[(vU32 y.id), (vU32 y.bl)])]) Try.func121 rfl rfl ?_
  have H0 : Own [] w w [] := Own.start w []
  refine WC.seq ?_
  refine WC.region ?_
  refine WL.op rfl rfl (op_box H0 rfl rfl (fun b1 w1 H1 => ?_))
  refine WL.op rfl rfl (op_box H1 rfl rfl (fun b2 w2 H2 => ?_))
  refine WL.op rfl rfl (op_assign rfl ?_)
  refine WL.nil ?_
  refine WQ.next ?_
  refine WC.seq ?_
  refine WC.region ?_
  refine WL.op rfl rfl (op_fieldAddr rfl Fa.F130_0 ?_)
  refine WL.op rfl rfl (op_load rfl (H2.cell (i := 0) rfl rfl) Try.underlying22 rfl ?_)
  refine WL.op rfl rfl (op_fieldAddr rfl Fa.F130_0 ?_)
  refine WL.op rfl rfl (op_load rfl (H2.cell (i := 1) rfl rfl) Try.underlying22 rfl ?_)
  refine WL.op rfl rfl (op_lssU32 rfl rfl ?_)
  refine WL.op rfl rfl (op_assign rfl ?_)
  refine WL.nil ?_
  refine WQ.next ?_
  refine WC.ret ?_
  refine WQ.out (.tmp rfl .nil) ?_
  exact ⟨rfl, H2.fr⟩
set_option maxRecDepth 100000 in
theorem u16lt_ok (x y : UInt16) (w : World) :
    Calls Try.prog 123 #[(vU16 x), (vU16 y)] w (fun e w' => e = .returned (.bool (u16Lt x y)) ∧ Fr [] w w') := by
  refine enter (args := [(vU16 x), (vU16 y)]) Try.func123 rfl rfl ?_
  have H0 : Own [] w w [] := Own.start w []
  refine WC.seq ?_
  refine WC.region ?_
  refine WL.op rfl rfl (op_assign rfl ?_)
  refine WL.nil ?_
  refine WQ.next ?_
  refine WC.seq ?_
  refine WC.region ?_
  refine WL.op rfl rfl (op_move rfl ?_)
  refine WL.op rfl rfl (op_move rfl ?_)
  refine WL.op rfl rfl (op_lssU16 rfl rfl ?_)
  refine WL.op rfl rfl (op_assign rfl ?_)
  refine WL.nil ?_
  refine WQ.next ?_
  refine WC.ret ?_
  refine WQ.out (.tmp rfl .nil) ?_
  exact ⟨rfl, H0.fr⟩
set_option maxRecDepth 100000 in
theorem idxX_ok (lv : Value) (l : List Xt) (w : World) (hA : Arr w lv 2 l.length (List.flatMap xtc l)) (hn : l.length < 2 ^ 47) :
    Calls Try.prog 139 #[lv, (.func (.func 119) #[] #[])] w (fun e w' => e = .returned (vI (fidx xtBad l)) ∧ Fr [] w w') := by
  refine enter (args := [lv, (.func (.func 119) #[] #[])]) Try.func139 rfl rfl ?_
  have H0 : Own [] w w [] := Own.start w []
  refine WC.seq ?_
  refine WC.region ?_
  refine WL.op rfl rfl (op_assign rfl ?_)
  refine WL.nil ?_
  refine WQ.next ?_
  refine WC.seq ?_
  refine WC.seq ?_
  refine WC.region ?_
  refine WL.op rfl rfl (op_move rfl ?_)
  refine WL.op rfl rfl (op_lenA Try.underlying53 rfl (H0.arr hA) ?_)
  refine WL.op rfl rfl (op_move rfl ?_)
  refine WL.nil ?_
  refine WQ.next ?_
  refine WC.block ?_
  refine WC.loop (α := Nat) (fun k => [(0, lv), (1, (.func (.func 119) #[] #[])), (7, (vN l.length)), (8, (vN k))]) (fun k w' => (k ≤ l.length ∧ (∀ j, j < k → xtBad (l.getD j Xt.zero) = false)) ∧ Own [] w w' []) (fun k => l.length - k) 0 ⟨⟨Nat.zero_le _, fun j h => by omega⟩, H0⟩ ⟨rfl, rfl, rfl, rfl, trivial⟩ ?_
  rintro k w1 ⟨⟨hk1, hok⟩, H1⟩
  show WC _ _ _ _ _ [(0, lv), (1, (.func (.func 119) #[] #[])), (7, (vN l.length)), (8, (vN k))] _
  refine WC.seq ?_
  refine WC.region ?_
  refine WL.op rfl rfl (op_lssN rfl rfl ?_)
  refine WL.nil ?_
  refine WQ.next ?_
  refine WC.seq ?_
  refine WC.cond rfl (fun (hb2 : (decide (k < l.length)) = true) => ?_) (fun (hb2 : (decide (k < l.length)) = false) => ?_)
  ·
    have hc2 := of_decide_eq_true hb2
    refine WC.skip ?_
    refine WQ.next ?_
    refine WC.seq ?_
    refine WC.block ?_
    refine WC.seq ?_
    refine WC.region ?_
    refine WL.op rfl rfl (op_move rfl ?_)
    refine WL.op rfl rfl (op_assign rfl ?_)
    refine WL.nil ?_
    refine WQ.next ?_
    refine WC.seq ?_
    refine WC.region ?_
    refine WL.op rfl rfl (op_move rfl ?_)
    refine WL.op rfl rfl (op_move rfl ?_)
    refine WL.op rfl rfl (op_move rfl ?_)
    refine WL.op rfl rfl (op_indexAddr Try.underlying53 Fa.I130 rfl (H1.arr hA) rfl (by omega) ?_)
    refine WL.op rfl rfl (op_loadSP (vs := xtc (l.getD k Xt.zero)) rfl (Arr.atsF (H1.arr hA) (fun _ => rfl) (by decide) Xt.zero (by omega)) Try.underlying130 rfl Fa.I130 rfl ?_)
    refine WL.op rfl rfl (op_call (f := 119) rfl Fa.C119 rfl ((xtbad_ok (l.getD k Xt.zero) _).mono (fun e w3 hq => ?_)))
    obtain ⟨rfl, hf3⟩ := hq
    refine ⟨_, rfl, ?_⟩
    have H3 := H1.fr' hf3
    refine WL.nil ?_
    refine WQ.next ?_
    refine WC.cond rfl (fun (hb4 : (xtBad (l.getD k Xt.zero)) = true) => ?_) (fun (hb4 : (xtBad (l.getD k Xt.zero)) = false) => ?_)
    ·
      refine WC.seq ?_
      refine WC.region ?_
      refine WL.op rfl rfl (op_move rfl ?_)
      refine WL.op rfl rfl (op_assign rfl ?_)
      refine WL.nil ?_
      refine WQ.next ?_
      refine WC.ret ?_
      refine WQ.inRet ?_
      refine WQ.thenRet ?_
      refine WQ.thenRet ?_
      refine WQ.inRet ?_
      refine WQ.thenRet ?_
      refine WQ.out (.tmp rfl .nil) ?_
      exact ⟨by rw [fidx_yes (d := Xt.zero) (by omega) hok hb4]; rfl, H3.fr⟩
    ·
      refine WC.skip ?_
      refine WQ.inNormal ?_
      refine WQ.next ?_
      refine WC.region ?_
      refine WL.op rfl rfl (op_addN (b := 1) rfl rfl (by omega) ?_)
      refine WL.op rfl rfl (op_move rfl ?_)
      refine WL.nil ?_
      exact WQ.round (k + 1) ⟨⟨by omega, allPrev hok hb4⟩, H3⟩ ⟨rfl, rfl, rfl, rfl, trivial⟩ (by omega)
  ·
    have hc2 := of_decide_eq_false hb2
    refine WC.exit ?_
    refine WQ.thenExit ?_
    refine WQ.thenExit ?_
    refine WQ.inHere ?_
    refine WQ.next ?_
    refine WC.seq ?_
    refine WC.region ?_
    refine WL.op rfl rfl (op_assign rfl ?_)
    refine WL.nil ?_
    refine WQ.next ?_
    refine WC.ret ?_
    refine WQ.out (.tmp rfl .nil) ?_
    exact ⟨by rw [fidx_no (d := Xt.zero) (fun j hj => hok j (by omega))]; rfl, H1.fr⟩
set_option maxRecDepth 100000 in
theorem idx16_ok (lv : Value) (l : List UInt16) (y : UInt16) (w : World) (hA : Arr w lv 1 l.length (List.map vU16 l)) (hn : l.length < 2 ^ 47) :
    Calls Try.prog 140 #[lv, (vU16 y)] w (fun e w' => e = .returned (vI (fidx (u16Is y) l)) ∧ Fr [] w w') := by
  refine enter (args := [lv, (vU16 y)]) Try.func140 rfl rfl ?_
  have H0 : Own [] w w [] := Own.start w []
  refine WC.seq ?_
  refine WC.region ?_
  refine WL.op rfl rfl (op_assign rfl ?_)
  refine WL.nil ?_
  refine WQ.next ?_
  refine WC.seq ?_
  refine WC.seq ?_
  refine WC.region ?_
  refine WL.op rfl rfl (op_move rfl ?_)
  refine WL.op rfl rfl (op_lenA Try.underlying54 rfl (H0.arr hA) ?_)
  refine WL.op rfl rfl (op_move rfl ?_)
  refine WL.nil ?_
  refine WQ.next ?_
  refine WC.block ?_
  refine WC.loop (α := Nat) (fun k => [(0, lv), (1, (vU16 y)), (7, (vN l.length)), (8, (vN k))]) (fun k w' => (k ≤ l.length ∧ (∀ j, j < k → (u16Is y) (l.getD j 0) = false)) ∧ Own [] w w' []) (fun k => l.length - k) 0 ⟨⟨Nat.zero_le _, fun j h => by omega⟩, H0⟩ ⟨rfl, rfl, rfl, rfl, trivial⟩ ?_
  rintro k w1 ⟨⟨hk1, hok⟩, H1⟩
  show WC _ _ _ _ _ [(0, lv), (1, (vU16 y)), (7, (vN l.length)), (8, (vN k))] _
  refine WC.seq ?_
  refine WC.region ?_
  refine WL.op rfl rfl (op_lssN rfl rfl ?_)
  refine WL.nil ?_
  refine WQ.next ?_
  refine WC.seq ?_
  refine WC.cond rfl (fun (hb2 : (decide (k < l.length)) = true) => ?_) (fun (hb2 : (decide (k < l.length)) = false) => ?_)
  ·
    have hc2 := of_decide_eq_true hb2
    refine WC.skip ?_
    refine WQ.next ?_
    refine WC.seq ?_
    refine WC.block ?_
    refine WC.seq ?_
    refine WC.region ?_
    refine WL.op rfl rfl (op_move rfl ?_)
    refine WL.op rfl rfl (op_assign rfl ?_)
    refine WL.nil ?_
    refine WQ.next ?_
    refine WC.seq ?_
    refine WC.region ?_
    refine WL.op rfl rfl (op_move rfl ?_)
    refine WL.op rfl rfl (op_move rfl ?_)
    refine WL.op rfl rfl (op_move rfl ?_)
    refine WL.op rfl rfl (op_indexAddr1 Try.underlying54 Fa.I92 rfl (H1.arr hA) rfl (by omega) ?_)
    refine WL.op rfl rfl (op_load rfl ((H1.arr hA).at (get_map vU16 0 (Arr.ltM (H1.arr hA) (by omega)))) Try.underlying92 rfl ?_)
    refine WL.op rfl rfl (op_eqlU16 rfl rfl ?_)
    refine WL.nil ?_
    refine WQ.next ?_
    refine WC.cond rfl (fun (hb3 : (decide (y = (l.getD k 0))) = true) => ?_) (fun (hb3 : (decide (y = (l.getD k 0))) = false) => ?_)
    ·
      have hc3 := of_decide_eq_true hb3
      refine WC.seq ?_
      refine WC.region ?_
      refine WL.op rfl rfl (op_move rfl ?_)
      refine WL.op rfl rfl (op_assign rfl ?_)
      refine WL.nil ?_
      refine WQ.next ?_
      refine WC.ret ?_
      refine WQ.inRet ?_
      refine WQ.thenRet ?_
      refine WQ.thenRet ?_
      refine WQ.inRet ?_
      refine WQ.thenRet ?_
      refine WQ.out (.tmp rfl .nil) ?_
      exact ⟨by rw [fidx_yes (d := 0) (by omega) hok hb3]; rfl, H1.fr⟩
    ·
      have hc3 := of_decide_eq_false hb3
      refine WC.skip ?_
      refine WQ.inNormal ?_
      refine WQ.next ?_
      refine WC.region ?_
      refine WL.op rfl rfl (op_addN (b := 1) rfl rfl (by omega) ?_)
      refine WL.op rfl rfl (op_move rfl ?_)
      refine WL.nil ?_
      exact WQ.round (k + 1) ⟨⟨by omega, allPrev hok hb3⟩, H1⟩ ⟨rfl, rfl, rfl, rfl, trivial⟩ (by omega)
  ·
    have hc2 := of_decide_eq_false hb2
    refine WC.exit ?_
    refine WQ.thenExit ?_
    refine WQ.thenExit ?_
    refine WQ.inHere ?_
    refine WQ.next ?_
    refine WC.seq ?_
    refine WC.region ?_
    refine WL.op rfl rfl (op_assign rfl ?_)
    refine WL.nil ?_
    refine WQ.next ?_
    refine WC.ret ?_
    refine WQ.out (.tmp rfl .nil) ?_
    exact ⟨by rw [fidx_no (d := 0) (fun j hj => hok j (by omega))]; rfl, H1.fr⟩
set_option maxRecDepth 100000 in
theorem idx8_ok (lv : Value) (l : List UInt8) (y : UInt8) (w : World) (hA : Arr w lv 1 l.length (List.map vU8 l)) (hn : l.length < 2 ^ 47) :
    Calls Try.prog 141 #[lv, (vU8 y)] w (fun e w' => e = .returned (vI (fidx (u8Is y) l)) ∧ Fr [] w w') := by
  refine enter (args := [lv, (vU8 y)]) Try.func141 rfl rfl ?_
  have H0 : Own [] w w [] := Own.start w []
  refine WC.seq ?_
  refine WC.region ?_
  refine WL.op rfl rfl (op_assign rfl ?_)
  refine WL.nil ?_
  refine WQ.next ?_
  refine WC.seq ?_
  refine WC.seq ?_
  refine WC.region ?_
  refine WL.op rfl rfl (op_move rfl ?_)
  refine WL.op rfl rfl (op_lenA Try.underlying73 rfl (H0.arr hA) ?_)
  refine WL.op rfl rfl (op_move rfl ?_)
  refine WL.nil ?_
  refine WQ.next ?_
  refine WC.block ?_
  refine WC.loop (α := Nat) (fun k => [(0, lv), (1, (vU8 y)), (7, (vN l.length)), (8, (vN k))]) (fun k w' => (k ≤ l.length ∧ (∀ j, j < k → (u8Is y) (l.getD j 0) = false)) ∧ Own [] w w' []) (fun k => l.length - k) 0 ⟨⟨Nat.zero_le _, fun j h => by omega⟩, H0⟩ ⟨rfl, rfl, rfl, rfl, trivial⟩ ?_
  rintro k w1 ⟨⟨hk1, hok⟩, H1⟩
  show WC _ _ _ _ _ [(0, lv), (1, (vU8 y)), (7, (vN l.length)), (8, (vN k))] _
  refine WC.seq ?_
  refine WC.region ?_
  refine WL.op rfl rfl (op_lssN rfl rfl ?_)
  refine WL.nil ?_
  refine WQ.next ?_
  refine WC.seq ?_
  refine WC.cond rfl (fun (hb2 : (decide (k < l.length)) = true) => ?_) (fun (hb2 : (decide (k < l.length)) = false) => ?_)
  ·
    have hc2 := of_decide_eq_true hb2
    refine WC.skip ?_
    refine WQ.next ?_
    refine WC.seq ?_
    refine WC.block ?_
    refine WC.seq ?_
    refine WC.region ?_
    refine WL.op rfl rfl (op_move rfl ?_)
    refine WL.op rfl rfl (op_assign rfl ?_)
    refine WL.nil ?_
    refine WQ.next ?_
    refine WC.seq ?_
    refine WC.region ?_
    refine WL.op rfl rfl (op_move rfl ?_)
    refine WL.op rfl rfl (op_move rfl ?_)
    refine WL.op rfl rfl (op_move rfl ?_)
    refine WL.op rfl rfl (op_indexAddr1 Try.underlying73 Fa.I5 rfl (H1.arr hA) rfl (by omega) ?_)
    refine WL.op rfl rfl (op_load rfl ((H1.arr hA).at (get_map vU8 0 (Arr.ltM (H1.arr hA) (by omega)))) Try.underlying5 rfl ?_)
    refine WL.op rfl rfl (op_eqlU8 rfl rfl ?_)
    refine WL.nil ?_
    refine WQ.next ?_
    refine WC.cond rfl (fun (hb3 : (decide (y = (l.getD k 0))) = true) => ?_) (fun (hb3 : (decide (y = (l.getD k 0))) = false) => ?_)
    ·
      have hc3 := of_decide_eq_true hb3
      refine WC.seq ?_
      refine WC.region ?_
      refine WL.op rfl rfl (op_move rfl ?_)
      refine WL.op rfl rfl (op_assign rfl ?_)
      refine WL.nil ?_
      refine WQ.next ?_
      refine WC.ret ?_
      refine WQ.inRet ?_
      refine WQ.thenRet ?_
      refine WQ.thenRet ?_
      refine WQ.inRet ?_
      refine WQ.thenRet ?_
      refine WQ.out (.tmp rfl .nil) ?_
      exact ⟨by rw [fidx_yes (d := 0) (by omega) hok hb3]; rfl, H1.fr⟩
    ·
      have hc3 := of_decide_eq_false hb3
      refine WC.skip ?_
      refine WQ.inNormal ?_
      refine WQ.next ?_
      refine WC.region ?_
      refine WL.op rfl rfl (op_addN (b := 1) rfl rfl (by omega) ?_)
      refine WL.op rfl rfl (op_move rfl ?_)
      refine WL.nil ?_
      exact WQ.round (k + 1) ⟨⟨by omega, allPrev hok hb3⟩, H1⟩ ⟨rfl, rfl, rfl, rfl, trivial⟩ (by omega)
  ·
    have hc2 := of_decide_eq_false hb2
    refine WC.exit ?_
    refine WQ.thenExit ?_
    refine WQ.thenExit ?_
    refine WQ.inHere ?_
    refine WQ.next ?_
    refine WC.seq ?_
    refine WC.region ?_
    refine WL.op rfl rfl (op_assign rfl ?_)
    refine WL.nil ?_
    refine WQ.next ?_
    refine WC.ret ?_
    refine WQ.out (.tmp rfl .nil) ?_
    exact ⟨by rw [fidx_no (d := 0) (fun j hj => hok j (by omega))]; rfl, H1.fr⟩
set_option maxRecDepth 100000 in
theorem conX_ok (lv : Value) (l : List Xt) (w : World) (hA : Arr w lv 2 l.length (List.flatMap xtc l)) (hn : l.length < 2 ^ 47) :
    Calls Try.prog 118 #[lv, (.func (.func 119) #[] #[])] w (fun e w' => e = .returned (.bool (l.any xtBad)) ∧ Fr [] w w') := by
  refine enter (args := [lv, (.func (.func 119) #[] #[])]) Try.func118 rfl rfl ?_
  have H0 : Own [] w w [] := Own.start w []
  refine WC.seq ?_
  refine WC.region ?_
  refine WL.op rfl rfl (op_assign rfl ?_)
  refine WL.nil ?_
  refine WQ.next ?_
  refine WC.seq ?_
  refine WC.region ?_
  refine WL.op rfl rfl (op_move rfl ?_)
  refine WL.op rfl rfl (op_move rfl ?_)
  refine WL.op rfl rfl (op_callF Fa.C139 rfl ((idxX_ok _ l _ (H0.arr hA) (by omega)).mono (fun e w1 hq => ?_)))
  obtain ⟨rfl, hf1⟩ := hq
  refine ⟨_, rfl, ?_⟩
  have H1 := H0.fr' hf1
  refine WL.op rfl rfl (op_geqI (b := (0 : Int)) rfl rfl ?_)
  refine WL.op rfl rfl (op_assign rfl ?_)
  refine WL.nil ?_
  refine WQ.next ?_
  refine WC.ret ?_
  refine WQ.out (.tmp rfl .nil) ?_
  exact ⟨by rw [← fidx_any]; rfl, H1.fr⟩
set_option maxRecDepth 100000 in
theorem con16_ok (lv : Value) (l : List UInt16) (y : UInt16) (w : World) (hA : Arr w lv 1 l.length (List.map vU16 l)) (hn : l.length < 2 ^ 47) :
    Calls Try.prog 124 #[lv, (vU16 y)] w (fun e w' => e = .returned (.bool (l.any (u16Is y))) ∧ Fr [] w w') := by
  refine enter (args := [lv, (vU16 y)]) Try.func124 rfl rfl ?_
  have H0 : Own [] w w [] := Own.start w []
  refine WC.seq ?_
  refine WC.region ?_
  refine WL.op rfl rfl (op_assign rfl ?_)
  refine WL.nil ?_
  refine WQ.next ?_
  refine WC.seq ?_
  refine WC.region ?_
  refine WL.op rfl rfl (op_move rfl ?_)
  refine WL.op rfl rfl (op_move rfl ?_)
  refine WL.op rfl rfl (op_callF Fa.C140 rfl ((idx16_ok _ l y _ (H0.arr hA) (by omega)).mono (fun e w1 hq => ?_)))
  obtain ⟨rfl, hf1⟩ := hq
  refine ⟨_, rfl, ?_⟩
  have H1 := H0.fr' hf1
  refine WL.op rfl rfl (op_geqI (b := (0 : Int)) rfl rfl ?_)
  refine WL.op rfl rfl (op_assign rfl ?_)
  refine WL.nil ?_
  refine WQ.next ?_
  refine WC.ret ?_
  refine WQ.out (.tmp rfl .nil) ?_
  exact ⟨by rw [← fidx_any]; rfl, H1.fr⟩
set_option maxRecDepth 100000 in
theorem con8_ok (lv : Value) (l : List UInt8) (y : UInt8) (w : World) (hA : Arr w lv 1 l.length (List.map vU8 l)) (hn : l.length < 2 ^ 47) :
    Calls Try.prog 125 #[lv, (vU8 y)] w (fun e w' => e = .returned (.bool (l.any (u8Is y))) ∧ Fr [] w w') := by
  refine enter (args := [lv, (vU8 y)]) Try.func125 rfl rfl ?_
  have H0 : Own [] w w [] := Own.start w []
  refine WC.seq ?_
  refine WC.region ?_
  refine WL.op rfl rfl (op_assign rfl ?_)
  refine WL.nil ?_
  refine WQ.next ?_
  refine WC.seq ?_
  refine WC.region ?_
  refine WL.op rfl rfl (op_move rfl ?_)
  refine WL.op rfl rfl (op_move rfl ?_)
  refine WL.op rfl rfl (op_callF Fa.C141 rfl ((idx8_ok _ l y _ (H0.arr hA) (by omega)).mono (fun e w1 hq => ?_)))
  obtain ⟨rfl, hf1⟩ := hq
  refine ⟨_, rfl, ?_⟩
  have H1 := H0.fr' hf1
  refine WL.op rfl rfl (op_geqI (b := (0 : Int)) rfl rfl ?_)
  refine WL.op rfl rfl (op_assign rfl ?_)
  refine WL.nil ?_
  refine WQ.next ?_
  refine WC.ret ?_
  refine WQ.out (.tmp rfl .nil) ?_
  exact ⟨by rw [← fidx_any]; rfl, H1.fr⟩
set_option maxRecDepth 100000 in
theorem risX_ok (lv : Value) (l : List Xt) (w : World) (hA : Arr w lv 2 l.length (List.flatMap xtc l)) (hn : l.length < 2 ^ 47) :
    Calls Try.prog 120 #[lv, (.func (.func 121) #[] #[])] w (fun e w' => e = .returned (.bool (ris xtLt l)) ∧ Fr [] w w') := by
  refine enter (args := [lv, (.func (.func 121) #[] #[])]) Try.func120 rfl rfl ?_
  have H0 : Own [] w w [] := Own.start w []
  refine WC.seq ?_
  refine WC.region ?_
  refine WL.op rfl rfl (op_assign rfl ?_)
  refine WL.nil ?_
  refine WQ.next ?_
  refine WC.seq ?_
  refine WC.seq ?_
  refine WC.region ?_
  refine WL.op rfl rfl (op_move rfl ?_)
  refine WL.op rfl rfl (op_lenA Try.underlying53 rfl (H0.arr hA) ?_)
  refine WL.op rfl rfl (op_subI (a := ((l.length : Nat) : Int)) (b := ((1 : Nat) : Int)) rfl rfl (by omega) ?_)
  refine WL.op rfl rfl (op_move rfl ?_)
  refine WL.nil ?_
  refine WQ.next ?_
  refine WC.block ?_
  refine WC.loop (α := Nat) (fun k => [(0, lv), (1, (.func (.func 121) #[] #[])), (8, (vI (((l.length : Nat) : Int) - ((1 : Nat) : Int)))), (9, (vN k))]) (fun k w' => (k ≤ l.length ∧ (∀ j, j < k → xtLt (l.getD j Xt.zero) (l.getD (j + 1) Xt.zero) = true)) ∧ Own [] w w' []) (fun k => l.length - k) 0 ⟨⟨Nat.zero_le _, fun j h => by omega⟩, H0⟩ ⟨rfl, rfl, rfl, rfl, trivial⟩ ?_
  rintro k w1 ⟨⟨hk1, hok⟩, H1⟩
  show WC _ _ _ _ _ [(0, lv), (1, (.func (.func 121) #[] #[])), (8, (vI (((l.length : Nat) : Int) - ((1 : Nat) : Int)))), (9, (vN k))] _
  refine WC.seq ?_
  refine WC.region ?_
  refine WL.op rfl rfl (op_lssI rfl rfl ?_)
  refine WL.nil ?_
  refine WQ.next ?_
  refine WC.seq ?_
  refine WC.cond rfl (fun (hb2 : (decide ((k : Int) < (((l.length : Nat) : Int) - ((1 : Nat) : Int)))) = true) => ?_) (fun (hb2 : (decide ((k : Int) < (((l.length : Nat) : Int) - ((1 : Nat) : Int)))) = false) => ?_)
  ·
    have hc2 := of_decide_eq_true hb2
    refine WC.skip ?_
    refine WQ.next ?_
    refine WC.seq ?_
    refine WC.block ?_
    refine WC.seq ?_
    refine WC.region ?_
    refine WL.op rfl rfl (op_move rfl ?_)
    refine WL.op rfl rfl (op_assign rfl ?_)
    refine WL.nil ?_
    refine WQ.next ?_
    refine WC.seq ?_
    refine WC.draw 12 Fa.M H1 (HW.op rfl (fun w1 H1 => op_move rfl ⟨rfl, Fr.refl _ _⟩) (HW.op rfl (fun w1 H1 => op_move rfl ⟨rfl, Fr.refl _ _⟩) (HW.op rfl (fun w1 H1 => op_move rfl ⟨rfl, Fr.refl _ _⟩) (HW.op rfl (fun w1 H1 => op_indexAddr Try.underlying53 Fa.I130 rfl (H1.arr hA) rfl (by omega) ⟨rfl, Fr.refl _ _⟩) (HW.op rfl (fun w1 H1 => op_loadSP (vs := xtc (l.getD k Xt.zero)) rfl (Arr.atsF (H1.arr hA) (fun _ => rfl) (by decide) Xt.zero (by omega)) Try.underlying130 rfl Fa.I130 rfl ⟨rfl, Fr.refl _ _⟩) (HW.op rfl (fun w1 H1 => op_move rfl ⟨rfl, Fr.refl _ _⟩) (HW.op rfl (fun w1 H1 => op_move rfl ⟨rfl, Fr.refl _ _⟩) (HW.op rfl (fun w1 H1 => op_addN (b := 1) rfl rfl (by omega) ⟨rfl, Fr.refl _ _⟩) (HW.op rfl (fun w1 H1 => op_indexAddr Try.underlying53 Fa.I130 rfl (H1.arr hA) rfl (by omega) ⟨rfl, Fr.refl _ _⟩) (HW.op rfl (fun w1 H1 => op_loadSP (vs := xtc (l.getD (k + 1) Xt.zero)) rfl (Arr.atsF (H1.arr hA) (fun _ => rfl) (by decide) Xt.zero (by omega)) Try.underlying130 rfl Fa.I130 rfl ⟨rfl, Fr.refl _ _⟩) (HW.op rfl (fun w1 H1 => op_call (f := 121) rfl Fa.C121 rfl ((xtlt_ok (l.getD k Xt.zero) (l.getD (k + 1) Xt.zero) _).mono (fun e w2 hq => ⟨_, hq.1, rfl, hq.2⟩))) (HW.op rfl (fun w1 H1 => op_not rfl ⟨rfl, Fr.refl _ _⟩)  HW.nil)))))))))))) (by kernel_rfl) ?_
    intro β4 w4 H4
    refine WL.nil ?_
    refine WQ.next ?_
    refine WC.cond rfl (fun (hb5 : (!(xtLt (l.getD k Xt.zero) (l.getD (k + 1) Xt.zero))) = true) => ?_) (fun (hb5 : (!(xtLt (l.getD k Xt.zero) (l.getD (k + 1) Xt.zero))) = false) => ?_)
    ·
      have hn5 := (Bool.not_eq_true' _).mp hb5
      refine WC.seq ?_
      refine WC.region ?_
      refine WL.op rfl rfl (op_assign rfl ?_)
      refine WL.nil ?_
      refine WQ.next ?_
      refine WC.ret ?_
      refine WQ.inRet ?_
      refine WQ.thenRet ?_
      refine WQ.thenRet ?_
      refine WQ.inRet ?_
      refine WQ.thenRet ?_
      refine WQ.out (.tmp rfl .nil) ?_
      exact ⟨by rw [ris_no (d := Xt.zero) (k := k) (by omega) (by simpa using hb5)]; rfl, H4.fr⟩
    ·
      have hn5 := (Bool.not_eq_false' _).mp hb5
      refine WC.skip ?_
      refine WQ.inNormal ?_
      refine WQ.next ?_
      refine WC.region ?_
      refine WL.op rfl rfl (op_addN (b := 1) rfl rfl (by omega) ?_)
      refine WL.op rfl rfl (op_move rfl ?_)
      refine WL.nil ?_
      exact WQ.round (k + 1) ⟨⟨by omega, allPrev hok (by simpa using hb5)⟩, H4⟩ ⟨rfl, rfl, rfl, rfl, trivial⟩ (by omega)
  ·
    have hc2 := of_decide_eq_false hb2
    refine WC.exit ?_
    refine WQ.thenExit ?_
    refine WQ.thenExit ?_
    refine WQ.inHere ?_
    refine WQ.next ?_
    refine WC.seq ?_
    refine WC.region ?_
    refine WL.op rfl rfl (op_assign rfl ?_)
    refine WL.nil ?_
    refine WQ.next ?_
    refine WC.ret ?_
    refine WQ.out (.tmp rfl .nil) ?_
    exact ⟨by rw [ris_yes (d := Xt.zero) (fun j hj => hok j (by omega))]; rfl, H1.fr⟩
set_option maxRecDepth 100000 in
theorem ris16_ok (lv : Value) (l : List UInt16) (w : World) (hA : Arr w lv 1 l.length (List.map vU16 l)) (hn : l.length < 2 ^ 47) :
    Calls Try.prog 122 #[lv, (.func (.func 123) #[] #[])] w (fun e w' => e = .returned (.bool (ris u16Lt l)) ∧ Fr [] w w') := by
  refine enter (args := [lv, (.func (.func 123) #[] #[])]) Try.func122 rfl rfl ?_
  have H0 : Own [] w w [] := Own.start w []
  refine WC.seq ?_
  refine WC.region ?_
  refine WL.op rfl rfl (op_assign rfl ?_)
  refine WL.nil ?_
  refine WQ.next ?_
  refine WC.seq ?_
  refine WC.seq ?_
  refine WC.region ?_
  refine WL.op rfl rfl (op_move rfl ?_)
  refine WL.op rfl rfl (op_lenA Try.underlying54 rfl (H0.arr hA) ?_)
  refine WL.op rfl rfl (op_subI (a := ((l.length : Nat) : Int)) (b := ((1 : Nat) : Int)) rfl rfl (by omega) ?_)
  refine WL.op rfl rfl (op_move rfl ?_)
  refine WL.nil ?_
  refine WQ.next ?_
  refine WC.block ?_
  refine WC.loop (α := Nat) (fun k => [(0, lv), (1, (.func (.func 123) #[] #[])), (8, (vI (((l.length : Nat) : Int) - ((1 : Nat) : Int)))), (9, (vN k))]) (fun k w' => (k ≤ l.length ∧ (∀ j, j < k → u16Lt (l.getD j 0) (l.getD (j + 1) 0) = true)) ∧ Own [] w w' []) (fun k => l.length - k) 0 ⟨⟨Nat.zero_le _, fun j h => by omega⟩, H0⟩ ⟨rfl, rfl, rfl, rfl, trivial⟩ ?_
  rintro k w1 ⟨⟨hk1, hok⟩, H1⟩
  show WC _ _ _ _ _ [(0, lv), (1, (.func (.func 123) #[] #[])), (8, (vI (((l.length : Nat) : Int) - ((1 : Nat) : Int)))), (9, (vN k))] _
  refine WC.seq ?_
  refine WC.region ?_
  refine WL.op rfl rfl (op_lssI rfl rfl ?_)
  refine WL.nil ?_
  refine WQ.next ?_
  refine WC.seq ?_
  refine WC.cond rfl (fun (hb2 : (decide ((k : Int) < (((l.length : Nat) : Int) - ((1 : Nat) : Int)))) = true) => ?_) (fun (hb2 : (decide ((k : Int) < (((l.length : Nat) : Int) - ((1 : Nat) : Int)))) = false) => ?_)
  ·
    have hc2 := of_decide_eq_true hb2
    refine WC.skip ?_
    refine WQ.next ?_
    refine WC.seq ?_
    refine WC.block ?_
    refine WC.seq ?_
    refine WC.region ?_
    refine WL.op rfl rfl (op_move rfl ?_)
    refine WL.op rfl rfl (op_assign rfl ?_)
    refine WL.nil ?_
    refine WQ.next ?_
    refine WC.seq ?_
    refine WC.draw 12 Fa.M H1 (HW.op rfl (fun w1 H1 => op_move rfl ⟨rfl, Fr.refl _ _⟩) (HW.op rfl (fun w1 H1 => op_move rfl ⟨rfl, Fr.refl _ _⟩) (HW.op rfl (fun w1 H1 => op_move rfl ⟨rfl, Fr.refl _ _⟩) (HW.op rfl (fun w1 H1 => op_indexAddr1 Try.underlying54 Fa.I92 rfl (H1.arr hA) rfl (by omega) ⟨rfl, Fr.refl _ _⟩) (HW.op rfl (fun w1 H1 => op_load rfl ((H1.arr hA).at (get_map vU16 0 (Arr.ltM (H1.arr hA) (by omega)))) Try.underlying92 rfl ⟨rfl, Fr.refl _ _⟩) (HW.op rfl (fun w1 H1 => op_move rfl ⟨rfl, Fr.refl _ _⟩) (HW.op rfl (fun w1 H1 => op_move rfl ⟨rfl, Fr.refl _ _⟩) (HW.op rfl (fun w1 H1 => op_addN (b := 1) rfl rfl (by omega) ⟨rfl, Fr.refl _ _⟩) (HW.op rfl (fun w1 H1 => op_indexAddr1 Try.underlying54 Fa.I92 rfl (H1.arr hA) rfl (by omega) ⟨rfl, Fr.refl _ _⟩) (HW.op rfl (fun w1 H1 => op_load rfl ((H1.arr hA).at (get_map vU16 0 (Arr.ltM (H1.arr hA) (by omega)))) Try.underlying92 rfl ⟨rfl, Fr.refl _ _⟩) (HW.op rfl (fun w1 H1 => op_call (f := 123) rfl Fa.C123 rfl ((u16lt_ok (l.getD k 0) (l.getD (k + 1) 0) _).mono (fun e w2 hq => ⟨_, hq.1, rfl, hq.2⟩))) (HW.op rfl (fun w1 H1 => op_not rfl ⟨rfl, Fr.refl _ _⟩)  HW.nil)))))))))))) (by kernel_rfl) ?_
    intro β4 w4 H4
    refine WL.nil ?_
    refine WQ.next ?_
    refine WC.cond rfl (fun (hb5 : (!(u16Lt (l.getD k 0) (l.getD (k + 1) 0))) = true) => ?_) (fun (hb5 : (!(u16Lt (l.getD k 0) (l.getD (k + 1) 0))) = false) => ?_)
    ·
      have hn5 := (Bool.not_eq_true' _).mp hb5
      refine WC.seq ?_
      refine WC.region ?_
      refine WL.op rfl rfl (op_assign rfl ?_)
      refine WL.nil ?_
      refine WQ.next ?_
      refine WC.ret ?_
      refine WQ.inRet ?_
      refine WQ.thenRet ?_
      refine WQ.thenRet ?_
      refine WQ.inRet ?_
      refine WQ.thenRet ?_
      refine WQ.out (.tmp rfl .nil) ?_
      exact ⟨by rw [ris_no (d := 0) (k := k) (by omega) (by simpa using hb5)]; rfl, H4.fr⟩
    ·
      have hn5 := (Bool.not_eq_false' _).mp hb5
      refine WC.skip ?_
      refine WQ.inNormal ?_
      refine WQ.next ?_
      refine WC.region ?_
      refine WL.op rfl rfl (op_addN (b := 1) rfl rfl (by omega) ?_)
      refine WL.op rfl rfl (op_move rfl ?_)
      refine WL.nil ?_
      exact WQ.round (k + 1) ⟨⟨by omega, allPrev hok (by simpa using hb5)⟩, H4⟩ ⟨rfl, rfl, rfl, rfl, trivial⟩ (by omega)
  ·
    have hc2 := of_decide_eq_false hb2
    refine WC.exit ?_
    refine WQ.thenExit ?_
    refine WQ.thenExit ?_
    refine WQ.inHere ?_
    refine WQ.next ?_
    refine WC.seq ?_
    refine WC.region ?_
    refine WL.op rfl rfl (op_assign rfl ?_)
    refine WL.nil ?_
    refine WQ.next ?_
    refine WC.ret ?_
    refine WQ.out (.tmp rfl .nil) ?_
    exact ⟨by rw [ris_yes (d := 0) (fun j hj => hok j (by omega))]; rfl, H1.fr⟩
set_option maxRecDepth 100000 in
theorem dcheck_ok (pg : UInt32) (ev pv : Value) (xs : List Xt) (ps : List UInt16) (con : Bool) (w : World) (hE : Arr w ev 2 xs.length (List.flatMap xtc xs)) (hP : Arr w pv 1 ps.length (List.map vU16 ps)) (hn : xs.length < 2 ^ 47) (hm : ps.length < 2 ^ 47) :
    Calls Try.prog 82 #[(.agg #[(vU32 pg), ev, pv, (.bool con)])] w (fun e w' => e = .returned (vN (mfE pg xs ps)) ∧ Fr [] w w') := by
  refine enter (args := [(.agg #[(vU32 pg), ev, pv, (.bool con)])]) Try.func82 rfl rfl ?_
  have H0 : Own [] w w [] := Own.start w []
  refine WC.seq ?_
  refine WC.region ?_
  refine WL.op rfl rfl (op_box H0 rfl rfl (fun b1 w1 H1 => ?_))
  refine WL.op rfl rfl (op_assign rfl ?_)
  refine WL.nil ?_
  refine WQ.next ?_
  refine WC.seq ?_
  refine WC.region ?_
  refine WL.op rfl rfl (op_fieldAddr rfl Fa.F56_1 ?_)
  refine WL.op rfl rfl (op_load rfl (H1.cell (i := 0) rfl rfl) Try.underlying53 rfl ?_)
  refine WL.op rfl rfl (op_callF Fa.C118 rfl ((conX_ok _ xs _ (H1.arr hE) (by omega)).mono (fun e w2 hq => ?_)))
  obtain ⟨rfl, hf2⟩ := hq
  refine ⟨_, rfl, ?_⟩
  have H2 := H1.fr' hf2
  refine WL.op rfl rfl (op_assign rfl ?_)
  refine WL.nil ?_
  refine WQ.next ?_
  refine WC.seq ?_
  refine WC.seq ?_
  refine WC.region ?_
  refine WL.op rfl rfl (op_move rfl ?_)
  refine WL.op rfl rfl (op_move rfl ?_)
  refine WL.split (t := 8) rfl (fun (hb3 : (xs.any xtBad) = true) => ?_) (fun (hb3 : (xs.any xtBad) = false) => ?_)
  ·
    refine WL.no rfl rfl rfl hb3 rfl ?_
    refine WL.no rfl rfl rfl hb3 rfl ?_
    refine WL.no rfl rfl rfl hb3 rfl ?_
    refine WL.no rfl rfl rfl hb3 rfl ?_
    refine WL.op rfl rfl (op_pickT rfl hb3 rfl ?_)
    refine WL.op rfl rfl (op_move rfl ?_)
    refine WL.no rfl rfl rfl rfl rfl ?_
    refine WL.no rfl rfl rfl rfl rfl ?_
    refine WL.no rfl rfl rfl rfl rfl ?_
    refine WL.no rfl rfl rfl rfl rfl ?_
    refine WL.op rfl rfl (op_pickT rfl rfl rfl ?_)
    refine WL.op rfl rfl (op_move rfl ?_)
    refine WL.no rfl rfl rfl rfl rfl ?_
    refine WL.no rfl rfl rfl rfl rfl ?_
    refine WL.no rfl rfl rfl rfl rfl ?_
    refine WL.op rfl rfl (op_pickT rfl rfl rfl ?_)
    refine WL.op rfl rfl (op_move rfl ?_)
    refine WL.no rfl rfl rfl rfl rfl ?_
    refine WL.no rfl rfl rfl rfl rfl ?_
    refine WL.no rfl rfl rfl rfl rfl ?_
    refine WL.no rfl rfl rfl rfl rfl ?_
    refine WL.op rfl rfl (op_pickT rfl rfl rfl ?_)
    refine WL.op rfl rfl (op_move rfl ?_)
    refine WL.no rfl rfl rfl rfl rfl ?_
    refine WL.no rfl rfl rfl rfl rfl ?_
    refine WL.no rfl rfl rfl rfl rfl ?_
    refine WL.op rfl rfl (op_pickT rfl rfl rfl ?_)
    refine WL.nil ?_
    refine WQ.next ?_
    refine WC.yes rfl rfl ?_
    refine WC.seq ?_
    refine WC.region ?_
    refine WL.op rfl rfl (op_assign rfl ?_)
    refine WL.nil ?_
    refine WQ.next ?_
    refine WC.ret ?_
    refine WQ.thenRet ?_
    refine WQ.out (.tmp rfl .nil) ?_
    exact ⟨by (rw [mfE, mfMay, hb3]) <;> rfl, H2.fr⟩
  ·
    refine WL.yes rfl rfl rfl hb3 rfl (op_fieldAddr rfl Fa.F56_1 ?_)
    refine WL.yes rfl rfl rfl hb3 rfl (op_load rfl (H2.cell (i := 0) rfl rfl) Try.underlying53 rfl ?_)
    refine WL.yes rfl rfl rfl hb3 rfl (op_callF Fa.C120 rfl ((risX_ok _ xs _ (H2.arr hE) (by omega)).mono (fun e w4 hq => ?_)))
    obtain ⟨rfl, hf4⟩ := hq
    refine ⟨_, rfl, ?_⟩
    have H4 := H2.fr' hf4
    refine WL.yes rfl rfl rfl hb3 rfl (op_not rfl ?_)
    refine WL.op rfl rfl (op_pickF rfl hb3 rfl ?_)
    refine WL.op rfl rfl (op_move rfl ?_)
    refine WL.split (t := 14) rfl (fun (hb5 : (!(ris xtLt xs)) = true) => ?_) (fun (hb5 : (!(ris xtLt xs)) = false) => ?_)
    ·
      have hn5 := (Bool.not_eq_true' _).mp hb5
      refine WL.no rfl rfl rfl hb5 rfl ?_
      refine WL.no rfl rfl rfl hb5 rfl ?_
      refine WL.no rfl rfl rfl hb5 rfl ?_
      refine WL.no rfl rfl rfl hb5 rfl ?_
      refine WL.op rfl rfl (op_pickT rfl hb5 rfl ?_)
      refine WL.op rfl rfl (op_move rfl ?_)
      refine WL.no rfl rfl rfl rfl rfl ?_
      refine WL.no rfl rfl rfl rfl rfl ?_
      refine WL.no rfl rfl rfl rfl rfl ?_
      refine WL.op rfl rfl (op_pickT rfl rfl rfl ?_)
      refine WL.op rfl rfl (op_move rfl ?_)
      refine WL.no rfl rfl rfl rfl rfl ?_
      refine WL.no rfl rfl rfl rfl rfl ?_
      refine WL.no rfl rfl rfl rfl rfl ?_
      refine WL.no rfl rfl rfl rfl rfl ?_
      refine WL.op rfl rfl (op_pickT rfl rfl rfl ?_)
      refine WL.op rfl rfl (op_move rfl ?_)
      refine WL.no rfl rfl rfl rfl rfl ?_
      refine WL.no rfl rfl rfl rfl rfl ?_
      refine WL.no rfl rfl rfl rfl rfl ?_
      refine WL.op rfl rfl (op_pickT rfl rfl rfl ?_)
      refine WL.nil ?_
      refine WQ.next ?_
      refine WC.yes rfl rfl ?_
      refine WC.seq ?_
      refine WC.region ?_
      refine WL.op rfl rfl (op_assign rfl ?_)
      refine WL.nil ?_
      refine WQ.next ?_
      refine WC.ret ?_
      refine WQ.thenRet ?_
      refine WQ.out (.tmp rfl .nil) ?_
      exact ⟨by (rw [mfE, mfMay, hb3, hn5]) <;> rfl, H4.fr⟩
    ·
      have hn5 := (Bool.not_eq_false' _).mp hb5
      refine WL.yes rfl rfl rfl hb5 rfl (op_fieldAddr rfl Fa.F56_2 ?_)
      refine WL.yes rfl rfl rfl hb5 rfl (op_load rfl (H4.cell (i := 0) rfl rfl) Try.underlying54 rfl ?_)
      refine WL.yes rfl rfl rfl hb5 rfl (op_callF Fa.C122 rfl ((ris16_ok _ ps _ (H4.arr hP) (by omega)).mono (fun e w6 hq => ?_)))
      obtain ⟨rfl, hf6⟩ := hq
      refine ⟨_, rfl, ?_⟩
      have H6 := H4.fr' hf6
      refine WL.yes rfl rfl rfl hb5 rfl (op_not rfl ?_)
      refine WL.op rfl rfl (op_pickF rfl hb5 rfl ?_)
      refine WL.op rfl rfl (op_move rfl ?_)
      refine WL.split (t := 20) rfl (fun (hb7 : (!(ris u16Lt ps)) = true) => ?_) (fun (hb7 : (!(ris u16Lt ps)) = false) => ?_)
      ·
        have hn7 := (Bool.not_eq_true' _).mp hb7
        refine WL.no rfl rfl rfl hb7 rfl ?_
        refine WL.no rfl rfl rfl hb7 rfl ?_
        refine WL.no rfl rfl rfl hb7 rfl ?_
        refine WL.op rfl rfl (op_pickT rfl hb7 rfl ?_)
        refine WL.op rfl rfl (op_move rfl ?_)
        refine WL.no rfl rfl rfl rfl rfl ?_
        refine WL.no rfl rfl rfl rfl rfl ?_
        refine WL.no rfl rfl rfl rfl rfl ?_
        refine WL.no rfl rfl rfl rfl rfl ?_
        refine WL.op rfl rfl (op_pickT rfl rfl rfl ?_)
        refine WL.op rfl rfl (op_move rfl ?_)
        refine WL.no rfl rfl rfl rfl rfl ?_
        refine WL.no rfl rfl rfl rfl rfl ?_
        refine WL.no rfl rfl rfl rfl rfl ?_
        refine WL.op rfl rfl (op_pickT rfl rfl rfl ?_)
        refine WL.nil ?_
        refine WQ.next ?_
        refine WC.yes rfl rfl ?_
        refine WC.seq ?_
        refine WC.region ?_
        refine WL.op rfl rfl (op_assign rfl ?_)
        refine WL.nil ?_
        refine WQ.next ?_
        refine WC.ret ?_
        refine WQ.thenRet ?_
        refine WQ.out (.tmp rfl .nil) ?_
        exact ⟨by (rw [mfE, mfMay, hb3, hn5, hn7]) <;> rfl, H6.fr⟩
      ·
        have hn7 := (Bool.not_eq_false' _).mp hb7
        refine WL.yes rfl rfl rfl hb7 rfl (op_fieldAddr rfl Fa.F56_2 ?_)
        refine WL.yes rfl rfl rfl hb7 rfl (op_load rfl (H6.cell (i := 0) rfl rfl) Try.underlying54 rfl ?_)
        refine WL.yes rfl rfl rfl hb7 rfl (op_callF Fa.C124 rfl ((con16_ok _ ps 0 _ (H6.arr hP) (by omega)).mono (fun e w8 hq => ?_)))
        obtain ⟨rfl, hf8⟩ := hq
        refine ⟨_, rfl, ?_⟩
        have H8 := H6.fr' hf8
        refine WL.op rfl rfl (op_pickF rfl hb7 rfl ?_)
        refine WL.op rfl rfl (op_move rfl ?_)
        refine WL.split (t := 25) rfl (fun (hb9 : (ps.any (u16Is 0)) = true) => ?_) (fun (hb9 : (ps.any (u16Is 0)) = false) => ?_)
        ·
          refine WL.no rfl rfl rfl hb9 rfl ?_
          refine WL.no rfl rfl rfl hb9 rfl ?_
          refine WL.no rfl rfl rfl hb9 rfl ?_
          refine WL.no rfl rfl rfl hb9 rfl ?_
          refine WL.op rfl rfl (op_pickT rfl hb9 rfl ?_)
          refine WL.op rfl rfl (op_move rfl ?_)
          refine WL.no rfl rfl rfl rfl rfl ?_
          refine WL.no rfl rfl rfl rfl rfl ?_
          refine WL.no rfl rfl rfl rfl rfl ?_
          refine WL.op rfl rfl (op_pickT rfl rfl rfl ?_)
          refine WL.nil ?_
          refine WQ.next ?_
          refine WC.yes rfl rfl ?_
          refine WC.seq ?_
          refine WC.region ?_
          refine WL.op rfl rfl (op_assign rfl ?_)
          refine WL.nil ?_
          refine WQ.next ?_
          refine WC.ret ?_
          refine WQ.thenRet ?_
          refine WQ.out (.tmp rfl .nil) ?_
          exact ⟨by (rw [mfE, mfMay, hb3, hn5, hn7, hb9]) <;> rfl, H8.fr⟩
        ·
          refine WL.yes rfl rfl rfl hb9 rfl (op_fieldAddr rfl Fa.F56_2 ?_)
          refine WL.yes rfl rfl rfl hb9 rfl (op_load rfl (H8.cell (i := 0) rfl rfl) Try.underlying54 rfl ?_)
          refine WL.yes rfl rfl rfl hb9 rfl (op_lenA Try.underlying54 rfl (H8.arr hP) ?_)
          refine WL.yes rfl rfl rfl hb9 rfl (op_gtrN (b := 16) rfl rfl ?_)
          refine WL.op rfl rfl (op_pickF rfl hb9 rfl ?_)
          refine WL.op rfl rfl (op_move rfl ?_)
          refine WL.split (t := 31) rfl (fun (hb10 : (decide (ps.length > 16)) = true) => ?_) (fun (hb10 : (decide (ps.length > 16)) = false) => ?_)
          ·
            have hc10 := of_decide_eq_true hb10
            refine WL.no rfl rfl rfl hb10 rfl ?_
            refine WL.no rfl rfl rfl hb10 rfl ?_
            refine WL.no rfl rfl rfl hb10 rfl ?_
            refine WL.op rfl rfl (op_pickT rfl hb10 rfl ?_)
            refine WL.nil ?_
            refine WQ.next ?_
            refine WC.yes rfl rfl ?_
            refine WC.seq ?_
            refine WC.region ?_
            refine WL.op rfl rfl (op_assign rfl ?_)
            refine WL.nil ?_
            refine WQ.next ?_
            refine WC.ret ?_
            refine WQ.thenRet ?_
            refine WQ.out (.tmp rfl .nil) ?_
            exact ⟨by (rw [mfE, mfMay, hb3, hn5, hn7, hb9, hb10]) <;> rfl, H8.fr⟩
          ·
            have hc10 := of_decide_eq_false hb10
            refine WL.yes rfl rfl rfl hb10 rfl (op_fieldAddr rfl Fa.F56_0 ?_)
            refine WL.yes rfl rfl rfl hb10 rfl (op_load rfl (H8.cell (i := 0) rfl rfl) Try.underlying22 rfl ?_)
            refine WL.yes rfl rfl rfl hb10 rfl (op_gtrU32 (b := 1024) rfl rfl ?_)
            refine WL.op rfl rfl (op_pickF rfl hb10 rfl ?_)
            refine WL.nil ?_
            refine WQ.next ?_
            refine WC.cond rfl (fun (hb11 : (decide (pg > (1024 : UInt32))) = true) => ?_) (fun (hb11 : (decide (pg > (1024 : UInt32))) = false) => ?_)
            ·
              have hc11 := of_decide_eq_true hb11
              refine WC.seq ?_
              refine WC.region ?_
              refine WL.op rfl rfl (op_assign rfl ?_)
              refine WL.nil ?_
              refine WQ.next ?_
              refine WC.ret ?_
              refine WQ.thenRet ?_
              refine WQ.out (.tmp rfl .nil) ?_
              exact ⟨by (rw [mfE, mfMay, hb3, hn5, hn7, hb9, hb10, hb11]) <;> rfl, H8.fr⟩
            ·
              have hc11 := of_decide_eq_false hb11
              refine WC.skip ?_
              refine WQ.next ?_
              refine WC.seq ?_
              refine WC.region ?_
              refine WL.op rfl rfl (op_assign rfl ?_)
              refine WL.nil ?_
              refine WQ.next ?_
              refine WC.ret ?_
              refine WQ.out (.tmp rfl .nil) ?_
              exact ⟨by (rw [mfE, mfMay, hb3, hn5, hn7, hb9, hb10, hb11]) <;> rfl, H8.fr⟩
end Go.Proofs.Ytpnghdalnghpcaa
/-! from WImg -/
namespace Go.Proofs.Ytpnghdalnghpcaa
open Go.Owl Go.Spec
set_option maxRecDepth 100000 in
theorem perms_ok (p : UInt8) (w : World) :
    Calls Try.prog 83 #[(vU8 p)] w (fun e w' => e = .returned (.bool (permOk p)) ∧ Fr [] w w') := by
  refine enter (args := [(vU8 p)]) Try.func83 rfl rfl ?_
  have H0 : Own [] w w [] := Own.start w []
  refine WC.seq ?_
  refine WC.region ?_
  refine WL.op rfl rfl (op_assign rfl ?_)
  refine WL.nil ?_
  refine WQ.next ?_
  refine WC.seq ?_
  refine WC.region ?_
  refine WL.op rfl rfl (op_buildSlice (cs := [_, _, _]) H0 Try.underlying73 Fa.I5 rfl rfl rfl rfl (by decide) (by decide) (fun b1 w1 H1 => ?_))
  refine WL.op rfl rfl (op_move rfl ?_)
  refine WL.op rfl rfl (op_callF Fa.C125 rfl ((con8_ok _ ([1, 3, 5]) p _ (Arr.lenM (H1.arrR (i := 0) rfl)) (by decide)).mono (fun e w2 hq => ?_)))
  obtain ⟨rfl, hf2⟩ := hq
  refine ⟨_, rfl, ?_⟩
  have H2 := H1.fr' hf2
  refine WL.op rfl rfl (op_assign rfl ?_)
  refine WL.nil ?_
  refine WQ.next ?_
  refine WC.ret ?_
  refine WQ.out (.tmp rfl .nil) ?_
  exact ⟨rfl, H2.fr⟩
set_option maxRecDepth 100000 in
theorem send_ok (x : Sg) (w : World) :
    Calls Try.prog 84 #[(.agg #[(vU32 x.a), (vU8 x.p), (str x.b)])] w (fun e w' => e = .returned (vU64 (sgEnd x)) ∧ Fr [] w w') := by
  refine enter (args := [(.agg #[(vU32 x.a), (vU8 x.p), (str x.b)])]) Try.func84 rfl rfl ?_
  have H0 : Own [] w w [] := Own.start w []
  refine WC.seq ?_
  refine WC.region ?_
  refine WL.op rfl rfl (op_box H0 rfl rfl (fun b1 w1 H1 => ?_))
  refine WL.op rfl rfl (op_assign rfl ?_)
  refine WL.nil ?_
  refine WQ.next ?_
  refine WC.seq ?_
  refine WC.region ?_
  refine WL.op rfl rfl (op_fieldAddr rfl Fa.F111_0 ?_)
  refine WL.op rfl rfl (op_load rfl (H1.cell (i := 0) rfl rfl) Try.underlying22 rfl ?_)
  refine WL.op rfl rfl (op_convU32U64 (hs := Try.underlying22) (hd := Try.underlying116) rfl ?_)
  refine WL.op rfl rfl (op_fieldAddr rfl Fa.F111_2 ?_)
  refine WL.op rfl rfl (op_load rfl (H1.cell (i := 0) rfl rfl) Try.underlying9 rfl ?_)
  refine WL.op rfl rfl (op_lenStr Try.underlying9 rfl ?_)
  refine WL.op rfl rfl (op_convNU64 (hs := Try.underlying3) (hd := Try.underlying116) rfl ?_)
  refine WL.op rfl rfl (op_addU64 rfl rfl ?_)
  refine WL.op rfl rfl (op_assign rfl ?_)
  refine WL.nil ?_
  refine WQ.next ?_
  refine WC.ret ?_
  refine WQ.out (.tmp rfl .nil) ?_
  exact ⟨rfl, H1.fr⟩
set_option maxRecDepth 100000 in
theorem icheck_ok (pg : UInt32) (ev pv sv : Value) (xs : List Xt) (ps : List UInt16) (con : Bool) (en : UInt32) (sg : List Sg) (w : World) (hE : Arr w ev 2 xs.length (List.flatMap xtc xs)) (hP : Arr w pv 1 ps.length (List.map vU16 ps)) (hS : Arr w sv 3 sg.length (List.flatMap sgc sg)) (hn : xs.length < 2 ^ 47) (hm : ps.length < 2 ^ 47) (hk : sg.length < 2 ^ 47) :
    Calls Try.prog 40 #[(.agg #[(vU32 pg), ev, pv, (.bool con), (vU32 en), sv])] w (fun e w' => e = .returned (vN (imE pg xs ps en sg)) ∧ Fr [] w w') := by
  refine enter (args := [(.agg #[(vU32 pg), ev, pv, (.bool con), (vU32 en), sv])]) Try.func40 rfl rfl ?_
  have H0 : Own [] w w [] := Own.start w []
  refine WC.seq ?_
  refine WC.region ?_
  refine WL.op rfl rfl (op_box H0 rfl rfl (fun b1 w1 H1 => ?_))
  refine WL.op rfl rfl (op_assign rfl ?_)
  refine WL.nil ?_
  refine WQ.next ?_
  refine WC.seq ?_
  refine WC.seq ?_
  refine WC.region ?_
  refine WL.op rfl rfl (op_fieldAddr rfl Fa.F59_0 ?_)
  refine WL.op rfl rfl (op_loadS (vs := [_, _, _, _]) rfl (H1.cells (i := 0) rfl rfl) Try.underlying56 rfl Fa.I56 rfl ?_)
  refine WL.op rfl rfl (op_callF Fa.C82 rfl ((dcheck_ok pg _ _ xs ps con _ (H1.arr hE) (H1.arr hP) hn hm).mono (fun e w2 hq => ?_)))
  obtain ⟨rfl, hf2⟩ := hq
  refine ⟨_, rfl, ?_⟩
  have H2 := H1.fr' hf2
  refine WL.op rfl rfl (op_neqN (b := 0) rfl rfl ?_)
  refine WL.op rfl rfl (op_move rfl ?_)
  refine WL.split (t := 11) rfl (fun (hb3 : (decide ((mfE pg xs ps) ≠ 0)) = true) => ?_) (fun (hb3 : (decide ((mfE pg xs ps) ≠ 0)) = false) => ?_)
  ·
    have hc3 := of_decide_eq_true hb3
    refine WL.no rfl rfl rfl hb3 rfl ?_
    refine WL.no rfl rfl rfl hb3 rfl ?_
    refine WL.no rfl rfl rfl hb3 rfl ?_
    refine WL.no rfl rfl rfl hb3 rfl ?_
    refine WL.op rfl rfl (op_pickT rfl hb3 rfl ?_)
    refine WL.op rfl rfl (op_move rfl ?_)
    refine WL.no rfl rfl rfl rfl rfl ?_
    refine WL.no rfl rfl rfl rfl rfl ?_
    refine WL.no rfl rfl rfl rfl rfl ?_
    refine WL.no rfl rfl rfl rfl rfl ?_
    refine WL.op rfl rfl (op_pickT rfl rfl rfl ?_)
    refine WL.op rfl rfl (op_move rfl ?_)
    refine WL.no rfl rfl rfl rfl rfl ?_
    refine WL.no rfl rfl rfl rfl rfl ?_
    refine WL.no rfl rfl rfl rfl rfl ?_
    refine WL.no rfl rfl rfl rfl rfl ?_
    refine WL.op rfl rfl (op_pickT rfl rfl rfl ?_)
    refine WL.nil ?_
    refine WQ.next ?_
    refine WC.yes rfl rfl ?_
    refine WC.seq ?_
    refine WC.region ?_
    refine WL.op rfl rfl (op_assign rfl ?_)
    refine WL.nil ?_
    refine WQ.next ?_
    refine WC.ret ?_
    refine WQ.thenRet ?_
    refine WQ.out (.tmp rfl .nil) ?_
    exact ⟨by rw [im_head (by (rw [imHead, hb3]) <;> rfl)]; rfl, H2.fr⟩
  ·
    have hc3 := of_decide_eq_false hb3
    refine WL.yes rfl rfl rfl hb3 rfl (op_fieldAddr rfl Fa.F59_2 ?_)
    refine WL.yes rfl rfl rfl hb3 rfl (op_load rfl (H2.cell (i := 0) rfl rfl) Try.underlying57 rfl ?_)
    refine WL.yes rfl rfl rfl hb3 rfl (op_lenA Try.underlying57 rfl (H2.arr hS) ?_)
    refine WL.yes rfl rfl rfl hb3 rfl (op_lssN (b := 1) rfl rfl ?_)
    refine WL.op rfl rfl (op_pickF rfl hb3 rfl ?_)
    refine WL.op rfl rfl (op_move rfl ?_)
    refine WL.split (t := 17) rfl (fun (hb4 : (decide (sg.length < 1)) = true) => ?_) (fun (hb4 : (decide (sg.length < 1)) = false) => ?_)
    ·
      have hc4 := of_decide_eq_true hb4
      refine WL.no rfl rfl rfl hb4 rfl ?_
      refine WL.no rfl rfl rfl hb4 rfl ?_
      refine WL.no rfl rfl rfl hb4 rfl ?_
      refine WL.no rfl rfl rfl hb4 rfl ?_
      refine WL.op rfl rfl (op_pickT rfl hb4 rfl ?_)
      refine WL.op rfl rfl (op_move rfl ?_)
      refine WL.no rfl rfl rfl rfl rfl ?_
      refine WL.no rfl rfl rfl rfl rfl ?_
      refine WL.no rfl rfl rfl rfl rfl ?_
      refine WL.no rfl rfl rfl rfl rfl ?_
      refine WL.op rfl rfl (op_pickT rfl rfl rfl ?_)
      refine WL.nil ?_
      refine WQ.next ?_
      refine WC.yes rfl rfl ?_
      refine WC.seq ?_
      refine WC.region ?_
      refine WL.op rfl rfl (op_assign rfl ?_)
      refine WL.nil ?_
      refine WQ.next ?_
      refine WC.ret ?_
      refine WQ.thenRet ?_
      refine WQ.out (.tmp rfl .nil) ?_
      exact ⟨by rw [im_head (by (rw [imHead, hb3, hb4]) <;> rfl)]; rfl, H2.fr⟩
    ·
      have hc4 := of_decide_eq_false hb4
      refine WL.yes rfl rfl rfl hb4 rfl (op_fieldAddr rfl Fa.F59_2 ?_)
      refine WL.yes rfl rfl rfl hb4 rfl (op_load rfl (H2.cell (i := 0) rfl rfl) Try.underlying57 rfl ?_)
      refine WL.yes rfl rfl rfl hb4 rfl (op_lenA Try.underlying57 rfl (H2.arr hS) ?_)
      refine WL.yes rfl rfl rfl hb4 rfl (op_gtrN (b := 8) rfl rfl ?_)
      refine WL.op rfl rfl (op_pickF rfl hb4 rfl ?_)
      refine WL.op rfl rfl (op_move rfl ?_)
      refine WL.split (t := 23) rfl (fun (hb5 : (decide (sg.length > 8)) = true) => ?_) (fun (hb5 : (decide (sg.length > 8)) = false) => ?_)
      ·
        have hc5 := of_decide_eq_true hb5
        refine WL.no rfl rfl rfl hb5 rfl ?_
        refine WL.no rfl rfl rfl hb5 rfl ?_
        refine WL.no rfl rfl rfl hb5 rfl ?_
        refine WL.no rfl rfl rfl hb5 rfl ?_
        refine WL.op rfl rfl (op_pickT rfl hb5 rfl ?_)
        refine WL.nil ?_
        refine WQ.next ?_
        refine WC.yes rfl rfl ?_
        refine WC.seq ?_
        refine WC.region ?_
        refine WL.op rfl rfl (op_assign rfl ?_)
        refine WL.nil ?_
        refine WQ.next ?_
        refine WC.ret ?_
        refine WQ.thenRet ?_
        refine WQ.out (.tmp rfl .nil) ?_
        exact ⟨by rw [im_head (by (rw [imHead, hb3, hb4, hb5]) <;> rfl)]; rfl, H2.fr⟩
      ·
        have hc5 := of_decide_eq_false hb5
        refine WL.yes rfl rfl rfl hb5 rfl (op_fieldAddr rfl Fa.F59_1 ?_)
        refine WL.yes rfl rfl rfl hb5 rfl (op_load rfl (H2.cell (i := 0) rfl rfl) Try.underlying22 rfl ?_)
        refine WL.yes rfl rfl rfl hb5 rfl (op_remU32 (b := 8) rfl rfl (by decide) ?_)
        refine WL.yes rfl rfl rfl hb5 rfl (op_neqU32 (b := 0) rfl rfl ?_)
        refine WL.op rfl rfl (op_pickF rfl hb5 rfl ?_)
        refine WL.nil ?_
        refine WQ.next ?_
        refine WC.cond rfl (fun (hb6 : (decide ((en % (8 : UInt32)) ≠ (0 : UInt32))) = true) => ?_) (fun (hb6 : (decide ((en % (8 : UInt32)) ≠ (0 : UInt32))) = false) => ?_)
        ·
          have hc6 := of_decide_eq_true hb6
          refine WC.seq ?_
          refine WC.region ?_
          refine WL.op rfl rfl (op_assign rfl ?_)
          refine WL.nil ?_
          refine WQ.next ?_
          refine WC.ret ?_
          refine WQ.thenRet ?_
          refine WQ.out (.tmp rfl .nil) ?_
          exact ⟨by rw [im_head (by (rw [imHead, hb3, hb4, hb5, hb6]) <;> rfl)]; rfl, H2.fr⟩
        ·
          have hc6 := of_decide_eq_false hb6
          refine WC.skip ?_
          refine WQ.next ?_
          refine WC.seq ?_
          refine WC.region ?_
          refine WL.op rfl rfl (op_assign rfl ?_)
          refine WL.nil ?_
          refine WQ.next ?_
          refine WC.seq ?_
          refine WC.region ?_
          refine WL.op rfl rfl (op_assign rfl ?_)
          refine WL.nil ?_
          refine WQ.next ?_
          refine WC.seq ?_
          refine WC.seq ?_
          refine WC.region ?_
          refine WL.op rfl rfl (op_fieldAddr rfl Fa.F59_2 ?_)
          refine WL.op rfl rfl (op_load rfl (H2.cell (i := 0) rfl rfl) Try.underlying57 rfl ?_)
          refine WL.op rfl rfl (op_lenA Try.underlying57 rfl (H2.arr hS) ?_)
          refine WL.op rfl rfl (op_move rfl ?_)
          refine WL.nil ?_
          refine WQ.next ?_
          refine WC.block ?_
          refine WC.loop (α := Nat) (fun k => [(1, (ptr b1 0)), (30, sv), (31, (vN sg.length)), (3, (vU64 (ckTo en sg k).1)), (4, (.bool (ckTo en sg k).2)), (32, (vN k))]) (fun k w' => (k ≤ sg.length ∧ (∀ j, j < k → sgBad (ckTo en sg j).1 (sg.getD j Sg.zero) = false)) ∧ Own [] w w' [.blk b1 [(vU32 pg), ev, pv, (.bool con), (vU32 en), sv] 59]) (fun k => sg.length - k) 0 ⟨⟨Nat.zero_le _, fun j h => by omega⟩, H2⟩ ⟨rfl, rfl, rfl, rfl, rfl, rfl, trivial⟩ ?_
          rintro k w7 ⟨⟨hk1, hok⟩, H7⟩
          show WC _ _ _ _ _ [(1, (ptr b1 0)), (30, sv), (31, (vN sg.length)), (3, (vU64 (ckTo en sg k).1)), (4, (.bool (ckTo en sg k).2)), (32, (vN k))] _
          refine WC.seq ?_
          refine WC.region ?_
          refine WL.op rfl rfl (op_lssN rfl rfl ?_)
          refine WL.nil ?_
          refine WQ.next ?_
          refine WC.seq ?_
          refine WC.cond rfl (fun (hb8 : (decide (k < sg.length)) = true) => ?_) (fun (hb8 : (decide (k < sg.length)) = false) => ?_)
          ·
            have hc8 := of_decide_eq_true hb8
            refine WC.skip ?_
            refine WQ.next ?_
            refine WC.seq ?_
            refine WC.block ?_
            refine WC.seq ?_
            refine WC.region ?_
            refine WL.op rfl rfl (op_indexAddr Try.underlying57 Fa.I111 rfl (H7.arr hS) rfl (by omega) ?_)
            refine WL.op rfl rfl (op_loadSP (vs := sgc (sg.getD k Sg.zero)) rfl (Arr.atsF (H7.arr hS) (fun _ => rfl) (by decide) Sg.zero (by omega)) Try.underlying111 rfl Fa.I111 rfl ?_)
            refine WL.op rfl rfl (op_alloc H7 Fa.I111 (fun b9 w9 H9 => ?_))
            refine WL.op rfl rfl (op_storeBW (i := 1) H9 rfl rfl rfl rfl rfl Fa.I111 (fun w10 H10 => ?_))
            refine WL.nil ?_
            refine WQ.next ?_
            refine WC.seq ?_
            refine WC.seq ?_
            refine WC.region ?_
            refine WL.op rfl rfl (op_fieldAddr rfl Fa.F111_1 ?_)
            refine WL.op rfl rfl (op_load rfl (H10.cell (i := 1) rfl rfl) Try.underlying5 rfl ?_)
            refine WL.op rfl rfl (op_callF Fa.C83 rfl ((perms_ok ((sg.getD k Sg.zero).p) _).mono (fun e w11 hq => ?_)))
            obtain ⟨rfl, hf11⟩ := hq
            refine ⟨_, rfl, ?_⟩
            have H11 := H10.fr' hf11
            refine WL.op rfl rfl (op_not rfl ?_)
            refine WL.op rfl rfl (op_move rfl ?_)
            refine WL.split (t := 40) rfl (fun (hb12 : (!(permOk ((sg.getD k Sg.zero).p))) = true) => ?_) (fun (hb12 : (!(permOk ((sg.getD k Sg.zero).p))) = false) => ?_)
            ·
              have hn12 := (Bool.not_eq_true' _).mp hb12
              refine WL.no rfl rfl rfl hb12 rfl ?_
              refine WL.no rfl rfl rfl hb12 rfl ?_
              refine WL.no rfl rfl rfl hb12 rfl ?_
              refine WL.no rfl rfl rfl hb12 rfl ?_
              refine WL.op rfl rfl (op_pickT rfl hb12 rfl ?_)
              refine WL.op rfl rfl (op_move rfl ?_)
              refine WL.no rfl rfl rfl rfl rfl ?_
              refine WL.no rfl rfl rfl rfl rfl ?_
              refine WL.no rfl rfl rfl rfl rfl ?_
              refine WL.no rfl rfl rfl rfl rfl ?_
              refine WL.no rfl rfl rfl rfl rfl ?_
              refine WL.op rfl rfl (op_pickT rfl rfl rfl ?_)
              refine WL.op rfl rfl (op_move rfl ?_)
              refine WL.no rfl rfl rfl rfl rfl ?_
              refine WL.no rfl rfl rfl rfl rfl ?_
              refine WL.no rfl rfl rfl rfl rfl ?_
              refine WL.op rfl rfl (op_pickT rfl rfl rfl ?_)
              refine WL.op rfl rfl (op_move rfl ?_)
              refine WL.no rfl rfl rfl rfl rfl ?_
              refine WL.no rfl rfl rfl rfl rfl ?_
              refine WL.no rfl rfl rfl rfl rfl ?_
              refine WL.op rfl rfl (op_pickT rfl rfl rfl ?_)
              refine WL.nil ?_
              refine WQ.next ?_
              refine WC.yes rfl rfl ?_
              refine WC.seq ?_
              refine WC.region ?_
              refine WL.op rfl rfl (op_assign rfl ?_)
              refine WL.nil ?_
              refine WQ.next ?_
              refine WC.ret ?_
              refine WQ.thenRet ?_
              refine WQ.inRet ?_
              refine WQ.thenRet ?_
              refine WQ.thenRet ?_
              refine WQ.inRet ?_
              refine WQ.thenRet ?_
              refine WQ.out (.tmp rfl .nil) ?_
              exact ⟨by rw [im_bad (k := k) (by omega) (by (rw [sgBad, hn12]) <;> rfl)]; rfl, H11.fr⟩
            ·
              have hn12 := (Bool.not_eq_false' _).mp hb12
              refine WL.yes rfl rfl rfl hb12 rfl (op_fieldAddr rfl Fa.F111_0 ?_)
              refine WL.yes rfl rfl rfl hb12 rfl (op_load rfl (H11.cell (i := 1) rfl rfl) Try.underlying22 rfl ?_)
              refine WL.yes rfl rfl rfl hb12 rfl (op_remU32 (b := 256) rfl rfl (by decide) ?_)
              refine WL.yes rfl rfl rfl hb12 rfl (op_neqU32 (b := 0) rfl rfl ?_)
              refine WL.op rfl rfl (op_pickF rfl hb12 rfl ?_)
              refine WL.op rfl rfl (op_move rfl ?_)
              refine WL.split (t := 46) rfl (fun (hb13 : (decide (((sg.getD k Sg.zero).a % (256 : UInt32)) ≠ (0 : UInt32))) = true) => ?_) (fun (hb13 : (decide (((sg.getD k Sg.zero).a % (256 : UInt32)) ≠ (0 : UInt32))) = false) => ?_)
              ·
                have hc13 := of_decide_eq_true hb13
                refine WL.no rfl rfl rfl hb13 rfl ?_
                refine WL.no rfl rfl rfl hb13 rfl ?_
                refine WL.no rfl rfl rfl hb13 rfl ?_
                refine WL.no rfl rfl rfl hb13 rfl ?_
                refine WL.no rfl rfl rfl hb13 rfl ?_
                refine WL.op rfl rfl (op_pickT rfl hb13 rfl ?_)
                refine WL.op rfl rfl (op_move rfl ?_)
                refine WL.no rfl rfl rfl rfl rfl ?_
                refine WL.no rfl rfl rfl rfl rfl ?_
                refine WL.no rfl rfl rfl rfl rfl ?_
                refine WL.op rfl rfl (op_pickT rfl rfl rfl ?_)
                refine WL.op rfl rfl (op_move rfl ?_)
                refine WL.no rfl rfl rfl rfl rfl ?_
                refine WL.no rfl rfl rfl rfl rfl ?_
                refine WL.no rfl rfl rfl rfl rfl ?_
                refine WL.op rfl rfl (op_pickT rfl rfl rfl ?_)
                refine WL.nil ?_
                refine WQ.next ?_
                refine WC.yes rfl rfl ?_
                refine WC.seq ?_
                refine WC.region ?_
                refine WL.op rfl rfl (op_assign rfl ?_)
                refine WL.nil ?_
                refine WQ.next ?_
                refine WC.ret ?_
                refine WQ.thenRet ?_
                refine WQ.inRet ?_
                refine WQ.thenRet ?_
                refine WQ.thenRet ?_
                refine WQ.inRet ?_
                refine WQ.thenRet ?_
                refine WQ.out (.tmp rfl .nil) ?_
                exact ⟨by rw [im_bad (k := k) (by omega) (by (rw [sgBad, hn12, hb13]) <;> rfl)]; rfl, H11.fr⟩
              ·
                have hc13 := of_decide_eq_false hb13
                refine WL.yes rfl rfl rfl hb13 rfl (op_fieldAddr rfl Fa.F111_0 ?_)
                refine WL.yes rfl rfl rfl hb13 rfl (op_load rfl (H11.cell (i := 1) rfl rfl) Try.underlying22 rfl ?_)
                refine WL.yes rfl rfl rfl hb13 rfl (op_convU32U64 (hs := Try.underlying22) (hd := Try.underlying116) rfl ?_)
                refine WL.yes rfl rfl rfl hb13 rfl (op_move rfl ?_)
                refine WL.yes rfl rfl rfl hb13 rfl (op_lssU64 rfl rfl ?_)
                refine WL.op rfl rfl (op_pickF rfl hb13 rfl ?_)
                refine WL.op rfl rfl (op_move rfl ?_)
                refine WL.split (t := 53) rfl (fun (hb14 : (decide ((UInt64.ofNat (sg.getD k Sg.zero).a.toNat) < (ckTo en sg k).1)) = true) => ?_) (fun (hb14 : (decide ((UInt64.ofNat (sg.getD k Sg.zero).a.toNat) < (ckTo en sg k).1)) = false) => ?_)
                ·
                  have hc14 := of_decide_eq_true hb14
                  refine WL.no rfl rfl rfl hb14 rfl ?_
                  refine WL.no rfl rfl rfl hb14 rfl ?_
                  refine WL.no rfl rfl rfl hb14 rfl ?_
                  refine WL.op rfl rfl (op_pickT rfl hb14 rfl ?_)
                  refine WL.op rfl rfl (op_move rfl ?_)
                  refine WL.no rfl rfl rfl rfl rfl ?_
                  refine WL.no rfl rfl rfl rfl rfl ?_
                  refine WL.no rfl rfl rfl rfl rfl ?_
                  refine WL.op rfl rfl (op_pickT rfl rfl rfl ?_)
                  refine WL.nil ?_
                  refine WQ.next ?_
                  refine WC.yes rfl rfl ?_
                  refine WC.seq ?_
                  refine WC.region ?_
                  refine WL.op rfl rfl (op_assign rfl ?_)
                  refine WL.nil ?_
                  refine WQ.next ?_
                  refine WC.ret ?_
                  refine WQ.thenRet ?_
                  refine WQ.inRet ?_
                  refine WQ.thenRet ?_
                  refine WQ.thenRet ?_
                  refine WQ.inRet ?_
                  refine WQ.thenRet ?_
                  refine WQ.out (.tmp rfl .nil) ?_
                  exact ⟨by rw [im_bad (k := k) (by omega) (by (rw [sgBad, hn12, hb13, hb14]) <;> rfl)]; rfl, H11.fr⟩
                ·
                  have hc14 := of_decide_eq_false hb14
                  refine WL.yes rfl rfl rfl hb14 rfl (op_fieldAddr rfl Fa.F111_2 ?_)
                  refine WL.yes rfl rfl rfl hb14 rfl (op_load rfl (H11.cell (i := 1) rfl rfl) Try.underlying9 rfl ?_)
                  refine WL.yes rfl rfl rfl hb14 rfl (op_eqlStr rfl rfl ?_)
                  refine WL.op rfl rfl (op_pickF rfl hb14 rfl ?_)
                  refine WL.op rfl rfl (op_move rfl ?_)
                  refine WL.split (t := 58) rfl (fun (hb15 : (decide ((sg.getD k Sg.zero).b = [])) = true) => ?_) (fun (hb15 : (decide ((sg.getD k Sg.zero).b = [])) = false) => ?_)
                  ·
                    have hc15 := of_decide_eq_true hb15
                    refine WL.no rfl rfl rfl hb15 rfl ?_
                    refine WL.no rfl rfl rfl hb15 rfl ?_
                    refine WL.no rfl rfl rfl hb15 rfl ?_
                    refine WL.op rfl rfl (op_pickT rfl hb15 rfl ?_)
                    refine WL.nil ?_
                    refine WQ.next ?_
                    refine WC.yes rfl rfl ?_
                    refine WC.seq ?_
                    refine WC.region ?_
                    refine WL.op rfl rfl (op_assign rfl ?_)
                    refine WL.nil ?_
                    refine WQ.next ?_
                    refine WC.ret ?_
                    refine WQ.thenRet ?_
                    refine WQ.inRet ?_
                    refine WQ.thenRet ?_
                    refine WQ.thenRet ?_
                    refine WQ.inRet ?_
                    refine WQ.thenRet ?_
                    refine WQ.out (.tmp rfl .nil) ?_
                    exact ⟨by rw [im_bad (k := k) (by omega) (by (rw [sgBad, hn12, hb13, hb14, hb15]) <;> rfl)]; rfl, H11.fr⟩
                  ·
                    have hc15 := of_decide_eq_false hb15
                    refine WL.yes rfl rfl rfl hb15 rfl (op_loadS (vs := [_, _, _]) rfl (H11.cells (i := 1) rfl rfl) Try.underlying111 rfl Fa.I111 rfl ?_)
                    refine WL.yes rfl rfl rfl hb15 rfl (op_callF Fa.C84 rfl ((send_ok (sg.getD k Sg.zero) _).mono (fun e w16 hq => ?_)))
                    obtain ⟨rfl, hf16⟩ := hq
                    refine ⟨_, rfl, ?_⟩
                    have H16 := H11.fr' hf16
                    refine WL.yes rfl rfl rfl hb15 rfl (op_gtrU64 (b := 131072) rfl rfl ?_)
                    refine WL.op rfl rfl (op_pickF rfl hb15 rfl ?_)
                    refine WL.nil ?_
                    refine WQ.next ?_
                    refine WC.cond rfl (fun (hb17 : (decide ((sgEnd (sg.getD k Sg.zero)) > (131072 : UInt64))) = true) => ?_) (fun (hb17 : (decide ((sgEnd (sg.getD k Sg.zero)) > (131072 : UInt64))) = false) => ?_)
                    ·
                      have hc17 := of_decide_eq_true hb17
                      refine WC.seq ?_
                      refine WC.region ?_
                      refine WL.op rfl rfl (op_assign rfl ?_)
                      refine WL.nil ?_
                      refine WQ.next ?_
                      refine WC.ret ?_
                      refine WQ.thenRet ?_
                      refine WQ.inRet ?_
                      refine WQ.thenRet ?_
                      refine WQ.thenRet ?_
                      refine WQ.inRet ?_
                      refine WQ.thenRet ?_
                      refine WQ.out (.tmp rfl .nil) ?_
                      exact ⟨by rw [im_bad (k := k) (by omega) (by (rw [sgBad, hn12, hb13, hb14, hb15, hb17]) <;> rfl)]; rfl, H16.fr⟩
                    ·
                      have hc17 := of_decide_eq_false hb17
                      refine WC.skip ?_
                      refine WQ.next ?_
                      refine WC.seq ?_
                      refine WC.region ?_
                      refine WL.op rfl rfl (op_loadS (vs := [_, _, _]) rfl (H16.cells (i := 1) rfl rfl) Try.underlying111 rfl Fa.I111 rfl ?_)
                      refine WL.op rfl rfl (op_callF Fa.C84 rfl ((send_ok (sg.getD k Sg.zero) _).mono (fun e w18 hq => ?_)))
                      obtain ⟨rfl, hf18⟩ := hq
                      refine ⟨_, rfl, ?_⟩
                      have H18 := H16.fr' hf18
                      refine WL.op rfl rfl (op_addU64 (b := 256) rfl rfl ?_)
                      refine WL.op rfl rfl (op_subU64 (b := 1) rfl rfl ?_)
                      refine WL.op rfl rfl (op_quoU64 (b := 256) rfl rfl (by decide) ?_)
                      refine WL.op rfl rfl (op_mulU64 (b := 256) rfl rfl ?_)
                      refine WL.op rfl rfl (op_assign rfl ?_)
                      refine WL.nil ?_
                      refine WQ.next ?_
                      refine bsplit (fun (hb19 : (ckTo en sg k).2 = true) => ?_) (fun (hb19 : (ckTo en sg k).2 = false) => ?_)
                      ·
                        refine WC.draw 24 Fa.M H18 (HW.op rfl (fun w1 H1 => op_move rfl ⟨rfl, Fr.refl _ _⟩) (HW.op rfl (fun w1 H1 => op_move rfl ⟨rfl, Fr.refl _ _⟩) (HW.no rfl rfl rfl hb19 (HW.no rfl rfl rfl hb19 (HW.no rfl rfl rfl hb19 (HW.no rfl rfl rfl hb19 (HW.no rfl rfl rfl hb19 (HW.non rfl rfl rfl (HW.non rfl rfl rfl (HW.non rfl rfl rfl (HW.non rfl rfl rfl (HW.non rfl rfl rfl (HW.no rfl rfl rfl hb19 (HW.no rfl rfl rfl hb19 (HW.non rfl rfl rfl (HW.non rfl rfl rfl (HW.non rfl rfl rfl (HW.non rfl rfl rfl (HW.non rfl rfl rfl (HW.non rfl rfl rfl (HW.non rfl rfl rfl (HW.no rfl rfl rfl hb19 (HW.op rfl (fun w1 H1 => op_pickT rfl hb19 rfl ⟨rfl, Fr.refl _ _⟩) (HW.op rfl (fun w1 H1 => op_assign rfl ⟨rfl, Fr.refl _ _⟩)  HW.nil)))))))))))))))))))))))) (by kernel_rfl) ?_
                        intro β20 w20 H20
                        refine WL.nil ?_
                        refine WQ.inNormal ?_
                        refine WQ.next ?_
                        refine WC.region ?_
                        refine WL.op rfl rfl (op_addN (b := 1) rfl rfl (by omega) ?_)
                        refine WL.op rfl rfl (op_move rfl ?_)
                        refine WL.nil ?_
                        exact WQ.round (k + 1) ⟨⟨by omega, allPrev hok (by (rw [sgBad, hn12, hb13, hb14, hb15, hb17]) <;> rfl)⟩, (H20.take 1)⟩ ⟨rfl, rfl, rfl, rfl, (congrArg (fun b => some (Value.bool b)) (show true = (ckTo en sg (k + 1)).2 by (rw [ckTo_2, sgBegins, hb19]) <;> rfl)), rfl, trivial⟩ (by omega)
                      ·
                        refine bsplit (fun (hb21 : (decide (((sg.getD k Sg.zero).p &&& (4 : UInt8)) ≠ (0 : UInt8))) = true) => ?_) (fun (hb21 : (decide (((sg.getD k Sg.zero).p &&& (4 : UInt8)) ≠ (0 : UInt8))) = false) => ?_)
                        ·
                          have hc21 := of_decide_eq_true hb21
                          refine bsplit (fun (hb22 : (decide (en ≥ (sg.getD k Sg.zero).a)) = true) => ?_) (fun (hb22 : (decide (en ≥ (sg.getD k Sg.zero).a)) = false) => ?_)
                          ·
                            have hc22 := of_decide_eq_true hb22
                            refine WC.draw 24 Fa.M H18 (HW.op rfl (fun w1 H1 => op_move rfl ⟨rfl, Fr.refl _ _⟩) (HW.op rfl (fun w1 H1 => op_move rfl ⟨rfl, Fr.refl _ _⟩) (HW.yes rfl rfl rfl hb19 (fun w1 H1 => op_fieldAddr rfl Fa.F111_1 ⟨rfl, Fr.refl _ _⟩) (HW.yes rfl rfl rfl hb19 (fun w1 H1 => op_load rfl (H1.cell (i := 1) rfl rfl) Try.underlying5 rfl ⟨rfl, Fr.refl _ _⟩) (HW.yes rfl rfl rfl hb19 (fun w1 H1 => op_andU8 (b := 4) rfl rfl ⟨rfl, Fr.refl _ _⟩) (HW.yes rfl rfl rfl hb19 (fun w1 H1 => op_neqU8 (b := 0) rfl rfl ⟨rfl, Fr.refl _ _⟩) (HW.yes rfl rfl rfl hb19 (fun w1 H1 => op_move rfl ⟨rfl, Fr.refl _ _⟩) (HW.yes rfl rfl rfl hb21 (fun w1 H1 => op_fieldAddr rfl Fa.F59_1 ⟨rfl, Fr.refl _ _⟩) (HW.yes rfl rfl rfl hb21 (fun w1 H1 => op_load rfl (H1.cell (i := 0) rfl rfl) Try.underlying22 rfl ⟨rfl, Fr.refl _ _⟩) (HW.yes rfl rfl rfl hb21 (fun w1 H1 => op_fieldAddr rfl Fa.F111_0 ⟨rfl, Fr.refl _ _⟩) (HW.yes rfl rfl rfl hb21 (fun w1 H1 => op_load rfl (H1.cell (i := 1) rfl rfl) Try.underlying22 rfl ⟨rfl, Fr.refl _ _⟩) (HW.yes rfl rfl rfl hb21 (fun w1 H1 => op_geqU32 rfl rfl ⟨rfl, Fr.refl _ _⟩) (HW.yes rfl rfl rfl hb19 (fun w1 H1 => op_pickT rfl hb21 rfl ⟨rfl, Fr.refl _ _⟩) (HW.yes rfl rfl rfl hb19 (fun w1 H1 => op_move rfl ⟨rfl, Fr.refl _ _⟩) (HW.yes rfl rfl rfl hb22 (fun w1 H1 => op_fieldAddr rfl Fa.F59_1 ⟨rfl, Fr.refl _ _⟩) (HW.yes rfl rfl rfl hb22 (fun w1 H1 => op_load rfl (H1.cell (i := 0) rfl rfl) Try.underlying22 rfl ⟨rfl, Fr.refl _ _⟩) (HW.yes rfl rfl rfl hb22 (fun w1 H1 => op_convU32U64 (hs := Try.underlying22) (hd := Try.underlying116) rfl ⟨rfl, Fr.refl _ _⟩) (HW.yes rfl rfl rfl hb22 (fun w1 H1 => op_addU64 (b := 8) rfl rfl ⟨rfl, Fr.refl _ _⟩) (HW.yes rfl rfl rfl hb22 (fun w1 H1 => op_loadS (vs := [_, _, _]) rfl (H1.cells (i := 1) rfl rfl) Try.underlying111 rfl Fa.I111 rfl ⟨rfl, Fr.refl _ _⟩) (HW.yes rfl rfl rfl hb22 (fun w1 H1 => op_callF Fa.C84 rfl ((send_ok (sg.getD k Sg.zero) _).mono (fun e w2 hq => ⟨_, hq.1, rfl, hq.2⟩))) (HW.yes rfl rfl rfl hb22 (fun w1 H1 => op_leqU64 rfl rfl ⟨rfl, Fr.refl _ _⟩) (HW.yes rfl rfl rfl hb19 (fun w1 H1 => op_pickT rfl hb22 rfl ⟨rfl, Fr.refl _ _⟩) (HW.op rfl (fun w1 H1 => op_pickF rfl hb19 rfl ⟨rfl, Fr.refl _ _⟩) (HW.op rfl (fun w1 H1 => op_assign rfl ⟨rfl, Fr.refl _ _⟩)  HW.nil)))))))))))))))))))))))) (by kernel_rfl) ?_
                            intro β24 w24 H24
                            refine WL.nil ?_
                            refine WQ.inNormal ?_
                            refine WQ.next ?_
                            refine WC.region ?_
                            refine WL.op rfl rfl (op_addN (b := 1) rfl rfl (by omega) ?_)
                            refine WL.op rfl rfl (op_move rfl ?_)
                            refine WL.nil ?_
                            exact WQ.round (k + 1) ⟨⟨by omega, allPrev hok (by (rw [sgBad, hn12, hb13, hb14, hb15, hb17]) <;> rfl)⟩, (H24.take 1)⟩ ⟨rfl, rfl, rfl, rfl, (congrArg (fun b => some (Value.bool b)) (show (decide (((UInt64.ofNat en.toNat) + (8 : UInt64)) ≤ (sgEnd (sg.getD k Sg.zero)))) = (ckTo en sg (k + 1)).2 by (rw [ckTo_2, sgBegins, hb19, hb21, hb22]) <;> rfl)), rfl, trivial⟩ (by omega)
                          ·
                            have hc22 := of_decide_eq_false hb22
                            refine WC.draw 24 Fa.M H18 (HW.op rfl (fun w1 H1 => op_move rfl ⟨rfl, Fr.refl _ _⟩) (HW.op rfl (fun w1 H1 => op_move rfl ⟨rfl, Fr.refl _ _⟩) (HW.yes rfl rfl rfl hb19 (fun w1 H1 => op_fieldAddr rfl Fa.F111_1 ⟨rfl, Fr.refl _ _⟩) (HW.yes rfl rfl rfl hb19 (fun w1 H1 => op_load rfl (H1.cell (i := 1) rfl rfl) Try.underlying5 rfl ⟨rfl, Fr.refl _ _⟩) (HW.yes rfl rfl rfl hb19 (fun w1 H1 => op_andU8 (b := 4) rfl rfl ⟨rfl, Fr.refl _ _⟩) (HW.yes rfl rfl rfl hb19 (fun w1 H1 => op_neqU8 (b := 0) rfl rfl ⟨rfl, Fr.refl _ _⟩) (HW.yes rfl rfl rfl hb19 (fun w1 H1 => op_move rfl ⟨rfl, Fr.refl _ _⟩) (HW.yes rfl rfl rfl hb21 (fun w1 H1 => op_fieldAddr rfl Fa.F59_1 ⟨rfl, Fr.refl _ _⟩) (HW.yes rfl rfl rfl hb21 (fun w1 H1 => op_load rfl (H1.cell (i := 0) rfl rfl) Try.underlying22 rfl ⟨rfl, Fr.refl _ _⟩) (HW.yes rfl rfl rfl hb21 (fun w1 H1 => op_fieldAddr rfl Fa.F111_0 ⟨rfl, Fr.refl _ _⟩) (HW.yes rfl rfl rfl hb21 (fun w1 H1 => op_load rfl (H1.cell (i := 1) rfl rfl) Try.underlying22 rfl ⟨rfl, Fr.refl _ _⟩) (HW.yes rfl rfl rfl hb21 (fun w1 H1 => op_geqU32 rfl rfl ⟨rfl, Fr.refl _ _⟩) (HW.yes rfl rfl rfl hb19 (fun w1 H1 => op_pickT rfl hb21 rfl ⟨rfl, Fr.refl _ _⟩) (HW.yes rfl rfl rfl hb19 (fun w1 H1 => op_move rfl ⟨rfl, Fr.refl _ _⟩) (HW.no rfl rfl rfl hb22 (HW.no rfl rfl rfl hb22 (HW.no rfl rfl rfl hb22 (HW.no rfl rfl rfl hb22 (HW.no rfl rfl rfl hb22 (HW.no rfl rfl rfl hb22 (HW.no rfl rfl rfl hb22 (HW.yes rfl rfl rfl hb19 (fun w1 H1 => op_pickF rfl hb22 rfl ⟨rfl, Fr.refl _ _⟩) (HW.op rfl (fun w1 H1 => op_pickF rfl hb19 rfl ⟨rfl, Fr.refl _ _⟩) (HW.op rfl (fun w1 H1 => op_assign rfl ⟨rfl, Fr.refl _ _⟩)  HW.nil)))))))))))))))))))))))) (by kernel_rfl) ?_
                            intro β25 w25 H25
                            refine WL.nil ?_
                            refine WQ.inNormal ?_
                            refine WQ.next ?_
                            refine WC.region ?_
                            refine WL.op rfl rfl (op_addN (b := 1) rfl rfl (by omega) ?_)
                            refine WL.op rfl rfl (op_move rfl ?_)
                            refine WL.nil ?_
                            exact WQ.round (k + 1) ⟨⟨by omega, allPrev hok (by (rw [sgBad, hn12, hb13, hb14, hb15, hb17]) <;> rfl)⟩, (H25.take 1)⟩ ⟨rfl, rfl, rfl, rfl, (congrArg (fun b => some (Value.bool b)) (show false = (ckTo en sg (k + 1)).2 by (rw [ckTo_2, sgBegins, hb19, hb21, hb22]) <;> rfl)), rfl, trivial⟩ (by omega)
                        ·
                          have hc21 := of_decide_eq_false hb21
                          refine WC.draw 24 Fa.M H18 (HW.op rfl (fun w1 H1 => op_move rfl ⟨rfl, Fr.refl _ _⟩) (HW.op rfl (fun w1 H1 => op_move rfl ⟨rfl, Fr.refl _ _⟩) (HW.yes rfl rfl rfl hb19 (fun w1 H1 => op_fieldAddr rfl Fa.F111_1 ⟨rfl, Fr.refl _ _⟩) (HW.yes rfl rfl rfl hb19 (fun w1 H1 => op_load rfl (H1.cell (i := 1) rfl rfl) Try.underlying5 rfl ⟨rfl, Fr.refl _ _⟩) (HW.yes rfl rfl rfl hb19 (fun w1 H1 => op_andU8 (b := 4) rfl rfl ⟨rfl, Fr.refl _ _⟩) (HW.yes rfl rfl rfl hb19 (fun w1 H1 => op_neqU8 (b := 0) rfl rfl ⟨rfl, Fr.refl _ _⟩) (HW.yes rfl rfl rfl hb19 (fun w1 H1 => op_move rfl ⟨rfl, Fr.refl _ _⟩) (HW.no rfl rfl rfl hb21 (HW.no rfl rfl rfl hb21 (HW.no rfl rfl rfl hb21 (HW.no rfl rfl rfl hb21 (HW.no rfl rfl rfl hb21 (HW.yes rfl rfl rfl hb19 (fun w1 H1 => op_pickF rfl hb21 rfl ⟨rfl, Fr.refl _ _⟩) (HW.yes rfl rfl rfl hb19 (fun w1 H1 => op_move rfl ⟨rfl, Fr.refl _ _⟩) (HW.no rfl rfl rfl rfl (HW.no rfl rfl rfl rfl (HW.no rfl rfl rfl rfl (HW.no rfl rfl rfl rfl (HW.no rfl rfl rfl rfl (HW.no rfl rfl rfl rfl (HW.no rfl rfl rfl rfl (HW.yes rfl rfl rfl hb19 (fun w1 H1 => op_pickF rfl rfl rfl ⟨rfl, Fr.refl _ _⟩) (HW.op rfl (fun w1 H1 => op_pickF rfl hb19 rfl ⟨rfl, Fr.refl _ _⟩) (HW.op rfl (fun w1 H1 => op_assign rfl ⟨rfl, Fr.refl _ _⟩)  HW.nil)))))))))))))))))))))))) (by kernel_rfl) ?_
                          intro β26 w26 H26
                          refine WL.nil ?_
                          refine WQ.inNormal ?_
                          refine WQ.next ?_
                          refine WC.region ?_
                          refine WL.op rfl rfl (op_addN (b := 1) rfl rfl (by omega) ?_)
                          refine WL.op rfl rfl (op_move rfl ?_)
                          refine WL.nil ?_
                          exact WQ.round (k + 1) ⟨⟨by omega, allPrev hok (by (rw [sgBad, hn12, hb13, hb14, hb15, hb17]) <;> rfl)⟩, (H26.take 1)⟩ ⟨rfl, rfl, rfl, rfl, (congrArg (fun b => some (Value.bool b)) (show false = (ckTo en sg (k + 1)).2 by (rw [ckTo_2, sgBegins, hb19, hb21]) <;> rfl)), rfl, trivial⟩ (by omega)
          ·
            have hc8 := of_decide_eq_false hb8
            refine WC.exit ?_
            refine WQ.thenExit ?_
            refine WQ.thenExit ?_
            refine WQ.inHere ?_
            refine WQ.next ?_
            refine WC.seq ?_
            refine WC.seq ?_
            refine WC.region ?_
            refine WL.op rfl rfl (op_move rfl ?_)
            refine WL.op rfl rfl (op_not rfl ?_)
            refine WL.nil ?_
            refine WQ.next ?_
            refine WC.cond rfl (fun (hb27 : (!(ckTo en sg k).2) = true) => ?_) (fun (hb27 : (!(ckTo en sg k).2) = false) => ?_)
            ·
              have hn27 := (Bool.not_eq_true' _).mp hb27
              refine WC.seq ?_
              refine WC.region ?_
              refine WL.op rfl rfl (op_assign rfl ?_)
              refine WL.nil ?_
              refine WQ.next ?_
              refine WC.ret ?_
              refine WQ.thenRet ?_
              refine WQ.out (.tmp rfl .nil) ?_
              exact ⟨by rw [im_end (by (rw [imHead, hb3, hb4, hb5, hb6]) <;> rfl) (fun j hj => hok j (by omega)), show sg.length = k by omega, hn27]; rfl, H7.fr⟩
            ·
              have hn27 := (Bool.not_eq_false' _).mp hb27
              refine WC.skip ?_
              refine WQ.next ?_
              refine WC.seq ?_
              refine WC.region ?_
              refine WL.op rfl rfl (op_assign rfl ?_)
              refine WL.nil ?_
              refine WQ.next ?_
              refine WC.ret ?_
              refine WQ.out (.tmp rfl .nil) ?_
              exact ⟨by rw [im_end (by (rw [imHead, hb3, hb4, hb5, hb6]) <;> rfl) (fun j hj => hok j (by omega)), show sg.length = k by omega, hn27]; rfl, H7.fr⟩
end Go.Proofs.Ytpnghdalnghpcaa
/-! from WPack -/
namespace Go.Proofs.Ytpnghdalnghpcaa
open Go.Owl Go.Spec
set_option maxRecDepth 100000 in
theorem text_ok (v : Value) (m : Nat) (l : List UInt8) (w : World) (hA : Arr w v 1 m (l.map vU8)) :
    Calls Try.prog 117 #[v] w (fun e w' => e = .returned (str l) ∧ Fr [] w w') := by
  refine enter (args := [v]) Try.func117 rfl rfl ?_
  have H0 : Own [] w w [] := Own.start w []
  refine WC.seq ?_
  refine WC.region ?_
  refine WL.op rfl rfl (op_assign rfl ?_)
  refine WL.nil ?_
  refine WQ.next ?_
  refine WC.seq ?_
  refine WC.region ?_
  refine WL.op rfl rfl (op_move rfl ?_)
  refine WL.op rfl rfl (op_bytesStr (l := l) Try.underlying73 Try.underlying5 Try.underlying9 rfl (H0.arr hA) rfl ?_)
  refine WL.op rfl rfl (op_assign rfl ?_)
  refine WL.nil ?_
  refine WQ.next ?_
  refine WC.ret ?_
  refine WQ.out (.tmp rfl .nil) ?_
  exact ⟨rfl, H0.fr⟩
set_option maxRecDepth 100000 in
theorem get_ok (s : List UInt8) (w : World) :
    Calls Try.prog 76 #[(str s)] w (fun e w' => e = .returned (.tuple #[vU32 (getV s), vN (getE s)]) ∧ Fr [] w w') := by
  refine enter (args := [(str s)]) Try.func76 rfl rfl ?_
  have H0 : Own [] w w [] := Own.start w []
  refine WC.seq ?_
  refine WC.region ?_
  refine WL.op rfl rfl (op_assign rfl ?_)
  refine WL.op rfl rfl (op_assign rfl ?_)
  refine WL.nil ?_
  refine WQ.next ?_
  refine WC.seq ?_
  refine WC.seq ?_
  refine WC.region ?_
  refine WL.op rfl rfl (op_move rfl ?_)
  refine WL.op rfl rfl (op_lenStr Try.underlying9 rfl ?_)
  refine WL.op rfl rfl (op_lssN (b := 1) rfl rfl ?_)
  refine WL.op rfl rfl (op_move rfl ?_)
  refine WL.split (t := 8) rfl (fun (hb1 : (decide (s.length < 1)) = true) => ?_) (fun (hb1 : (decide (s.length < 1)) = false) => ?_)
  ·
    have hc1 := of_decide_eq_true hb1
    refine WL.no rfl rfl rfl hb1 rfl ?_
    refine WL.no rfl rfl rfl hb1 rfl ?_
    refine WL.no rfl rfl rfl hb1 rfl ?_
    refine WL.op rfl rfl (op_pickT rfl hb1 rfl ?_)
    refine WL.nil ?_
    refine WQ.next ?_
    refine WC.yes rfl rfl ?_
    refine WC.seq ?_
    refine WC.region ?_
    refine WL.op rfl rfl (op_assign rfl ?_)
    refine WL.op rfl rfl (op_assign rfl ?_)
    refine WL.nil ?_
    refine WQ.next ?_
    refine WC.ret ?_
    refine WQ.thenRet ?_
    refine WQ.out (.tmp rfl (.tmp rfl .nil)) ?_
    exact ⟨by first | (have hk : k = s.length := (by omega); subst hk; rw [getV, getE, if_neg (by omega), if_neg (by omega)]; rfl) | (rw [getV, getE, if_pos (by omega), if_pos (by omega)]; rfl), H0.fr⟩
  ·
    have hc1 := of_decide_eq_false hb1
    refine WL.yes rfl rfl rfl hb1 rfl (op_move rfl ?_)
    refine WL.yes rfl rfl rfl hb1 rfl (op_lenStr Try.underlying9 rfl ?_)
    refine WL.yes rfl rfl rfl hb1 rfl (op_gtrN (b := 4) rfl rfl ?_)
    refine WL.op rfl rfl (op_pickF rfl hb1 rfl ?_)
    refine WL.nil ?_
    refine WQ.next ?_
    refine WC.cond rfl (fun (hb2 : (decide (s.length > 4)) = true) => ?_) (fun (hb2 : (decide (s.length > 4)) = false) => ?_)
    ·
      have hc2 := of_decide_eq_true hb2
      refine WC.seq ?_
      refine WC.region ?_
      refine WL.op rfl rfl (op_assign rfl ?_)
      refine WL.op rfl rfl (op_assign rfl ?_)
      refine WL.nil ?_
      refine WQ.next ?_
      refine WC.ret ?_
      refine WQ.thenRet ?_
      refine WQ.out (.tmp rfl (.tmp rfl .nil)) ?_
      exact ⟨by first | (have hk : k = s.length := (by omega); subst hk; rw [getV, getE, if_neg (by omega), if_neg (by omega)]; rfl) | (rw [getV, getE, if_pos (by omega), if_pos (by omega)]; rfl), H0.fr⟩
    ·
      have hc2 := of_decide_eq_false hb2
      refine WC.skip ?_
      refine WQ.next ?_
      refine WC.seq ?_
      refine WC.seq ?_
      refine WC.region ?_
      refine WL.op rfl rfl (op_move rfl ?_)
      refine WL.op rfl rfl (op_lenStr Try.underlying9 rfl ?_)
      refine WL.op rfl rfl (op_move rfl ?_)
      refine WL.nil ?_
      refine WQ.next ?_
      refine WC.block ?_
      refine WC.loop (α := Nat) (fun k => [(0, (str s)), (3, (vN 0)), (14, (vN s.length)), (15, (vN k)), (2, (vU32 (getTo s k)))]) (fun k w' => (k ≤ s.length) ∧ Own [] w w' []) (fun k => s.length - k) 0 ⟨(by omega), H0⟩ ⟨rfl, rfl, rfl, rfl, rfl, trivial⟩ ?_
      rintro k w3 ⟨hinv, H3⟩
      show WC _ _ _ _ _ [(0, (str s)), (3, (vN 0)), (14, (vN s.length)), (15, (vN k)), (2, (vU32 (getTo s k)))] _
      refine WC.seq ?_
      refine WC.region ?_
      refine WL.op rfl rfl (op_lssN rfl rfl ?_)
      refine WL.nil ?_
      refine WQ.next ?_
      refine WC.seq ?_
      refine WC.cond rfl (fun (hb4 : (decide (k < s.length)) = true) => ?_) (fun (hb4 : (decide (k < s.length)) = false) => ?_)
      ·
        have hc4 := of_decide_eq_true hb4
        refine WC.skip ?_
        refine WQ.next ?_
        refine WC.seq ?_
        refine WC.block ?_
        refine WC.seq ?_
        refine WC.region ?_
        refine WL.op rfl rfl (op_move rfl ?_)
        refine WL.op rfl rfl (op_assign rfl ?_)
        refine WL.nil ?_
        refine WQ.next ?_
        refine WC.region ?_
        refine WL.op rfl rfl (op_move rfl ?_)
        refine WL.op rfl rfl (op_move rfl ?_)
        refine WL.op rfl rfl (op_move rfl ?_)
        refine WL.op rfl rfl (op_indexStrD Try.underlying9 rfl rfl (by omega) ?_)
        refine WL.op rfl rfl (op_convU8U32 (hs := Try.underlying5) (hd := Try.underlying22) rfl ?_)
        refine WL.op rfl rfl (op_move rfl ?_)
        refine WL.op rfl rfl (op_mulN (a := 8) rfl rfl (by omega) ?_)
        refine WL.op rfl rfl (op_shlU32 rfl rfl ?_)
        refine WL.op rfl rfl (op_orU32 rfl rfl ?_)
        refine WL.op rfl rfl (op_assign rfl ?_)
        refine WL.nil ?_
        refine WQ.inNormal ?_
        refine WQ.next ?_
        refine WC.region ?_
        refine WL.op rfl rfl (op_addN (b := 1) rfl rfl (by omega) ?_)
        refine WL.op rfl rfl (op_move rfl ?_)
        refine WL.nil ?_
        exact WQ.round (k + 1) ⟨(by omega), H3⟩ ⟨rfl, rfl, rfl, rfl, rfl, trivial⟩ (by omega)
      ·
        have hc4 := of_decide_eq_false hb4
        refine WC.exit ?_
        refine WQ.thenExit ?_
        refine WQ.thenExit ?_
        refine WQ.inHere ?_
        refine WQ.next ?_
        refine WC.seq ?_
        refine WC.region ?_
        refine WL.op rfl rfl (op_move rfl ?_)
        refine WL.op rfl rfl (op_assign rfl ?_)
        refine WL.op rfl rfl (op_assign rfl ?_)
        refine WL.nil ?_
        refine WQ.next ?_
        refine WC.ret ?_
        refine WQ.out (.tmp rfl (.tmp rfl .nil)) ?_
        exact ⟨by first | (have hk : k = s.length := (by omega); subst hk; rw [getV, getE, if_neg (by omega), if_neg (by omega)]; rfl) | (rw [getV, getE, if_pos (by omega), if_pos (by omega)]; rfl), H3.fr⟩
set_option maxRecDepth 100000 in
theorem put_ok (v : UInt32) (n : Int) (w : World) :
    Calls Try.prog 73 #[(vU32 v), (vI n)] w (fun e w' => e = .returned (.tuple #[str (numS v n), vN (numE v n)]) ∧ Fr [] w w') := by
  refine enter (args := [(vU32 v), (vI n)]) Try.func73 rfl rfl ?_
  have H0 : Own [] w w [] := Own.start w []
  refine WC.seq ?_
  refine WC.region ?_
  refine WL.op rfl rfl (op_assign rfl ?_)
  refine WL.op rfl rfl (op_assign rfl ?_)
  refine WL.nil ?_
  refine WQ.next ?_
  refine WC.seq ?_
  refine WC.block ?_
  refine WC.seq ?_
  refine WC.region ?_
  refine WL.op rfl rfl (op_move rfl ?_)
  refine WL.op rfl rfl (op_lssI (b := (1 : Int)) rfl rfl ?_)
  refine WL.op rfl rfl (op_move rfl ?_)
  refine WL.split (t := 9) rfl (fun (hb1 : (decide (n < (1 : Int))) = true) => ?_) (fun (hb1 : (decide (n < (1 : Int))) = false) => ?_)
  ·
    have hc1 := of_decide_eq_true hb1
    refine WL.no rfl rfl rfl hb1 rfl ?_
    refine WL.no rfl rfl rfl hb1 rfl ?_
    refine WL.op rfl rfl (op_pickT rfl hb1 rfl ?_)
    refine WL.op rfl rfl (op_assign rfl ?_)
    refine WL.nil ?_
    refine WQ.next ?_
    refine WC.yes rfl rfl ?_
    refine WC.seq ?_
    refine WC.region ?_
    refine WL.op rfl rfl (op_assign rfl ?_)
    refine WL.op rfl rfl (op_assign rfl ?_)
    refine WL.nil ?_
    refine WQ.next ?_
    refine WC.ret ?_
    refine WQ.inRet ?_
    refine WQ.thenRet ?_
    refine WQ.out (.tmp rfl (.tmp rfl .nil)) ?_
    rw [numS, numE, if_pos (show n < 1 ∨ n > 4 from by omega), if_neg (by decide)]
    exact ⟨rfl, H0.fr⟩
  ·
    have hc1 := of_decide_eq_false hb1
    refine WL.yes rfl rfl rfl hb1 rfl (op_move rfl ?_)
    refine WL.yes rfl rfl rfl hb1 rfl (op_gtrI (b := (4 : Int)) rfl rfl ?_)
    refine WL.op rfl rfl (op_pickF rfl hb1 rfl ?_)
    refine WL.op rfl rfl (op_assign rfl ?_)
    refine WL.nil ?_
    refine WQ.next ?_
    refine WC.cond rfl (fun (hb2 : (decide (n > (4 : Int))) = true) => ?_) (fun (hb2 : (decide (n > (4 : Int))) = false) => ?_)
    ·
      have hc2 := of_decide_eq_true hb2
      refine WC.seq ?_
      refine WC.region ?_
      refine WL.op rfl rfl (op_assign rfl ?_)
      refine WL.op rfl rfl (op_assign rfl ?_)
      refine WL.nil ?_
      refine WQ.next ?_
      refine WC.ret ?_
      refine WQ.inRet ?_
      refine WQ.thenRet ?_
      refine WQ.out (.tmp rfl (.tmp rfl .nil)) ?_
      rw [numS, numE, if_pos (show n < 1 ∨ n > 4 from by omega), if_neg (by decide)]
      exact ⟨rfl, H0.fr⟩
    ·
      have hc2 := of_decide_eq_false hb2
      obtain ⟨m, rfl⟩ : ∃ m : Nat, n = (m : Int) := ⟨n.toNat, by omega⟩
      refine WC.seq ?_
      refine WC.region ?_
      refine WL.op rfl rfl (op_move rfl ?_)
      refine WL.op rfl rfl (op_lssN (b := 4) rfl rfl ?_)
      refine WL.op rfl rfl (op_move rfl ?_)
      refine WL.split (t := 16) rfl (fun (hb3 : (decide (m < 4)) = true) => ?_) (fun (hb3 : (decide (m < 4)) = false) => ?_)
      ·
        have hc3 := of_decide_eq_true hb3
        refine WL.yes rfl rfl rfl hb3 rfl (op_move rfl ?_)
        refine WL.yes rfl rfl rfl hb3 rfl (op_move rfl ?_)
        refine WL.yes rfl rfl rfl hb3 rfl (op_mulN (a := 8) rfl rfl (by omega) ?_)
        refine WL.yes rfl rfl rfl hb3 rfl (op_shrU32 rfl rfl ?_)
        refine WL.yes rfl rfl rfl hb3 rfl (op_neqU32 (b := 0) rfl rfl ?_)
        refine WL.op rfl rfl (op_pickT rfl hb3 rfl ?_)
        refine WL.op rfl rfl (op_assign rfl ?_)
        refine WL.nil ?_
        refine WQ.next ?_
        refine WC.cond rfl (fun (hb4 : (decide ((shrU32 v (8 * m)) ≠ (0 : UInt32))) = true) => ?_) (fun (hb4 : (decide ((shrU32 v (8 * m)) ≠ (0 : UInt32))) = false) => ?_)
        ·
          have hc4 := of_decide_eq_true hb4
          refine WC.seq ?_
          refine WC.region ?_
          refine WL.op rfl rfl (op_assign rfl ?_)
          refine WL.op rfl rfl (op_assign rfl ?_)
          refine WL.nil ?_
          refine WQ.next ?_
          refine WC.ret ?_
          refine WQ.inRet ?_
          refine WQ.thenRet ?_
          refine WQ.out (.tmp rfl (.tmp rfl .nil)) ?_
          rw [numS, numE, if_neg (show ¬ ((m : Int) < 1 ∨ (m : Int) > 4) from by omega), Int.toNat_natCast, if_pos (show rV v m ≠ 0 from by rw [← rV_shr]; exact hc4), if_neg (by decide)]
          exact ⟨rfl, H0.fr⟩
        ·
          have hc4 := of_decide_eq_false hb4
          refine WC.skip ?_
          refine WQ.inNormal ?_
          refine WQ.next ?_
          refine WC.seq ?_
          refine WC.region ?_
          refine WL.op rfl rfl (op_move rfl ?_)
          refine WL.op rfl rfl (op_convU32U8 (hs := Try.underlying22) (hd := Try.underlying5) rfl ?_)
          refine WL.op rfl rfl (op_move rfl ?_)
          refine WL.op rfl rfl (op_shrU32 (s := 8) rfl rfl ?_)
          refine WL.op rfl rfl (op_convU32U8 (hs := Try.underlying22) (hd := Try.underlying5) rfl ?_)
          refine WL.op rfl rfl (op_move rfl ?_)
          refine WL.op rfl rfl (op_shrU32 (s := 16) rfl rfl ?_)
          refine WL.op rfl rfl (op_convU32U8 (hs := Try.underlying22) (hd := Try.underlying5) rfl ?_)
          refine WL.op rfl rfl (op_move rfl ?_)
          refine WL.op rfl rfl (op_shrU32 (s := 24) rfl rfl ?_)
          refine WL.op rfl rfl (op_convU32U8 (hs := Try.underlying22) (hd := Try.underlying5) rfl ?_)
          refine WL.op rfl rfl (op_buildSlice (cs := [_, _, _, _]) H0 Try.underlying73 Fa.I5 rfl rfl rfl rfl (by decide) (by decide) (fun b5 w5 H5 => ?_))
          refine WL.op rfl rfl (op_move rfl ?_)
          refine WL.op rfl rfl (op_cutHi Try.underlying73 Fa.I5 rfl (H5.arrR (i := 0) rfl) rfl (by omega) ?_)
          refine WL.op rfl rfl (op_callF Fa.C117 rfl ((text_ok _ _ (([(UInt8.ofNat v.toNat), (UInt8.ofNat (shrU32 v 8).toNat), (UInt8.ofNat (shrU32 v 16).toNat), (UInt8.ofNat (shrU32 v 24).toNat)].take m)) _ (((H5.arrR (i := 0) rfl)).cutHiM (f := vU8) (l := [(UInt8.ofNat v.toNat), (UInt8.ofNat (shrU32 v 8).toNat), (UInt8.ofNat (shrU32 v 16).toNat), (UInt8.ofNat (shrU32 v 24).toNat)]) (b := m) (by omega))).mono (fun e w6 hq => ?_)))
          obtain ⟨rfl, hf6⟩ := hq
          refine ⟨_, rfl, ?_⟩
          have H6 := H5.fr' hf6
          refine WL.op rfl rfl (op_assign rfl ?_)
          refine WL.op rfl rfl (op_assign rfl ?_)
          refine WL.nil ?_
          refine WQ.next ?_
          refine WC.ret ?_
          refine WQ.out (.tmp rfl (.tmp rfl .nil)) ?_
          rw [numS, numE, if_neg (show ¬ ((m : Int) < 1 ∨ (m : Int) > 4) from by omega), Int.toNat_natCast, if_neg (show ¬ (rV v m ≠ 0) from fun h => h (by rw [← rV_shr]; exact Decidable.not_not.mp hc4)), if_pos rfl, ← rB_take v (by omega)]
          exact ⟨rfl, H6.fr⟩
      ·
        have hc3 := of_decide_eq_false hb3
        refine WL.no rfl rfl rfl hb3 rfl ?_
        refine WL.no rfl rfl rfl hb3 rfl ?_
        refine WL.no rfl rfl rfl hb3 rfl ?_
        refine WL.no rfl rfl rfl hb3 rfl ?_
        refine WL.no rfl rfl rfl hb3 rfl ?_
        refine WL.op rfl rfl (op_pickF rfl hb3 rfl ?_)
        refine WL.op rfl rfl (op_assign rfl ?_)
        refine WL.nil ?_
        refine WQ.next ?_
        refine WC.no rfl rfl ?_
        refine WC.skip ?_
        refine WQ.inNormal ?_
        refine WQ.next ?_
        refine WC.seq ?_
        refine WC.region ?_
        refine WL.op rfl rfl (op_move rfl ?_)
        refine WL.op rfl rfl (op_convU32U8 (hs := Try.underlying22) (hd := Try.underlying5) rfl ?_)
        refine WL.op rfl rfl (op_move rfl ?_)
        refine WL.op rfl rfl (op_shrU32 (s := 8) rfl rfl ?_)
        refine WL.op rfl rfl (op_convU32U8 (hs := Try.underlying22) (hd := Try.underlying5) rfl ?_)
        refine WL.op rfl rfl (op_move rfl ?_)
        refine WL.op rfl rfl (op_shrU32 (s := 16) rfl rfl ?_)
        refine WL.op rfl rfl (op_convU32U8 (hs := Try.underlying22) (hd := Try.underlying5) rfl ?_)
        refine WL.op rfl rfl (op_move rfl ?_)
        refine WL.op rfl rfl (op_shrU32 (s := 24) rfl rfl ?_)
        refine WL.op rfl rfl (op_convU32U8 (hs := Try.underlying22) (hd := Try.underlying5) rfl ?_)
        refine WL.op rfl rfl (op_buildSlice (cs := [_, _, _, _]) H0 Try.underlying73 Fa.I5 rfl rfl rfl rfl (by decide) (by decide) (fun b7 w7 H7 => ?_))
        refine WL.op rfl rfl (op_move rfl ?_)
        refine WL.op rfl rfl (op_cutHi Try.underlying73 Fa.I5 rfl (H7.arrR (i := 0) rfl) rfl (by omega) ?_)
        refine WL.op rfl rfl (op_callF Fa.C117 rfl ((text_ok _ _ (([(UInt8.ofNat v.toNat), (UInt8.ofNat (shrU32 v 8).toNat), (UInt8.ofNat (shrU32 v 16).toNat), (UInt8.ofNat (shrU32 v 24).toNat)].take m)) _ (((H7.arrR (i := 0) rfl)).cutHiM (f := vU8) (l := [(UInt8.ofNat v.toNat), (UInt8.ofNat (shrU32 v 8).toNat), (UInt8.ofNat (shrU32 v 16).toNat), (UInt8.ofNat (shrU32 v 24).toNat)]) (b := m) (by omega))).mono (fun e w8 hq => ?_)))
        obtain ⟨rfl, hf8⟩ := hq
        refine ⟨_, rfl, ?_⟩
        have H8 := H7.fr' hf8
        refine WL.op rfl rfl (op_assign rfl ?_)
        refine WL.op rfl rfl (op_assign rfl ?_)
        refine WL.nil ?_
        refine WQ.next ?_
        refine WC.ret ?_
        refine WQ.out (.tmp rfl (.tmp rfl .nil)) ?_
        rw [numS, numE, if_neg (show ¬ ((m : Int) < 1 ∨ (m : Int) > 4) from by omega), Int.toNat_natCast, if_neg (show ¬ (rV v m ≠ 0) from fun h => h (by rw [show m = 4 from by omega]; exact rV_4 v)), if_pos rfl, ← rB_take v (by omega)]
        exact ⟨rfl, H8.fr⟩
set_option maxRecDepth 100000 in
theorem num_ok (v : UInt32) (n : Int) (w : World) :
    Calls Try.prog 17 #[(vU32 v), (vI n)] w (fun e w' => e = .returned (.tuple #[str (numS v n), vN (numE v n)]) ∧ Fr [] w w') := by
  refine enter (args := [(vU32 v), (vI n)]) Try.func17 rfl rfl ?_
  have H0 : Own [] w w [] := Own.start w []
  refine WC.seq ?_
  refine WC.region ?_
  refine WL.op rfl rfl (op_assign rfl ?_)
  refine WL.op rfl rfl (op_assign rfl ?_)
  refine WL.nil ?_
  refine WQ.next ?_
  refine WC.seq ?_
  refine WC.block ?_
  refine WC.seq ?_
  refine WC.region ?_
  refine WL.op rfl rfl (op_move rfl ?_)
  refine WL.op rfl rfl (op_lssI (b := (1 : Int)) rfl rfl ?_)
  refine WL.op rfl rfl (op_move rfl ?_)
  refine WL.split (t := 9) rfl (fun (hb1 : (decide (n < (1 : Int))) = true) => ?_) (fun (hb1 : (decide (n < (1 : Int))) = false) => ?_)
  ·
    have hc1 := of_decide_eq_true hb1
    refine WL.no rfl rfl rfl hb1 rfl ?_
    refine WL.no rfl rfl rfl hb1 rfl ?_
    refine WL.op rfl rfl (op_pickT rfl hb1 rfl ?_)
    refine WL.op rfl rfl (op_assign rfl ?_)
    refine WL.nil ?_
    refine WQ.next ?_
    refine WC.yes rfl rfl ?_
    refine WC.seq ?_
    refine WC.region ?_
    refine WL.op rfl rfl (op_assign rfl ?_)
    refine WL.op rfl rfl (op_assign rfl ?_)
    refine WL.nil ?_
    refine WQ.next ?_
    refine WC.ret ?_
    refine WQ.inRet ?_
    refine WQ.thenRet ?_
    refine WQ.out (.tmp rfl (.tmp rfl .nil)) ?_
    rw [numS, numE, if_pos (show n < 1 ∨ n > 4 from by omega), if_neg (by decide)]
    exact ⟨rfl, H0.fr⟩
  ·
    have hc1 := of_decide_eq_false hb1
    refine WL.yes rfl rfl rfl hb1 rfl (op_move rfl ?_)
    refine WL.yes rfl rfl rfl hb1 rfl (op_gtrI (b := (4 : Int)) rfl rfl ?_)
    refine WL.op rfl rfl (op_pickF rfl hb1 rfl ?_)
    refine WL.op rfl rfl (op_assign rfl ?_)
    refine WL.nil ?_
    refine WQ.next ?_
    refine WC.cond rfl (fun (hb2 : (decide (n > (4 : Int))) = true) => ?_) (fun (hb2 : (decide (n > (4 : Int))) = false) => ?_)
    ·
      have hc2 := of_decide_eq_true hb2
      refine WC.seq ?_
      refine WC.region ?_
      refine WL.op rfl rfl (op_assign rfl ?_)
      refine WL.op rfl rfl (op_assign rfl ?_)
      refine WL.nil ?_
      refine WQ.next ?_
      refine WC.ret ?_
      refine WQ.inRet ?_
      refine WQ.thenRet ?_
      refine WQ.out (.tmp rfl (.tmp rfl .nil)) ?_
      rw [numS, numE, if_pos (show n < 1 ∨ n > 4 from by omega), if_neg (by decide)]
      exact ⟨rfl, H0.fr⟩
    ·
      have hc2 := of_decide_eq_false hb2
      obtain ⟨m, rfl⟩ : ∃ m : Nat, n = (m : Int) := ⟨n.toNat, by omega⟩
      refine WC.seq ?_
      refine WC.region ?_
      refine WL.op rfl rfl (op_move rfl ?_)
      refine WL.op rfl rfl (op_lssN (b := 4) rfl rfl ?_)
      refine WL.op rfl rfl (op_move rfl ?_)
      refine WL.split (t := 16) rfl (fun (hb3 : (decide (m < 4)) = true) => ?_) (fun (hb3 : (decide (m < 4)) = false) => ?_)
      ·
        have hc3 := of_decide_eq_true hb3
        refine WL.yes rfl rfl rfl hb3 rfl (op_move rfl ?_)
        refine WL.yes rfl rfl rfl hb3 rfl (op_move rfl ?_)
        refine WL.yes rfl rfl rfl hb3 rfl (op_mulN (a := 8) rfl rfl (by omega) ?_)
        refine WL.yes rfl rfl rfl hb3 rfl (op_shrU32 rfl rfl ?_)
        refine WL.yes rfl rfl rfl hb3 rfl (op_neqU32 (b := 0) rfl rfl ?_)
        refine WL.op rfl rfl (op_pickT rfl hb3 rfl ?_)
        refine WL.op rfl rfl (op_assign rfl ?_)
        refine WL.nil ?_
        refine WQ.next ?_
        refine WC.cond rfl (fun (hb4 : (decide ((shrU32 v (8 * m)) ≠ (0 : UInt32))) = true) => ?_) (fun (hb4 : (decide ((shrU32 v (8 * m)) ≠ (0 : UInt32))) = false) => ?_)
        ·
          have hc4 := of_decide_eq_true hb4
          refine WC.seq ?_
          refine WC.region ?_
          refine WL.op rfl rfl (op_assign rfl ?_)
          refine WL.op rfl rfl (op_assign rfl ?_)
          refine WL.nil ?_
          refine WQ.next ?_
          refine WC.ret ?_
          refine WQ.inRet ?_
          refine WQ.thenRet ?_
          refine WQ.out (.tmp rfl (.tmp rfl .nil)) ?_
          rw [numS, numE, if_neg (show ¬ ((m : Int) < 1 ∨ (m : Int) > 4) from by omega), Int.toNat_natCast, if_pos (show rV v m ≠ 0 from by rw [← rV_shr]; exact hc4), if_neg (by decide)]
          exact ⟨rfl, H0.fr⟩
        ·
          have hc4 := of_decide_eq_false hb4
          refine WC.skip ?_
          refine WQ.inNormal ?_
          refine WQ.next ?_
          refine WC.seq ?_
          refine WC.region ?_
          refine WL.op rfl rfl (op_move rfl ?_)
          refine WL.op rfl rfl (op_move rfl ?_)
          refine WL.op rfl rfl (op_callF Fa.C73 rfl ((put_ok v ((m : Nat)) _).mono (fun e w5 hq => ?_)))
          obtain ⟨rfl, hf5⟩ := hq
          refine ⟨_, rfl, ?_⟩
          have H5 := H0.fr' hf5
          refine WL.op rfl rfl (op_extract rfl rfl ?_)
          refine WL.op rfl rfl (op_extract rfl rfl ?_)
          refine WL.op rfl rfl (op_assign rfl ?_)
          refine WL.op rfl rfl (op_assign rfl ?_)
          refine WL.nil ?_
          refine WQ.next ?_
          refine WC.ret ?_
          refine WQ.out (.tmp rfl (.tmp rfl .nil)) ?_
          exact ⟨rfl, H5.fr⟩
      ·
        have hc3 := of_decide_eq_false hb3
        refine WL.no rfl rfl rfl hb3 rfl ?_
        refine WL.no rfl rfl rfl hb3 rfl ?_
        refine WL.no rfl rfl rfl hb3 rfl ?_
        refine WL.no rfl rfl rfl hb3 rfl ?_
        refine WL.no rfl rfl rfl hb3 rfl ?_
        refine WL.op rfl rfl (op_pickF rfl hb3 rfl ?_)
        refine WL.op rfl rfl (op_assign rfl ?_)
        refine WL.nil ?_
        refine WQ.next ?_
        refine WC.no rfl rfl ?_
        refine WC.skip ?_
        refine WQ.inNormal ?_
        refine WQ.next ?_
        refine WC.seq ?_
        refine WC.region ?_
        refine WL.op rfl rfl (op_move rfl ?_)
        refine WL.op rfl rfl (op_move rfl ?_)
        refine WL.op rfl rfl (op_callF Fa.C73 rfl ((put_ok v ((m : Nat)) _).mono (fun e w6 hq => ?_)))
        obtain ⟨rfl, hf6⟩ := hq
        refine ⟨_, rfl, ?_⟩
        have H6 := H0.fr' hf6
        refine WL.op rfl rfl (op_extract rfl rfl ?_)
        refine WL.op rfl rfl (op_extract rfl rfl ?_)
        refine WL.op rfl rfl (op_assign rfl ?_)
        refine WL.op rfl rfl (op_assign rfl ?_)
        refine WL.nil ?_
        refine WQ.next ?_
        refine WC.ret ?_
        refine WQ.out (.tmp rfl (.tmp rfl .nil)) ?_
        exact ⟨rfl, H6.fr⟩
set_option maxRecDepth 100000 in
theorem rnum_ok (v : UInt32) (n : Int) (w : World) :
    Calls Try.prog 18 #[(vU32 v), (vI n)] w (fun e w' => e = .returned (.tuple #[str (numS v n), vN (numE v n)]) ∧ Fr [] w w') := by
  refine enter (args := [(vU32 v), (vI n)]) Try.func18 rfl rfl ?_
  have H0 : Own [] w w [] := Own.start w []
  refine WC.seq ?_
  refine WC.region ?_
  refine WL.op rfl rfl (op_assign rfl ?_)
  refine WL.op rfl rfl (op_assign rfl ?_)
  refine WL.nil ?_
  refine WQ.next ?_
  refine WC.seq ?_
  refine WC.seq ?_
  refine WC.region ?_
  refine WL.op rfl rfl (op_move rfl ?_)
  refine WL.op rfl rfl (op_lssI (b := (1 : Int)) rfl rfl ?_)
  refine WL.op rfl rfl (op_move rfl ?_)
  refine WL.split (t := 10) rfl (fun (hb1 : (decide (n < (1 : Int))) = true) => ?_) (fun (hb1 : (decide (n < (1 : Int))) = false) => ?_)
  ·
    have hc1 := of_decide_eq_true hb1
    refine WL.no rfl rfl rfl hb1 rfl ?_
    refine WL.no rfl rfl rfl hb1 rfl ?_
    refine WL.op rfl rfl (op_pickT rfl hb1 rfl ?_)
    refine WL.nil ?_
    refine WQ.next ?_
    refine WC.yes rfl rfl ?_
    refine WC.seq ?_
    refine WC.region ?_
    refine WL.op rfl rfl (op_assign rfl ?_)
    refine WL.op rfl rfl (op_assign rfl ?_)
    refine WL.nil ?_
    refine WQ.next ?_
    refine WC.ret ?_
    refine WQ.thenRet ?_
    refine WQ.out (.tmp rfl (.tmp rfl .nil)) ?_
    rw [numS, numE, if_pos (show n < 1 ∨ n > 4 from by omega), if_neg (by decide)]
    exact ⟨rfl, H0.fr⟩
  ·
    have hc1 := of_decide_eq_false hb1
    refine WL.yes rfl rfl rfl hb1 rfl (op_move rfl ?_)
    refine WL.yes rfl rfl rfl hb1 rfl (op_gtrI (b := (4 : Int)) rfl rfl ?_)
    refine WL.op rfl rfl (op_pickF rfl hb1 rfl ?_)
    refine WL.nil ?_
    refine WQ.next ?_
    refine WC.cond rfl (fun (hb2 : (decide (n > (4 : Int))) = true) => ?_) (fun (hb2 : (decide (n > (4 : Int))) = false) => ?_)
    ·
      have hc2 := of_decide_eq_true hb2
      refine WC.seq ?_
      refine WC.region ?_
      refine WL.op rfl rfl (op_assign rfl ?_)
      refine WL.op rfl rfl (op_assign rfl ?_)
      refine WL.nil ?_
      refine WQ.next ?_
      refine WC.ret ?_
      refine WQ.thenRet ?_
      refine WQ.out (.tmp rfl (.tmp rfl .nil)) ?_
      rw [numS, numE, if_pos (show n < 1 ∨ n > 4 from by omega), if_neg (by decide)]
      exact ⟨rfl, H0.fr⟩
    ·
      have hc2 := of_decide_eq_false hb2
      obtain ⟨m, rfl⟩ : ∃ m : Nat, n = (m : Int) := ⟨n.toNat, by omega⟩
      refine WC.skip ?_
      refine WQ.next ?_
      refine WC.seq ?_
      refine WC.region ?_
      refine WL.op rfl rfl (op_assign rfl ?_)
      have H3 := H0.nilRow 5 1
      refine WL.nil ?_
      refine WQ.next ?_
      refine WC.seq ?_
      refine WC.seq ?_
      refine WC.region ?_
      refine WL.op rfl rfl (op_assign rfl ?_)
      refine WL.nil ?_
      refine WQ.next ?_
      refine WC.block ?_
      refine WC.loop (α := Nat × Value) (fun (k, q) => [(1, (vN m)), (7, (vN k)), (0, (vU32 (rV v k))), (6, q)]) (fun (k, q) w' => (k ≤ m) ∧ Own [] w w' [.row q 5 1 k (List.map vU8 (rB v k))]) (fun (k, q) => m - k) (0, (.slice none 0 0)) ⟨(by omega), H3⟩ ⟨rfl, rfl, rfl, rfl, trivial⟩ ?_
      rintro ⟨k, q⟩ w4 ⟨hinv, H4⟩
      show WC _ _ _ _ _ [(1, (vN m)), (7, (vN k)), (0, (vU32 (rV v k))), (6, q)] _
      refine WC.seq ?_
      refine WC.seq ?_
      refine WC.region ?_
      refine WL.op rfl rfl (op_move rfl ?_)
      refine WL.op rfl rfl (op_move rfl ?_)
      refine WL.op rfl rfl (op_lssN rfl rfl ?_)
      refine WL.nil ?_
      refine WQ.next ?_
      refine WC.cond rfl (fun (hb5 : (decide (k < m)) = true) => ?_) (fun (hb5 : (decide (k < m)) = false) => ?_)
      ·
        have hc5 := of_decide_eq_true hb5
        refine WC.skip ?_
        refine WQ.next ?_
        refine WC.seq ?_
        refine WC.block ?_
        refine WC.seq ?_
        refine WC.region ?_
        refine WL.op rfl rfl (op_move rfl ?_)
        refine WL.op rfl rfl (op_move rfl ?_)
        refine WL.op rfl rfl (op_remU32 (b := 256) rfl rfl (by decide) ?_)
        refine WL.op rfl rfl (op_convU32U8 (hs := Try.underlying22) (hd := Try.underlying5) rfl ?_)
        refine WL.op rfl rfl (op_buildSlice (cs := [_]) H4 Try.underlying73 Fa.I5 rfl rfl rfl rfl (by decide) (by decide) (fun b6 w6 H6 => ?_))
        refine WL.op rfl rfl (op_appendM (f := vU8) (l := (rB v k)) (l' := [(UInt8.ofNat ((rV v k) % (256 : UInt32)).toNat)]) (i := 0) H6 Try.underlying73 Fa.I5 rfl rfl rfl rfl (Src.ofArr Try.underlying73 (H6.arrR (i := 1) rfl)) (one_mapM (fun _ => rfl)) (by omega) (by omega) (fun v7 w7 H7 => ?_))
        refine WL.op rfl rfl (op_assign rfl ?_)
        refine WL.nil ?_
        refine WQ.next ?_
        refine WC.region ?_
        refine WL.op rfl rfl (op_move rfl ?_)
        refine WL.op rfl rfl (op_quoU32 (b := 256) rfl rfl (by decide) ?_)
        refine WL.op rfl rfl (op_assign rfl ?_)
        refine WL.nil ?_
        refine WQ.inNormal ?_
        refine WQ.next ?_
        refine WC.region ?_
        refine WL.op rfl rfl (op_move rfl ?_)
        refine WL.op rfl rfl (op_addN (b := 1) rfl rfl (by omega) ?_)
        refine WL.op rfl rfl (op_assign rfl ?_)
        refine WL.nil ?_
        exact WQ.round (k + 1, v7) ⟨(by omega), (H7.take 1)⟩ ⟨rfl, rfl, rfl, rfl, trivial⟩ (by show m - (k + 1) < m - k; omega)
      ·
        have hc5 := of_decide_eq_false hb5
        refine WC.exit ?_
        refine WQ.thenExit ?_
        refine WQ.thenExit ?_
        refine WQ.inHere ?_
        refine WQ.next ?_
        refine WC.seq ?_
        refine WC.seq ?_
        refine WC.region ?_
        refine WL.op rfl rfl (op_move rfl ?_)
        refine WL.op rfl rfl (op_neqU32 (b := 0) rfl rfl ?_)
        refine WL.nil ?_
        refine WQ.next ?_
        refine WC.cond rfl (fun (hb8 : (decide ((rV v k) ≠ (0 : UInt32))) = true) => ?_) (fun (hb8 : (decide ((rV v k) ≠ (0 : UInt32))) = false) => ?_)
        ·
          have hc8 := of_decide_eq_true hb8
          refine WC.seq ?_
          refine WC.region ?_
          refine WL.op rfl rfl (op_assign rfl ?_)
          refine WL.op rfl rfl (op_assign rfl ?_)
          refine WL.nil ?_
          refine WQ.next ?_
          refine WC.ret ?_
          refine WQ.thenRet ?_
          refine WQ.out (.tmp rfl (.tmp rfl .nil)) ?_
          have hk : k = m := (by omega)
          subst hk
          rw [numS, numE, if_neg (show ¬ ((k : Int) < 1 ∨ (k : Int) > 4) from by omega), Int.toNat_natCast, if_pos hc8, if_neg (by decide)]
          exact ⟨rfl, H4.fr⟩
        ·
          have hc8 := of_decide_eq_false hb8
          refine WC.skip ?_
          refine WQ.next ?_
          refine WC.seq ?_
          refine WC.region ?_
          refine WL.op rfl rfl (op_move rfl ?_)
          refine WL.op rfl rfl (op_bytesStr (l := (rB v k)) Try.underlying73 Try.underlying5 Try.underlying9 rfl (H4.arrR (i := 0) rfl) rfl ?_)
          refine WL.op rfl rfl (op_assign rfl ?_)
          refine WL.op rfl rfl (op_assign rfl ?_)
          refine WL.nil ?_
          refine WQ.next ?_
          refine WC.ret ?_
          refine WQ.out (.tmp rfl (.tmp rfl .nil)) ?_
          have hk : k = m := (by omega)
          subst hk
          rw [numS, numE, if_neg (show ¬ ((k : Int) < 1 ∨ (k : Int) > 4) from by omega), Int.toNat_natCast, if_neg hc8, if_pos rfl]
          exact ⟨rfl, H4.fr⟩
set_option maxRecDepth 100000 in
theorem rdnew_ok (s : List UInt8) (w : World) :
    Calls Try.prog 24 #[(str s)] w (fun e w' => ∃ q, e = .returned (ptr q 0) ∧ Own [] w w' [.blk q [str s, vN 0, vN 0] 107]) := by
  refine enter (args := [(str s)]) Try.func24 rfl rfl ?_
  have H0 : Own [] w w [] := Own.start w []
  refine WC.seq ?_
  refine WC.region ?_
  refine WL.op rfl rfl (op_assign rfl ?_)
  refine WL.nil ?_
  refine WQ.next ?_
  refine WC.seq ?_
  refine WC.region ?_
  refine WL.op rfl rfl (op_move rfl ?_)
  refine WL.op rfl rfl (op_build (cs := [_, _, _]) Fa.I105 Fa.PL105 rfl rfl ?_)
  refine WL.op rfl rfl (op_build (cs := [_, _, _]) Fa.I107 Fa.PL107 rfl rfl ?_)
  refine WL.op rfl rfl (op_box H0 rfl rfl (fun b1 w1 H1 => ?_))
  refine WL.op rfl rfl (op_assign rfl ?_)
  refine WL.nil ?_
  refine WQ.next ?_
  refine WC.ret ?_
  refine WQ.out (.tmp rfl .nil) ?_
  exact ⟨_, rfl, H1⟩
set_option maxRecDepth 100000 in
theorem spoilt_ok (q : Nat) (r : Rd) (x : Nat) (TR : TypeId) (T : List Nat) (w : World) (H : Own T w w [.blk q [(str r.s), (vN r.at_), (vN r.f)] TR]) :
    Calls Try.prog 74 #[(ptr q 0), (vN x)] w (fun e w' => e = .returned (vN x) ∧ Own T w w' [.blk q [str (r.bad x).s, vN (r.bad x).at_, vN (r.bad x).f] TR]) := by
  refine enter (args := [(ptr q 0), (vN x)]) Try.func74 rfl rfl ?_
  refine WC.seq ?_
  refine WC.region ?_
  refine WL.op rfl rfl (op_assign rfl ?_)
  refine WL.nil ?_
  refine WQ.next ?_
  refine WC.seq ?_
  refine WC.region ?_
  refine WL.op rfl rfl (op_move rfl ?_)
  refine WL.op rfl rfl (op_move rfl ?_)
  refine WL.op rfl rfl (op_nilCheck rfl ?_)
  refine WL.op rfl rfl (op_fieldAddr rfl Fa.F105_2 ?_)
  refine WL.op rfl rfl (op_storeB (i := 0) H rfl rfl rfl rfl rfl Fa.I26 (fun w1 H1 => ?_))
  refine WL.nil ?_
  refine WQ.next ?_
  refine WC.seq ?_
  refine WC.region ?_
  refine WL.op rfl rfl (op_move rfl ?_)
  refine WL.op rfl rfl (op_assign rfl ?_)
  refine WL.nil ?_
  refine WQ.next ?_
  refine WC.ret ?_
  refine WQ.out (.tmp rfl .nil) ?_
  exact ⟨rfl, H1⟩
set_option maxRecDepth 100000 in
theorem left_ok (q : Nat) (r : Rd) (w : World) (hQ : cellsAt w q [(str r.s), (vN r.at_), (vN r.f)]) (hr : r.s.length < 2 ^ 47) :
    Calls Try.prog 77 #[(ptr q 0)] w (fun e w' => e = .returned (vN (r.s.length - r.at_)) ∧ Fr [] w w') := by
  refine enter (args := [(ptr q 0)]) Try.func77 rfl rfl ?_
  have H0 : Own [] w w [Ent.bo q [(str r.s), (vN r.at_), (vN r.f)]] := ((Own.start w []).oldB hQ)
  have hrh := r.h
  refine WC.seq ?_
  refine WC.region ?_
  refine WL.op rfl rfl (op_assign rfl ?_)
  refine WL.nil ?_
  refine WQ.next ?_
  refine WC.seq ?_
  refine WC.draw 11 Fa.M H0 (HW.op rfl (fun w1 H1 => op_move rfl ⟨rfl, Fr.refl _ _⟩) (HW.op rfl (fun w1 H1 => op_nilCheck rfl ⟨rfl, Fr.refl _ _⟩) (HW.op rfl (fun w1 H1 => op_fieldAddr rfl Fa.F105_0 ⟨rfl, Fr.refl _ _⟩) (HW.op rfl (fun w1 H1 => op_load rfl (H1.cellO (i := 0) rfl rfl) Try.underlying9 rfl ⟨rfl, Fr.refl _ _⟩) (HW.op rfl (fun w1 H1 => op_lenStr Try.underlying9 rfl ⟨rfl, Fr.refl _ _⟩) (HW.op rfl (fun w1 H1 => op_move rfl ⟨rfl, Fr.refl _ _⟩) (HW.op rfl (fun w1 H1 => op_nilCheck rfl ⟨rfl, Fr.refl _ _⟩) (HW.op rfl (fun w1 H1 => op_fieldAddr rfl Fa.F105_1 ⟨rfl, Fr.refl _ _⟩) (HW.op rfl (fun w1 H1 => op_load rfl (H1.cellO (i := 0) rfl rfl) Try.underlying3 rfl ⟨rfl, Fr.refl _ _⟩) (HW.op rfl (fun w1 H1 => op_subN rfl rfl (by omega) (by omega) ⟨rfl, Fr.refl _ _⟩) (HW.op rfl (fun w1 H1 => op_assign rfl ⟨rfl, Fr.refl _ _⟩)  HW.nil))))))))))) (by kernel_rfl) ?_
  intro β1 w1 H1
  refine WL.nil ?_
  refine WQ.next ?_
  refine WC.ret ?_
  refine WQ.out (.tmp rfl .nil) ?_
  exact ⟨rfl, H1.fr⟩
set_option maxRecDepth 100000 in
theorem fault_ok (q : Nat) (r : Rd) (w : World) (hQ : cellsAt w q [(str r.s), (vN r.at_), (vN r.f)]) :
    Calls Try.prog 36 #[(ptr q 0)] w (fun e w' => e = .returned (vN r.f) ∧ Fr [] w w') := by
  refine enter (args := [(ptr q 0)]) Try.func36 rfl rfl ?_
  have H0 : Own [] w w [Ent.bo q [(str r.s), (vN r.at_), (vN r.f)]] := ((Own.start w []).oldB hQ)
  refine WC.seq ?_
  refine WC.region ?_
  refine WL.op rfl rfl (op_assign rfl ?_)
  refine WL.nil ?_
  refine WQ.next ?_
  refine WC.seq ?_
  refine WC.seq ?_
  refine WC.region ?_
  refine WL.op rfl rfl (op_move rfl ?_)
  refine WL.op rfl rfl (op_eqlPN Fa.PT34 rfl rfl ?_)
  refine WL.nil ?_
  refine WQ.next ?_
  refine WC.no rfl rfl ?_
  refine WC.skip ?_
  refine WQ.next ?_
  refine WC.seq ?_
  refine WC.region ?_
  refine WL.op rfl rfl (op_move rfl ?_)
  refine WL.op rfl rfl (op_nilCheck rfl ?_)
  refine WL.op rfl rfl (op_fieldAddr rfl Fa.F107_0 ?_)
  refine WL.op rfl rfl (op_fieldAddr rfl Fa.F105_2 ?_)
  refine WL.op rfl rfl (op_load rfl (H0.cellO (i := 0) rfl rfl) Try.underlying26 rfl ?_)
  refine WL.op rfl rfl (op_assign rfl ?_)
  refine WL.nil ?_
  refine WQ.next ?_
  refine WC.ret ?_
  refine WQ.out (.tmp rfl .nil) ?_
  exact ⟨rfl, H0.fr⟩
set_option maxRecDepth 100000 in
theorem rtake_ok (q : Nat) (r : Rd) (n : Nat) (TR : TypeId) (T : List Nat) (w : World) (H : Own T w w [.blk q [(str r.s), (vN r.at_), (vN r.f)] TR]) (hr : r.s.length < 2 ^ 47) :
    Calls Try.prog 75 #[(ptr q 0), (vN n)] w (fun e w' => e = .returned (.tuple #[str (rawR r n).1.1, vN (rawR r n).1.2]) ∧ Own T w w' [.blk q [str (rawR r n).2.s, vN (rawR r n).2.at_, vN (rawR r n).2.f] TR]) := by
  refine enter (args := [(ptr q 0), (vN n)]) Try.func75 rfl rfl ?_
  have hrh := r.h
  refine WC.seq ?_
  refine WC.region ?_
  refine WL.op rfl rfl (op_assign rfl ?_)
  refine WL.op rfl rfl (op_assign rfl ?_)
  refine WL.nil ?_
  refine WQ.next ?_
  refine WC.seq ?_
  refine WC.seq ?_
  refine WC.region ?_
  refine WL.op rfl rfl (op_move rfl ?_)
  refine WL.op rfl rfl (op_move rfl ?_)
  refine WL.op rfl rfl (op_callF Fa.C77 rfl ((left_ok q r _ (H.cellsAt (i := 0) rfl) (by first | assumption | omega)).mono (fun e w1 hq => ?_)))
  obtain ⟨rfl, hf1⟩ := hq
  refine ⟨_, rfl, ?_⟩
  have H1 := H.fr' hf1
  refine WL.op rfl rfl (op_gtrN rfl rfl ?_)
  refine WL.nil ?_
  refine WQ.next ?_
  refine WC.cond rfl (fun (hb2 : (decide (n > (r.s.length - r.at_))) = true) => ?_) (fun (hb2 : (decide (n > (r.s.length - r.at_))) = false) => ?_)
  ·
    have hc2 := of_decide_eq_true hb2
    refine WC.seq ?_
    refine WC.region ?_
    refine WL.op rfl rfl (op_move rfl ?_)
    refine WL.op rfl rfl (op_callF Fa.C74 rfl ((spoilt_ok q r 6 TR _ _ (H1.part [0] rfl rfl)).mono (fun e w3 hq => ?_)))
    obtain ⟨rfl, hq3⟩ := hq
    refine ⟨_, rfl, ?_⟩
    have H3 : Own T w w3 [.blk q [(str (r.bad 6).s), (vN (r.bad 6).at_), (vN (r.bad 6).f)] TR] := H1.splice [0] [.blk q [(str (r.bad 6).s), (vN (r.bad 6).at_), (vN (r.bad 6).f)] TR] [] rfl rfl hq3 (Fits.solid True.intro Fits.nil)
    refine WL.op rfl rfl (op_assign rfl ?_)
    refine WL.op rfl rfl (op_assign rfl ?_)
    refine WL.nil ?_
    refine WQ.next ?_
    refine WC.ret ?_
    refine WQ.thenRet ?_
    refine WQ.out (.tmp rfl (.tmp rfl .nil)) ?_
    rw [rawR_1 hc2]
    exact ⟨rfl, H3⟩
  ·
    have hc2 := of_decide_eq_false hb2
    refine WC.skip ?_
    refine WQ.next ?_
    refine WC.seq ?_
    refine WC.region ?_
    refine WL.op rfl rfl (op_move rfl ?_)
    refine WL.op rfl rfl (op_nilCheck rfl ?_)
    refine WL.op rfl rfl (op_fieldAddr rfl Fa.F105_1 ?_)
    refine WL.op rfl rfl (op_load rfl (H1.cell (i := 0) rfl rfl) Try.underlying3 rfl ?_)
    refine WL.op rfl rfl (op_move rfl ?_)
    refine WL.op rfl rfl (op_addN rfl rfl (by omega) ?_)
    refine WL.op rfl rfl (op_nilCheck rfl ?_)
    refine WL.op rfl rfl (op_fieldAddr rfl Fa.F105_1 ?_)
    refine WL.op rfl rfl (op_storeB (i := 0) H1 rfl rfl rfl rfl rfl Fa.I3 (fun w4 H4 => ?_))
    refine WL.nil ?_
    refine WQ.next ?_
    refine WC.seq ?_
    refine WC.draw 17 Fa.M H4 (HW.op rfl (fun w1 H1 => op_move rfl ⟨rfl, Fr.refl _ _⟩) (HW.op rfl (fun w1 H1 => op_nilCheck rfl ⟨rfl, Fr.refl _ _⟩) (HW.op rfl (fun w1 H1 => op_fieldAddr rfl Fa.F105_0 ⟨rfl, Fr.refl _ _⟩) (HW.op rfl (fun w1 H1 => op_load rfl (H1.cell (i := 0) rfl rfl) Try.underlying9 rfl ⟨rfl, Fr.refl _ _⟩) (HW.op rfl (fun w1 H1 => op_move rfl ⟨rfl, Fr.refl _ _⟩) (HW.op rfl (fun w1 H1 => op_nilCheck rfl ⟨rfl, Fr.refl _ _⟩) (HW.op rfl (fun w1 H1 => op_fieldAddr rfl Fa.F105_1 ⟨rfl, Fr.refl _ _⟩) (HW.op rfl (fun w1 H1 => op_load rfl (H1.cell (i := 0) rfl rfl) Try.underlying3 rfl ⟨rfl, Fr.refl _ _⟩) (HW.op rfl (fun w1 H1 => op_move rfl ⟨rfl, Fr.refl _ _⟩) (HW.op rfl (fun w1 H1 => op_subN rfl rfl (by omega) (by omega) ⟨rfl, Fr.refl _ _⟩) (HW.op rfl (fun w1 H1 => op_move rfl ⟨rfl, Fr.refl _ _⟩) (HW.op rfl (fun w1 H1 => op_nilCheck rfl ⟨rfl, Fr.refl _ _⟩) (HW.op rfl (fun w1 H1 => op_fieldAddr rfl Fa.F105_1 ⟨rfl, Fr.refl _ _⟩) (HW.op rfl (fun w1 H1 => op_load rfl (H1.cell (i := 0) rfl rfl) Try.underlying3 rfl ⟨rfl, Fr.refl _ _⟩) (HW.op rfl (fun w1 H1 => op_sliceStr Try.underlying9 rfl rfl rfl (by omega) (by omega) ⟨rfl, Fr.refl _ _⟩) (HW.op rfl (fun w1 H1 => op_assign rfl ⟨rfl, Fr.refl _ _⟩) (HW.op rfl (fun w1 H1 => op_assign rfl ⟨rfl, Fr.refl _ _⟩)  HW.nil))))))))))))))))) (by kernel_rfl) ?_
    intro β5 w5 H5
    refine WL.nil ?_
    refine WQ.next ?_
    refine WC.ret ?_
    refine WQ.out (.tmp rfl (.tmp rfl .nil)) ?_
    rw [rawR_2 hc2]
    exact ⟨by show _ = Ending.returned (.tuple #[str ((r.s.drop r.at_).take n), vN 0]); rw [show r.at_ + n - n = r.at_ from by omega, show r.at_ + n - r.at_ = n from by omega]; rfl, H5⟩
set_option maxRecDepth 100000 in
theorem take_ok (q : Nat) (r : Rd) (n : Int) (TR : TypeId) (T : List Nat) (w : World) (H : Own T w w [.blk q [(str r.s), (vN r.at_), (vN r.f)] TR]) (hr : r.s.length < 2 ^ 47) :
    Calls Try.prog 30 #[(ptr q 0), (vI n)] w (fun e w' => e = .returned (.tuple #[str (takeR r n).1.1, vN (takeR r n).1.2]) ∧ Own T w w' [.blk q [str (takeR r n).2.s, vN (takeR r n).2.at_, vN (takeR r n).2.f] TR]) := by
  refine enter (args := [(ptr q 0), (vI n)]) Try.func30 rfl rfl ?_
  refine WC.seq ?_
  refine WC.region ?_
  refine WL.op rfl rfl (op_assign rfl ?_)
  refine WL.op rfl rfl (op_assign rfl ?_)
  refine WL.nil ?_
  refine WQ.next ?_
  refine WC.seq ?_
  refine WC.seq ?_
  refine WC.region ?_
  refine WL.op rfl rfl (op_move rfl ?_)
  refine WL.op rfl rfl (op_callF Fa.C36 rfl ((fault_ok q r _ (H.cellsAt (i := 0) rfl)).mono (fun e w1 hq => ?_)))
  obtain ⟨rfl, hf1⟩ := hq
  refine ⟨_, rfl, ?_⟩
  have H1 := H.fr' hf1
  refine WL.op rfl rfl (op_assign rfl ?_)
  refine WL.nil ?_
  refine WQ.next ?_
  refine WC.seq ?_
  refine WC.region ?_
  refine WL.op rfl rfl (op_move rfl ?_)
  refine WL.op rfl rfl (op_neqN (b := 0) rfl rfl ?_)
  refine WL.nil ?_
  refine WQ.next ?_
  refine WC.cond rfl (fun (hb2 : (decide (r.f ≠ 0)) = true) => ?_) (fun (hb2 : (decide (r.f ≠ 0)) = false) => ?_)
  ·
    have hc2 := of_decide_eq_true hb2
    refine WC.seq ?_
    refine WC.region ?_
    refine WL.op rfl rfl (op_move rfl ?_)
    refine WL.op rfl rfl (op_assign rfl ?_)
    refine WL.op rfl rfl (op_assign rfl ?_)
    refine WL.nil ?_
    refine WQ.next ?_
    refine WC.ret ?_
    refine WQ.thenRet ?_
    refine WQ.out (.tmp rfl (.tmp rfl .nil)) ?_
    rw [takeR, if_pos hc2]
    exact ⟨rfl, H1⟩
  ·
    have hc2 := of_decide_eq_false hb2
    refine WC.skip ?_
    refine WQ.next ?_
    refine WC.seq ?_
    refine WC.seq ?_
    refine WC.region ?_
    refine WL.op rfl rfl (op_move rfl ?_)
    refine WL.op rfl rfl (op_lssI (b := (0 : Int)) rfl rfl ?_)
    refine WL.nil ?_
    refine WQ.next ?_
    refine WC.cond rfl (fun (hb3 : (decide (n < (0 : Int))) = true) => ?_) (fun (hb3 : (decide (n < (0 : Int))) = false) => ?_)
    ·
      have hc3 := of_decide_eq_true hb3
      refine WC.seq ?_
      refine WC.region ?_
      refine WL.op rfl rfl (op_move rfl ?_)
      refine WL.op rfl rfl (op_nilCheck rfl ?_)
      refine WL.op rfl rfl (op_fieldAddr rfl Fa.F107_0 ?_)
      refine WL.op rfl rfl (op_callF Fa.C74 rfl ((spoilt_ok q r 2 TR _ _ (H1.part [0] rfl rfl)).mono (fun e w4 hq => ?_)))
      obtain ⟨rfl, hq4⟩ := hq
      refine ⟨_, rfl, ?_⟩
      have H4 : Own T w w4 [.blk q [(str (r.bad 2).s), (vN (r.bad 2).at_), (vN (r.bad 2).f)] TR] := H1.splice [0] [.blk q [(str (r.bad 2).s), (vN (r.bad 2).at_), (vN (r.bad 2).f)] TR] [] rfl rfl hq4 (Fits.solid True.intro Fits.nil)
      refine WL.op rfl rfl (op_assign rfl ?_)
      refine WL.op rfl rfl (op_assign rfl ?_)
      refine WL.nil ?_
      refine WQ.next ?_
      refine WC.ret ?_
      refine WQ.thenRet ?_
      refine WQ.out (.tmp rfl (.tmp rfl .nil)) ?_
      rw [takeR, if_neg hc2, if_pos hc3]
      exact ⟨rfl, H4⟩
    ·
      have hc3 := of_decide_eq_false hb3
      obtain ⟨m, rfl⟩ : ∃ m : Nat, n = (m : Int) := ⟨n.toNat, by omega⟩
      refine WC.skip ?_
      refine WQ.next ?_
      refine WC.seq ?_
      refine WC.region ?_
      refine WL.op rfl rfl (op_move rfl ?_)
      refine WL.op rfl rfl (op_nilCheck rfl ?_)
      refine WL.op rfl rfl (op_fieldAddr rfl Fa.F107_0 ?_)
      refine WL.op rfl rfl (op_move rfl ?_)
      refine WL.op rfl rfl (op_callF Fa.C75 rfl ((rtake_ok q r ((m : Nat)) TR _ _ (H1.part [0] rfl rfl) (by first | assumption | omega)).mono (fun e w5 hq => ?_)))
      obtain ⟨rfl, hq5⟩ := hq
      refine ⟨_, rfl, ?_⟩
      have H5 : Own T w w5 [.blk q [(str ((rawR r (m : Nat)).2).s), (vN ((rawR r (m : Nat)).2).at_), (vN ((rawR r (m : Nat)).2).f)] TR] := H1.splice [0] [.blk q [(str ((rawR r (m : Nat)).2).s), (vN ((rawR r (m : Nat)).2).at_), (vN ((rawR r (m : Nat)).2).f)] TR] [] rfl rfl hq5 (Fits.solid True.intro Fits.nil)
      refine WL.op rfl rfl (op_extract rfl rfl ?_)
      refine WL.op rfl rfl (op_extract rfl rfl ?_)
      refine WL.op rfl rfl (op_assign rfl ?_)
      refine WL.op rfl rfl (op_assign rfl ?_)
      refine WL.nil ?_
      refine WQ.next ?_
      refine WC.ret ?_
      refine WQ.out (.tmp rfl (.tmp rfl .nil)) ?_
      rw [takeR, if_neg hc2, if_neg (show ¬ ((m : Int) < 0) from by omega), Int.toNat_natCast]
      exact ⟨rfl, H5⟩
set_option maxRecDepth 100000 in
theorem rdnum_ok (q : Nat) (r : Rd) (n : Int) (TR : TypeId) (T : List Nat) (w : World) (H : Own T w w [.blk q [(str r.s), (vN r.at_), (vN r.f)] TR]) (hr : r.s.length < 2 ^ 47) :
    Calls Try.prog 25 #[(ptr q 0), (vI n)] w (fun e w' => e = .returned (.tuple #[vU32 (numR r n).1.1, vN (numR r n).1.2]) ∧ Own T w w' [.blk q [str (numR r n).2.s, vN (numR r n).2.at_, vN (numR r n).2.f] TR]) := by
  refine enter (args := [(ptr q 0), (vI n)]) Try.func25 rfl rfl ?_
  refine WC.seq ?_
  refine WC.region ?_
  refine WL.op rfl rfl (op_assign rfl ?_)
  refine WL.op rfl rfl (op_assign rfl ?_)
  refine WL.nil ?_
  refine WQ.next ?_
  refine WC.seq ?_
  refine WC.seq ?_
  refine WC.region ?_
  refine WL.op rfl rfl (op_move rfl ?_)
  refine WL.op rfl rfl (op_callF Fa.C36 rfl ((fault_ok q r _ (H.cellsAt (i := 0) rfl)).mono (fun e w1 hq => ?_)))
  obtain ⟨rfl, hf1⟩ := hq
  refine ⟨_, rfl, ?_⟩
  have H1 := H.fr' hf1
  refine WL.op rfl rfl (op_assign rfl ?_)
  refine WL.nil ?_
  refine WQ.next ?_
  refine WC.seq ?_
  refine WC.region ?_
  refine WL.op rfl rfl (op_move rfl ?_)
  refine WL.op rfl rfl (op_neqN (b := 0) rfl rfl ?_)
  refine WL.nil ?_
  refine WQ.next ?_
  refine WC.cond rfl (fun (hb2 : (decide (r.f ≠ 0)) = true) => ?_) (fun (hb2 : (decide (r.f ≠ 0)) = false) => ?_)
  ·
    have hc2 := of_decide_eq_true hb2
    refine WC.seq ?_
    refine WC.region ?_
    refine WL.op rfl rfl (op_move rfl ?_)
    refine WL.op rfl rfl (op_assign rfl ?_)
    refine WL.op rfl rfl (op_assign rfl ?_)
    refine WL.nil ?_
    refine WQ.next ?_
    refine WC.ret ?_
    refine WQ.thenRet ?_
    refine WQ.out (.tmp rfl (.tmp rfl .nil)) ?_
    rw [numR, if_pos hc2]
    exact ⟨rfl, H1⟩
  ·
    have hc2 := of_decide_eq_false hb2
    refine WC.skip ?_
    refine WQ.next ?_
    refine WC.seq ?_
    refine WC.seq ?_
    refine WC.region ?_
    refine WL.op rfl rfl (op_move rfl ?_)
    refine WL.op rfl rfl (op_lssI (b := (1 : Int)) rfl rfl ?_)
    refine WL.op rfl rfl (op_move rfl ?_)
    refine WL.split (t := 16) rfl (fun (hb3 : (decide (n < (1 : Int))) = true) => ?_) (fun (hb3 : (decide (n < (1 : Int))) = false) => ?_)
    ·
      have hc3 := of_decide_eq_true hb3
      refine WL.no rfl rfl rfl hb3 rfl ?_
      refine WL.no rfl rfl rfl hb3 rfl ?_
      refine WL.op rfl rfl (op_pickT rfl hb3 rfl ?_)
      refine WL.nil ?_
      refine WQ.next ?_
      refine WC.yes rfl rfl ?_
      refine WC.seq ?_
      refine WC.region ?_
      refine WL.op rfl rfl (op_move rfl ?_)
      refine WL.op rfl rfl (op_nilCheck rfl ?_)
      refine WL.op rfl rfl (op_fieldAddr rfl Fa.F107_0 ?_)
      refine WL.op rfl rfl (op_callF Fa.C74 rfl ((spoilt_ok q r 2 TR _ _ (H1.part [0] rfl rfl)).mono (fun e w4 hq => ?_)))
      obtain ⟨rfl, hq4⟩ := hq
      refine ⟨_, rfl, ?_⟩
      have H4 : Own T w w4 [.blk q [(str (r.bad 2).s), (vN (r.bad 2).at_), (vN (r.bad 2).f)] TR] := H1.splice [0] [.blk q [(str (r.bad 2).s), (vN (r.bad 2).at_), (vN (r.bad 2).f)] TR] [] rfl rfl hq4 (Fits.solid True.intro Fits.nil)
      refine WL.op rfl rfl (op_assign rfl ?_)
      refine WL.op rfl rfl (op_assign rfl ?_)
      refine WL.nil ?_
      refine WQ.next ?_
      refine WC.ret ?_
      refine WQ.thenRet ?_
      refine WQ.out (.tmp rfl (.tmp rfl .nil)) ?_
      rw [numR, if_neg hc2, if_pos (show n < 1 ∨ n > 4 from by omega)]
      exact ⟨rfl, H4⟩
    ·
      have hc3 := of_decide_eq_false hb3
      refine WL.yes rfl rfl rfl hb3 rfl (op_move rfl ?_)
      refine WL.yes rfl rfl rfl hb3 rfl (op_gtrI (b := (4 : Int)) rfl rfl ?_)
      refine WL.op rfl rfl (op_pickF rfl hb3 rfl ?_)
      refine WL.nil ?_
      refine WQ.next ?_
      refine WC.cond rfl (fun (hb5 : (decide (n > (4 : Int))) = true) => ?_) (fun (hb5 : (decide (n > (4 : Int))) = false) => ?_)
      ·
        have hc5 := of_decide_eq_true hb5
        refine WC.seq ?_
        refine WC.region ?_
        refine WL.op rfl rfl (op_move rfl ?_)
        refine WL.op rfl rfl (op_nilCheck rfl ?_)
        refine WL.op rfl rfl (op_fieldAddr rfl Fa.F107_0 ?_)
        refine WL.op rfl rfl (op_callF Fa.C74 rfl ((spoilt_ok q r 2 TR _ _ (H1.part [0] rfl rfl)).mono (fun e w6 hq => ?_)))
        obtain ⟨rfl, hq6⟩ := hq
        refine ⟨_, rfl, ?_⟩
        have H6 : Own T w w6 [.blk q [(str (r.bad 2).s), (vN (r.bad 2).at_), (vN (r.bad 2).f)] TR] := H1.splice [0] [.blk q [(str (r.bad 2).s), (vN (r.bad 2).at_), (vN (r.bad 2).f)] TR] [] rfl rfl hq6 (Fits.solid True.intro Fits.nil)
        refine WL.op rfl rfl (op_assign rfl ?_)
        refine WL.op rfl rfl (op_assign rfl ?_)
        refine WL.nil ?_
        refine WQ.next ?_
        refine WC.ret ?_
        refine WQ.thenRet ?_
        refine WQ.out (.tmp rfl (.tmp rfl .nil)) ?_
        rw [numR, if_neg hc2, if_pos (show n < 1 ∨ n > 4 from by omega)]
        exact ⟨rfl, H6⟩
      ·
        have hc5 := of_decide_eq_false hb5
        obtain ⟨m, rfl⟩ : ∃ m : Nat, n = (m : Int) := ⟨n.toNat, by omega⟩
        refine WC.skip ?_
        refine WQ.next ?_
        refine WC.seq ?_
        refine WC.region ?_
        refine WL.op rfl rfl (op_move rfl ?_)
        refine WL.op rfl rfl (op_nilCheck rfl ?_)
        refine WL.op rfl rfl (op_fieldAddr rfl Fa.F107_0 ?_)
        refine WL.op rfl rfl (op_move rfl ?_)
        refine WL.op rfl rfl (op_callF Fa.C75 rfl ((rtake_ok q r ((m : Nat)) TR _ _ (H1.part [0] rfl rfl) (by first | assumption | omega)).mono (fun e w7 hq => ?_)))
        obtain ⟨rfl, hq7⟩ := hq
        refine ⟨_, rfl, ?_⟩
        have H7 : Own T w w7 [.blk q [(str ((rawR r (m : Nat)).2).s), (vN ((rawR r (m : Nat)).2).at_), (vN ((rawR r (m : Nat)).2).f)] TR] := H1.splice [0] [.blk q [(str ((rawR r (m : Nat)).2).s), (vN ((rawR r (m : Nat)).2).at_), (vN ((rawR r (m : Nat)).2).f)] TR] [] rfl rfl hq7 (Fits.solid True.intro Fits.nil)
        refine WL.op rfl rfl (op_move rfl ?_)
        refine WL.op rfl rfl (op_extract rfl rfl ?_)
        refine WL.op rfl rfl (op_extract rfl rfl ?_)
        refine WL.op rfl rfl (op_assign rfl ?_)
        refine WL.op rfl rfl (op_assign rfl ?_)
        refine WL.nil ?_
        refine WQ.next ?_
        refine WC.seq ?_
        refine WC.seq ?_
        refine WC.region ?_
        refine WL.op rfl rfl (op_move rfl ?_)
        refine WL.op rfl rfl (op_neqN (b := 0) rfl rfl ?_)
        refine WL.nil ?_
        refine WQ.next ?_
        refine WC.cond rfl (fun (hb8 : (decide ((rawR r (m : Nat)).1.2 ≠ 0)) = true) => ?_) (fun (hb8 : (decide ((rawR r (m : Nat)).1.2 ≠ 0)) = false) => ?_)
        ·
          have hc8 := of_decide_eq_true hb8
          refine WC.seq ?_
          refine WC.region ?_
          refine WL.op rfl rfl (op_move rfl ?_)
          refine WL.op rfl rfl (op_assign rfl ?_)
          refine WL.op rfl rfl (op_assign rfl ?_)
          refine WL.nil ?_
          refine WQ.next ?_
          refine WC.ret ?_
          refine WQ.thenRet ?_
          refine WQ.out (.tmp rfl (.tmp rfl .nil)) ?_
          rw [numR, if_neg hc2, if_neg (show ¬ ((m : Int) < 1 ∨ (m : Int) > 4) from by omega), Int.toNat_natCast, if_pos hc8]
          exact ⟨rfl, H7⟩
        ·
          have hc8 := of_decide_eq_false hb8
          refine WC.skip ?_
          refine WQ.next ?_
          refine WC.seq ?_
          refine WC.region ?_
          refine WL.op rfl rfl (op_move rfl ?_)
          refine WL.op rfl rfl (op_callF Fa.C76 rfl ((get_ok ((rawR r (m : Nat)).1.1) _).mono (fun e w9 hq => ?_)))
          obtain ⟨rfl, hf9⟩ := hq
          refine ⟨_, rfl, ?_⟩
          have H9 := H7.fr' hf9
          refine WL.op rfl rfl (op_extract rfl rfl ?_)
          refine WL.op rfl rfl (op_extract rfl rfl ?_)
          refine WL.op rfl rfl (op_assign rfl ?_)
          refine WL.op rfl rfl (op_assign rfl ?_)
          refine WL.nil ?_
          refine WQ.next ?_
          refine WC.ret ?_
          refine WQ.out (.tmp rfl (.tmp rfl .nil)) ?_
          have hl := rawR_len (Decidable.not_not.mp hc8)
          rw [numR, if_neg hc2, if_neg (show ¬ ((m : Int) < 1 ∨ (m : Int) > 4) from by omega), Int.toNat_natCast, if_neg hc8]
          exact ⟨by rw [getE, if_neg (by omega)]; rfl, H9⟩
set_option maxRecDepth 100000 in
theorem rdend_ok (q : Nat) (r : Rd) (TR : TypeId) (T : List Nat) (w : World) (H : Own T w w [.blk q [(str r.s), (vN r.at_), (vN r.f)] TR]) (hr : r.s.length < 2 ^ 47) :
    Calls Try.prog 29 #[(ptr q 0)] w (fun e w' => e = .returned (vN (endR r).1) ∧ Own T w w' [.blk q [str (endR r).2.s, vN (endR r).2.at_, vN (endR r).2.f] TR]) := by
  refine enter (args := [(ptr q 0)]) Try.func29 rfl rfl ?_
  refine WC.seq ?_
  refine WC.region ?_
  refine WL.op rfl rfl (op_assign rfl ?_)
  refine WL.nil ?_
  refine WQ.next ?_
  refine WC.seq ?_
  refine WC.seq ?_
  refine WC.region ?_
  refine WL.op rfl rfl (op_move rfl ?_)
  refine WL.op rfl rfl (op_callF Fa.C36 rfl ((fault_ok q r _ (H.cellsAt (i := 0) rfl)).mono (fun e w1 hq => ?_)))
  obtain ⟨rfl, hf1⟩ := hq
  refine ⟨_, rfl, ?_⟩
  have H1 := H.fr' hf1
  refine WL.op rfl rfl (op_assign rfl ?_)
  refine WL.nil ?_
  refine WQ.next ?_
  refine WC.seq ?_
  refine WC.region ?_
  refine WL.op rfl rfl (op_move rfl ?_)
  refine WL.op rfl rfl (op_neqN (b := 0) rfl rfl ?_)
  refine WL.nil ?_
  refine WQ.next ?_
  refine WC.cond rfl (fun (hb2 : (decide (r.f ≠ 0)) = true) => ?_) (fun (hb2 : (decide (r.f ≠ 0)) = false) => ?_)
  ·
    have hc2 := of_decide_eq_true hb2
    refine WC.seq ?_
    refine WC.region ?_
    refine WL.op rfl rfl (op_move rfl ?_)
    refine WL.op rfl rfl (op_assign rfl ?_)
    refine WL.nil ?_
    refine WQ.next ?_
    refine WC.ret ?_
    refine WQ.thenRet ?_
    refine WQ.out (.tmp rfl .nil) ?_
    rw [endR, if_pos hc2]
    exact ⟨rfl, H1⟩
  ·
    have hc2 := of_decide_eq_false hb2
    refine WC.skip ?_
    refine WQ.next ?_
    refine WC.seq ?_
    refine WC.seq ?_
    refine WC.region ?_
    refine WL.op rfl rfl (op_move rfl ?_)
    refine WL.op rfl rfl (op_nilCheck rfl ?_)
    refine WL.op rfl rfl (op_fieldAddr rfl Fa.F107_0 ?_)
    refine WL.op rfl rfl (op_callF Fa.C77 rfl ((left_ok q r _ (H1.cellsAt (i := 0) rfl) hr).mono (fun e w3 hq => ?_)))
    obtain ⟨rfl, hf3⟩ := hq
    refine ⟨_, rfl, ?_⟩
    have H3 := H1.fr' hf3
    refine WL.op rfl rfl (op_gtrN (b := 0) rfl rfl ?_)
    refine WL.nil ?_
    refine WQ.next ?_
    refine WC.cond rfl (fun (hb4 : (decide ((r.s.length - r.at_) > 0)) = true) => ?_) (fun (hb4 : (decide ((r.s.length - r.at_) > 0)) = false) => ?_)
    ·
      have hc4 := of_decide_eq_true hb4
      refine WC.seq ?_
      refine WC.region ?_
      refine WL.op rfl rfl (op_move rfl ?_)
      refine WL.op rfl rfl (op_nilCheck rfl ?_)
      refine WL.op rfl rfl (op_fieldAddr rfl Fa.F107_0 ?_)
      refine WL.op rfl rfl (op_callF Fa.C74 rfl ((spoilt_ok q r 7 TR _ _ (H3.part [0] rfl rfl)).mono (fun e w5 hq => ?_)))
      obtain ⟨rfl, hq5⟩ := hq
      refine ⟨_, rfl, ?_⟩
      have H5 : Own T w w5 [.blk q [(str (r.bad 7).s), (vN (r.bad 7).at_), (vN (r.bad 7).f)] TR] := H3.splice [0] [.blk q [(str (r.bad 7).s), (vN (r.bad 7).at_), (vN (r.bad 7).f)] TR] [] rfl rfl hq5 (Fits.solid True.intro Fits.nil)
      refine WL.op rfl rfl (op_assign rfl ?_)
      refine WL.nil ?_
      refine WQ.next ?_
      refine WC.ret ?_
      refine WQ.thenRet ?_
      refine WQ.out (.tmp rfl .nil) ?_
      rw [endR, if_neg hc2, if_pos hc4]
      exact ⟨rfl, H5⟩
    ·
      have hc4 := of_decide_eq_false hb4
      refine WC.skip ?_
      refine WQ.next ?_
      refine WC.seq ?_
      refine WC.region ?_
      refine WL.op rfl rfl (op_assign rfl ?_)
      refine WL.nil ?_
      refine WQ.next ?_
      refine WC.ret ?_
      refine WQ.out (.tmp rfl .nil) ?_
      rw [endR, if_neg hc2, if_neg hc4]
      exact ⟨rfl, H3⟩
end Go.Proofs.Ytpnghdalnghpcaa
/-! from WPack2 -/
namespace Go.Proofs.Ytpnghdalnghpcaa
open Go.Owl Go.Spec
set_option maxRecDepth 100000 in
theorem fails_ok (q : Nat) (S : List UInt8) (E x : Nat) (T : List Nat) (w : World) (H : Own T w w [.blk q [(str S), (vN E)] 47]) :
    Calls Try.prog 78 #[(ptr q 0), (vN x)] w (fun e w' => e = .returned (vN x) ∧ Own T w w' [.blk q [str S, vN x] 47]) := by
  refine enter (args := [(ptr q 0), (vN x)]) Try.func78 rfl rfl ?_
  refine WC.seq ?_
  refine WC.region ?_
  refine WL.op rfl rfl (op_assign rfl ?_)
  refine WL.nil ?_
  refine WQ.next ?_
  refine WC.seq ?_
  refine WC.region ?_
  refine WL.op rfl rfl (op_move rfl ?_)
  refine WL.op rfl rfl (op_move rfl ?_)
  refine WL.op rfl rfl (op_nilCheck rfl ?_)
  refine WL.op rfl rfl (op_fieldAddr rfl Fa.F47_1 ?_)
  refine WL.op rfl rfl (op_storeB (i := 0) H rfl rfl rfl rfl rfl Fa.I26 (fun w1 H1 => ?_))
  refine WL.nil ?_
  refine WQ.next ?_
  refine WC.seq ?_
  refine WC.region ?_
  refine WL.op rfl rfl (op_move rfl ?_)
  refine WL.op rfl rfl (op_assign rfl ?_)
  refine WL.nil ?_
  refine WQ.next ?_
  refine WC.ret ?_
  refine WQ.out (.tmp rfl .nil) ?_
  exact ⟨rfl, H1⟩
set_option maxRecDepth 100000 in
theorem ftake_ok (q : Nat) (S : List UInt8) (E : Nat) (n : Int) (T : List Nat) (w : World) (H : Own T w w [.blk q [(str S), (vN E)] 47]) (hr : S.length < 2 ^ 47) :
    Calls Try.prog 31 #[(ptr q 0), (vI n)] w (fun e w' => e = .returned (.tuple #[str (takeR (Rd.mk S 0 E (Nat.zero_le _)) n).1.1, vN (takeR (Rd.mk S 0 E (Nat.zero_le _)) n).1.2]) ∧ Own T w w' [.blk q [str (takeR (Rd.mk S 0 E (Nat.zero_le _)) n).2.rest, vN (takeR (Rd.mk S 0 E (Nat.zero_le _)) n).2.f] 47]) := by
  refine enter (args := [(ptr q 0), (vI n)]) Try.func31 rfl rfl ?_
  refine WC.seq ?_
  refine WC.region ?_
  refine WL.op rfl rfl (op_assign rfl ?_)
  refine WL.op rfl rfl (op_assign rfl ?_)
  refine WL.nil ?_
  refine WQ.next ?_
  refine WC.seq ?_
  refine WC.seq ?_
  refine WC.region ?_
  refine WL.op rfl rfl (op_move rfl ?_)
  refine WL.op rfl rfl (op_nilCheck rfl ?_)
  refine WL.op rfl rfl (op_fieldAddr rfl Fa.F47_1 ?_)
  refine WL.op rfl rfl (op_load rfl (H.cell (i := 0) rfl rfl) Try.underlying26 rfl ?_)
  refine WL.op rfl rfl (op_neqN (b := 0) rfl rfl ?_)
  refine WL.nil ?_
  refine WQ.next ?_
  refine WC.cond rfl (fun (hb1 : (decide (E ≠ 0)) = true) => ?_) (fun (hb1 : (decide (E ≠ 0)) = false) => ?_)
  ·
    have hc1 := of_decide_eq_true hb1
    refine WC.seq ?_
    refine WC.draw 6 Fa.M H (HW.op rfl (fun w1 H1 => op_move rfl ⟨rfl, Fr.refl _ _⟩) (HW.op rfl (fun w1 H1 => op_nilCheck rfl ⟨rfl, Fr.refl _ _⟩) (HW.op rfl (fun w1 H1 => op_fieldAddr rfl Fa.F47_1 ⟨rfl, Fr.refl _ _⟩) (HW.op rfl (fun w1 H1 => op_load rfl (H1.cell (i := 0) rfl rfl) Try.underlying26 rfl ⟨rfl, Fr.refl _ _⟩) (HW.op rfl (fun w1 H1 => op_assign rfl ⟨rfl, Fr.refl _ _⟩) (HW.op rfl (fun w1 H1 => op_assign rfl ⟨rfl, Fr.refl _ _⟩)  HW.nil)))))) (by kernel_rfl) ?_
    intro β2 w2 H2
    refine WL.nil ?_
    refine WQ.next ?_
    refine WC.ret ?_
    refine WQ.thenRet ?_
    refine WQ.out (.tmp rfl (.tmp rfl .nil)) ?_
    rw [takeR_1 (r := (Rd.mk S 0 E (Nat.zero_le _))) hc1]
    exact ⟨rfl, (by have h := (show Own T w w2 [.blk q [(str S), (vN E)] 47] from H2); simpa only [Rd.rest, Rd.bad, Rd.on, List.drop_zero, Nat.zero_add] using h)⟩
  ·
    have hc1 := of_decide_eq_false hb1
    refine WC.skip ?_
    refine WQ.next ?_
    refine WC.seq ?_
    refine WC.seq ?_
    refine WC.region ?_
    refine WL.op rfl rfl (op_move rfl ?_)
    refine WL.op rfl rfl (op_lssI (b := (0 : Int)) rfl rfl ?_)
    refine WL.nil ?_
    refine WQ.next ?_
    refine WC.cond rfl (fun (hb3 : (decide (n < (0 : Int))) = true) => ?_) (fun (hb3 : (decide (n < (0 : Int))) = false) => ?_)
    ·
      have hc3 := of_decide_eq_true hb3
      refine WC.seq ?_
      refine WC.region ?_
      refine WL.op rfl rfl (op_move rfl ?_)
      refine WL.op rfl rfl (op_callF Fa.C78 rfl ((fails_ok q S E 2 _ _ (H.part [0] rfl rfl)).mono (fun e w4 hq => ?_)))
      obtain ⟨rfl, hq4⟩ := hq
      refine ⟨_, rfl, ?_⟩
      have H4 : Own T w w4 [.blk q [(str S), (vN 2)] 47] := H.splice [0] [.blk q [(str S), (vN 2)] 47] [] rfl rfl hq4 (Fits.solid True.intro Fits.nil)
      refine WL.op rfl rfl (op_assign rfl ?_)
      refine WL.op rfl rfl (op_assign rfl ?_)
      refine WL.nil ?_
      refine WQ.next ?_
      refine WC.ret ?_
      refine WQ.thenRet ?_
      refine WQ.out (.tmp rfl (.tmp rfl .nil)) ?_
      rw [takeR_2 (r := (Rd.mk S 0 E (Nat.zero_le _))) (Decidable.not_not.mp hc1) hc3]
      exact ⟨rfl, (by have h := (show Own T w w4 [.blk q [(str S), (vN 2)] 47] from H4); simpa only [Rd.rest, Rd.bad, Rd.on, List.drop_zero, Nat.zero_add] using h)⟩
    ·
      have hc3 := of_decide_eq_false hb3
      obtain ⟨m, rfl⟩ : ∃ m : Nat, n = (m : Int) := ⟨n.toNat, by omega⟩
      refine WC.skip ?_
      refine WQ.next ?_
      refine WC.seq ?_
      refine WC.seq ?_
      refine WC.region ?_
      refine WL.op rfl rfl (op_move rfl ?_)
      refine WL.op rfl rfl (op_move rfl ?_)
      refine WL.op rfl rfl (op_nilCheck rfl ?_)
      refine WL.op rfl rfl (op_fieldAddr rfl Fa.F47_0 ?_)
      refine WL.op rfl rfl (op_load rfl (H.cell (i := 0) rfl rfl) Try.underlying9 rfl ?_)
      refine WL.op rfl rfl (op_lenStr Try.underlying9 rfl ?_)
      refine WL.op rfl rfl (op_gtrN rfl rfl ?_)
      refine WL.nil ?_
      refine WQ.next ?_
      refine WC.cond rfl (fun (hb5 : (decide (m > S.length)) = true) => ?_) (fun (hb5 : (decide (m > S.length)) = false) => ?_)
      ·
        have hc5 := of_decide_eq_true hb5
        refine WC.seq ?_
        refine WC.region ?_
        refine WL.op rfl rfl (op_move rfl ?_)
        refine WL.op rfl rfl (op_callF Fa.C78 rfl ((fails_ok q S E 6 _ _ (H.part [0] rfl rfl)).mono (fun e w6 hq => ?_)))
        obtain ⟨rfl, hq6⟩ := hq
        refine ⟨_, rfl, ?_⟩
        have H6 : Own T w w6 [.blk q [(str S), (vN 6)] 47] := H.splice [0] [.blk q [(str S), (vN 6)] 47] [] rfl rfl hq6 (Fits.solid True.intro Fits.nil)
        refine WL.op rfl rfl (op_assign rfl ?_)
        refine WL.op rfl rfl (op_assign rfl ?_)
        refine WL.nil ?_
        refine WQ.next ?_
        refine WC.ret ?_
        refine WQ.thenRet ?_
        refine WQ.out (.tmp rfl (.tmp rfl .nil)) ?_
        rw [takeR_3 (r := (Rd.mk S 0 E (Nat.zero_le _))) (Decidable.not_not.mp hc1), rawR_1 (r := (Rd.mk S 0 E (Nat.zero_le _))) (show m > S.length - 0 from hc5)]
        exact ⟨rfl, (by have h := (show Own T w w6 [.blk q [(str S), (vN 6)] 47] from H6); simpa only [Rd.rest, Rd.bad, Rd.on, List.drop_zero, Nat.zero_add] using h)⟩
      ·
        have hc5 := of_decide_eq_false hb5
        refine WC.skip ?_
        refine WQ.next ?_
        refine WC.seq ?_
        refine WC.region ?_
        refine WL.op rfl rfl (op_move rfl ?_)
        refine WL.op rfl rfl (op_nilCheck rfl ?_)
        refine WL.op rfl rfl (op_fieldAddr rfl Fa.F47_0 ?_)
        refine WL.op rfl rfl (op_load rfl (H.cell (i := 0) rfl rfl) Try.underlying9 rfl ?_)
        refine WL.op rfl rfl (op_move rfl ?_)
        refine WL.op rfl rfl (op_sliceStrHi Try.underlying9 rfl rfl (by omega) ?_)
        refine WL.op rfl rfl (op_assign rfl ?_)
        refine WL.nil ?_
        refine WQ.next ?_
        refine WC.seq ?_
        refine WC.region ?_
        refine WL.op rfl rfl (op_move rfl ?_)
        refine WL.op rfl rfl (op_move rfl ?_)
        refine WL.op rfl rfl (op_nilCheck rfl ?_)
        refine WL.op rfl rfl (op_fieldAddr rfl Fa.F47_0 ?_)
        refine WL.op rfl rfl (op_load rfl (H.cell (i := 0) rfl rfl) Try.underlying9 rfl ?_)
        refine WL.op rfl rfl (op_move rfl ?_)
        refine WL.op rfl rfl (op_sliceStrLo Try.underlying9 rfl rfl (by omega) ?_)
        refine WL.op rfl rfl (op_nilCheck rfl ?_)
        refine WL.op rfl rfl (op_fieldAddr rfl Fa.F47_0 ?_)
        refine WL.op rfl rfl (op_storeB (i := 0) H rfl rfl rfl rfl rfl Fa.I9 (fun w7 H7 => ?_))
        refine WL.nil ?_
        refine WQ.next ?_
        refine WC.seq ?_
        refine WC.region ?_
        refine WL.op rfl rfl (op_move rfl ?_)
        refine WL.op rfl rfl (op_assign rfl ?_)
        refine WL.op rfl rfl (op_assign rfl ?_)
        refine WL.nil ?_
        refine WQ.next ?_
        refine WC.ret ?_
        refine WQ.out (.tmp rfl (.tmp rfl .nil)) ?_
        rw [takeR_3 (r := (Rd.mk S 0 E (Nat.zero_le _))) (Decidable.not_not.mp hc1), rawR_2 (r := (Rd.mk S 0 E (Nat.zero_le _))) (show ¬ m > S.length - 0 from hc5)]
        exact ⟨rfl, (by have h := (show Own T w w7 [.blk q [(str (S.drop m)), (vN E)] 47] from H7); simpa only [Rd.rest, Rd.bad, Rd.on, List.drop_zero, Nat.zero_add] using h)⟩
set_option maxRecDepth 100000 in
theorem fnum_ok (q : Nat) (S : List UInt8) (E : Nat) (n : Int) (T : List Nat) (w : World) (H : Own T w w [.blk q [(str S), (vN E)] 47]) (hr : S.length < 2 ^ 47) :
    Calls Try.prog 32 #[(ptr q 0), (vI n)] w (fun e w' => e = .returned (.tuple #[vU32 (numR (Rd.mk S 0 E (Nat.zero_le _)) n).1.1, vN (numR (Rd.mk S 0 E (Nat.zero_le _)) n).1.2]) ∧ Own T w w' [.blk q [str (numR (Rd.mk S 0 E (Nat.zero_le _)) n).2.rest, vN (numR (Rd.mk S 0 E (Nat.zero_le _)) n).2.f] 47]) := by
  refine enter (args := [(ptr q 0), (vI n)]) Try.func32 rfl rfl ?_
  have hTl : (takeR (Rd.mk S 0 E (Nat.zero_le _)) n).1.1.length < 2 ^ 47 := takeR_len _ _ (by exact hr)
  refine WC.seq ?_
  refine WC.region ?_
  refine WL.op rfl rfl (op_assign rfl ?_)
  refine WL.op rfl rfl (op_assign rfl ?_)
  refine WL.nil ?_
  refine WQ.next ?_
  refine WC.seq ?_
  refine WC.seq ?_
  refine WC.region ?_
  refine WL.op rfl rfl (op_move rfl ?_)
  refine WL.op rfl rfl (op_nilCheck rfl ?_)
  refine WL.op rfl rfl (op_fieldAddr rfl Fa.F47_1 ?_)
  refine WL.op rfl rfl (op_load rfl (H.cell (i := 0) rfl rfl) Try.underlying26 rfl ?_)
  refine WL.op rfl rfl (op_eqlN (b := 0) rfl rfl ?_)
  refine WL.op rfl rfl (op_move rfl ?_)
  refine WL.split (t := 15) rfl (fun (hb1 : (decide (E = 0)) = true) => ?_) (fun (hb1 : (decide (E = 0)) = false) => ?_)
  ·
    have hc1 := of_decide_eq_true hb1
    refine WL.yes rfl rfl rfl hb1 rfl (op_move rfl ?_)
    refine WL.yes rfl rfl rfl hb1 rfl (op_lssI (b := (1 : Int)) rfl rfl ?_)
    refine WL.yes rfl rfl rfl hb1 rfl (op_move rfl ?_)
    refine WL.split (t := 18) rfl (fun (hb2 : (decide (n < (1 : Int))) = true) => ?_) (fun (hb2 : (decide (n < (1 : Int))) = false) => ?_)
    ·
      have hc2 := of_decide_eq_true hb2
      refine WL.no rfl rfl rfl hb2 rfl ?_
      refine WL.no rfl rfl rfl hb2 rfl ?_
      refine WL.yes rfl rfl rfl hb1 rfl (op_pickT rfl hb2 rfl ?_)
      refine WL.op rfl rfl (op_pickT rfl hb1 rfl ?_)
      refine WL.nil ?_
      refine WQ.next ?_
      refine WC.yes rfl rfl ?_
      refine WC.seq ?_
      refine WC.region ?_
      refine WL.op rfl rfl (op_move rfl ?_)
      refine WL.op rfl rfl (op_callF Fa.C78 rfl ((fails_ok q S E 2 _ _ (H.part [0] rfl rfl)).mono (fun e w3 hq => ?_)))
      obtain ⟨rfl, hq3⟩ := hq
      refine ⟨_, rfl, ?_⟩
      have H3 : Own T w w3 [.blk q [(str S), (vN 2)] 47] := H.splice [0] [.blk q [(str S), (vN 2)] 47] [] rfl rfl hq3 (Fits.solid True.intro Fits.nil)
      refine WL.op rfl rfl (op_assign rfl ?_)
      refine WL.op rfl rfl (op_assign rfl ?_)
      refine WL.nil ?_
      refine WQ.next ?_
      refine WC.ret ?_
      refine WQ.thenRet ?_
      refine WQ.out (.tmp rfl (.tmp rfl .nil)) ?_
      rw [numR_bad (r := (Rd.mk S 0 E (Nat.zero_le _))) hc1 (by omega)]
      exact ⟨rfl, (by have h := (show Own T w w3 [.blk q [(str S), (vN 2)] 47] from H3); simpa only [Rd.rest, Rd.bad, Rd.on, List.drop_zero, Nat.zero_add] using h)⟩
    ·
      have hc2 := of_decide_eq_false hb2
      refine WL.yes rfl rfl rfl hb2 rfl (op_move rfl ?_)
      refine WL.yes rfl rfl rfl hb2 rfl (op_gtrI (b := (4 : Int)) rfl rfl ?_)
      refine WL.yes rfl rfl rfl hb1 rfl (op_pickF rfl hb2 rfl ?_)
      refine WL.op rfl rfl (op_pickT rfl hb1 rfl ?_)
      refine WL.nil ?_
      refine WQ.next ?_
      refine WC.cond rfl (fun (hb4 : (decide (n > (4 : Int))) = true) => ?_) (fun (hb4 : (decide (n > (4 : Int))) = false) => ?_)
      ·
        have hc4 := of_decide_eq_true hb4
        refine WC.seq ?_
        refine WC.region ?_
        refine WL.op rfl rfl (op_move rfl ?_)
        refine WL.op rfl rfl (op_callF Fa.C78 rfl ((fails_ok q S E 2 _ _ (H.part [0] rfl rfl)).mono (fun e w5 hq => ?_)))
        obtain ⟨rfl, hq5⟩ := hq
        refine ⟨_, rfl, ?_⟩
        have H5 : Own T w w5 [.blk q [(str S), (vN 2)] 47] := H.splice [0] [.blk q [(str S), (vN 2)] 47] [] rfl rfl hq5 (Fits.solid True.intro Fits.nil)
        refine WL.op rfl rfl (op_assign rfl ?_)
        refine WL.op rfl rfl (op_assign rfl ?_)
        refine WL.nil ?_
        refine WQ.next ?_
        refine WC.ret ?_
        refine WQ.thenRet ?_
        refine WQ.out (.tmp rfl (.tmp rfl .nil)) ?_
        rw [numR_bad (r := (Rd.mk S 0 E (Nat.zero_le _))) hc1 (by omega)]
        exact ⟨rfl, (by have h := (show Own T w w5 [.blk q [(str S), (vN 2)] 47] from H5); simpa only [Rd.rest, Rd.bad, Rd.on, List.drop_zero, Nat.zero_add] using h)⟩
      ·
        have hc4 := of_decide_eq_false hb4
        refine WC.skip ?_
        refine WQ.next ?_
        refine WC.seq ?_
        refine WC.region ?_
        refine WL.op rfl rfl (op_move rfl ?_)
        refine WL.op rfl rfl (op_move rfl ?_)
        refine WL.op rfl rfl (op_callF Fa.C31 rfl ((ftake_ok q S E (n) _ _ (H.part [0] rfl rfl) (by first | assumption | omega)).mono (fun e w6 hq => ?_)))
        obtain ⟨rfl, hq6⟩ := hq
        refine ⟨_, rfl, ?_⟩
        have H6 : Own T w w6 [.blk q [(str (takeR (Rd.mk S 0 E (Nat.zero_le _)) n).2.rest), (vN (takeR (Rd.mk S 0 E (Nat.zero_le _)) n).2.f)] 47] := H.splice [0] [.blk q [(str (takeR (Rd.mk S 0 E (Nat.zero_le _)) n).2.rest), (vN (takeR (Rd.mk S 0 E (Nat.zero_le _)) n).2.f)] 47] [] rfl rfl hq6 (Fits.solid True.intro Fits.nil)
        refine WL.op rfl rfl (op_move rfl ?_)
        refine WL.op rfl rfl (op_extract rfl rfl ?_)
        refine WL.op rfl rfl (op_extract rfl rfl ?_)
        refine WL.op rfl rfl (op_assign rfl ?_)
        refine WL.op rfl rfl (op_assign rfl ?_)
        refine WL.nil ?_
        refine WQ.next ?_
        refine WC.seq ?_
        refine WC.region ?_
        refine WL.op rfl rfl (op_assign rfl ?_)
        refine WL.nil ?_
        refine WQ.next ?_
        refine WC.seq ?_
        refine WC.seq ?_
        refine WC.region ?_
        refine WL.op rfl rfl (op_move rfl ?_)
        refine WL.op rfl rfl (op_lenStr Try.underlying9 rfl ?_)
        refine WL.op rfl rfl (op_subI (a := (((takeR (Rd.mk S 0 E (Nat.zero_le _)) n).1.1.length : Nat) : Int)) (b := ((1 : Nat) : Int)) rfl rfl (by omega) ?_)
        refine WL.op rfl rfl (op_assign rfl ?_)
        refine WL.nil ?_
        refine WQ.next ?_
        refine WC.block ?_
        refine WC.loop (α := Nat) (fun j => [(6, (str (takeR (Rd.mk S 0 E (Nat.zero_le _)) n).1.1)), (7, (vN (takeR (Rd.mk S 0 E (Nat.zero_le _)) n).1.2)), (8, (vU32 (gF ((takeR (Rd.mk S 0 E (Nat.zero_le _)) n).1.1.drop j)))), (9, (vI ((j : Int) - (1 : Int))))]) (fun j w' => (j ≤ (takeR (Rd.mk S 0 E (Nat.zero_le _)) n).1.1.length) ∧ Own T w w' [.blk q [(str (takeR (Rd.mk S 0 E (Nat.zero_le _)) n).2.rest), (vN (takeR (Rd.mk S 0 E (Nat.zero_le _)) n).2.f)] 47]) (fun j => j) (takeR (Rd.mk S 0 E (Nat.zero_le _)) n).1.1.length ⟨(by omega), H6⟩ ⟨rfl, rfl, (by rw [List.drop_length]; rfl), rfl, trivial⟩ ?_
        rintro j w7 ⟨hinv, H7⟩
        show WC _ _ _ _ _ [(6, (str (takeR (Rd.mk S 0 E (Nat.zero_le _)) n).1.1)), (7, (vN (takeR (Rd.mk S 0 E (Nat.zero_le _)) n).1.2)), (8, (vU32 (gF ((takeR (Rd.mk S 0 E (Nat.zero_le _)) n).1.1.drop j)))), (9, (vI ((j : Int) - (1 : Int))))] _
        refine WC.seq ?_
        refine WC.seq ?_
        refine WC.region ?_
        refine WL.op rfl rfl (op_move rfl ?_)
        refine WL.op rfl rfl (op_geqI (b := (0 : Int)) rfl rfl ?_)
        refine WL.nil ?_
        refine WQ.next ?_
        refine WC.cond rfl (fun (hb8 : (decide (((j : Int) - (1 : Int)) ≥ (0 : Int))) = true) => ?_) (fun (hb8 : (decide (((j : Int) - (1 : Int)) ≥ (0 : Int))) = false) => ?_)
        ·
          have hc8 := of_decide_eq_true hb8
          obtain ⟨m, hm⟩ : ∃ m, j = m + 1 := ⟨j - 1, by omega⟩
          subst hm
          rw [show (((m + 1 : Nat) : Int) - (1 : Int)) = (m : Int) from by omega]
          refine WC.skip ?_
          refine WQ.next ?_
          refine WC.seq ?_
          refine WC.block ?_
          refine WC.region ?_
          refine WL.op rfl rfl (op_move rfl ?_)
          refine WL.op rfl rfl (op_mulU32 (a := 256) rfl rfl ?_)
          refine WL.op rfl rfl (op_move rfl ?_)
          refine WL.op rfl rfl (op_move rfl ?_)
          refine WL.op rfl rfl (op_indexStrD Try.underlying9 rfl rfl (by omega) ?_)
          refine WL.op rfl rfl (op_convU8U32 (hs := Try.underlying5) (hd := Try.underlying22) rfl ?_)
          refine WL.op rfl rfl (op_addU32 rfl rfl ?_)
          refine WL.op rfl rfl (op_assign rfl ?_)
          refine WL.nil ?_
          refine WQ.inNormal ?_
          refine WQ.next ?_
          refine WC.region ?_
          refine WL.op rfl rfl (op_move rfl ?_)
          refine WL.op rfl rfl (op_subI (a := ((m : Nat) : Int)) (b := ((1 : Nat) : Int)) rfl rfl (by omega) ?_)
          refine WL.op rfl rfl (op_assign rfl ?_)
          refine WL.nil ?_
          exact WQ.round m ⟨(by omega), H7⟩ ⟨rfl, rfl, (congrArg (fun x => some (vU32 x)) (gF_drop (takeR (Rd.mk S 0 E (Nat.zero_le _)) n).1.1 m (by omega)).symm), rfl, trivial⟩ (by omega)
        ·
          have hc8 := of_decide_eq_false hb8
          refine WC.exit ?_
          refine WQ.thenExit ?_
          refine WQ.thenExit ?_
          refine WQ.inHere ?_
          refine WQ.next ?_
          refine WC.seq ?_
          refine WC.region ?_
          refine WL.op rfl rfl (op_move rfl ?_)
          refine WL.op rfl rfl (op_move rfl ?_)
          refine WL.op rfl rfl (op_assign rfl ?_)
          refine WL.op rfl rfl (op_assign rfl ?_)
          refine WL.nil ?_
          refine WQ.next ?_
          refine WC.ret ?_
          refine WQ.out (.tmp rfl (.tmp rfl .nil)) ?_
          have hj : j = 0 := (by omega)
          subst hj
          rw [numR_take (r := (Rd.mk S 0 E (Nat.zero_le _))) (fun h0 hx => by omega)]
          exact ⟨rfl, H7⟩
  ·
    have hc1 := of_decide_eq_false hb1
    refine WL.no rfl rfl rfl hb1 rfl ?_
    refine WL.no rfl rfl rfl hb1 rfl ?_
    refine WL.no rfl rfl rfl hb1 rfl ?_
    refine WL.non rfl rfl rfl rfl ?_
    refine WL.non rfl rfl rfl rfl ?_
    refine WL.no rfl rfl rfl hb1 rfl ?_
    refine WL.op rfl rfl (op_pickF rfl hb1 rfl ?_)
    refine WL.nil ?_
    refine WQ.next ?_
    refine WC.no rfl rfl ?_
    refine WC.skip ?_
    refine WQ.next ?_
    refine WC.seq ?_
    refine WC.region ?_
    refine WL.op rfl rfl (op_move rfl ?_)
    refine WL.op rfl rfl (op_move rfl ?_)
    refine WL.op rfl rfl (op_callF Fa.C31 rfl ((ftake_ok q S E (n) _ _ (H.part [0] rfl rfl) (by first | assumption | omega)).mono (fun e w9 hq => ?_)))
    obtain ⟨rfl, hq9⟩ := hq
    refine ⟨_, rfl, ?_⟩
    have H9 : Own T w w9 [.blk q [(str (takeR (Rd.mk S 0 E (Nat.zero_le _)) n).2.rest), (vN (takeR (Rd.mk S 0 E (Nat.zero_le _)) n).2.f)] 47] := H.splice [0] [.blk q [(str (takeR (Rd.mk S 0 E (Nat.zero_le _)) n).2.rest), (vN (takeR (Rd.mk S 0 E (Nat.zero_le _)) n).2.f)] 47] [] rfl rfl hq9 (Fits.solid True.intro Fits.nil)
    refine WL.op rfl rfl (op_move rfl ?_)
    refine WL.op rfl rfl (op_extract rfl rfl ?_)
    refine WL.op rfl rfl (op_extract rfl rfl ?_)
    refine WL.op rfl rfl (op_assign rfl ?_)
    refine WL.op rfl rfl (op_assign rfl ?_)
    refine WL.nil ?_
    refine WQ.next ?_
    refine WC.seq ?_
    refine WC.region ?_
    refine WL.op rfl rfl (op_assign rfl ?_)
    refine WL.nil ?_
    refine WQ.next ?_
    refine WC.seq ?_
    refine WC.seq ?_
    refine WC.region ?_
    refine WL.op rfl rfl (op_move rfl ?_)
    refine WL.op rfl rfl (op_lenStr Try.underlying9 rfl ?_)
    refine WL.op rfl rfl (op_subI (a := (((takeR (Rd.mk S 0 E (Nat.zero_le _)) n).1.1.length : Nat) : Int)) (b := ((1 : Nat) : Int)) rfl rfl (by omega) ?_)
    refine WL.op rfl rfl (op_assign rfl ?_)
    refine WL.nil ?_
    refine WQ.next ?_
    refine WC.block ?_
    refine WC.loop (α := Nat) (fun j => [(6, (str (takeR (Rd.mk S 0 E (Nat.zero_le _)) n).1.1)), (7, (vN (takeR (Rd.mk S 0 E (Nat.zero_le _)) n).1.2)), (8, (vU32 (gF ((takeR (Rd.mk S 0 E (Nat.zero_le _)) n).1.1.drop j)))), (9, (vI ((j : Int) - (1 : Int))))]) (fun j w' => (j ≤ (takeR (Rd.mk S 0 E (Nat.zero_le _)) n).1.1.length) ∧ Own T w w' [.blk q [(str (takeR (Rd.mk S 0 E (Nat.zero_le _)) n).2.rest), (vN (takeR (Rd.mk S 0 E (Nat.zero_le _)) n).2.f)] 47]) (fun j => j) (takeR (Rd.mk S 0 E (Nat.zero_le _)) n).1.1.length ⟨(by omega), H9⟩ ⟨rfl, rfl, (by rw [List.drop_length]; rfl), rfl, trivial⟩ ?_
    rintro j w10 ⟨hinv, H10⟩
    show WC _ _ _ _ _ [(6, (str (takeR (Rd.mk S 0 E (Nat.zero_le _)) n).1.1)), (7, (vN (takeR (Rd.mk S 0 E (Nat.zero_le _)) n).1.2)), (8, (vU32 (gF ((takeR (Rd.mk S 0 E (Nat.zero_le _)) n).1.1.drop j)))), (9, (vI ((j : Int) - (1 : Int))))] _
    refine WC.seq ?_
    refine WC.seq ?_
    refine WC.region ?_
    refine WL.op rfl rfl (op_move rfl ?_)
    refine WL.op rfl rfl (op_geqI (b := (0 : Int)) rfl rfl ?_)
    refine WL.nil ?_
    refine WQ.next ?_
    refine WC.cond rfl (fun (hb11 : (decide (((j : Int) - (1 : Int)) ≥ (0 : Int))) = true) => ?_) (fun (hb11 : (decide (((j : Int) - (1 : Int)) ≥ (0 : Int))) = false) => ?_)
    ·
      have hc11 := of_decide_eq_true hb11
      obtain ⟨m, hm⟩ : ∃ m, j = m + 1 := ⟨j - 1, by omega⟩
      subst hm
      rw [show (((m + 1 : Nat) : Int) - (1 : Int)) = (m : Int) from by omega]
      refine WC.skip ?_
      refine WQ.next ?_
      refine WC.seq ?_
      refine WC.block ?_
      refine WC.region ?_
      refine WL.op rfl rfl (op_move rfl ?_)
      refine WL.op rfl rfl (op_mulU32 (a := 256) rfl rfl ?_)
      refine WL.op rfl rfl (op_move rfl ?_)
      refine WL.op rfl rfl (op_move rfl ?_)
      refine WL.op rfl rfl (op_indexStrD Try.underlying9 rfl rfl (by omega) ?_)
      refine WL.op rfl rfl (op_convU8U32 (hs := Try.underlying5) (hd := Try.underlying22) rfl ?_)
      refine WL.op rfl rfl (op_addU32 rfl rfl ?_)
      refine WL.op rfl rfl (op_assign rfl ?_)
      refine WL.nil ?_
      refine WQ.inNormal ?_
      refine WQ.next ?_
      refine WC.region ?_
      refine WL.op rfl rfl (op_move rfl ?_)
      refine WL.op rfl rfl (op_subI (a := ((m : Nat) : Int)) (b := ((1 : Nat) : Int)) rfl rfl (by omega) ?_)
      refine WL.op rfl rfl (op_assign rfl ?_)
      refine WL.nil ?_
      exact WQ.round m ⟨(by omega), H10⟩ ⟨rfl, rfl, (congrArg (fun x => some (vU32 x)) (gF_drop (takeR (Rd.mk S 0 E (Nat.zero_le _)) n).1.1 m (by omega)).symm), rfl, trivial⟩ (by omega)
    ·
      have hc11 := of_decide_eq_false hb11
      refine WC.exit ?_
      refine WQ.thenExit ?_
      refine WQ.thenExit ?_
      refine WQ.inHere ?_
      refine WQ.next ?_
      refine WC.seq ?_
      refine WC.region ?_
      refine WL.op rfl rfl (op_move rfl ?_)
      refine WL.op rfl rfl (op_move rfl ?_)
      refine WL.op rfl rfl (op_assign rfl ?_)
      refine WL.op rfl rfl (op_assign rfl ?_)
      refine WL.nil ?_
      refine WQ.next ?_
      refine WC.ret ?_
      refine WQ.out (.tmp rfl (.tmp rfl .nil)) ?_
      have hj : j = 0 := (by omega)
      subst hj
      rw [numR_take (r := (Rd.mk S 0 E (Nat.zero_le _))) (fun h0 _ => absurd h0 hc1)]
      exact ⟨rfl, H10⟩
set_option maxRecDepth 100000 in
theorem fend_ok (q : Nat) (S : List UInt8) (E : Nat) (T : List Nat) (w : World) (H : Own T w w [.blk q [(str S), (vN E)] 47]) (hr : S.length < 2 ^ 47) :
    Calls Try.prog 35 #[(ptr q 0)] w (fun e w' => e = .returned (vN (endR (Rd.mk S 0 E (Nat.zero_le _))).1) ∧ Own T w w' [.blk q [str (endR (Rd.mk S 0 E (Nat.zero_le _))).2.rest, vN (endR (Rd.mk S 0 E (Nat.zero_le _))).2.f] 47]) := by
  refine enter (args := [(ptr q 0)]) Try.func35 rfl rfl ?_
  refine WC.seq ?_
  refine WC.region ?_
  refine WL.op rfl rfl (op_assign rfl ?_)
  refine WL.nil ?_
  refine WQ.next ?_
  refine WC.seq ?_
  refine WC.seq ?_
  refine WC.region ?_
  refine WL.op rfl rfl (op_move rfl ?_)
  refine WL.op rfl rfl (op_nilCheck rfl ?_)
  refine WL.op rfl rfl (op_fieldAddr rfl Fa.F47_1 ?_)
  refine WL.op rfl rfl (op_load rfl (H.cell (i := 0) rfl rfl) Try.underlying26 rfl ?_)
  refine WL.op rfl rfl (op_neqN (b := 0) rfl rfl ?_)
  refine WL.nil ?_
  refine WQ.next ?_
  refine WC.cond rfl (fun (hb1 : (decide (E ≠ 0)) = true) => ?_) (fun (hb1 : (decide (E ≠ 0)) = false) => ?_)
  ·
    have hc1 := of_decide_eq_true hb1
    refine WC.seq ?_
    refine WC.region ?_
    refine WL.op rfl rfl (op_move rfl ?_)
    refine WL.op rfl rfl (op_nilCheck rfl ?_)
    refine WL.op rfl rfl (op_fieldAddr rfl Fa.F47_1 ?_)
    refine WL.op rfl rfl (op_load rfl (H.cell (i := 0) rfl rfl) Try.underlying26 rfl ?_)
    refine WL.op rfl rfl (op_assign rfl ?_)
    refine WL.nil ?_
    refine WQ.next ?_
    refine WC.ret ?_
    refine WQ.thenRet ?_
    refine WQ.out (.tmp rfl .nil) ?_
    rw [endR, if_pos (show (Rd.mk S 0 E (Nat.zero_le _)).f ≠ 0 from hc1)]
    exact ⟨rfl, (by have h := (show Own T w w [.blk q [(str S), (vN E)] 47] from H); simpa only [Rd.rest, Rd.bad, Rd.on, List.drop_zero, Nat.zero_add] using h)⟩
  ·
    have hc1 := of_decide_eq_false hb1
    refine WC.skip ?_
    refine WQ.next ?_
    refine WC.seq ?_
    refine WC.seq ?_
    refine WC.region ?_
    refine WL.op rfl rfl (op_move rfl ?_)
    refine WL.op rfl rfl (op_nilCheck rfl ?_)
    refine WL.op rfl rfl (op_fieldAddr rfl Fa.F47_0 ?_)
    refine WL.op rfl rfl (op_load rfl (H.cell (i := 0) rfl rfl) Try.underlying9 rfl ?_)
    refine WL.op rfl rfl (op_neqStr rfl rfl ?_)
    refine WL.nil ?_
    refine WQ.next ?_
    refine WC.cond rfl (fun (hb2 : (decide (S ≠ [])) = true) => ?_) (fun (hb2 : (decide (S ≠ [])) = false) => ?_)
    ·
      have hc2 := of_decide_eq_true hb2
      refine WC.seq ?_
      refine WC.region ?_
      refine WL.op rfl rfl (op_move rfl ?_)
      refine WL.op rfl rfl (op_callF Fa.C78 rfl ((fails_ok q S E 7 _ _ (H.part [0] rfl rfl)).mono (fun e w3 hq => ?_)))
      obtain ⟨rfl, hq3⟩ := hq
      refine ⟨_, rfl, ?_⟩
      have H3 : Own T w w3 [.blk q [(str S), (vN 7)] 47] := H.splice [0] [.blk q [(str S), (vN 7)] 47] [] rfl rfl hq3 (Fits.solid True.intro Fits.nil)
      refine WL.op rfl rfl (op_assign rfl ?_)
      refine WL.nil ?_
      refine WQ.next ?_
      refine WC.ret ?_
      refine WQ.thenRet ?_
      refine WQ.out (.tmp rfl .nil) ?_
      rw [endR, if_neg (show ¬ ((Rd.mk S 0 E (Nat.zero_le _)).f ≠ 0) from hc1), if_pos (show S.length - 0 > 0 from List.length_pos_iff.2 hc2)]
      exact ⟨rfl, (by have h := (show Own T w w3 [.blk q [(str S), (vN 7)] 47] from H3); simpa only [Rd.rest, Rd.bad, Rd.on, List.drop_zero, Nat.zero_add] using h)⟩
    ·
      have hc2 := of_decide_eq_false hb2
      refine WC.skip ?_
      refine WQ.next ?_
      refine WC.seq ?_
      refine WC.region ?_
      refine WL.op rfl rfl (op_assign rfl ?_)
      refine WL.nil ?_
      refine WQ.next ?_
      refine WC.ret ?_
      refine WQ.out (.tmp rfl .nil) ?_
      rw [endR, if_neg (show ¬ ((Rd.mk S 0 E (Nat.zero_le _)).f ≠ 0) from hc1), if_neg (show ¬ (S.length - 0 > 0) from fun h => hc2 (List.length_pos_iff.1 h))]
      exact ⟨rfl, (by have h := (show Own T w w [.blk q [(str S), (vN E)] 47] from H); simpa only [Rd.rest, Rd.bad, Rd.on, List.drop_zero, Nat.zero_add] using h)⟩
end Go.Proofs.Ytpnghdalnghpcaa
/-! from WImg2 -/
namespace Go.Proofs.Ytpnghdalnghpcaa
open Go.Owl Go.Spec
set_option maxRecDepth 100000 in
theorem cc_new (b : Nat) (v : Value) (T0 : TypeId) (T : List Nat) (w : World) (H : Own T w w [.blk b [(.pointer none), v] T0]) (hc : Try.prog.cellsOf T0 = 2) (hl : liesAt Try.prog Try.prog.depth T0 1 0 121 1 = true) :
    Calls Try.prog 126 #[(ptr b 0)] w (fun e w' => e = .returned undef ∧ Own T w w' [.blk b [ptr b 0, v] T0]) := by
  refine enter (args := [(ptr b 0)]) Try.func126 rfl rfl ?_
  refine WC.seq ?_
  refine WC.region ?_
  refine WL.op rfl rfl (op_move rfl ?_)
  refine WL.op rfl rfl (op_nilCheck rfl ?_)
  refine WL.op rfl rfl (op_fieldAddr rfl Fa.F121_0 ?_)
  refine WL.op rfl rfl (op_load rfl (H.cell (i := 0) rfl rfl) Try.underlying119 rfl ?_)
  refine WL.op rfl rfl (op_eqlPN Fa.PT119 rfl rfl ?_)
  refine WL.nil ?_
  refine WQ.next ?_
  refine WC.yes rfl rfl ?_
  refine WC.region ?_
  refine WL.op rfl rfl (op_move rfl ?_)
  refine WL.op rfl rfl (op_move rfl ?_)
  refine WL.op rfl rfl (op_toUnsafe (i := 0) H Try.underlying119 Try.underlying192 Fa.CO121 rfl rfl rfl ?_)
  refine WL.op rfl rfl (op_noEscape Try.func142 (by kernel_rfl) (by kernel_rfl) (by kernel_rfl) (by kernel_rfl) rfl ?_)
  refine WL.op rfl rfl (op_fromUnsafe (i := 0) H Try.underlying192 Try.underlying119 Fa.CO121 rfl rfl rfl hc hl ?_)
  refine WL.op rfl rfl (op_nilCheck rfl ?_)
  refine WL.op rfl rfl (op_fieldAddr rfl Fa.F121_0 ?_)
  refine WL.op rfl rfl (op_storeB (i := 0) H rfl rfl rfl rfl rfl Fa.I119 (fun w1 H1 => ?_))
  refine WL.nil ?_
  refine WQ.outEnd .nil ?_
  exact ⟨rfl, H1⟩
set_option maxRecDepth 100000 in
theorem cc_old (b : Nat) (v : Value) (T0 : TypeId) (T : List Nat) (w : World) (H : Own T w w [.blk b [(ptr b 0), v] T0]) (hc : Try.prog.cellsOf T0 = 2) (hl : liesAt Try.prog Try.prog.depth T0 1 0 121 1 = true) :
    Calls Try.prog 126 #[(ptr b 0)] w (fun e w' => e = .returned undef ∧ Own T w w' [.blk b [ptr b 0, v] T0]) := by
  refine enter (args := [(ptr b 0)]) Try.func126 rfl rfl ?_
  refine WC.seq ?_
  refine WC.region ?_
  refine WL.op rfl rfl (op_move rfl ?_)
  refine WL.op rfl rfl (op_nilCheck rfl ?_)
  refine WL.op rfl rfl (op_fieldAddr rfl Fa.F121_0 ?_)
  refine WL.op rfl rfl (op_load rfl (H.cell (i := 0) rfl rfl) Try.underlying119 rfl ?_)
  refine WL.op rfl rfl (op_eqlPN Fa.PT119 rfl rfl ?_)
  refine WL.nil ?_
  refine WQ.next ?_
  refine WC.no rfl rfl ?_
  refine WC.seq ?_
  refine WC.region ?_
  refine WL.op rfl rfl (op_move rfl ?_)
  refine WL.op rfl rfl (op_nilCheck rfl ?_)
  refine WL.op rfl rfl (op_fieldAddr rfl Fa.F121_0 ?_)
  refine WL.op rfl rfl (op_load rfl (H.cell (i := 0) rfl rfl) Try.underlying119 rfl ?_)
  refine WL.op rfl rfl (op_move rfl ?_)
  refine WL.op rfl rfl (op_neqPP Try.underlying119 Fa.CO121 rfl rfl ?_)
  refine WL.nil ?_
  refine WQ.next ?_
  refine WC.no rfl rfl ?_
  refine WC.skip ?_
  refine WQ.outEnd .nil ?_
  exact ⟨rfl, H⟩
theorem cc_ok (b : Nat) (A v : Value) (T0 : TypeId) (T : List Nat) (w : World) (H : Own T w w [.blk b [A, v] T0]) (hA : A = .pointer none ∨ A = ptr b 0) (hc : Try.prog.cellsOf T0 = 2) (hl : liesAt Try.prog Try.prog.depth T0 1 0 121 1 = true) :
    Calls Try.prog 126 #[ptr b 0] w (fun e w' => e = .returned undef ∧ Own T w w' [.blk b [ptr b 0, v] T0]) := by
  rcases hA with rfl | rfl
  · exact cc_new b v T0 T w H hc hl
  · exact cc_old b v T0 T w H hc hl
set_option maxRecDepth 100000 in
theorem ws_ok (b : Nat) (A v : Value) (n : Nat) (bs s : List UInt8) (T0 : TypeId) (T : List Nat) (w : World) (H : Own T w w [.blk b [A, v] T0, .row v 5 1 n (List.map vU8 bs)]) (hA : A = .pointer none ∨ A = ptr b 0) (hc : Try.prog.cellsOf T0 = 2) (hl : liesAt Try.prog Try.prog.depth T0 1 0 121 1 = true) (hs : n + s.length < 2 ^ 46) :
    Calls Try.prog 85 #[(ptr b 0), (str s)] w (fun e w' => ∃ v, e = .returned (.tuple #[vN s.length, .nilIface]) ∧ Own T w w' [.blk b [ptr b 0, v] T0, .row v 5 1 (n + s.length) (List.map vU8 (bs ++ s))]) := by
  refine enter (args := [(ptr b 0), (str s)]) Try.func85 rfl rfl ?_
  refine WC.seq ?_
  refine WC.region ?_
  refine WL.op rfl rfl (op_assign rfl ?_)
  refine WL.op rfl rfl (op_assign rfl ?_)
  refine WL.nil ?_
  refine WQ.next ?_
  refine WC.seq ?_
  refine WC.region ?_
  refine WL.op rfl rfl (op_move rfl ?_)
  refine WL.op rfl rfl (op_callF Fa.C126 rfl ((cc_ok b A v T0 _ _ (H.part [0] rfl rfl) hA hc hl).mono (fun e w1 hq => ?_)))
  obtain ⟨rfl, hq1⟩ := hq
  refine ⟨_, rfl, ?_⟩
  have H1 : Own T w w1 [.blk b [(ptr b 0), v] T0, .row v 5 1 n (List.map vU8 bs)] := H.splice [0] [.blk b [(ptr b 0), v] T0] [] rfl rfl hq1 (Fits.solid True.intro Fits.nil)
  refine WL.nil ?_
  refine WQ.next ?_
  refine WC.seq ?_
  refine WC.region ?_
  refine WL.op rfl rfl (op_move rfl ?_)
  refine WL.op rfl rfl (op_move rfl ?_)
  refine WL.op rfl rfl (op_nilCheck rfl ?_)
  refine WL.op rfl rfl (op_fieldAddr rfl Fa.F121_1 ?_)
  refine WL.op rfl rfl (op_load rfl (H1.cell (i := 0) rfl rfl) Try.underlying73 rfl ?_)
  refine WL.op rfl rfl (op_move rfl ?_)
  refine WL.op rfl rfl (op_appendM (f := vU8) (l := bs) (l' := s) (i := 1) H1 Try.underlying73 Fa.I5 rfl rfl rfl rfl (Src.ofStr Try.underlying9) (one_mapM (fun _ => rfl)) (by omega) (by omega) (fun v2 w2 H2 => ?_))
  refine WL.op rfl rfl (op_nilCheck rfl ?_)
  refine WL.op rfl rfl (op_fieldAddr rfl Fa.F121_1 ?_)
  refine WL.op rfl rfl (op_storeB (i := 0) H2 rfl rfl rfl rfl (Arr.one (H2.arrR (i := 1) rfl)) Fa.I73 (fun w3 H3 => ?_))
  refine WL.nil ?_
  refine WQ.next ?_
  refine WC.seq ?_
  refine WC.region ?_
  refine WL.op rfl rfl (op_move rfl ?_)
  refine WL.op rfl rfl (op_lenStr Try.underlying9 rfl ?_)
  refine WL.op rfl rfl (op_assign rfl ?_)
  refine WL.op rfl rfl (op_assign rfl ?_)
  refine WL.nil ?_
  refine WQ.next ?_
  refine WC.ret ?_
  refine WQ.out (.tmp rfl (.tmp rfl .nil)) ?_
  exact ⟨_, rfl, H3⟩
set_option maxRecDepth 100000 in
theorem bstr_1 (b : Nat) (A : Value) (n : Nat) (bs : List UInt8) (T0 : TypeId) (a0 : Option Addr) (cap : Nat) (T : List Nat) (w : World) (H : Own T w w [.blk b [A, (.slice a0 n cap)] T0, .row (.slice a0 n cap) 5 1 n (List.map vU8 bs)]) (hz : a0 = none ∨ cap ≠ 0) :
    Calls Try.prog 87 #[(ptr b 0)] w (fun e w' => e = .returned (str bs) ∧ Fr T w w') := by
  refine enter (args := [(ptr b 0)]) Try.func87 rfl rfl ?_
  refine WC.seq ?_
  refine WC.region ?_
  refine WL.op rfl rfl (op_assign rfl ?_)
  refine WL.nil ?_
  refine WQ.next ?_
  refine WC.seq ?_
  refine WC.draw 10 Fa.M H (HW.op rfl (fun w1 H1 => op_move rfl ⟨rfl, Fr.refl _ _⟩) (HW.op rfl (fun w1 H1 => op_nilCheck rfl ⟨rfl, Fr.refl _ _⟩) (HW.op rfl (fun w1 H1 => op_fieldAddr rfl Fa.F121_1 ⟨rfl, Fr.refl _ _⟩) (HW.op rfl (fun w1 H1 => op_load rfl (H1.cell (i := 0) rfl rfl) Try.underlying73 rfl ⟨rfl, Fr.refl _ _⟩) (HW.op rfl (fun w1 H1 => op_sliceData rfl hz ⟨rfl, Fr.refl _ _⟩) (HW.op rfl (fun w1 H1 => op_move rfl ⟨rfl, Fr.refl _ _⟩) (HW.op rfl (fun w1 H1 => op_nilCheck rfl ⟨rfl, Fr.refl _ _⟩) (HW.op rfl (fun w1 H1 => op_fieldAddr rfl Fa.F121_1 ⟨rfl, Fr.refl _ _⟩) (HW.op rfl (fun w1 H1 => op_load rfl (H1.cell (i := 0) rfl rfl) Try.underlying73 rfl ⟨rfl, Fr.refl _ _⟩) (HW.op rfl (fun w1 H1 => op_lenA Try.underlying73 rfl (H1.arrR (i := 1) rfl) ⟨rfl, Fr.refl _ _⟩)  HW.nil)))))))))) (by kernel_rfl) ?_
  intro β1 w1 H1
  refine WL.op rfl rfl (op_unsafeString (i := 1) H1 rfl Try.underlying177 Fa.CO5 rfl rfl (fun w2 H2 => ?_))
  refine WL.op rfl rfl (op_assign rfl ?_)
  refine WL.nil ?_
  refine WQ.next ?_
  refine WC.ret ?_
  refine WQ.out (.tmp rfl .nil) ?_
  exact ⟨rfl, H1.frPart (I := [1]) rfl H2⟩
theorem bstr_ok (b : Nat) (A v : Value) (n : Nat) (bs : List UInt8) (T0 : TypeId) (T : List Nat) (w : World) (H : Own T w w [.blk b [A, v] T0, .row v 5 1 n (List.map vU8 bs)]) (hz : v = .slice none 0 0 ∨ n ≠ 0) :
    Calls Try.prog 87 #[ptr b 0] w (fun e w' => e = .returned (str bs) ∧ Fr T w w') := by
  obtain ⟨a0, cap, rfl, h⟩ := H.rowForm (i := 1) rfl hz
  exact bstr_1 b A n bs T0 a0 cap T w H h
set_option maxRecDepth 100000 in
theorem nums_ok (b : Nat) (v lv : Value) (q : Nat) (bs : List UInt8) (l : List UInt32) (n : Nat) (T : List Nat) (w : World) (H : Own T w w [.blk b [(ptr b 0), v] 123, .row v 5 1 q (List.map vU8 bs)]) (hA : ∀ w1, Fr T w w1 → Arr w1 lv 1 l.length (List.map vU32 l)) (hb : q + 4 * l.length < 2 ^ 46) :
    Calls Try.prog 86 #[(ptr b 0), (vN n), lv] w (fun e w' => ∃ v', e = .returned undef ∧ Own T w w' [.blk b [ptr b 0, v'] 123, .row v' 5 1 (bs ++ (numsTo l n l.length)).length (List.map vU8 (bs ++ (numsTo l n l.length)))]) := by
  refine enter (args := [(ptr b 0), (vN n), lv]) Try.func86 rfl rfl ?_
  obtain rfl : bs.length = q := map_len H (i := 1) rfl
  refine WC.seq ?_
  refine WC.region ?_
  refine WL.op rfl rfl (op_move rfl ?_)
  refine WL.op rfl rfl (op_lenA Try.underlying64 rfl (hA _ H.fr) ?_)
  refine WL.op rfl rfl (op_move rfl ?_)
  refine WL.nil ?_
  refine WQ.next ?_
  refine WC.block ?_
  refine WC.loop (α := Nat × Value) (fun (k, v2) => [(0, (ptr b 0)), (1, (vN n)), (10, lv), (11, (vN l.length)), (12, (vN k))]) (fun (k, v2) w' => (k ≤ l.length) ∧ Own T w w' [.blk b [(ptr b 0), v2] 123, .row v2 5 1 (bs ++ (numsTo l n k)).length (List.map vU8 (bs ++ (numsTo l n k)))]) (fun (k, v2) => l.length - k) (0, v) ⟨Nat.zero_le _, (Own.rowEqN (i := 1) (f := vU8) H rfl (List.append_nil bs).symm (by rw [numsTo, List.append_nil]))⟩ ⟨rfl, rfl, rfl, rfl, rfl, trivial⟩ ?_
  rintro ⟨k, v2⟩ w1 ⟨hinv, H1⟩
  show WC _ _ _ _ _ [(0, (ptr b 0)), (1, (vN n)), (10, lv), (11, (vN l.length)), (12, (vN k))] _
  have hnl := numsTo_len l n k
  have hnk := numE_len (l.getD k 0) n
  refine WC.seq ?_
  refine WC.region ?_
  refine WL.op rfl rfl (op_lssN rfl rfl ?_)
  refine WL.nil ?_
  refine WQ.next ?_
  refine WC.seq ?_
  refine WC.cond rfl (fun (hb2 : (decide (k < l.length)) = true) => ?_) (fun (hb2 : (decide (k < l.length)) = false) => ?_)
  ·
    have hc2 := of_decide_eq_true hb2
    refine WC.skip ?_
    refine WQ.next ?_
    refine WC.seq ?_
    refine WC.block ?_
    refine WC.seq ?_
    refine WC.region ?_
    refine WL.op rfl rfl (op_indexAddr1 Try.underlying64 Fa.I22 rfl (hA _ H1.fr) rfl (by omega) ?_)
    refine WL.op rfl rfl (op_load rfl ((hA _ H1.fr).at (get_map vU32 0 (Arr.ltM (hA _ H1.fr) (by omega)))) Try.underlying22 rfl ?_)
    refine WL.op rfl rfl (op_assign rfl ?_)
    refine WL.nil ?_
    refine WQ.next ?_
    refine WC.seq ?_
    refine WC.region ?_
    refine WL.op rfl rfl (op_move rfl ?_)
    refine WL.op rfl rfl (op_move rfl ?_)
    refine WL.op rfl rfl (op_callF Fa.C17 rfl ((num_ok (l.getD k 0) ((n : Nat)) _).mono (fun e w3 hq => ?_)))
    obtain ⟨rfl, hf3⟩ := hq
    refine ⟨_, rfl, ?_⟩
    have H3 := H1.fr' hf3
    refine WL.op rfl rfl (op_move rfl ?_)
    refine WL.op rfl rfl (op_extract rfl rfl ?_)
    refine WL.op rfl rfl (op_extract rfl rfl ?_)
    refine WL.op rfl rfl (op_assign rfl ?_)
    refine WL.op rfl rfl (op_assign rfl ?_)
    refine WL.nil ?_
    refine WQ.next ?_
    refine WC.region ?_
    refine WL.op rfl rfl (op_move rfl ?_)
    refine WL.op rfl rfl (op_nilCheck rfl ?_)
    refine WL.op rfl rfl (op_fieldAddr rfl Fa.F123_0 ?_)
    refine WL.op rfl rfl (op_move rfl ?_)
    refine WL.op rfl rfl (op_callF Fa.C85 rfl ((ws_ok b (ptr b 0) v2 (bs ++ (numsTo l n k)).length (bs ++ (numsTo l n k)) (numS (l.getD k 0) (n : Nat)) 123 _ _ (H3.part [0, 1] rfl rfl) (.inr rfl) Fa.CO123 Fa.LI123_121 (by rw [List.length_append]; omega)).mono (fun e w4 hq => ?_)))
    obtain ⟨v4, rfl, hq4⟩ := hq
    refine ⟨_, rfl, ?_⟩
    have H4 : Own T w w4 [.blk b [(ptr b 0), v4] 123, .row v4 5 1 ((bs ++ (numsTo l n k)).length + (numS (l.getD k 0) (n : Nat)).length) (List.map vU8 ((bs ++ (numsTo l n k)) ++ (numS (l.getD k 0) (n : Nat))))] := H3.splice [0, 1] [.blk b [(ptr b 0), v4] 123, .row v4 5 1 ((bs ++ (numsTo l n k)).length + (numS (l.getD k 0) (n : Nat)).length) (List.map vU8 ((bs ++ (numsTo l n k)) ++ (numS (l.getD k 0) (n : Nat))))] [] rfl rfl hq4 (Fits.solid True.intro (Fits.solid True.intro Fits.nil))
    refine WL.nil ?_
    refine WQ.inNormal ?_
    refine WQ.next ?_
    refine WC.region ?_
    refine WL.op rfl rfl (op_addN (b := 1) rfl rfl (by omega) ?_)
    refine WL.op rfl rfl (op_move rfl ?_)
    refine WL.nil ?_
    exact WQ.round (k + 1, v4) ⟨(by omega), (Own.rowEqN (i := 1) (f := vU8) H4 rfl (List.append_assoc ..) (by rw [numsTo]; simp only [List.length_append]; omega))⟩ ⟨rfl, rfl, rfl, rfl, rfl, trivial⟩ (by show l.length - (k + 1) < l.length - k; omega)
  ·
    have hc2 := of_decide_eq_false hb2
    refine WC.exit ?_
    refine WQ.thenExit ?_
    refine WQ.thenExit ?_
    refine WQ.inHere ?_
    refine WQ.outEnd .nil ?_
    exact ⟨_, rfl, (by have e : k = l.length := (by omega); have h := (show Own T w w1 [.blk b [(ptr b 0), v2] 123, .row v2 5 1 (bs ++ (numsTo l n k)).length (List.map vU8 (bs ++ (numsTo l n k)))] from H1); rw [e] at h; exact h)⟩
theorem nums1_ok (b : Nat) (v lv : Value) (q : Nat) (bs : List UInt8) (u : UInt32) (n : Nat) (T : List Nat) (w : World) (H : Own T w w [.blk b [ptr b 0, v] 123, .row v 5 1 q (List.map vU8 bs)]) (hA : ∀ w1, Fr T w w1 → Arr w1 lv 1 1 (List.map vU32 [u])) (hb : q < 2 ^ 45) :
    Calls Try.prog 86 #[ptr b 0, vN n, lv] w (fun e w' => ∃ v', e = .returned undef ∧ Own T w w' [.blk b [ptr b 0, v'] 123, .row v' 5 1 (bs ++ numS u n).length (List.map vU8 (bs ++ numS u n))]) := by
  have h := nums_ok b v lv q bs [u] n T w H hA (by show q + 4 * 1 < 2 ^ 46; omega)
  rw [show numsTo [u] n [u].length = numS u n from List.nil_append _] at h
  exact h
end Go.Proofs.Ytpnghdalnghpcaa
