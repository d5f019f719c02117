/- General lemmas and walks: FWInsn, FWRef4, FWSha, FWSha2, FWRef2, FWMac, FWBuild, FWSlot, FWSlot2, FWSlot3, FWSlot4, FWSlot5, FWSlot6, FWSlot7, FWSlot8, FWSlot9, FWSlot10, FWSlot11, FWSlot12, FWSlot13, FWSlot14, WInsn, WRef4, WSha, WSha2. No condition but what each theorem names. -/
import Derived.Test.YtbjhccnffacbcaaGreatQe5eb1a5d
import Derived.Test.YtbjhccnffacbcaaGreatQ76ffd70d
import Derived.Test.YtbjhccnffacbcaaGreatChecked
import Derived.Test.YtbjhccnffacbcaaGreatQ54427b1e
/-! from FWInsn -/
/- Closed facts, off the tables of the program. -/
namespace Go.Proofs.YtbjhccnffacbcaaGreat
open Go.Owl
namespace Fa
theorem C187 : callB Tryz.prog 187 = true := by kernel_rfl
theorem I5 : tiB Tryz.prog 5 = some ([(vU8 0)], 1, 1) := by kernel_rfl
end Fa
end Go.Proofs.YtbjhccnffacbcaaGreat
/-! from FWRef4 -/
/- Closed facts, off the tables of the program. -/
namespace Go.Proofs.YtbjhccnffacbcaaGreat
open Go.Owl
namespace Fa
end Fa
end Go.Proofs.YtbjhccnffacbcaaGreat
/-! from FWSha -/
/- Closed facts, off the tables of the program. -/
namespace Go.Proofs.YtbjhccnffacbcaaGreat
open Go.Owl
namespace Fa
theorem C226 : callB Tryz.prog 226 = true := by kernel_rfl
theorem C228 : callB Tryz.prog 228 = true := by kernel_rfl
theorem C243 : callB Tryz.prog 243 = true := by kernel_rfl
theorem C244 : callB Tryz.prog 244 = true := by kernel_rfl
theorem C245 : callB Tryz.prog 245 = true := by kernel_rfl
theorem F325_0 : faB Tryz.prog 325 0 = some (0, 8, false) := by kernel_rfl
theorem F325_1 : faB Tryz.prog 325 1 = some (8, 1, true) := by kernel_rfl
theorem F325_2 : faB Tryz.prog 325 2 = some (9, 1, true) := by kernel_rfl
theorem I114 : tiB Tryz.prog 114 = some ([(.slice none 0 0)], 1, 24) := by kernel_rfl
theorem I22 : tiB Tryz.prog 22 = some ([(vU32 0)], 1, 4) := by kernel_rfl
theorem I3 : tiB Tryz.prog 3 = some ([(vN 0)], 1, 8) := by kernel_rfl
theorem I322 : tiB Tryz.prog 322 = some ([(vU32 0), (vU32 0), (vU32 0), (vU32 0), (vU32 0), (vU32 0), (vU32 0), (vU32 0)], 8, 32) := by kernel_rfl
theorem I325 : tiB Tryz.prog 325 = some ([(vU32 0), (vU32 0), (vU32 0), (vU32 0), (vU32 0), (vU32 0), (vU32 0), (vU32 0), (.slice none 0 0), (vN 0)], 10, 64) := by kernel_rfl
theorem I344 : tiB Tryz.prog 344 = some ((List.replicate 64 (vU32 0)), 64, 256) := by kernel_rfl
theorem I9 : tiB Tryz.prog 9 = some ([(str [])], 1, 16) := by kernel_rfl
theorem M : Tryz.prog.follows .mixedOrders = true := by kernel_rfl
theorem PL325 : plB Tryz.prog 325 = some [(0, 8), (8, 1), (9, 1)] := by kernel_rfl
theorem PT290 : Tryz.prog.underlying 290 = some (.pointer (Tryz.prog.pointee 290)) := by kernel_rfl
end Fa
end Go.Proofs.YtbjhccnffacbcaaGreat
/-! from FWSha2 -/
/- Closed facts, off the tables of the program. -/
namespace Go.Proofs.YtbjhccnffacbcaaGreat
open Go.Owl
namespace Fa
theorem C191 : callB Tryz.prog 191 = true := by kernel_rfl
theorem C193 : callB Tryz.prog 193 = true := by kernel_rfl
theorem C195 : callB Tryz.prog 195 = true := by kernel_rfl
end Fa
end Go.Proofs.YtbjhccnffacbcaaGreat
/-! from FWRef2 -/
/- Closed facts, off the tables of the program. -/
namespace Go.Proofs.YtbjhccnffacbcaaGreat
open Go.Owl
namespace Fa
theorem C202 : callB Tryz.prog 202 = true := by kernel_rfl
theorem C203 : callB Tryz.prog 203 = true := by kernel_rfl
theorem C204 : callB Tryz.prog 204 = true := by kernel_rfl
theorem C229 : callB Tryz.prog 229 = true := by kernel_rfl
theorem C230 : callB Tryz.prog 230 = true := by kernel_rfl
theorem C231 : callB Tryz.prog 231 = true := by kernel_rfl
theorem C232 : callB Tryz.prog 232 = true := by kernel_rfl
theorem C246 : callB Tryz.prog 246 = true := by kernel_rfl
theorem C247 : callB Tryz.prog 247 = true := by kernel_rfl
end Fa
end Go.Proofs.YtbjhccnffacbcaaGreat
/-! from FWMac -/
/- Closed facts, off the tables of the program. -/
namespace Go.Proofs.YtbjhccnffacbcaaGreat
open Go.Owl
namespace Fa
theorem C112 : callB Tryz.prog 112 = true := by kernel_rfl
theorem C153 : callB Tryz.prog 153 = true := by kernel_rfl
theorem C154 : callB Tryz.prog 154 = true := by kernel_rfl
theorem C155 : callB Tryz.prog 155 = true := by kernel_rfl
theorem C162 : callB Tryz.prog 162 = true := by kernel_rfl
theorem C163 : callB Tryz.prog 163 = true := by kernel_rfl
theorem C164 : callB Tryz.prog 164 = true := by kernel_rfl
theorem C192 : callB Tryz.prog 192 = true := by kernel_rfl
theorem C194 : callB Tryz.prog 194 = true := by kernel_rfl
theorem C227 : callB Tryz.prog 227 = true := by kernel_rfl
theorem F293_0 : faB Tryz.prog 293 0 = some (0, 1, true) := by kernel_rfl
theorem F293_1 : faB Tryz.prog 293 1 = some (1, 1, true) := by kernel_rfl
theorem I293 : tiB Tryz.prog 293 = some ([(.pointer none), (str [])], 2, 24) := by kernel_rfl
theorem PL293 : plB Tryz.prog 293 = some [(0, 1), (1, 1)] := by kernel_rfl
theorem PT245 : Tryz.prog.underlying 245 = some (.pointer (Tryz.prog.pointee 245)) := by kernel_rfl
end Fa
end Go.Proofs.YtbjhccnffacbcaaGreat
/-! from FWBuild -/
/- Closed facts, off the tables of the program. -/
namespace Go.Proofs.YtbjhccnffacbcaaGreat
open Go.Owl
namespace Fa
theorem C150 : callB Tryz.prog 150 = true := by kernel_rfl
theorem CO175 : Tryz.prog.cellsOf 175 = 2 := by kernel_rfl
theorem CO5 : Tryz.prog.cellsOf 5 = 1 := by kernel_rfl
theorem F175_0 : faB Tryz.prog 175 0 = some (0, 1, true) := by kernel_rfl
theorem F175_1 : faB Tryz.prog 175 1 = some (1, 1, true) := by kernel_rfl
theorem I173 : tiB Tryz.prog 173 = some ([(.pointer none)], 1, 8) := by kernel_rfl
theorem PT173 : Tryz.prog.underlying 173 = some (.pointer (Tryz.prog.pointee 173)) := by kernel_rfl
end Fa
end Go.Proofs.YtbjhccnffacbcaaGreat
/-! from FWSlot -/
/- Closed facts, off the tables of the program. -/
namespace Go.Proofs.YtbjhccnffacbcaaGreat
open Go.Owl
namespace Fa
theorem C119 : callB Tryz.prog 119 = true := by kernel_rfl
theorem C58 : callB Tryz.prog 58 = true := by kernel_rfl
theorem C67 : callB Tryz.prog 67 = true := by kernel_rfl
theorem C69 : callB Tryz.prog 69 = true := by kernel_rfl
theorem F146_0 : faB Tryz.prog 146 0 = some (0, 1, true) := by kernel_rfl
theorem F193_3 : faB Tryz.prog 193 3 = some (4, 1, true) := by kernel_rfl
theorem I59 : tiB Tryz.prog 59 = some ([(.slice none 0 0)], 1, 24) := by kernel_rfl
theorem PT111 : Tryz.prog.underlying 111 = some (.pointer (Tryz.prog.pointee 111)) := by kernel_rfl
theorem PT201 : Tryz.prog.underlying 201 = some (.pointer (Tryz.prog.pointee 201)) := by kernel_rfl
theorem PT47 : Tryz.prog.underlying 47 = some (.pointer (Tryz.prog.pointee 47)) := by kernel_rfl
end Fa
end Go.Proofs.YtbjhccnffacbcaaGreat
/-! from FWSlot2 -/
/- Closed facts, off the tables of the program. -/
namespace Go.Proofs.YtbjhccnffacbcaaGreat
open Go.Owl
namespace Fa
theorem C106 : callB Tryz.prog 106 = true := by kernel_rfl
theorem C107 : callB Tryz.prog 107 = true := by kernel_rfl
theorem C108 : callB Tryz.prog 108 = true := by kernel_rfl
theorem C109 : callB Tryz.prog 109 = true := by kernel_rfl
theorem C110 : callB Tryz.prog 110 = true := by kernel_rfl
theorem C111 : callB Tryz.prog 111 = true := by kernel_rfl
theorem C12 : callB Tryz.prog 12 = true := by kernel_rfl
theorem C151 : callB Tryz.prog 151 = true := by kernel_rfl
theorem C152 : callB Tryz.prog 152 = true := by kernel_rfl
theorem C29 : callB Tryz.prog 29 = true := by kernel_rfl
theorem C47 : callB Tryz.prog 47 = true := by kernel_rfl
theorem C48 : callB Tryz.prog 48 = true := by kernel_rfl
theorem C49 : callB Tryz.prog 49 = true := by kernel_rfl
theorem F95_0 : faB Tryz.prog 95 0 = some (0, 1, true) := by kernel_rfl
theorem F95_1 : faB Tryz.prog 95 1 = some (1, 1, true) := by kernel_rfl
theorem F95_2 : faB Tryz.prog 95 2 = some (2, 1, true) := by kernel_rfl
theorem F95_3 : faB Tryz.prog 95 3 = some (3, 1, true) := by kernel_rfl
theorem F95_4 : faB Tryz.prog 95 4 = some (4, 1, true) := by kernel_rfl
theorem F97_0 : faB Tryz.prog 97 0 = some (0, 1, true) := by kernel_rfl
theorem F97_1 : faB Tryz.prog 97 1 = some (1, 1, true) := by kernel_rfl
theorem I175 : tiB Tryz.prog 175 = some ([(.pointer none), (.slice none 0 0)], 2, 32) := by kernel_rfl
theorem I97 : tiB Tryz.prog 97 = some ([(.pointer none), (vN 0)], 2, 16) := by kernel_rfl
theorem LI175_175 : liesAt Tryz.prog Tryz.prog.depth 175 1 0 175 1 = true := by kernel_rfl
theorem PL97 : plB Tryz.prog 97 = some [(0, 1), (1, 1)] := by kernel_rfl
theorem PT24 : Tryz.prog.underlying 24 = some (.pointer (Tryz.prog.pointee 24)) := by kernel_rfl
end Fa
end Go.Proofs.YtbjhccnffacbcaaGreat
/-! from FWSlot3 -/
/- Closed facts, off the tables of the program. -/
namespace Go.Proofs.YtbjhccnffacbcaaGreat
open Go.Owl
namespace Fa
theorem C27 : callB Tryz.prog 27 = true := by kernel_rfl
theorem C51 : callB Tryz.prog 51 = true := by kernel_rfl
theorem I23 : tiB Tryz.prog 23 = some ([.nilFunc], 1, 8) := by kernel_rfl
end Fa
end Go.Proofs.YtbjhccnffacbcaaGreat
/-! from FWSlot4 -/
/- Closed facts, off the tables of the program. -/
namespace Go.Proofs.YtbjhccnffacbcaaGreat
open Go.Owl
namespace Fa
theorem C50 : callB Tryz.prog 50 = true := by kernel_rfl
theorem C52 : callB Tryz.prog 52 = true := by kernel_rfl
theorem C53 : callB Tryz.prog 53 = true := by kernel_rfl
end Fa
end Go.Proofs.YtbjhccnffacbcaaGreat
/-! from FWSlot5 -/
/- Closed facts, off the tables of the program. -/
namespace Go.Proofs.YtbjhccnffacbcaaGreat
open Go.Owl
namespace Fa
theorem C13 : callB Tryz.prog 13 = true := by kernel_rfl
theorem C15 : callB Tryz.prog 15 = true := by kernel_rfl
theorem C54 : callB Tryz.prog 54 = true := by kernel_rfl
end Fa
end Go.Proofs.YtbjhccnffacbcaaGreat
/-! from FWSlot6 -/
/- Closed facts, off the tables of the program. -/
namespace Go.Proofs.YtbjhccnffacbcaaGreat
open Go.Owl
namespace Fa
theorem C127 : callB Tryz.prog 127 = true := by kernel_rfl
theorem C168 : callB Tryz.prog 168 = true := by kernel_rfl
theorem C169 : callB Tryz.prog 169 = true := by kernel_rfl
theorem F75_0 : faB Tryz.prog 75 0 = some (0, 1, true) := by kernel_rfl
theorem F75_1 : faB Tryz.prog 75 1 = some (1, 1, true) := by kernel_rfl
theorem I196 : tiB Tryz.prog 196 = some ([(vU32 0), (.slice none 0 0), (.map none)], 3, 40) := by kernel_rfl
theorem I264 : tiB Tryz.prog 264 = some ([(.map none), (.slice none 0 0), (vN 0)], 3, 40) := by kernel_rfl
theorem I73 : tiB Tryz.prog 73 = some ([(.slice none 0 0)], 1, 24) := by kernel_rfl
theorem I75 : tiB Tryz.prog 75 = some ([(vU32 0), (.slice none 0 0)], 2, 32) := by kernel_rfl
theorem PL196 : plB Tryz.prog 196 = some [(0, 2), (2, 1)] := by kernel_rfl
theorem PL264 : plB Tryz.prog 264 = some [(0, 1), (1, 1), (2, 1)] := by kernel_rfl
end Fa
end Go.Proofs.YtbjhccnffacbcaaGreat
/-! from FWSlot7 -/
/- Closed facts, off the tables of the program. -/
namespace Go.Proofs.YtbjhccnffacbcaaGreat
open Go.Owl
namespace Fa
theorem C126 : callB Tryz.prog 126 = true := by kernel_rfl
theorem C128 : callB Tryz.prog 128 = true := by kernel_rfl
theorem C129 : callB Tryz.prog 129 = true := by kernel_rfl
theorem C83 : callB Tryz.prog 83 = true := by kernel_rfl
theorem I146 : tiB Tryz.prog 146 = some ([(.pointer none), (.bool false), (vN 0), (.pointer none), (.bool false), (vN 0), (.pointer none), (.bool false), (vN 0), (.pointer none), (.bool false), (vN 0), (.pointer none), (.bool false), (vN 0), (.pointer none), (.bool false), (vN 0), (.pointer none), (.bool false), (vN 0), (.pointer none), (.bool false), (vN 0), (.pointer none), (.bool false), (vN 0), (.pointer none), (.slice none 0 0)], 29, 248) := by kernel_rfl
theorem I191 : tiB Tryz.prog 191 = some ([(.slice none 0 0)], 1, 24) := by kernel_rfl
theorem I193 : tiB Tryz.prog 193 = some ([(vU32 0), (.slice none 0 0), (.pointer none), (.pointer none), (.slice none 0 0), (vU32 0)], 6, 80) := by kernel_rfl
theorem I95 : tiB Tryz.prog 95 = some ([(.pointer none), (vU32 0), (str []), (vN 0), (vN 0)], 5, 48) := by kernel_rfl
theorem PL146 : plB Tryz.prog 146 = some [(0, 1), (1, 27), (28, 1)] := by kernel_rfl
theorem PL193 : plB Tryz.prog 193 = some [(0, 2), (2, 1), (3, 1), (4, 1), (5, 1)] := by kernel_rfl
theorem PL95 : plB Tryz.prog 95 = some [(0, 1), (1, 1), (2, 1), (3, 1), (4, 1)] := by kernel_rfl
end Fa
end Go.Proofs.YtbjhccnffacbcaaGreat
/-! from FWSlot8 -/
/- Closed facts, off the tables of the program. -/
namespace Go.Proofs.YtbjhccnffacbcaaGreat
open Go.Owl
namespace Fa
theorem C11 : callB Tryz.prog 11 = true := by kernel_rfl
theorem C117 : callB Tryz.prog 117 = true := by kernel_rfl
theorem C118 : callB Tryz.prog 118 = true := by kernel_rfl
theorem C16 : callB Tryz.prog 16 = true := by kernel_rfl
theorem C17 : callB Tryz.prog 17 = true := by kernel_rfl
theorem C20 : callB Tryz.prog 20 = true := by kernel_rfl
theorem C37 : callB Tryz.prog 37 = true := by kernel_rfl
theorem F58_3 : faB Tryz.prog 58 3 = some (3, 1, true) := by kernel_rfl
theorem F61_1 : faB Tryz.prog 61 1 = some (1, 1, true) := by kernel_rfl
theorem I58 : tiB Tryz.prog 58 = some ([(vN 0), (vN 0), (vU32 0), (str [])], 4, 40) := by kernel_rfl
theorem PL75 : plB Tryz.prog 75 = some [(0, 1), (1, 1)] := by kernel_rfl
end Fa
end Go.Proofs.YtbjhccnffacbcaaGreat
/-! from FWSlot9 -/
/- Closed facts, off the tables of the program. -/
namespace Go.Proofs.YtbjhccnffacbcaaGreat
open Go.Owl
namespace Fa
end Fa
end Go.Proofs.YtbjhccnffacbcaaGreat
/-! from FWSlot10 -/
/- Closed facts, off the tables of the program. -/
namespace Go.Proofs.YtbjhccnffacbcaaGreat
open Go.Owl
namespace Fa
theorem C10 : callB Tryz.prog 10 = true := by kernel_rfl
end Fa
end Go.Proofs.YtbjhccnffacbcaaGreat
/-! from FWSlot11 -/
/- Closed facts, off the tables of the program. -/
namespace Go.Proofs.YtbjhccnffacbcaaGreat
open Go.Owl
namespace Fa
theorem C120 : callB Tryz.prog 120 = true := by kernel_rfl
theorem C63 : callB Tryz.prog 63 = true := by kernel_rfl
theorem C64 : callB Tryz.prog 64 = true := by kernel_rfl
theorem C66 : callB Tryz.prog 66 = true := by kernel_rfl
theorem C68 : callB Tryz.prog 68 = true := by kernel_rfl
theorem F61_0 : faB Tryz.prog 61 0 = some (0, 1, true) := by kernel_rfl
end Fa
end Go.Proofs.YtbjhccnffacbcaaGreat
/-! from FWSlot12 -/
/- Closed facts, off the tables of the program. -/
namespace Go.Proofs.YtbjhccnffacbcaaGreat
open Go.Owl
namespace Fa
theorem C61 : callB Tryz.prog 61 = true := by kernel_rfl
theorem C62 : callB Tryz.prog 62 = true := by kernel_rfl
theorem C65 : callB Tryz.prog 65 = true := by kernel_rfl
theorem F61_2 : faB Tryz.prog 61 2 = some (2, 1, true) := by kernel_rfl
end Fa
end Go.Proofs.YtbjhccnffacbcaaGreat
/-! from FWSlot13 -/
/- Closed facts, off the tables of the program. -/
namespace Go.Proofs.YtbjhccnffacbcaaGreat
open Go.Owl
namespace Fa
theorem I61 : tiB Tryz.prog 61 = some ([(.slice none 0 0), (str []), (vN 0)], 3, 48) := by kernel_rfl
theorem PL61 : plB Tryz.prog 61 = some [(0, 1), (1, 1), (2, 1)] := by kernel_rfl
end Fa
end Go.Proofs.YtbjhccnffacbcaaGreat
/-! from FWSlot14 -/
/- Closed facts, off the tables of the program. -/
namespace Go.Proofs.YtbjhccnffacbcaaGreat
open Go.Owl
namespace Fa
theorem C23 : callB Tryz.prog 23 = true := by kernel_rfl
theorem C24 : callB Tryz.prog 24 = true := by kernel_rfl
theorem C25 : callB Tryz.prog 25 = true := by kernel_rfl
theorem C26 : callB Tryz.prog 26 = true := by kernel_rfl
theorem C28 : callB Tryz.prog 28 = true := by kernel_rfl
theorem F58_0 : faB Tryz.prog 58 0 = some (0, 1, true) := by kernel_rfl
theorem F58_1 : faB Tryz.prog 58 1 = some (1, 1, true) := by kernel_rfl
theorem F58_2 : faB Tryz.prog 58 2 = some (2, 1, true) := by kernel_rfl
end Fa
end Go.Proofs.YtbjhccnffacbcaaGreat
/-! from WInsn -/
namespace Go.Proofs.YtbjhccnffacbcaaGreat
open Go.Owl Go.Spec
set_option maxRecDepth 100000 in
theorem text_ok (v : Value) (m : Nat) (l : List UInt8) (w : World) (hA : Arr w v 1 m (l.map vU8)) :
    Calls Tryz.prog 187 #[v] w (fun e w' => e = .returned (str l) ∧ Fr [] w w') := by
  refine enter (args := [v]) Tryz.func187 rfl rfl ?_
  have H0 : Own [] w w [] := Own.start w []
  refine WC.seq ?_
  refine WC.region ?_
  refine WL.op rfl rfl (op_assign rfl ?_)
  refine WL.nil ?_
  refine WQ.next ?_
  refine WC.seq ?_
  refine WC.region ?_
  refine WL.op rfl rfl (op_move rfl ?_)
  refine WL.op rfl rfl (op_bytesStr (l := l) Tryz.underlying114 Tryz.underlying5 Tryz.underlying9 rfl (H0.arr hA) rfl ?_)
  refine WL.op rfl rfl (op_assign rfl ?_)
  refine WL.nil ?_
  refine WQ.next ?_
  refine WC.ret ?_
  refine WQ.out (.tmp rfl .nil) ?_
  exact ⟨rfl, H0.fr⟩
set_option maxRecDepth 100000 in
theorem put4_ok (v : UInt32) (w : World) :
    Calls Tryz.prog 151 #[(vU32 v), (vN 4)] w (fun e w' => e = .returned (.tuple #[str (le4 v), vN 0]) ∧ Fr [] w w') := by
  refine enter (args := [(vU32 v), (vN 4)]) Tryz.func151 rfl rfl ?_
  have H0 : Own [] w w [] := Own.start w []
  refine WC.seq ?_
  refine WC.region ?_
  refine WL.op rfl rfl (op_assign rfl ?_)
  refine WL.op rfl rfl (op_assign rfl ?_)
  refine WL.nil ?_
  refine WQ.next ?_
  refine WC.seq ?_
  refine WC.block ?_
  refine WC.seq ?_
  refine WC.region ?_
  refine WL.op rfl rfl (op_move rfl ?_)
  refine WL.op rfl rfl (op_lssN (b := 1) rfl rfl ?_)
  refine WL.op rfl rfl (op_move rfl ?_)
  refine WL.yes rfl rfl rfl (by decide) rfl (op_move rfl ?_)
  refine WL.yes rfl rfl rfl (by decide) rfl (op_gtrN (b := 4) rfl rfl ?_)
  refine WL.op rfl rfl (op_pickF rfl (by decide) rfl ?_)
  refine WL.op rfl rfl (op_assign rfl ?_)
  refine WL.nil ?_
  refine WQ.next ?_
  refine WC.no rfl (by decide) ?_
  refine WC.seq ?_
  refine WC.region ?_
  refine WL.op rfl rfl (op_move rfl ?_)
  refine WL.op rfl rfl (op_lssN (b := 4) rfl rfl ?_)
  refine WL.op rfl rfl (op_move rfl ?_)
  refine WL.no rfl rfl rfl (by decide) rfl ?_
  refine WL.no rfl rfl rfl (by decide) rfl ?_
  refine WL.no rfl rfl rfl (by decide) rfl ?_
  refine WL.no rfl rfl rfl (by decide) rfl ?_
  refine WL.no rfl rfl rfl (by decide) rfl ?_
  refine WL.op rfl rfl (op_pickF rfl (by decide) rfl ?_)
  refine WL.op rfl rfl (op_assign rfl ?_)
  refine WL.nil ?_
  refine WQ.next ?_
  refine WC.no rfl rfl ?_
  refine WC.skip ?_
  refine WQ.inNormal ?_
  refine WQ.next ?_
  refine WC.seq ?_
  refine WC.region ?_
  refine WL.op rfl rfl (op_move rfl ?_)
  refine WL.op rfl rfl (op_convU32U8 (hs := Tryz.underlying22) (hd := Tryz.underlying5) rfl ?_)
  refine WL.op rfl rfl (op_move rfl ?_)
  refine WL.op rfl rfl (op_shrU32 (s := 8) rfl rfl ?_)
  refine WL.op rfl rfl (op_convU32U8 (hs := Tryz.underlying22) (hd := Tryz.underlying5) rfl ?_)
  refine WL.op rfl rfl (op_move rfl ?_)
  refine WL.op rfl rfl (op_shrU32 (s := 16) rfl rfl ?_)
  refine WL.op rfl rfl (op_convU32U8 (hs := Tryz.underlying22) (hd := Tryz.underlying5) rfl ?_)
  refine WL.op rfl rfl (op_move rfl ?_)
  refine WL.op rfl rfl (op_shrU32 (s := 24) rfl rfl ?_)
  refine WL.op rfl rfl (op_convU32U8 (hs := Tryz.underlying22) (hd := Tryz.underlying5) rfl ?_)
  refine WL.op rfl rfl (op_buildSlice (cs := [_, _, _, _]) H0 Tryz.underlying114 Fa.I5 rfl rfl rfl rfl (by decide) (by decide) (fun b1 w1 H1 => ?_))
  refine WL.op rfl rfl (op_move rfl ?_)
  refine WL.op rfl rfl (op_cutHi Tryz.underlying114 Fa.I5 rfl (H1.arrR (i := 0) rfl) rfl (by omega) ?_)
  refine WL.op rfl rfl (op_callF Fa.C187 rfl ((text_ok _ _ (([(UInt8.ofNat v.toNat), (UInt8.ofNat (shrU32 v 8).toNat), (UInt8.ofNat (shrU32 v 16).toNat), (UInt8.ofNat (shrU32 v 24).toNat)].take 4)) _ (((H1.arrR (i := 0) rfl)).cutHiM (f := vU8) (l := [(UInt8.ofNat v.toNat), (UInt8.ofNat (shrU32 v 8).toNat), (UInt8.ofNat (shrU32 v 16).toNat), (UInt8.ofNat (shrU32 v 24).toNat)]) (b := 4) (by omega))).mono (fun e w2 hq => ?_)))
  obtain ⟨rfl, hf2⟩ := hq
  refine ⟨_, rfl, ?_⟩
  have H2 := H1.fr' hf2
  refine WL.op rfl rfl (op_assign rfl ?_)
  refine WL.op rfl rfl (op_assign rfl ?_)
  refine WL.nil ?_
  refine WQ.next ?_
  refine WC.ret ?_
  refine WQ.out (.tmp rfl (.tmp rfl .nil)) ?_
  exact ⟨rfl, H2.fr⟩
set_option maxRecDepth 100000 in
theorem get_ok (s : List UInt8) (w : World) :
    Calls Tryz.prog 107 #[(str s)] w (fun e w' => e = .returned (.tuple #[vU32 (getV s), vN (getE s)]) ∧ Fr [] w w') := by
  refine enter (args := [(str s)]) Tryz.func107 rfl rfl ?_
  have H0 : Own [] w w [] := Own.start w []
  refine WC.seq ?_
  refine WC.region ?_
  refine WL.op rfl rfl (op_assign rfl ?_)
  refine WL.op rfl rfl (op_assign rfl ?_)
  refine WL.nil ?_
  refine WQ.next ?_
  refine WC.seq ?_
  refine WC.seq ?_
  refine WC.region ?_
  refine WL.op rfl rfl (op_move rfl ?_)
  refine WL.op rfl rfl (op_lenStr Tryz.underlying9 rfl ?_)
  refine WL.op rfl rfl (op_lssN (b := 1) rfl rfl ?_)
  refine WL.op rfl rfl (op_move rfl ?_)
  refine WL.split (t := 8) rfl (fun (hb1 : (decide (s.length < 1)) = true) => ?_) (fun (hb1 : (decide (s.length < 1)) = false) => ?_)
  ·
    have hc1 := of_decide_eq_true hb1
    refine WL.no rfl rfl rfl hb1 rfl ?_
    refine WL.no rfl rfl rfl hb1 rfl ?_
    refine WL.no rfl rfl rfl hb1 rfl ?_
    refine WL.op rfl rfl (op_pickT rfl hb1 rfl ?_)
    refine WL.nil ?_
    refine WQ.next ?_
    refine WC.yes rfl rfl ?_
    refine WC.seq ?_
    refine WC.region ?_
    refine WL.op rfl rfl (op_assign rfl ?_)
    refine WL.op rfl rfl (op_assign rfl ?_)
    refine WL.nil ?_
    refine WQ.next ?_
    refine WC.ret ?_
    refine WQ.thenRet ?_
    refine WQ.out (.tmp rfl (.tmp rfl .nil)) ?_
    exact ⟨by first | (have hk : k = s.length := (by omega); subst hk; rw [getV, getE, if_neg (by omega), if_neg (by omega)]; rfl) | (rw [getV, getE, if_pos (by omega), if_pos (by omega)]; rfl), H0.fr⟩
  ·
    have hc1 := of_decide_eq_false hb1
    refine WL.yes rfl rfl rfl hb1 rfl (op_move rfl ?_)
    refine WL.yes rfl rfl rfl hb1 rfl (op_lenStr Tryz.underlying9 rfl ?_)
    refine WL.yes rfl rfl rfl hb1 rfl (op_gtrN (b := 4) rfl rfl ?_)
    refine WL.op rfl rfl (op_pickF rfl hb1 rfl ?_)
    refine WL.nil ?_
    refine WQ.next ?_
    refine WC.cond rfl (fun (hb2 : (decide (s.length > 4)) = true) => ?_) (fun (hb2 : (decide (s.length > 4)) = false) => ?_)
    ·
      have hc2 := of_decide_eq_true hb2
      refine WC.seq ?_
      refine WC.region ?_
      refine WL.op rfl rfl (op_assign rfl ?_)
      refine WL.op rfl rfl (op_assign rfl ?_)
      refine WL.nil ?_
      refine WQ.next ?_
      refine WC.ret ?_
      refine WQ.thenRet ?_
      refine WQ.out (.tmp rfl (.tmp rfl .nil)) ?_
      exact ⟨by first | (have hk : k = s.length := (by omega); subst hk; rw [getV, getE, if_neg (by omega), if_neg (by omega)]; rfl) | (rw [getV, getE, if_pos (by omega), if_pos (by omega)]; rfl), H0.fr⟩
    ·
      have hc2 := of_decide_eq_false hb2
      refine WC.skip ?_
      refine WQ.next ?_
      refine WC.seq ?_
      refine WC.seq ?_
      refine WC.region ?_
      refine WL.op rfl rfl (op_move rfl ?_)
      refine WL.op rfl rfl (op_lenStr Tryz.underlying9 rfl ?_)
      refine WL.op rfl rfl (op_move rfl ?_)
      refine WL.nil ?_
      refine WQ.next ?_
      refine WC.block ?_
      refine WC.loop (α := Nat) (fun k => [(0, (str s)), (3, (vN 0)), (14, (vN s.length)), (15, (vN k)), (2, (vU32 (getTo s k)))]) (fun k w' => (k ≤ s.length) ∧ Own [] w w' []) (fun k => s.length - k) 0 ⟨(by omega), H0⟩ ⟨rfl, rfl, rfl, rfl, rfl, trivial⟩ ?_
      rintro k w3 ⟨hinv, H3⟩
      show WC _ _ _ _ _ [(0, (str s)), (3, (vN 0)), (14, (vN s.length)), (15, (vN k)), (2, (vU32 (getTo s k)))] _
      refine WC.seq ?_
      refine WC.region ?_
      refine WL.op rfl rfl (op_lssN rfl rfl ?_)
      refine WL.nil ?_
      refine WQ.next ?_
      refine WC.seq ?_
      refine WC.cond rfl (fun (hb4 : (decide (k < s.length)) = true) => ?_) (fun (hb4 : (decide (k < s.length)) = false) => ?_)
      ·
        have hc4 := of_decide_eq_true hb4
        refine WC.skip ?_
        refine WQ.next ?_
        refine WC.seq ?_
        refine WC.block ?_
        refine WC.seq ?_
        refine WC.region ?_
        refine WL.op rfl rfl (op_move rfl ?_)
        refine WL.op rfl rfl (op_assign rfl ?_)
        refine WL.nil ?_
        refine WQ.next ?_
        refine WC.region ?_
        refine WL.op rfl rfl (op_move rfl ?_)
        refine WL.op rfl rfl (op_move rfl ?_)
        refine WL.op rfl rfl (op_move rfl ?_)
        refine WL.op rfl rfl (op_indexStrD Tryz.underlying9 rfl rfl (by omega) ?_)
        refine WL.op rfl rfl (op_convU8U32 (hs := Tryz.underlying5) (hd := Tryz.underlying22) rfl ?_)
        refine WL.op rfl rfl (op_move rfl ?_)
        refine WL.op rfl rfl (op_mulN (a := 8) rfl rfl (by omega) ?_)
        refine WL.op rfl rfl (op_shlU32 rfl rfl ?_)
        refine WL.op rfl rfl (op_orU32 rfl rfl ?_)
        refine WL.op rfl rfl (op_assign rfl ?_)
        refine WL.nil ?_
        refine WQ.inNormal ?_
        refine WQ.next ?_
        refine WC.region ?_
        refine WL.op rfl rfl (op_addN (b := 1) rfl rfl (by omega) ?_)
        refine WL.op rfl rfl (op_move rfl ?_)
        refine WL.nil ?_
        exact WQ.round (k + 1) ⟨(by omega), H3⟩ ⟨rfl, rfl, rfl, rfl, rfl, trivial⟩ (by omega)
      ·
        have hc4 := of_decide_eq_false hb4
        refine WC.exit ?_
        refine WQ.thenExit ?_
        refine WQ.thenExit ?_
        refine WQ.inHere ?_
        refine WQ.next ?_
        refine WC.seq ?_
        refine WC.region ?_
        refine WL.op rfl rfl (op_move rfl ?_)
        refine WL.op rfl rfl (op_assign rfl ?_)
        refine WL.op rfl rfl (op_assign rfl ?_)
        refine WL.nil ?_
        refine WQ.next ?_
        refine WC.ret ?_
        refine WQ.out (.tmp rfl (.tmp rfl .nil)) ?_
        exact ⟨by first | (have hk : k = s.length := (by omega); subst hk; rw [getV, getE, if_neg (by omega), if_neg (by omega)]; rfl) | (rw [getV, getE, if_pos (by omega), if_pos (by omega)]; rfl), H3.fr⟩
end Go.Proofs.YtbjhccnffacbcaaGreat
/-! from WRef4 -/
namespace Go.Proofs.YtbjhccnffacbcaaGreat
open Go.Owl Go.Spec
set_option maxRecDepth 100000 in
theorem bytes_ok (v : UInt32) (n : Nat) (hn : n ≤ 100) (w : World) :
    Calls Tryz.prog 117 #[(vU32 v), (vN n)] w (fun e w' => e = .returned (str (rB v n)) ∧ Fr [] w w') := by
  refine enter (args := [(vU32 v), (vN n)]) Tryz.func117 rfl rfl ?_
  have H0 : Own [] w w [] := Own.start w []
  refine WC.seq ?_
  refine WC.region ?_
  refine WL.op rfl rfl (op_assign rfl ?_)
  refine WL.nil ?_
  refine WQ.next ?_
  refine WC.seq ?_
  refine WC.region ?_
  refine WL.op rfl rfl (op_assign rfl ?_)
  have H1 := H0.nilRow 5 1
  refine WL.nil ?_
  refine WQ.next ?_
  refine WC.seq ?_
  refine WC.seq ?_
  refine WC.region ?_
  refine WL.op rfl rfl (op_assign rfl ?_)
  refine WL.nil ?_
  refine WQ.next ?_
  refine WC.block ?_
  refine WC.loop (α := Nat × Value) (fun (k, q) => [(1, (vN n)), (6, (vN k)), (0, (vU32 (rV v k))), (5, q)]) (fun (k, q) w' => (k ≤ n) ∧ Own [] w w' [.row q 5 1 k (List.map vU8 (rB v k))]) (fun (k, q) => n - k) (0, (.slice none 0 0)) ⟨(by omega), H1⟩ ⟨rfl, rfl, rfl, rfl, trivial⟩ ?_
  rintro ⟨k, q⟩ w2 ⟨hinv, H2⟩
  show WC _ _ _ _ _ [(1, (vN n)), (6, (vN k)), (0, (vU32 (rV v k))), (5, q)] _
  refine WC.seq ?_
  refine WC.seq ?_
  refine WC.region ?_
  refine WL.op rfl rfl (op_move rfl ?_)
  refine WL.op rfl rfl (op_move rfl ?_)
  refine WL.op rfl rfl (op_lssN rfl rfl ?_)
  refine WL.nil ?_
  refine WQ.next ?_
  refine WC.cond rfl (fun (hb3 : (decide (k < n)) = true) => ?_) (fun (hb3 : (decide (k < n)) = false) => ?_)
  ·
    have hc3 := of_decide_eq_true hb3
    refine WC.skip ?_
    refine WQ.next ?_
    refine WC.seq ?_
    refine WC.block ?_
    refine WC.seq ?_
    refine WC.region ?_
    refine WL.op rfl rfl (op_move rfl ?_)
    refine WL.op rfl rfl (op_move rfl ?_)
    refine WL.op rfl rfl (op_remU32 (b := 256) rfl rfl (by decide) ?_)
    refine WL.op rfl rfl (op_convU32U8 (hs := Tryz.underlying22) (hd := Tryz.underlying5) rfl ?_)
    refine WL.op rfl rfl (op_buildSlice (cs := [_]) H2 Tryz.underlying114 Fa.I5 rfl rfl rfl rfl (by decide) (by decide) (fun b4 w4 H4 => ?_))
    refine WL.op rfl rfl (op_appendM (f := vU8) (l := (rB v k)) (l' := [(UInt8.ofNat ((rV v k) % (256 : UInt32)).toNat)]) (i := 0) H4 Tryz.underlying114 Fa.I5 rfl rfl rfl rfl (Src.ofArr Tryz.underlying114 (H4.arrR (i := 1) rfl)) (one_mapM (fun _ => rfl)) (by omega) (by omega) (fun v5 w5 H5 => ?_))
    refine WL.op rfl rfl (op_assign rfl ?_)
    refine WL.nil ?_
    refine WQ.next ?_
    refine WC.region ?_
    refine WL.op rfl rfl (op_move rfl ?_)
    refine WL.op rfl rfl (op_quoU32 (b := 256) rfl rfl (by decide) ?_)
    refine WL.op rfl rfl (op_assign rfl ?_)
    refine WL.nil ?_
    refine WQ.inNormal ?_
    refine WQ.next ?_
    refine WC.region ?_
    refine WL.op rfl rfl (op_move rfl ?_)
    refine WL.op rfl rfl (op_addN (b := 1) rfl rfl (by omega) ?_)
    refine WL.op rfl rfl (op_assign rfl ?_)
    refine WL.nil ?_
    exact WQ.round (k + 1, v5) ⟨(by omega), (H5.take 1)⟩ ⟨rfl, rfl, rfl, rfl, trivial⟩ (by show n - (k + 1) < n - k; omega)
  ·
    have hc3 := of_decide_eq_false hb3
    refine WC.exit ?_
    refine WQ.thenExit ?_
    refine WQ.thenExit ?_
    refine WQ.inHere ?_
    refine WQ.next ?_
    refine WC.seq ?_
    refine WC.region ?_
    refine WL.op rfl rfl (op_move rfl ?_)
    refine WL.op rfl rfl (op_bytesStr (l := (rB v k)) Tryz.underlying114 Tryz.underlying5 Tryz.underlying9 rfl (H2.arrR (i := 0) rfl) rfl ?_)
    refine WL.op rfl rfl (op_assign rfl ?_)
    refine WL.nil ?_
    refine WQ.next ?_
    refine WC.ret ?_
    refine WQ.out (.tmp rfl .nil) ?_
    exact ⟨by have hk : k = n := (by omega); subst hk; rfl, H2.fr⟩
set_option maxRecDepth 100000 in
theorem rGet_ok (s : List UInt8) (w : World) :
    Calls Tryz.prog 120 #[(str s)] w (fun e w' => e = .returned (.tuple #[vU32 (gFV s), vN (getE s)]) ∧ Fr [] w w') := by
  refine enter (args := [(str s)]) Tryz.func120 rfl rfl ?_
  have H0 : Own [] w w [] := Own.start w []
  refine WC.seq ?_
  refine WC.region ?_
  refine WL.op rfl rfl (op_assign rfl ?_)
  refine WL.op rfl rfl (op_assign rfl ?_)
  refine WL.nil ?_
  refine WQ.next ?_
  refine WC.seq ?_
  refine WC.seq ?_
  refine WC.region ?_
  refine WL.op rfl rfl (op_move rfl ?_)
  refine WL.op rfl rfl (op_lenStr Tryz.underlying9 rfl ?_)
  refine WL.op rfl rfl (op_lssN (b := 1) rfl rfl ?_)
  refine WL.op rfl rfl (op_move rfl ?_)
  refine WL.split (t := 9) rfl (fun (hb1 : (decide (s.length < 1)) = true) => ?_) (fun (hb1 : (decide (s.length < 1)) = false) => ?_)
  ·
    have hc1 := of_decide_eq_true hb1
    refine WL.no rfl rfl rfl hb1 rfl ?_
    refine WL.no rfl rfl rfl hb1 rfl ?_
    refine WL.no rfl rfl rfl hb1 rfl ?_
    refine WL.op rfl rfl (op_pickT rfl hb1 rfl ?_)
    refine WL.nil ?_
    refine WQ.next ?_
    refine WC.yes rfl rfl ?_
    refine WC.seq ?_
    refine WC.region ?_
    refine WL.op rfl rfl (op_assign rfl ?_)
    refine WL.op rfl rfl (op_assign rfl ?_)
    refine WL.nil ?_
    refine WQ.next ?_
    refine WC.ret ?_
    refine WQ.thenRet ?_
    refine WQ.out (.tmp rfl (.tmp rfl .nil)) ?_
    exact ⟨by first | (have hj : j = 0 := (by omega); subst hj; rw [gFV, getE, if_neg (by omega), if_neg (by omega)]; rfl) | (rw [gFV, getE, if_pos (by omega), if_pos (by omega)]; rfl), H0.fr⟩
  ·
    have hc1 := of_decide_eq_false hb1
    refine WL.yes rfl rfl rfl hb1 rfl (op_move rfl ?_)
    refine WL.yes rfl rfl rfl hb1 rfl (op_lenStr Tryz.underlying9 rfl ?_)
    refine WL.yes rfl rfl rfl hb1 rfl (op_gtrN (b := 4) rfl rfl ?_)
    refine WL.op rfl rfl (op_pickF rfl hb1 rfl ?_)
    refine WL.nil ?_
    refine WQ.next ?_
    refine WC.cond rfl (fun (hb2 : (decide (s.length > 4)) = true) => ?_) (fun (hb2 : (decide (s.length > 4)) = false) => ?_)
    ·
      have hc2 := of_decide_eq_true hb2
      refine WC.seq ?_
      refine WC.region ?_
      refine WL.op rfl rfl (op_assign rfl ?_)
      refine WL.op rfl rfl (op_assign rfl ?_)
      refine WL.nil ?_
      refine WQ.next ?_
      refine WC.ret ?_
      refine WQ.thenRet ?_
      refine WQ.out (.tmp rfl (.tmp rfl .nil)) ?_
      exact ⟨by first | (have hj : j = 0 := (by omega); subst hj; rw [gFV, getE, if_neg (by omega), if_neg (by omega)]; rfl) | (rw [gFV, getE, if_pos (by omega), if_pos (by omega)]; rfl), H0.fr⟩
    ·
      have hc2 := of_decide_eq_false hb2
      refine WC.skip ?_
      refine WQ.next ?_
      refine WC.seq ?_
      refine WC.region ?_
      refine WL.op rfl rfl (op_assign rfl ?_)
      refine WL.nil ?_
      refine WQ.next ?_
      refine WC.seq ?_
      refine WC.seq ?_
      refine WC.region ?_
      refine WL.op rfl rfl (op_move rfl ?_)
      refine WL.op rfl rfl (op_lenStr Tryz.underlying9 rfl ?_)
      refine WL.op rfl rfl (op_subI (a := ((s.length : Nat) : Int)) (b := ((1 : Nat) : Int)) rfl rfl (by omega) ?_)
      refine WL.op rfl rfl (op_assign rfl ?_)
      refine WL.nil ?_
      refine WQ.next ?_
      refine WC.block ?_
      refine WC.loop (α := Nat) (fun j => [(0, (str s)), (3, (vN 0)), (2, (vU32 0)), (5, (vI ((j : Int) - (1 : Int)))), (4, (vU32 (gF (s.drop j))))]) (fun j w' => (j ≤ s.length) ∧ Own [] w w' []) (fun j => j) s.length ⟨(by omega), H0⟩ ⟨rfl, rfl, rfl, rfl, (by rw [show s.drop s.length = [] from List.drop_length]; rfl), trivial⟩ ?_
      rintro j w3 ⟨hinv, H3⟩
      show WC _ _ _ _ _ [(0, (str s)), (3, (vN 0)), (2, (vU32 0)), (5, (vI ((j : Int) - (1 : Int)))), (4, (vU32 (gF (s.drop j))))] _
      refine WC.seq ?_
      refine WC.seq ?_
      refine WC.region ?_
      refine WL.op rfl rfl (op_move rfl ?_)
      refine WL.op rfl rfl (op_geqI (b := (0 : Int)) rfl rfl ?_)
      refine WL.nil ?_
      refine WQ.next ?_
      refine WC.cond rfl (fun (hb4 : (decide (((j : Int) - (1 : Int)) ≥ (0 : Int))) = true) => ?_) (fun (hb4 : (decide (((j : Int) - (1 : Int)) ≥ (0 : Int))) = false) => ?_)
      ·
        have hc4 := of_decide_eq_true hb4
        obtain ⟨m, hm⟩ : ∃ m, j = m + 1 := ⟨j - 1, by omega⟩
        subst hm
        rw [show (((m + 1 : Nat) : Int) - (1 : Int)) = (m : Int) from by omega]
        refine WC.skip ?_
        refine WQ.next ?_
        refine WC.seq ?_
        refine WC.block ?_
        refine WC.region ?_
        refine WL.op rfl rfl (op_move rfl ?_)
        refine WL.op rfl rfl (op_mulU32 (a := 256) rfl rfl ?_)
        refine WL.op rfl rfl (op_move rfl ?_)
        refine WL.op rfl rfl (op_move rfl ?_)
        refine WL.op rfl rfl (op_indexStrD Tryz.underlying9 rfl rfl (by omega) ?_)
        refine WL.op rfl rfl (op_convU8U32 (hs := Tryz.underlying5) (hd := Tryz.underlying22) rfl ?_)
        refine WL.op rfl rfl (op_addU32 rfl rfl ?_)
        refine WL.op rfl rfl (op_assign rfl ?_)
        refine WL.nil ?_
        refine WQ.inNormal ?_
        refine WQ.next ?_
        refine WC.region ?_
        refine WL.op rfl rfl (op_move rfl ?_)
        refine WL.op rfl rfl (op_subI (a := ((m : Nat) : Int)) (b := ((1 : Nat) : Int)) rfl rfl (by omega) ?_)
        refine WL.op rfl rfl (op_assign rfl ?_)
        refine WL.nil ?_
        exact WQ.round m ⟨(by omega), H3⟩ ⟨rfl, rfl, rfl, rfl, (congrArg (fun x => some (vU32 x)) (gF_drop s m (by omega)).symm), trivial⟩ (by omega)
      ·
        have hc4 := of_decide_eq_false hb4
        refine WC.exit ?_
        refine WQ.thenExit ?_
        refine WQ.thenExit ?_
        refine WQ.inHere ?_
        refine WQ.next ?_
        refine WC.seq ?_
        refine WC.region ?_
        refine WL.op rfl rfl (op_move rfl ?_)
        refine WL.op rfl rfl (op_assign rfl ?_)
        refine WL.op rfl rfl (op_assign rfl ?_)
        refine WL.nil ?_
        refine WQ.next ?_
        refine WC.ret ?_
        refine WQ.out (.tmp rfl (.tmp rfl .nil)) ?_
        exact ⟨by first | (have hj : j = 0 := (by omega); subst hj; rw [gFV, getE, if_neg (by omega), if_neg (by omega)]; rfl) | (rw [gFV, getE, if_pos (by omega), if_pos (by omega)]; rfl), H3.fr⟩
end Go.Proofs.YtbjhccnffacbcaaGreat
/-! from WSha -/
namespace Go.Proofs.YtbjhccnffacbcaaGreat
open Go.Owl Go.Spec
set_option maxRecDepth 100000 in
theorem turn_ok (x : UInt32) (n : Nat) (hn : n ≤ 32) (w : World) :
    Calls Tryz.prog 245 #[(vU32 x), (vN n)] w (fun e w' => e = .returned (vU32 (rot x n)) ∧ Fr [] w w') := by
  refine enter (args := [(vU32 x), (vN n)]) Tryz.func245 rfl rfl ?_
  have H0 : Own [] w w [] := Own.start w []
  refine WC.seq ?_
  refine WC.region ?_
  refine WL.op rfl rfl (op_assign rfl ?_)
  refine WL.nil ?_
  refine WQ.next ?_
  refine WC.seq ?_
  refine WC.draw 9 Fa.M H0 (HW.op rfl (fun w1 H1 => op_move rfl ⟨rfl, Fr.refl _ _⟩) (HW.op rfl (fun w1 H1 => op_move rfl ⟨rfl, Fr.refl _ _⟩) (HW.op rfl (fun w1 H1 => op_shrU32 rfl rfl ⟨rfl, Fr.refl _ _⟩) (HW.op rfl (fun w1 H1 => op_move rfl ⟨rfl, Fr.refl _ _⟩) (HW.op rfl (fun w1 H1 => op_move rfl ⟨rfl, Fr.refl _ _⟩) (HW.op rfl (fun w1 H1 => op_subN (a := 32) rfl rfl (by omega) (by omega) ⟨rfl, Fr.refl _ _⟩) (HW.op rfl (fun w1 H1 => op_shlU32 rfl rfl ⟨rfl, Fr.refl _ _⟩) (HW.op rfl (fun w1 H1 => op_orU32 rfl rfl ⟨rfl, Fr.refl _ _⟩) (HW.op rfl (fun w1 H1 => op_assign rfl ⟨rfl, Fr.refl _ _⟩)  HW.nil))))))))) (by kernel_rfl) ?_
  intro β1 w1 H1
  refine WL.nil ?_
  refine WQ.next ?_
  refine WC.ret ?_
  refine WQ.out (.tmp rfl .nil) ?_
  exact ⟨rfl, H1.fr⟩
set_option maxRecDepth 100000 in
theorem first_ok  (w : World) :
    Calls Tryz.prog 226 #[] w (fun e w' => e = .returned (.agg #[vU32 firstS.a, vU32 firstS.b, vU32 firstS.c, vU32 firstS.d, vU32 firstS.e, vU32 firstS.f, vU32 firstS.g, vU32 firstS.h]) ∧ Fr [] w w') := by
  refine enter (args := []) Tryz.func226 rfl rfl ?_
  have H0 : Own [] w w [] := Own.start w []
  refine WC.seq ?_
  refine WC.region ?_
  refine WL.op rfl rfl (op_alloc H0 Fa.I322 (fun b1 w1 H1 => ?_))
  refine WL.nil ?_
  refine WQ.next ?_
  refine WC.seq ?_
  refine WC.region ?_
  refine WL.op rfl rfl (op_buildA (cs := [_, _, _, _, _, _, _, _]) Fa.I322 Tryz.underlying322 Fa.I22 rfl rfl ?_)
  refine WL.op rfl rfl (op_storeBW (i := 0) H1 rfl rfl rfl rfl rfl Fa.I322 (fun w2 H2 => ?_))
  refine WL.nil ?_
  refine WQ.next ?_
  refine WC.ret ?_
  refine WQ.out (.cell rfl (run_loadVarS (vs := [_, _, _, _, _, _, _, _]) (H2.cells (i := 0) rfl rfl) Tryz.underlying322 rfl Fa.I322 rfl) .nil) ?_
  exact ⟨rfl, H2.fr⟩
set_option maxRecDepth 100000 in
theorem keys_ok  (w : World) :
    Calls Tryz.prog 244 #[] w (fun e w' => e = .returned (.agg (keyL.map vU32).toArray) ∧ Fr [] w w') := by
  refine enter (args := []) Tryz.func244 rfl rfl ?_
  have H0 : Own [] w w [] := Own.start w []
  refine WC.seq ?_
  refine WC.region ?_
  refine WL.op rfl rfl (op_alloc H0 Fa.I344 (fun b1 w1 H1 => ?_))
  refine WL.nil ?_
  refine WQ.next ?_
  refine WC.seq ?_
  refine WC.region ?_
  refine WL.op rfl rfl (op_buildA (cs := keyL.map vU32) Fa.I344 Tryz.underlying344 Fa.I22 rfl (by kernel_rfl) ?_)
  refine WL.op rfl rfl (op_storeBV (i := 0) H1 rfl rfl rfl (by kernel_rfl) (one_U32 _) (by kernel_rfl) Fa.I344 (fun w2 H2 => ?_))
  refine WL.nil ?_
  refine WQ.next ?_
  refine WC.ret ?_
  refine WQ.out (.cell rfl (run_loadVarS (H2.cellsW (i := 0) rfl) Tryz.underlying344 rfl Fa.I344 (by kernel_rfl)) .nil) ?_
  exact ⟨rfl, H2.fr⟩
set_option maxRecDepth 100000 in
theorem words_ok (v : Value) (b : List UInt8) (w : World) (hl : b.length = 64) (hA : Arr w v 1 64 (b.map vU8)) :
    Calls Tryz.prog 243 #[v] w (fun e w' => e = .returned (.agg ((wl b 64).map vU32).toArray) ∧ Fr [] w w') := by
  refine enter (args := [v]) Tryz.func243 rfl rfl ?_
  have H0 : Own [] w w [] := Own.start w []
  refine WC.seq ?_
  refine WC.region ?_
  refine WL.op rfl rfl (op_alloc H0 Fa.I344 (fun b1 w1 H1 => ?_))
  refine WL.nil ?_
  refine WQ.next ?_
  refine WC.seq ?_
  refine WC.seq ?_
  refine WC.region ?_
  refine WL.op rfl rfl (op_move rfl ?_)
  refine WL.nil ?_
  refine WQ.next ?_
  refine WC.block ?_
  refine WC.loop (α := Nat) (fun k => [(0, v), (2, (ptr b1 0)), (7, (vN k))]) (fun k w' => (k ≤ 16) ∧ Own [] w w' [.blk b1 (wC b k) 344]) (fun k => 16 - k) 0 ⟨(by omega), H1⟩ ⟨rfl, rfl, rfl, trivial⟩ ?_
  rintro k w2 ⟨hinv, H2⟩
  show WC _ _ _ _ _ [(0, v), (2, (ptr b1 0)), (7, (vN k))] _
  refine WC.seq ?_
  refine WC.region ?_
  refine WL.op rfl rfl (op_lssN (b := 16) rfl rfl ?_)
  refine WL.nil ?_
  refine WQ.next ?_
  refine WC.seq ?_
  refine WC.cond rfl (fun (hb3 : (decide (k < 16)) = true) => ?_) (fun (hb3 : (decide (k < 16)) = false) => ?_)
  ·
    have hc3 := of_decide_eq_true hb3
    refine WC.skip ?_
    refine WQ.next ?_
    refine WC.seq ?_
    refine WC.block ?_
    refine WC.seq ?_
    refine WC.region ?_
    refine WL.op rfl rfl (op_move rfl ?_)
    refine WL.op rfl rfl (op_assign rfl ?_)
    refine WL.nil ?_
    refine WQ.next ?_
    refine WC.draw 35 Fa.M H2 (HW.op rfl (fun w1 H1 => op_move rfl ⟨rfl, Fr.refl _ _⟩) (HW.op rfl (fun w1 H1 => op_move rfl ⟨rfl, Fr.refl _ _⟩) (HW.op rfl (fun w1 H1 => op_move rfl ⟨rfl, Fr.refl _ _⟩) (HW.op rfl (fun w1 H1 => op_mulN (a := 4) rfl rfl (by omega) ⟨rfl, Fr.refl _ _⟩) (HW.op rfl (fun w1 H1 => op_indexAddr1 Tryz.underlying114 Fa.I5 rfl (H1.arr hA) rfl (by omega) ⟨rfl, Fr.refl _ _⟩) (HW.op rfl (fun w1 H1 => op_load rfl ((H1.arr hA).at (get_map vU8 0 (by omega))) Tryz.underlying5 rfl ⟨rfl, Fr.refl _ _⟩) (HW.op rfl (fun w1 H1 => op_convU8U32 (hs := Tryz.underlying5) (hd := Tryz.underlying22) rfl ⟨rfl, Fr.refl _ _⟩) (HW.op rfl (fun w1 H1 => op_shlU32 (s := 24) rfl rfl ⟨rfl, Fr.refl _ _⟩) (HW.op rfl (fun w1 H1 => op_move rfl ⟨rfl, Fr.refl _ _⟩) (HW.op rfl (fun w1 H1 => op_move rfl ⟨rfl, Fr.refl _ _⟩) (HW.op rfl (fun w1 H1 => op_mulN (a := 4) rfl rfl (by omega) ⟨rfl, Fr.refl _ _⟩) (HW.op rfl (fun w1 H1 => op_addN (b := 1) rfl rfl (by omega) ⟨rfl, Fr.refl _ _⟩) (HW.op rfl (fun w1 H1 => op_indexAddr1 Tryz.underlying114 Fa.I5 rfl (H1.arr hA) rfl (by omega) ⟨rfl, Fr.refl _ _⟩) (HW.op rfl (fun w1 H1 => op_load rfl ((H1.arr hA).at (get_map vU8 0 (by omega))) Tryz.underlying5 rfl ⟨rfl, Fr.refl _ _⟩) (HW.op rfl (fun w1 H1 => op_convU8U32 (hs := Tryz.underlying5) (hd := Tryz.underlying22) rfl ⟨rfl, Fr.refl _ _⟩) (HW.op rfl (fun w1 H1 => op_shlU32 (s := 16) rfl rfl ⟨rfl, Fr.refl _ _⟩) (HW.op rfl (fun w1 H1 => op_orU32 rfl rfl ⟨rfl, Fr.refl _ _⟩) (HW.op rfl (fun w1 H1 => op_move rfl ⟨rfl, Fr.refl _ _⟩) (HW.op rfl (fun w1 H1 => op_move rfl ⟨rfl, Fr.refl _ _⟩) (HW.op rfl (fun w1 H1 => op_mulN (a := 4) rfl rfl (by omega) ⟨rfl, Fr.refl _ _⟩) (HW.op rfl (fun w1 H1 => op_addN (b := 2) rfl rfl (by omega) ⟨rfl, Fr.refl _ _⟩) (HW.op rfl (fun w1 H1 => op_indexAddr1 Tryz.underlying114 Fa.I5 rfl (H1.arr hA) rfl (by omega) ⟨rfl, Fr.refl _ _⟩) (HW.op rfl (fun w1 H1 => op_load rfl ((H1.arr hA).at (get_map vU8 0 (by omega))) Tryz.underlying5 rfl ⟨rfl, Fr.refl _ _⟩) (HW.op rfl (fun w1 H1 => op_convU8U32 (hs := Tryz.underlying5) (hd := Tryz.underlying22) rfl ⟨rfl, Fr.refl _ _⟩) (HW.op rfl (fun w1 H1 => op_shlU32 (s := 8) rfl rfl ⟨rfl, Fr.refl _ _⟩) (HW.op rfl (fun w1 H1 => op_orU32 rfl rfl ⟨rfl, Fr.refl _ _⟩) (HW.op rfl (fun w1 H1 => op_move rfl ⟨rfl, Fr.refl _ _⟩) (HW.op rfl (fun w1 H1 => op_move rfl ⟨rfl, Fr.refl _ _⟩) (HW.op rfl (fun w1 H1 => op_mulN (a := 4) rfl rfl (by omega) ⟨rfl, Fr.refl _ _⟩) (HW.op rfl (fun w1 H1 => op_addN (b := 3) rfl rfl (by omega) ⟨rfl, Fr.refl _ _⟩) (HW.op rfl (fun w1 H1 => op_indexAddr1 Tryz.underlying114 Fa.I5 rfl (H1.arr hA) rfl (by omega) ⟨rfl, Fr.refl _ _⟩) (HW.op rfl (fun w1 H1 => op_load rfl ((H1.arr hA).at (get_map vU8 0 (by omega))) Tryz.underlying5 rfl ⟨rfl, Fr.refl _ _⟩) (HW.op rfl (fun w1 H1 => op_convU8U32 (hs := Tryz.underlying5) (hd := Tryz.underlying22) rfl ⟨rfl, Fr.refl _ _⟩) (HW.op rfl (fun w1 H1 => op_orU32 rfl rfl ⟨rfl, Fr.refl _ _⟩) (HW.op rfl (fun w1 H1 => op_indexAddrA1 Tryz.underlying344 Fa.I22 rfl rfl (by omega) ⟨rfl, Fr.refl _ _⟩)  HW.nil))))))))))))))))))))))))))))))))))) (by kernel_rfl) ?_
    intro β4 w4 H4
    refine WL.op rfl rfl (op_storeB (i := 0) H4 rfl rfl rfl (by rw [Nat.blt_eq, wC_length _ _ (by omega)]; omega) rfl Fa.I22 (fun w5 H5 => ?_))
    refine WL.nil ?_
    refine WQ.inNormal ?_
    refine WQ.next ?_
    refine WC.region ?_
    refine WL.op rfl rfl (op_addN (b := 1) rfl rfl (by omega) ?_)
    refine WL.op rfl rfl (op_move rfl ?_)
    refine WL.nil ?_
    exact WQ.round (k + 1) ⟨(by omega), (by rw [wC_set b (k := k) (by omega), if_pos (by omega)]; exact H5)⟩ ⟨rfl, rfl, rfl, trivial⟩ (by omega)
  ·
    have hc3 := of_decide_eq_false hb3
    refine WC.exit ?_
    refine WQ.thenExit ?_
    refine WQ.thenExit ?_
    refine WQ.inHere ?_
    refine WQ.next ?_
    refine WC.seq ?_
    refine WC.seq ?_
    refine WC.region ?_
    refine WL.op rfl rfl (op_assign rfl ?_)
    refine WL.nil ?_
    refine WQ.next ?_
    refine WC.block ?_
    refine WC.loop (α := Nat) (fun k => [(0, v), (2, (ptr b1 0)), (4, (vN k))]) (fun k w' => ((16 ≤ k ∧ k ≤ 64)) ∧ Own [] w w' [.blk b1 (wC b k) 344]) (fun k => 64 - k) 16 ⟨(by omega), (by have hk : k = 16 := (by omega); subst hk; exact H2)⟩ ⟨rfl, rfl, rfl, trivial⟩ ?_
    rintro k w6 ⟨hinv, H6⟩
    show WC _ _ _ _ _ [(0, v), (2, (ptr b1 0)), (4, (vN k))] _
    refine WC.seq ?_
    refine WC.seq ?_
    refine WC.region ?_
    refine WL.op rfl rfl (op_move rfl ?_)
    refine WL.op rfl rfl (op_lssN (b := 64) rfl rfl ?_)
    refine WL.nil ?_
    refine WQ.next ?_
    refine WC.cond rfl (fun (hb7 : (decide (k < 64)) = true) => ?_) (fun (hb7 : (decide (k < 64)) = false) => ?_)
    ·
      have hc7 := of_decide_eq_true hb7
      refine WC.skip ?_
      refine WQ.next ?_
      refine WC.seq ?_
      refine WC.block ?_
      refine WC.seq ?_
      refine WC.draw 10 Fa.M H6 (HW.op rfl (fun w1 H1 => op_move rfl ⟨rfl, Fr.refl _ _⟩) (HW.op rfl (fun w1 H1 => op_subN (b := 15) rfl rfl (by omega) (by omega) ⟨rfl, Fr.refl _ _⟩) (HW.op rfl (fun w1 H1 => op_indexAddrA1 Tryz.underlying344 Fa.I22 rfl rfl (by omega) ⟨rfl, Fr.refl _ _⟩) (HW.op rfl (fun w1 H1 => op_load rfl (H1.cell (i := 0) rfl (wC_get b (by omega))) Tryz.underlying22 rfl ⟨rfl, Fr.refl _ _⟩) (HW.op rfl (fun w1 H1 => op_move rfl ⟨rfl, Fr.refl _ _⟩) (HW.op rfl (fun w1 H1 => op_subN (b := 2) rfl rfl (by omega) (by omega) ⟨rfl, Fr.refl _ _⟩) (HW.op rfl (fun w1 H1 => op_indexAddrA1 Tryz.underlying344 Fa.I22 rfl rfl (by omega) ⟨rfl, Fr.refl _ _⟩) (HW.op rfl (fun w1 H1 => op_load rfl (H1.cell (i := 0) rfl (wC_get b (by omega))) Tryz.underlying22 rfl ⟨rfl, Fr.refl _ _⟩) (HW.op rfl (fun w1 H1 => op_assign rfl ⟨rfl, Fr.refl _ _⟩) (HW.op rfl (fun w1 H1 => op_assign rfl ⟨rfl, Fr.refl _ _⟩)  HW.nil)))))))))) (by kernel_rfl) ?_
      intro β8 w8 H8
      refine WL.nil ?_
      refine WQ.next ?_
      refine WC.draw 29 Fa.M H8 (HW.op rfl (fun w1 H1 => op_move rfl ⟨rfl, Fr.refl _ _⟩) (HW.op rfl (fun w1 H1 => op_move rfl ⟨rfl, Fr.refl _ _⟩) (HW.op rfl (fun w1 H1 => op_subN (b := 16) rfl rfl (by omega) (by omega) ⟨rfl, Fr.refl _ _⟩) (HW.op rfl (fun w1 H1 => op_indexAddrA1 Tryz.underlying344 Fa.I22 rfl rfl (by omega) ⟨rfl, Fr.refl _ _⟩) (HW.op rfl (fun w1 H1 => op_load rfl (H1.cell (i := 0) rfl (wC_get b (by omega))) Tryz.underlying22 rfl ⟨rfl, Fr.refl _ _⟩) (HW.op rfl (fun w1 H1 => op_move rfl ⟨rfl, Fr.refl _ _⟩) (HW.op rfl (fun w1 H1 => op_callF Fa.C245 rfl ((turn_ok ((wl b k).getD (k - 15) 0) 7 (by decide) _).mono (fun e w2 hq => ⟨_, hq.1, rfl, hq.2⟩))) (HW.op rfl (fun w1 H1 => op_move rfl ⟨rfl, Fr.refl _ _⟩) (HW.op rfl (fun w1 H1 => op_callF Fa.C245 rfl ((turn_ok ((wl b k).getD (k - 15) 0) 18 (by decide) _).mono (fun e w2 hq => ⟨_, hq.1, rfl, hq.2⟩))) (HW.op rfl (fun w1 H1 => op_xorU32 rfl rfl ⟨rfl, Fr.refl _ _⟩) (HW.op rfl (fun w1 H1 => op_move rfl ⟨rfl, Fr.refl _ _⟩) (HW.op rfl (fun w1 H1 => op_shrU32 (s := 3) rfl rfl ⟨rfl, Fr.refl _ _⟩) (HW.op rfl (fun w1 H1 => op_xorU32 rfl rfl ⟨rfl, Fr.refl _ _⟩) (HW.op rfl (fun w1 H1 => op_addU32 rfl rfl ⟨rfl, Fr.refl _ _⟩) (HW.op rfl (fun w1 H1 => op_move rfl ⟨rfl, Fr.refl _ _⟩) (HW.op rfl (fun w1 H1 => op_subN (b := 7) rfl rfl (by omega) (by omega) ⟨rfl, Fr.refl _ _⟩) (HW.op rfl (fun w1 H1 => op_indexAddrA1 Tryz.underlying344 Fa.I22 rfl rfl (by omega) ⟨rfl, Fr.refl _ _⟩) (HW.op rfl (fun w1 H1 => op_load rfl (H1.cell (i := 0) rfl (wC_get b (by omega))) Tryz.underlying22 rfl ⟨rfl, Fr.refl _ _⟩) (HW.op rfl (fun w1 H1 => op_addU32 rfl rfl ⟨rfl, Fr.refl _ _⟩) (HW.op rfl (fun w1 H1 => op_move rfl ⟨rfl, Fr.refl _ _⟩) (HW.op rfl (fun w1 H1 => op_callF Fa.C245 rfl ((turn_ok ((wl b k).getD (k - 2) 0) 17 (by decide) _).mono (fun e w2 hq => ⟨_, hq.1, rfl, hq.2⟩))) (HW.op rfl (fun w1 H1 => op_move rfl ⟨rfl, Fr.refl _ _⟩) (HW.op rfl (fun w1 H1 => op_callF Fa.C245 rfl ((turn_ok ((wl b k).getD (k - 2) 0) 19 (by decide) _).mono (fun e w2 hq => ⟨_, hq.1, rfl, hq.2⟩))) (HW.op rfl (fun w1 H1 => op_xorU32 rfl rfl ⟨rfl, Fr.refl _ _⟩) (HW.op rfl (fun w1 H1 => op_move rfl ⟨rfl, Fr.refl _ _⟩) (HW.op rfl (fun w1 H1 => op_shrU32 (s := 10) rfl rfl ⟨rfl, Fr.refl _ _⟩) (HW.op rfl (fun w1 H1 => op_xorU32 rfl rfl ⟨rfl, Fr.refl _ _⟩) (HW.op rfl (fun w1 H1 => op_addU32 rfl rfl ⟨rfl, Fr.refl _ _⟩) (HW.op rfl (fun w1 H1 => op_indexAddrA1 Tryz.underlying344 Fa.I22 rfl rfl (by omega) ⟨rfl, Fr.refl _ _⟩)  HW.nil))))))))))))))))))))))))))))) (by kernel_rfl) ?_
      intro β13 w13 H13
      refine WL.op rfl rfl (op_storeB (i := 0) H13 rfl rfl rfl (by rw [Nat.blt_eq, wC_length _ _ (by omega)]; omega) rfl Fa.I22 (fun w14 H14 => ?_))
      refine WL.nil ?_
      refine WQ.inNormal ?_
      refine WQ.next ?_
      refine WC.region ?_
      refine WL.op rfl rfl (op_move rfl ?_)
      refine WL.op rfl rfl (op_addN (b := 1) rfl rfl (by omega) ?_)
      refine WL.op rfl rfl (op_assign rfl ?_)
      refine WL.nil ?_
      exact WQ.round (k + 1) ⟨(by omega), (by rw [wC_set b (k := k) (by omega), if_neg (by omega)]; exact H14)⟩ ⟨rfl, rfl, rfl, trivial⟩ (by omega)
    ·
      have hc7 := of_decide_eq_false hb7
      refine WC.exit ?_
      refine WQ.thenExit ?_
      refine WQ.thenExit ?_
      refine WQ.inHere ?_
      refine WQ.next ?_
      refine WC.seq ?_
      refine WC.region ?_
      refine WL.op rfl rfl (op_loadS rfl (H6.cellsW (i := 0) rfl) Tryz.underlying344 rfl Fa.I344 (wC_length _ _ (by omega)) ?_)
      refine WL.op rfl rfl (op_storeBV (i := 0) H6 rfl rfl rfl (by rw [wC_length _ _ (by omega)]; exact Nat.beq_refl 64) (by have hk : k = 64 := (by omega); subst hk; rw [wC_end]; exact one_U32 _) (wC_length _ _ (by omega)) Fa.I344 (fun w15 H15 => ?_))
      refine WL.nil ?_
      refine WQ.next ?_
      refine WC.ret ?_
      refine WQ.out (.cell rfl (run_loadVarS (H15.cellsW (i := 0) rfl) Tryz.underlying344 rfl Fa.I344 (wC_length _ _ (by omega))) .nil) ?_
      exact ⟨by have hk : k = 64 := (by omega); subst hk; rw [← wC_end]; rfl, H15.fr⟩
set_option maxRecDepth 100000 in
theorem block_ok (h : St) (v : Value) (b : List UInt8) (w : World) (hl : b.length = 64) (hA : Arr w v 1 64 (b.map vU8)) :
    Calls Tryz.prog 228 #[(.agg #[(vU32 h.a), (vU32 h.b), (vU32 h.c), (vU32 h.d), (vU32 h.e), (vU32 h.f), (vU32 h.g), (vU32 h.h)]), v] w (fun e w' => e = .returned (.agg #[vU32 (blockS h b).a, vU32 (blockS h b).b, vU32 (blockS h b).c, vU32 (blockS h b).d, vU32 (blockS h b).e, vU32 (blockS h b).f, vU32 (blockS h b).g, vU32 (blockS h b).h]) ∧ Fr [] w w') := by
  refine enter (args := [(.agg #[(vU32 h.a), (vU32 h.b), (vU32 h.c), (vU32 h.d), (vU32 h.e), (vU32 h.f), (vU32 h.g), (vU32 h.h)]), v]) Tryz.func228 rfl rfl ?_
  have H0 : Own [] w w [] := Own.start w []
  refine WC.seq ?_
  refine WC.region ?_
  refine WL.op rfl rfl (op_box H0 rfl rfl (fun b1 w1 H1 => ?_))
  refine WL.op rfl rfl (op_alloc H1 Fa.I322 (fun b2 w2 H2 => ?_))
  refine WL.nil ?_
  refine WQ.next ?_
  refine WC.seq ?_
  refine WC.draw 7 Fa.M H2 (HW.op rfl (fun w1 H1 => op_loadS (vs := [_, _, _, _, _, _, _, _]) rfl (H1.cells (i := 0) rfl rfl) Tryz.underlying322 rfl Fa.I322 rfl ⟨rfl, Fr.refl _ _⟩) (HW.op rfl (fun w1 H1 => op_move rfl ⟨rfl, Fr.refl _ _⟩) (HW.op rfl (fun w1 H1 => op_callF Fa.C243 rfl ((words_ok _ _ _ hl (H1.arr hA)).mono (fun e w2 hq => ⟨_, hq.1, rfl, hq.2⟩))) (HW.op rfl (fun w1 H1 => op_callF Fa.C244 rfl ((keys_ok _).mono (fun e w2 hq => ⟨_, hq.1, rfl, hq.2⟩))) (HW.flt (mk := fun bq => ptr bq.1 0) (ent := fun bq => .blk bq.1 _ _) rfl (fun w1 _ => op_alloc (Own.start w1 []) Fa.I322 (fun bq w2 H2 => ⟨(bq, undef), rfl, H2, True.intro⟩)) (HW.flt (mk := fun bq => ptr bq.1 0) (ent := fun bq => .blk bq.1 _ _) rfl (fun w1 _ => op_alloc (Own.start w1 []) Fa.I344 (fun bq w2 H2 => ⟨(bq, undef), rfl, H2, True.intro⟩)) (HW.flt (mk := fun bq => ptr bq.1 0) (ent := fun bq => .blk bq.1 _ _) rfl (fun w1 _ => op_alloc (Own.start w1 []) Fa.I344 (fun bq w2 H2 => ⟨(bq, undef), rfl, H2, True.intro⟩))  HW.nil))))))) (by kernel_rfl) ?_
  intro β5 w5 H5
  refine WL.op rfl rfl (op_storeBW (i := 2) H5 rfl rfl rfl rfl rfl Fa.I322 (fun w6 H6 => ?_))
  refine WL.op rfl rfl (op_storeBV (i := 3) H6 rfl rfl rfl (by rw [List.length_map, wl_length, List.length_replicate]; rfl) (one_U32 _) (by rw [List.length_map, wl_length]) Fa.I344 (fun w7 H7 => ?_))
  refine WL.op rfl rfl (op_storeBV (i := 4) H7 rfl rfl rfl (by kernel_rfl) (one_U32 _) (by kernel_rfl) Fa.I344 (fun w8 H8 => ?_))
  refine WL.nil ?_
  refine WQ.next ?_
  refine WC.seq ?_
  refine WC.seq ?_
  refine WC.region ?_
  refine WL.op rfl rfl (op_move rfl ?_)
  refine WL.nil ?_
  refine WQ.next ?_
  refine WC.block ?_
  refine WC.loop (α := Nat) (fun t => [(2, (ptr b1 0)), (4, (ptr b2 0)), (5, (ptr (β5 4).1 0)), (6, (ptr (β5 5).1 0)), (7, (ptr (β5 6).1 0)), (16, (vN t))]) (fun t w' => (t ≤ 64) ∧ Own [] w w' [.blk b1 [(vU32 h.a), (vU32 h.b), (vU32 h.c), (vU32 h.d), (vU32 h.e), (vU32 h.f), (vU32 h.g), (vU32 h.h)] 322, .blk b2 [(vU32 0), (vU32 0), (vU32 0), (vU32 0), (vU32 0), (vU32 0), (vU32 0), (vU32 0)] 322, .blk (β5 4).1 [(vU32 (rounds h (wl b 64) t).a), (vU32 (rounds h (wl b 64) t).b), (vU32 (rounds h (wl b 64) t).c), (vU32 (rounds h (wl b 64) t).d), (vU32 (rounds h (wl b 64) t).e), (vU32 (rounds h (wl b 64) t).f), (vU32 (rounds h (wl b 64) t).g), (vU32 (rounds h (wl b 64) t).h)] 322, .blk (β5 5).1 ((wl b 64).map vU32) 344, .blk (β5 6).1 (keyL.map vU32) 344]) (fun t => 64 - t) 0 ⟨(by omega), H8⟩ ⟨rfl, rfl, rfl, rfl, rfl, rfl, trivial⟩ ?_
  rintro t w9 ⟨hinv, H9⟩
  show WC _ _ _ _ _ [(2, (ptr b1 0)), (4, (ptr b2 0)), (5, (ptr (β5 4).1 0)), (6, (ptr (β5 5).1 0)), (7, (ptr (β5 6).1 0)), (16, (vN t))] _
  refine WC.seq ?_
  refine WC.region ?_
  refine WL.op rfl rfl (op_lssN (b := 64) rfl rfl ?_)
  refine WL.nil ?_
  refine WQ.next ?_
  refine WC.seq ?_
  refine WC.cond rfl (fun (hb10 : (decide (t < 64)) = true) => ?_) (fun (hb10 : (decide (t < 64)) = false) => ?_)
  ·
    have hc10 := of_decide_eq_true hb10
    refine WC.skip ?_
    refine WQ.next ?_
    refine WC.seq ?_
    refine WC.block ?_
    refine WC.seq ?_
    refine WC.region ?_
    refine WL.op rfl rfl (op_move rfl ?_)
    refine WL.op rfl rfl (op_assign rfl ?_)
    refine WL.nil ?_
    refine WQ.next ?_
    refine WC.seq ?_
    refine WC.draw 35 Fa.M H9 (HW.op rfl (fun w1 H1 => op_indexAddrA1 (m := 7) Tryz.underlying322 Fa.I22 rfl rfl (by omega) ⟨rfl, Fr.refl _ _⟩) (HW.op rfl (fun w1 H1 => op_load rfl (H1.cell (i := 2) rfl rfl) Tryz.underlying22 rfl ⟨rfl, Fr.refl _ _⟩) (HW.op rfl (fun w1 H1 => op_indexAddrA1 (m := 4) Tryz.underlying322 Fa.I22 rfl rfl (by omega) ⟨rfl, Fr.refl _ _⟩) (HW.op rfl (fun w1 H1 => op_load rfl (H1.cell (i := 2) rfl rfl) Tryz.underlying22 rfl ⟨rfl, Fr.refl _ _⟩) (HW.op rfl (fun w1 H1 => op_callF Fa.C245 rfl ((turn_ok ((rounds h (wl b 64) t).e) 6 (by decide) _).mono (fun e w2 hq => ⟨_, hq.1, rfl, hq.2⟩))) (HW.op rfl (fun w1 H1 => op_indexAddrA1 (m := 4) Tryz.underlying322 Fa.I22 rfl rfl (by omega) ⟨rfl, Fr.refl _ _⟩) (HW.op rfl (fun w1 H1 => op_load rfl (H1.cell (i := 2) rfl rfl) Tryz.underlying22 rfl ⟨rfl, Fr.refl _ _⟩) (HW.op rfl (fun w1 H1 => op_callF Fa.C245 rfl ((turn_ok ((rounds h (wl b 64) t).e) 11 (by decide) _).mono (fun e w2 hq => ⟨_, hq.1, rfl, hq.2⟩))) (HW.op rfl (fun w1 H1 => op_xorU32 rfl rfl ⟨rfl, Fr.refl _ _⟩) (HW.op rfl (fun w1 H1 => op_indexAddrA1 (m := 4) Tryz.underlying322 Fa.I22 rfl rfl (by omega) ⟨rfl, Fr.refl _ _⟩) (HW.op rfl (fun w1 H1 => op_load rfl (H1.cell (i := 2) rfl rfl) Tryz.underlying22 rfl ⟨rfl, Fr.refl _ _⟩) (HW.op rfl (fun w1 H1 => op_callF Fa.C245 rfl ((turn_ok ((rounds h (wl b 64) t).e) 25 (by decide) _).mono (fun e w2 hq => ⟨_, hq.1, rfl, hq.2⟩))) (HW.op rfl (fun w1 H1 => op_xorU32 rfl rfl ⟨rfl, Fr.refl _ _⟩) (HW.op rfl (fun w1 H1 => op_addU32 rfl rfl ⟨rfl, Fr.refl _ _⟩) (HW.op rfl (fun w1 H1 => op_indexAddrA1 (m := 4) Tryz.underlying322 Fa.I22 rfl rfl (by omega) ⟨rfl, Fr.refl _ _⟩) (HW.op rfl (fun w1 H1 => op_load rfl (H1.cell (i := 2) rfl rfl) Tryz.underlying22 rfl ⟨rfl, Fr.refl _ _⟩) (HW.op rfl (fun w1 H1 => op_indexAddrA1 (m := 5) Tryz.underlying322 Fa.I22 rfl rfl (by omega) ⟨rfl, Fr.refl _ _⟩) (HW.op rfl (fun w1 H1 => op_load rfl (H1.cell (i := 2) rfl rfl) Tryz.underlying22 rfl ⟨rfl, Fr.refl _ _⟩) (HW.op rfl (fun w1 H1 => op_andU32 rfl rfl ⟨rfl, Fr.refl _ _⟩) (HW.op rfl (fun w1 H1 => op_indexAddrA1 (m := 6) Tryz.underlying322 Fa.I22 rfl rfl (by omega) ⟨rfl, Fr.refl _ _⟩) (HW.op rfl (fun w1 H1 => op_load rfl (H1.cell (i := 2) rfl rfl) Tryz.underlying22 rfl ⟨rfl, Fr.refl _ _⟩) (HW.op rfl (fun w1 H1 => op_indexAddrA1 (m := 4) Tryz.underlying322 Fa.I22 rfl rfl (by omega) ⟨rfl, Fr.refl _ _⟩) (HW.op rfl (fun w1 H1 => op_load rfl (H1.cell (i := 2) rfl rfl) Tryz.underlying22 rfl ⟨rfl, Fr.refl _ _⟩) (HW.op rfl (fun w1 H1 => op_andNotU32 rfl rfl ⟨rfl, Fr.refl _ _⟩) (HW.op rfl (fun w1 H1 => op_xorU32 rfl rfl ⟨rfl, Fr.refl _ _⟩) (HW.op rfl (fun w1 H1 => op_addU32 rfl rfl ⟨rfl, Fr.refl _ _⟩) (HW.op rfl (fun w1 H1 => op_move rfl ⟨rfl, Fr.refl _ _⟩) (HW.op rfl (fun w1 H1 => op_indexAddrA1 Tryz.underlying344 Fa.I22 rfl rfl (by omega) ⟨rfl, Fr.refl _ _⟩) (HW.op rfl (fun w1 H1 => op_load rfl (H1.cell (i := 4) rfl (get_map0 vU32 0 (by rw [keyL_length]; omega))) Tryz.underlying22 rfl ⟨rfl, Fr.refl _ _⟩) (HW.op rfl (fun w1 H1 => op_addU32 rfl rfl ⟨rfl, Fr.refl _ _⟩) (HW.op rfl (fun w1 H1 => op_move rfl ⟨rfl, Fr.refl _ _⟩) (HW.op rfl (fun w1 H1 => op_indexAddrA1 Tryz.underlying344 Fa.I22 rfl rfl (by omega) ⟨rfl, Fr.refl _ _⟩) (HW.op rfl (fun w1 H1 => op_load rfl (H1.cell (i := 3) rfl (get_map0 vU32 0 (by rw [wl_length]; omega))) Tryz.underlying22 rfl ⟨rfl, Fr.refl _ _⟩) (HW.op rfl (fun w1 H1 => op_addU32 rfl rfl ⟨rfl, Fr.refl _ _⟩) (HW.op rfl (fun w1 H1 => op_assign rfl ⟨rfl, Fr.refl _ _⟩)  HW.nil))))))))))))))))))))))))))))))))))) (by kernel_rfl) ?_
    intro β14 w14 H14
    refine WL.nil ?_
    refine WQ.next ?_
    refine WC.seq ?_
    refine WC.draw 30 Fa.M H14 (HW.op rfl (fun w1 H1 => op_indexAddrA1 (m := 0) Tryz.underlying322 Fa.I22 rfl rfl (by omega) ⟨rfl, Fr.refl _ _⟩) (HW.op rfl (fun w1 H1 => op_load rfl (H1.cell (i := 2) rfl rfl) Tryz.underlying22 rfl ⟨rfl, Fr.refl _ _⟩) (HW.op rfl (fun w1 H1 => op_callF Fa.C245 rfl ((turn_ok ((rounds h (wl b 64) t).a) 2 (by decide) _).mono (fun e w2 hq => ⟨_, hq.1, rfl, hq.2⟩))) (HW.op rfl (fun w1 H1 => op_indexAddrA1 (m := 0) Tryz.underlying322 Fa.I22 rfl rfl (by omega) ⟨rfl, Fr.refl _ _⟩) (HW.op rfl (fun w1 H1 => op_load rfl (H1.cell (i := 2) rfl rfl) Tryz.underlying22 rfl ⟨rfl, Fr.refl _ _⟩) (HW.op rfl (fun w1 H1 => op_callF Fa.C245 rfl ((turn_ok ((rounds h (wl b 64) t).a) 13 (by decide) _).mono (fun e w2 hq => ⟨_, hq.1, rfl, hq.2⟩))) (HW.op rfl (fun w1 H1 => op_xorU32 rfl rfl ⟨rfl, Fr.refl _ _⟩) (HW.op rfl (fun w1 H1 => op_indexAddrA1 (m := 0) Tryz.underlying322 Fa.I22 rfl rfl (by omega) ⟨rfl, Fr.refl _ _⟩) (HW.op rfl (fun w1 H1 => op_load rfl (H1.cell (i := 2) rfl rfl) Tryz.underlying22 rfl ⟨rfl, Fr.refl _ _⟩) (HW.op rfl (fun w1 H1 => op_callF Fa.C245 rfl ((turn_ok ((rounds h (wl b 64) t).a) 22 (by decide) _).mono (fun e w2 hq => ⟨_, hq.1, rfl, hq.2⟩))) (HW.op rfl (fun w1 H1 => op_xorU32 rfl rfl ⟨rfl, Fr.refl _ _⟩) (HW.op rfl (fun w1 H1 => op_indexAddrA1 (m := 0) Tryz.underlying322 Fa.I22 rfl rfl (by omega) ⟨rfl, Fr.refl _ _⟩) (HW.op rfl (fun w1 H1 => op_load rfl (H1.cell (i := 2) rfl rfl) Tryz.underlying22 rfl ⟨rfl, Fr.refl _ _⟩) (HW.op rfl (fun w1 H1 => op_indexAddrA1 (m := 1) Tryz.underlying322 Fa.I22 rfl rfl (by omega) ⟨rfl, Fr.refl _ _⟩) (HW.op rfl (fun w1 H1 => op_load rfl (H1.cell (i := 2) rfl rfl) Tryz.underlying22 rfl ⟨rfl, Fr.refl _ _⟩) (HW.op rfl (fun w1 H1 => op_andU32 rfl rfl ⟨rfl, Fr.refl _ _⟩) (HW.op rfl (fun w1 H1 => op_indexAddrA1 (m := 0) Tryz.underlying322 Fa.I22 rfl rfl (by omega) ⟨rfl, Fr.refl _ _⟩) (HW.op rfl (fun w1 H1 => op_load rfl (H1.cell (i := 2) rfl rfl) Tryz.underlying22 rfl ⟨rfl, Fr.refl _ _⟩) (HW.op rfl (fun w1 H1 => op_indexAddrA1 (m := 2) Tryz.underlying322 Fa.I22 rfl rfl (by omega) ⟨rfl, Fr.refl _ _⟩) (HW.op rfl (fun w1 H1 => op_load rfl (H1.cell (i := 2) rfl rfl) Tryz.underlying22 rfl ⟨rfl, Fr.refl _ _⟩) (HW.op rfl (fun w1 H1 => op_andU32 rfl rfl ⟨rfl, Fr.refl _ _⟩) (HW.op rfl (fun w1 H1 => op_xorU32 rfl rfl ⟨rfl, Fr.refl _ _⟩) (HW.op rfl (fun w1 H1 => op_indexAddrA1 (m := 1) Tryz.underlying322 Fa.I22 rfl rfl (by omega) ⟨rfl, Fr.refl _ _⟩) (HW.op rfl (fun w1 H1 => op_load rfl (H1.cell (i := 2) rfl rfl) Tryz.underlying22 rfl ⟨rfl, Fr.refl _ _⟩) (HW.op rfl (fun w1 H1 => op_indexAddrA1 (m := 2) Tryz.underlying322 Fa.I22 rfl rfl (by omega) ⟨rfl, Fr.refl _ _⟩) (HW.op rfl (fun w1 H1 => op_load rfl (H1.cell (i := 2) rfl rfl) Tryz.underlying22 rfl ⟨rfl, Fr.refl _ _⟩) (HW.op rfl (fun w1 H1 => op_andU32 rfl rfl ⟨rfl, Fr.refl _ _⟩) (HW.op rfl (fun w1 H1 => op_xorU32 rfl rfl ⟨rfl, Fr.refl _ _⟩) (HW.op rfl (fun w1 H1 => op_addU32 rfl rfl ⟨rfl, Fr.refl _ _⟩) (HW.op rfl (fun w1 H1 => op_assign rfl ⟨rfl, Fr.refl _ _⟩)  HW.nil)))))))))))))))))))))))))))))) (by kernel_rfl) ?_
    intro β18 w18 H18
    refine WL.nil ?_
    refine WQ.next ?_
    refine WC.region ?_
    refine WL.op rfl rfl (op_move rfl ?_)
    refine WL.op rfl rfl (op_move rfl ?_)
    refine WL.op rfl rfl (op_addU32 rfl rfl ?_)
    refine WL.op rfl rfl (op_indexAddrA1 (m := 0) Tryz.underlying322 Fa.I22 rfl rfl (by omega) ?_)
    refine WL.op rfl rfl (op_load rfl (H18.cell (i := 2) rfl rfl) Tryz.underlying22 rfl ?_)
    refine WL.op rfl rfl (op_indexAddrA1 (m := 1) Tryz.underlying322 Fa.I22 rfl rfl (by omega) ?_)
    refine WL.op rfl rfl (op_load rfl (H18.cell (i := 2) rfl rfl) Tryz.underlying22 rfl ?_)
    refine WL.op rfl rfl (op_indexAddrA1 (m := 2) Tryz.underlying322 Fa.I22 rfl rfl (by omega) ?_)
    refine WL.op rfl rfl (op_load rfl (H18.cell (i := 2) rfl rfl) Tryz.underlying22 rfl ?_)
    refine WL.op rfl rfl (op_indexAddrA1 (m := 3) Tryz.underlying322 Fa.I22 rfl rfl (by omega) ?_)
    refine WL.op rfl rfl (op_load rfl (H18.cell (i := 2) rfl rfl) Tryz.underlying22 rfl ?_)
    refine WL.op rfl rfl (op_move rfl ?_)
    refine WL.op rfl rfl (op_addU32 rfl rfl ?_)
    refine WL.op rfl rfl (op_indexAddrA1 (m := 4) Tryz.underlying322 Fa.I22 rfl rfl (by omega) ?_)
    refine WL.op rfl rfl (op_load rfl (H18.cell (i := 2) rfl rfl) Tryz.underlying22 rfl ?_)
    refine WL.op rfl rfl (op_indexAddrA1 (m := 5) Tryz.underlying322 Fa.I22 rfl rfl (by omega) ?_)
    refine WL.op rfl rfl (op_load rfl (H18.cell (i := 2) rfl rfl) Tryz.underlying22 rfl ?_)
    refine WL.op rfl rfl (op_indexAddrA1 (m := 6) Tryz.underlying322 Fa.I22 rfl rfl (by omega) ?_)
    refine WL.op rfl rfl (op_load rfl (H18.cell (i := 2) rfl rfl) Tryz.underlying22 rfl ?_)
    refine WL.op rfl rfl (op_buildA (cs := [_, _, _, _, _, _, _, _]) Fa.I322 Tryz.underlying322 Fa.I22 rfl rfl ?_)
    refine WL.op rfl rfl (op_storeBW (i := 2) H18 rfl rfl rfl rfl rfl Fa.I322 (fun w19 H19 => ?_))
    refine WL.nil ?_
    refine WQ.inNormal ?_
    refine WQ.next ?_
    refine WC.region ?_
    refine WL.op rfl rfl (op_addN (b := 1) rfl rfl (by omega) ?_)
    refine WL.op rfl rfl (op_move rfl ?_)
    refine WL.nil ?_
    exact WQ.round (t + 1) ⟨(by omega), (by exact H19)⟩ ⟨rfl, rfl, rfl, rfl, rfl, rfl, trivial⟩ (by omega)
  ·
    have hc10 := of_decide_eq_false hb10
    refine WC.exit ?_
    refine WQ.thenExit ?_
    refine WQ.thenExit ?_
    refine WQ.inHere ?_
    refine WQ.next ?_
    refine WC.seq ?_
    refine WC.seq ?_
    refine WC.region ?_
    refine WL.op rfl rfl (op_move rfl ?_)
    refine WL.nil ?_
    refine WQ.next ?_
    refine WC.block ?_
    refine WC.loop (α := Nat) (fun k => [(2, (ptr b1 0)), (4, (ptr b2 0)), (5, (ptr (β5 4).1 0)), (103, (vN k))]) (fun k w' => (k ≤ 8) ∧ Own [] w w' [.blk b1 (h.vals.map vU32) 322, .blk b2 [(vU32 0), (vU32 0), (vU32 0), (vU32 0), (vU32 0), (vU32 0), (vU32 0), (vU32 0)] 322, .blk (β5 4).1 ((addTo (rounds h (wl b 64) 64) h k).map vU32) 322, .blk (β5 5).1 ((wl b 64).map vU32) 344, .blk (β5 6).1 (keyL.map vU32) 344]) (fun k => 8 - k) 0 ⟨(by omega), (by have ht : t = 64 := (by omega); subst ht; exact H9)⟩ ⟨rfl, rfl, rfl, rfl, trivial⟩ ?_
    rintro k w20 ⟨hinv, H20⟩
    show WC _ _ _ _ _ [(2, (ptr b1 0)), (4, (ptr b2 0)), (5, (ptr (β5 4).1 0)), (103, (vN k))] _
    refine WC.seq ?_
    refine WC.region ?_
    refine WL.op rfl rfl (op_lssN (b := 8) rfl rfl ?_)
    refine WL.nil ?_
    refine WQ.next ?_
    refine WC.seq ?_
    refine WC.cond rfl (fun (hb21 : (decide (k < 8)) = true) => ?_) (fun (hb21 : (decide (k < 8)) = false) => ?_)
    ·
      have hc21 := of_decide_eq_true hb21
      refine WC.skip ?_
      refine WQ.next ?_
      refine WC.seq ?_
      refine WC.block ?_
      refine WC.seq ?_
      refine WC.region ?_
      refine WL.op rfl rfl (op_move rfl ?_)
      refine WL.op rfl rfl (op_assign rfl ?_)
      refine WL.nil ?_
      refine WQ.next ?_
      refine WC.draw 8 Fa.M H20 (HW.op rfl (fun w1 H1 => op_move rfl ⟨rfl, Fr.refl _ _⟩) (HW.op rfl (fun w1 H1 => op_indexAddrA1 Tryz.underlying322 Fa.I22 rfl rfl (by omega) ⟨rfl, Fr.refl _ _⟩) (HW.op rfl (fun w1 H1 => op_load rfl (H1.cell (i := 2) rfl (get_map0 vU32 0 (by rw [addTo_length _ _ _ (by omega)]; omega))) Tryz.underlying22 rfl ⟨rfl, Fr.refl _ _⟩) (HW.op rfl (fun w1 H1 => op_move rfl ⟨rfl, Fr.refl _ _⟩) (HW.op rfl (fun w1 H1 => op_indexAddrA1 Tryz.underlying322 Fa.I22 rfl rfl (by omega) ⟨rfl, Fr.refl _ _⟩) (HW.op rfl (fun w1 H1 => op_load rfl (H1.cell (i := 0) rfl (get_map0 vU32 0 (by rw [vals_length]; omega))) Tryz.underlying22 rfl ⟨rfl, Fr.refl _ _⟩) (HW.op rfl (fun w1 H1 => op_addU32 rfl rfl ⟨rfl, Fr.refl _ _⟩) (HW.op rfl (fun w1 H1 => op_indexAddrA1 Tryz.underlying322 Fa.I22 rfl rfl (by omega) ⟨rfl, Fr.refl _ _⟩)  HW.nil)))))))) (by kernel_rfl) ?_
      intro β22 w22 H22
      refine WL.op rfl rfl (op_storeB (i := 2) H22 rfl rfl rfl (by rw [Nat.blt_eq, List.length_map, addTo_length _ _ _ (by omega)]; omega) rfl Fa.I22 (fun w23 H23 => ?_))
      refine WL.nil ?_
      refine WQ.inNormal ?_
      refine WQ.next ?_
      refine WC.region ?_
      refine WL.op rfl rfl (op_addN (b := 1) rfl rfl (by omega) ?_)
      refine WL.op rfl rfl (op_move rfl ?_)
      refine WL.nil ?_
      exact WQ.round (k + 1) ⟨(by omega), (by rw [addTo_map _ _ (by omega)]; exact H23)⟩ ⟨rfl, rfl, rfl, rfl, trivial⟩ (by omega)
    ·
      have hc21 := of_decide_eq_false hb21
      refine WC.exit ?_
      refine WQ.thenExit ?_
      refine WQ.thenExit ?_
      refine WQ.inHere ?_
      refine WQ.next ?_
      refine WC.seq ?_
      refine WC.region ?_
      refine WL.op rfl rfl (op_loadS rfl (H20.cellsW (i := 2) rfl) Tryz.underlying322 rfl Fa.I322 (by rw [List.length_map, addTo_length _ _ _ (by omega)]) ?_)
      refine WL.op rfl rfl (op_storeBV (i := 1) H20 rfl rfl rfl (by rw [List.length_map, addTo_length _ _ _ (by omega)]; rfl) (one_U32 _) (by rw [List.length_map, addTo_length _ _ _ (by omega)]) Fa.I322 (fun w24 H24 => ?_))
      refine WL.nil ?_
      refine WQ.next ?_
      refine WC.ret ?_
      refine WQ.out (.cell rfl (run_loadVarS (H24.cellsW (i := 1) rfl) Tryz.underlying322 rfl Fa.I322 (by rw [List.length_map, addTo_length _ _ _ (by omega)])) .nil) ?_
      exact ⟨by have hk : k = 8 := (by omega); subst hk; rw [addTo_end]; rfl, H24.fr⟩
set_option maxRecDepth 100000 in
theorem new_ok  (w : World) :
    Calls Tryz.prog 191 #[] w (fun e w' => ∃ q, e = .returned (ptr q 0) ∧ Own [] w w' [.blk q [(vU32 (hst ([] : List UInt8)).a), (vU32 (hst ([] : List UInt8)).b), (vU32 (hst ([] : List UInt8)).c), (vU32 (hst ([] : List UInt8)).d), (vU32 (hst ([] : List UInt8)).e), (vU32 (hst ([] : List UInt8)).f), (vU32 (hst ([] : List UInt8)).g), (vU32 (hst ([] : List UInt8)).h), (.slice none 0 0), (vN ([] : List UInt8).length)] 325, .row (.slice none 0 0) 5 1 (hrest ([] : List UInt8)).length ((hrest ([] : List UInt8)).map vU8)]) := by
  refine enter (args := []) Tryz.func191 rfl rfl ?_
  have H0 : Own [] w w [] := Own.start w []
  refine WC.seq ?_
  refine WC.region ?_
  refine WL.op rfl rfl (op_assign rfl ?_)
  refine WL.nil ?_
  refine WQ.next ?_
  refine WC.seq ?_
  refine WC.region ?_
  refine WL.op rfl rfl (op_callF Fa.C226 rfl ((first_ok _).mono (fun e w1 hq => ?_)))
  obtain ⟨rfl, hf1⟩ := hq
  refine ⟨_, rfl, ?_⟩
  have H1 := H0.fr' hf1
  refine WL.op rfl rfl (op_build (cs := [_, _, _, _, _, _, _, _, _, _]) Fa.I325 Fa.PL325 rfl rfl ?_)
  refine WL.op rfl rfl (op_box H1 rfl rfl (fun b2 w2 H2 => ?_))
  refine WL.op rfl rfl (op_assign rfl ?_)
  refine WL.nil ?_
  refine WQ.next ?_
  refine WC.ret ?_
  refine WQ.out (.tmp rfl .nil) ?_
  exact ⟨b2, rfl, H2.nilRow _ _⟩
set_option maxRecDepth 100000 in
theorem write_ok (q : Nat) (v lv : Value) (all : List UInt8) (ls : List (List UInt8)) (T : List Nat) (w : World) (H : Own T w w [.blk q [(vU32 (hst all).a), (vU32 (hst all).b), (vU32 (hst all).c), (vU32 (hst all).d), (vU32 (hst all).e), (vU32 (hst all).f), (vU32 (hst all).g), (vU32 (hst all).h), v, (vN all.length)] 325, .row v 5 1 (hrest all).length ((hrest all).map vU8)]) {nl : Nat} (hA : ∀ w1, Fr T w w1 → Arr w1 lv 1 nl (ls.map str)) (hb : (all ++ ls.flatten).length < 2 ^ 40) (hn : ls.length < 2 ^ 40) :
    Calls Tryz.prog 193 #[(ptr q 0), lv] w (fun e w' => ∃ v, e = .returned (vN 0) ∧ Own T w w' [.blk q [(vU32 (hst (all ++ ls.flatten)).a), (vU32 (hst (all ++ ls.flatten)).b), (vU32 (hst (all ++ ls.flatten)).c), (vU32 (hst (all ++ ls.flatten)).d), (vU32 (hst (all ++ ls.flatten)).e), (vU32 (hst (all ++ ls.flatten)).f), (vU32 (hst (all ++ ls.flatten)).g), (vU32 (hst (all ++ ls.flatten)).h), v, (vN (all ++ ls.flatten).length)] 325, .row v 5 1 (hrest (all ++ ls.flatten)).length ((hrest (all ++ ls.flatten)).map vU8)]) := by
  refine enter (args := [(ptr q 0), lv]) Tryz.func193 rfl rfl ?_
  obtain rfl := (hA w (Fr.refl _ _)).mapLen
  refine WC.seq ?_
  refine WC.region ?_
  refine WL.op rfl rfl (op_assign rfl ?_)
  refine WL.nil ?_
  refine WQ.next ?_
  refine WC.seq ?_
  refine WC.seq ?_
  refine WC.region ?_
  refine WL.op rfl rfl (op_move rfl ?_)
  refine WL.op rfl rfl (op_eqlPN Fa.PT290 rfl rfl ?_)
  refine WL.nil ?_
  refine WQ.next ?_
  refine WC.no rfl rfl ?_
  refine WC.skip ?_
  refine WQ.next ?_
  refine WC.seq ?_
  refine WC.seq ?_
  refine WC.region ?_
  refine WL.op rfl rfl (op_move rfl ?_)
  refine WL.op rfl rfl (op_lenA Tryz.underlying59 rfl (hA _ H.fr) ?_)
  refine WL.op rfl rfl (op_move rfl ?_)
  refine WL.nil ?_
  refine WQ.next ?_
  refine WC.block ?_
  refine WC.loop (α := Nat × Value) (fun (k, v) => [(0, (ptr q 0)), (9, lv), (10, (vN ls.length)), (11, (vN k))]) (fun (k, v) w' => (k ≤ ls.length) ∧ Own T w w' [.blk q [(vU32 (hst (acc all ls k)).a), (vU32 (hst (acc all ls k)).b), (vU32 (hst (acc all ls k)).c), (vU32 (hst (acc all ls k)).d), (vU32 (hst (acc all ls k)).e), (vU32 (hst (acc all ls k)).f), (vU32 (hst (acc all ls k)).g), (vU32 (hst (acc all ls k)).h), v, (vN (acc all ls k).length)] 325, .row v 5 1 (hrest (acc all ls k)).length (List.map vU8 (hrest (acc all ls k)))]) (fun (k, v) => ls.length - k) (0, v) ⟨(by omega), H⟩ ⟨rfl, rfl, rfl, rfl, trivial⟩ ?_
  rintro ⟨k, v⟩ w1 ⟨hinv, H1⟩
  show WC _ _ _ _ _ [(0, (ptr q 0)), (9, lv), (10, (vN ls.length)), (11, (vN k))] _
  have hl0 := acc_len all ls k (by omega)
  have hr0 := hrest_length (acc all ls k)
  refine WC.seq ?_
  refine WC.region ?_
  refine WL.op rfl rfl (op_lssN rfl rfl ?_)
  refine WL.nil ?_
  refine WQ.next ?_
  refine WC.seq ?_
  refine WC.cond rfl (fun (hb2 : (decide (k < ls.length)) = true) => ?_) (fun (hb2 : (decide (k < ls.length)) = false) => ?_)
  ·
    have hc2 := of_decide_eq_true hb2
    have hl1 := acc_len1 all ls k hc2
    refine WC.skip ?_
    refine WQ.next ?_
    refine WC.seq ?_
    refine WC.block ?_
    refine WC.seq ?_
    refine WC.region ?_
    refine WL.op rfl rfl (op_indexAddr1 Tryz.underlying59 Fa.I9 rfl (hA _ H1.fr) rfl (by omega) ?_)
    refine WL.op rfl rfl (op_load rfl ((hA _ H1.fr).at (get_map str [] (by first | omega | (simp; omega)))) Tryz.underlying9 rfl ?_)
    refine WL.op rfl rfl (op_assign rfl ?_)
    refine WL.nil ?_
    refine WQ.next ?_
    refine WC.seq ?_
    refine WC.region ?_
    refine WL.op rfl rfl (op_move rfl ?_)
    refine WL.op rfl rfl (op_move rfl ?_)
    refine WL.op rfl rfl (op_nilCheck rfl ?_)
    refine WL.op rfl rfl (op_fieldAddr rfl Fa.F325_1 ?_)
    refine WL.op rfl rfl (op_load rfl (H1.cell (i := 0) rfl rfl) Tryz.underlying114 rfl ?_)
    refine WL.op rfl rfl (op_move rfl ?_)
    refine WL.op rfl rfl (op_appendM (f := vU8) (l := (hrest (acc all ls k))) (l' := (ls.getD k [])) (i := 1) H1 Tryz.underlying114 Fa.I5 rfl rfl rfl rfl (Src.ofStr Tryz.underlying9) (one_mapM (fun _ => rfl)) (by omega) (by omega) (fun v3 w3 H3 => ?_))
    refine WL.op rfl rfl (op_nilCheck rfl ?_)
    refine WL.op rfl rfl (op_fieldAddr rfl Fa.F325_1 ?_)
    refine WL.op rfl rfl (op_storeB (i := 0) H3 rfl rfl rfl rfl (Arr.one (H3.arrR (i := 1) rfl)) Fa.I114 (fun w4 H4 => ?_))
    refine WL.nil ?_
    refine WQ.next ?_
    refine WC.seq ?_
    refine WC.region ?_
    refine WL.op rfl rfl (op_move rfl ?_)
    refine WL.op rfl rfl (op_nilCheck rfl ?_)
    refine WL.op rfl rfl (op_fieldAddr rfl Fa.F325_2 ?_)
    refine WL.op rfl rfl (op_load rfl (H4.cell (i := 0) rfl rfl) Tryz.underlying3 rfl ?_)
    refine WL.op rfl rfl (op_move rfl ?_)
    refine WL.op rfl rfl (op_lenStr Tryz.underlying9 rfl ?_)
    refine WL.op rfl rfl (op_addN rfl rfl (by omega) ?_)
    refine WL.op rfl rfl (op_nilCheck rfl ?_)
    refine WL.op rfl rfl (op_fieldAddr rfl Fa.F325_2 ?_)
    refine WL.op rfl rfl (op_storeB (i := 0) H4 rfl rfl rfl rfl rfl Fa.I3 (fun w5 H5 => ?_))
    refine WL.nil ?_
    refine WQ.next ?_
    refine WC.block ?_
    refine WC.loop (α := Nat × Value) (fun (j, v) => [(0, (ptr q 0)), (6, (str (ls.getD k []))), (9, lv), (10, (vN ls.length)), (11, (vN k))]) (fun (j, v) w' => (64 * j ≤ (hrest (acc all ls k)).length + (ls.getD k []).length) ∧ Own T w w' [.blk q [(vU32 (bst (hst (acc all ls k)) (hrest (acc all ls k) ++ (ls.getD k [])) j).a), (vU32 (bst (hst (acc all ls k)) (hrest (acc all ls k) ++ (ls.getD k [])) j).b), (vU32 (bst (hst (acc all ls k)) (hrest (acc all ls k) ++ (ls.getD k [])) j).c), (vU32 (bst (hst (acc all ls k)) (hrest (acc all ls k) ++ (ls.getD k [])) j).d), (vU32 (bst (hst (acc all ls k)) (hrest (acc all ls k) ++ (ls.getD k [])) j).e), (vU32 (bst (hst (acc all ls k)) (hrest (acc all ls k) ++ (ls.getD k [])) j).f), (vU32 (bst (hst (acc all ls k)) (hrest (acc all ls k) ++ (ls.getD k [])) j).g), (vU32 (bst (hst (acc all ls k)) (hrest (acc all ls k) ++ (ls.getD k [])) j).h), v, (vN ((acc all ls k).length + (ls.getD k []).length))] 325, .row v 5 1 (brest (hrest (acc all ls k) ++ (ls.getD k [])) j).length (List.map vU8 (brest (hrest (acc all ls k) ++ (ls.getD k [])) j))]) (fun (j, v) => (hrest (acc all ls k)).length + (ls.getD k []).length - 64 * j) (0, v3) ⟨(by omega), (by have h := H5; rw [← @List.length_append _ (hrest (acc all ls k)) (ls.getD k [])] at h; exact h)⟩ ⟨rfl, rfl, rfl, rfl, rfl, trivial⟩ ?_
    rintro ⟨j, v⟩ w6 ⟨hinv, H6⟩
    show WC _ _ _ _ _ [(0, (ptr q 0)), (6, (str (ls.getD k []))), (9, lv), (10, (vN ls.length)), (11, (vN k))] _
    have hb0 := brest_length (hrest (acc all ls k) ++ (ls.getD k [])) j
    rw [List.length_append] at hb0
    refine WC.seq ?_
    refine WC.seq ?_
    refine WC.region ?_
    refine WL.op rfl rfl (op_move rfl ?_)
    refine WL.op rfl rfl (op_nilCheck rfl ?_)
    refine WL.op rfl rfl (op_fieldAddr rfl Fa.F325_1 ?_)
    refine WL.op rfl rfl (op_load rfl (H6.cell (i := 0) rfl rfl) Tryz.underlying114 rfl ?_)
    refine WL.op rfl rfl (op_lenA Tryz.underlying114 rfl (H6.arrR (i := 1) rfl) ?_)
    refine WL.op rfl rfl (op_geqN (b := 64) rfl rfl ?_)
    refine WL.nil ?_
    refine WQ.next ?_
    refine WC.cond rfl (fun (hb7 : (decide ((brest (hrest (acc all ls k) ++ (ls.getD k [])) j).length ≥ 64)) = true) => ?_) (fun (hb7 : (decide ((brest (hrest (acc all ls k) ++ (ls.getD k [])) j).length ≥ 64)) = false) => ?_)
    ·
      have hc7 := of_decide_eq_true hb7
      refine WC.skip ?_
      refine WQ.next ?_
      refine WC.block ?_
      refine WC.seq ?_
      refine WC.draw 13 Fa.M H6 (HW.op rfl (fun w1 H1 => op_move rfl ⟨rfl, Fr.refl _ _⟩) (HW.op rfl (fun w1 H1 => op_move rfl ⟨rfl, Fr.refl _ _⟩) (HW.op rfl (fun w1 H1 => op_nilCheck rfl ⟨rfl, Fr.refl _ _⟩) (HW.op rfl (fun w1 H1 => op_fieldAddr rfl Fa.F325_0 ⟨rfl, Fr.refl _ _⟩) (HW.op rfl (fun w1 H1 => op_loadS (vs := [_, _, _, _, _, _, _, _]) rfl (H1.cells (i := 0) rfl rfl) Tryz.underlying322 rfl Fa.I322 rfl ⟨rfl, Fr.refl _ _⟩) (HW.op rfl (fun w1 H1 => op_move rfl ⟨rfl, Fr.refl _ _⟩) (HW.op rfl (fun w1 H1 => op_nilCheck rfl ⟨rfl, Fr.refl _ _⟩) (HW.op rfl (fun w1 H1 => op_fieldAddr rfl Fa.F325_1 ⟨rfl, Fr.refl _ _⟩) (HW.op rfl (fun w1 H1 => op_load rfl (H1.cell (i := 0) rfl rfl) Tryz.underlying114 rfl ⟨rfl, Fr.refl _ _⟩) (HW.op rfl (fun w1 H1 => op_cutHi (b := 64) Tryz.underlying114 Fa.I5 rfl (H1.arrR (i := 1) rfl) rfl (by omega) ⟨rfl, Fr.refl _ _⟩) (HW.op rfl (fun w1 H1 => op_callF Fa.C228 rfl ((block_ok (bst (hst (acc all ls k)) (hrest (acc all ls k) ++ (ls.getD k [])) j) _ ((brest (hrest (acc all ls k) ++ (ls.getD k [])) j).take 64) _ (by rw [List.length_take]; omega) (((H1.arrR (i := 1) rfl)).cutHiM (f := vU8) (l := (brest (hrest (acc all ls k) ++ (ls.getD k [])) j)) (b := 64) (by omega))).mono (fun e w2 hq => ⟨_, hq.1, rfl, hq.2⟩))) (HW.op rfl (fun w1 H1 => op_nilCheck rfl ⟨rfl, Fr.refl _ _⟩) (HW.op rfl (fun w1 H1 => op_fieldAddr rfl Fa.F325_0 ⟨rfl, Fr.refl _ _⟩)  HW.nil))))))))))))) (by kernel_rfl) ?_
      intro β9 w9 H9
      refine WL.op rfl rfl (op_storeBS (i := 0) (vs := [_, _, _, _, _, _, _, _]) H9 rfl rfl rfl rfl rfl Fa.I322 (fun w10 H10 => ?_))
      refine WL.nil ?_
      refine WQ.next ?_
      refine WC.region ?_
      refine WL.op rfl rfl (op_move rfl ?_)
      refine WL.op rfl rfl (op_move rfl ?_)
      refine WL.op rfl rfl (op_nilCheck rfl ?_)
      refine WL.op rfl rfl (op_fieldAddr rfl Fa.F325_1 ?_)
      refine WL.op rfl rfl (op_load rfl (H10.cell (i := 0) rfl rfl) Tryz.underlying114 rfl ?_)
      refine WL.op rfl rfl (op_cutLo (a := 64) Tryz.underlying114 Fa.I5 rfl (H10.arrR (i := 1) rfl) rfl (by omega) ?_)
      have H11 := H10.cutLoM (f := vU8) (l := (brest (hrest (acc all ls k) ++ (ls.getD k [])) j)) (a := 64) (i := 1) rfl (by omega)
      refine WL.op rfl rfl (op_nilCheck rfl ?_)
      refine WL.op rfl rfl (op_fieldAddr rfl Fa.F325_1 ?_)
      refine WL.op rfl rfl (op_storeB (i := 0) H11 rfl rfl rfl rfl (Arr.one (H11.arrR (i := 1) rfl)) Fa.I114 (fun w12 H12 => ?_))
      refine WL.nil ?_
      refine WQ.inNormal ?_
      exact WQ.round (j + 1, (cutV v 64 (brest (hrest (acc all ls k) ++ (ls.getD k [])) j).length 1)) ⟨(by omega), (by have h := H12; rw [← List.length_drop] at h; exact h)⟩ ⟨rfl, rfl, rfl, rfl, rfl, trivial⟩ (by show (hrest (acc all ls k)).length + (ls.getD k []).length - 64 * (j + 1) < (hrest (acc all ls k)).length + (ls.getD k []).length - 64 * j; omega)
    ·
      have hc7 := of_decide_eq_false hb7
      obtain ⟨he1, he2⟩ := mEnd (acc all ls k) (ls.getD k []) j (by omega) (by omega)
      have H13 : Own T w w6 [.blk q [(vU32 (hst (acc all ls (k + 1))).a), (vU32 (hst (acc all ls (k + 1))).b), (vU32 (hst (acc all ls (k + 1))).c), (vU32 (hst (acc all ls (k + 1))).d), (vU32 (hst (acc all ls (k + 1))).e), (vU32 (hst (acc all ls (k + 1))).f), (vU32 (hst (acc all ls (k + 1))).g), (vU32 (hst (acc all ls (k + 1))).h), v, (vN (acc all ls (k + 1)).length)] 325, .row v 5 1 (hrest (acc all ls (k + 1))).length (List.map vU8 (hrest (acc all ls (k + 1))))] := by have h := H6; rw [he1, he2, ← @List.length_append _ (acc all ls k) (ls.getD k [])] at h; exact h
      refine WC.exit ?_
      refine WQ.thenExit ?_
      refine WQ.thenExit ?_
      refine WQ.inHere ?_
      refine WQ.inNormal ?_
      refine WQ.next ?_
      refine WC.region ?_
      refine WL.op rfl rfl (op_addN (b := 1) rfl rfl (by omega) ?_)
      refine WL.op rfl rfl (op_move rfl ?_)
      refine WL.nil ?_
      exact WQ.round (k + 1, v) ⟨(by omega), H13⟩ ⟨rfl, rfl, rfl, rfl, trivial⟩ (by show ls.length - (k + 1) < ls.length - k; omega)
  ·
    have hc2 := of_decide_eq_false hb2
    refine WC.exit ?_
    refine WQ.thenExit ?_
    refine WQ.thenExit ?_
    refine WQ.inHere ?_
    refine WQ.next ?_
    refine WC.seq ?_
    refine WC.region ?_
    refine WL.op rfl rfl (op_assign rfl ?_)
    refine WL.nil ?_
    refine WQ.next ?_
    refine WC.ret ?_
    refine WQ.out (.tmp rfl .nil) ?_
    exact ⟨_, rfl, (by have hk : k = ls.length := (by omega); subst hk; have h := H1; rw [acc_end] at h; exact h)⟩
set_option maxRecDepth 100000 in
theorem hsum_ok (q : Nat) (v : Value) (all : List UInt8) (w : World) (hQ : cellsAt w q [(vU32 (hst all).a), (vU32 (hst all).b), (vU32 (hst all).c), (vU32 (hst all).d), (vU32 (hst all).e), (vU32 (hst all).f), (vU32 (hst all).g), (vU32 (hst all).h), v, (vN all.length)]) (hV : Arr w v 1 (hrest all).length (List.map vU8 (hrest all))) (hb : all.length < 2 ^ 40) :
    Calls Tryz.prog 195 #[(ptr q 0)] w (fun e w' => e = .returned (str (sha all)) ∧ Fr [] w w') := by
  refine enter (args := [(ptr q 0)]) Tryz.func195 rfl rfl ?_
  have H0 : Own [] w w [Ent.bo q [(vU32 (hst all).a), (vU32 (hst all).b), (vU32 (hst all).c), (vU32 (hst all).d), (vU32 (hst all).e), (vU32 (hst all).f), (vU32 (hst all).g), (vU32 (hst all).h), v, (vN all.length)], Ent.ar v 1 (hrest all).length (List.map vU8 (hrest all))] := (((Own.start w []).oldB hQ).oldA hV)
  have hr0 := hrest_length all
  have hp0 : padZ all.length = (119 - all.length % 64) % 64 := rfl
  refine WC.seq ?_
  refine WC.region ?_
  refine WL.op rfl rfl (op_assign rfl ?_)
  refine WL.nil ?_
  refine WQ.next ?_
  refine WC.seq ?_
  refine WC.seq ?_
  refine WC.region ?_
  refine WL.op rfl rfl (op_move rfl ?_)
  refine WL.op rfl rfl (op_eqlPN Fa.PT290 rfl rfl ?_)
  refine WL.nil ?_
  refine WQ.next ?_
  refine WC.no rfl rfl ?_
  refine WC.skip ?_
  refine WQ.next ?_
  refine WC.seq ?_
  refine WC.region ?_
  refine WL.op rfl rfl (op_move rfl ?_)
  refine WL.op rfl rfl (op_nilCheck rfl ?_)
  refine WL.op rfl rfl (op_fieldAddr rfl Fa.F325_1 ?_)
  refine WL.op rfl rfl (op_load rfl (H0.cellO (i := 0) rfl rfl) Tryz.underlying114 rfl ?_)
  have H2 := H0.nilRow 5 1
  refine WL.op rfl rfl (op_appendM (f := vU8) (l := []) (l' := (hrest all)) (i := 2) H2 Tryz.underlying114 Fa.I5 rfl rfl rfl rfl (Src.ofArr Tryz.underlying114 (H2.arrO (i := 1) rfl)) (one_mapM (fun _ => rfl)) (by omega) (by omega) (fun v1 w1 H1 => ?_))
  refine WL.op rfl rfl (op_buildSlice (cs := [_]) H1 Tryz.underlying114 Fa.I5 rfl rfl rfl rfl (by decide) (by decide) (fun b3 w3 H3 => ?_))
  refine WL.op rfl rfl (op_appendM (f := vU8) (l := ([] ++ (hrest all))) (l' := [128]) (i := 2) H3 Tryz.underlying114 Fa.I5 rfl rfl rfl rfl (Src.ofArr Tryz.underlying114 (H3.arrR (i := 3) rfl)) (one_mapM (fun _ => rfl)) (by omega) (by omega) (fun v4 w4 H4 => ?_))
  refine WL.op rfl rfl (op_assign rfl ?_)
  refine WL.nil ?_
  refine WQ.next ?_
  refine WC.seq ?_
  refine WC.block ?_
  refine WC.loop (α := Nat × Value) (fun (k, t) => [(0, (ptr q 0)), (3, t)]) (fun (k, t) w' => (k ≤ padZ all.length) ∧ Own [] w w' [Ent.bo q [(vU32 (hst all).a), (vU32 (hst all).b), (vU32 (hst all).c), (vU32 (hst all).d), (vU32 (hst all).e), (vU32 (hst all).f), (vU32 (hst all).g), (vU32 (hst all).h), v, (vN all.length)], Ent.ar v 1 (hrest all).length (List.map vU8 (hrest all)), .row t 5 1 ((0 + (hrest all).length) + 1 + k) (List.map vU8 (hrest all ++ [128] ++ List.replicate k 0)), .row (.slice (some ⟨b3, 0, none⟩) 1 1) 5 1 1 (List.map vU8 [128])]) (fun (k, t) => padZ all.length - k) (0, v4) ⟨(by omega), (by have h := (show Own [] w w4 [Ent.bo q [(vU32 (hst all).a), (vU32 (hst all).b), (vU32 (hst all).c), (vU32 (hst all).d), (vU32 (hst all).e), (vU32 (hst all).f), (vU32 (hst all).g), (vU32 (hst all).h), v, (vN all.length)], Ent.ar v 1 (hrest all).length (List.map vU8 (hrest all)), .row v4 5 1 ((0 + (hrest all).length) + 1) (List.map vU8 (([] ++ (hrest all)) ++ [128])), .row (.slice (some ⟨b3, 0, none⟩) 1 1) 5 1 1 (List.map vU8 [128])] from H4); simpa using h)⟩ ⟨rfl, rfl, trivial⟩ ?_
  rintro ⟨k, t⟩ w5 ⟨hinv, H5⟩
  show WC _ _ _ _ _ [(0, (ptr q 0)), (3, t)] _
  refine WC.seq ?_
  refine WC.seq ?_
  refine WC.region ?_
  refine WL.op rfl rfl (op_move rfl ?_)
  refine WL.op rfl rfl (op_lenA Tryz.underlying114 rfl (H5.arrR (i := 2) rfl) ?_)
  refine WL.op rfl rfl (op_remN (b := 64) rfl rfl (by omega) ?_)
  refine WL.op rfl rfl (op_neqN (b := 56) rfl rfl ?_)
  refine WL.nil ?_
  refine WQ.next ?_
  refine WC.cond rfl (fun (hb6 : (decide ((((0 + (hrest all).length) + 1 + k) % 64) ≠ 56)) = true) => ?_) (fun (hb6 : (decide ((((0 + (hrest all).length) + 1 + k) % 64) ≠ 56)) = false) => ?_)
  ·
    have hc6 := of_decide_eq_true hb6
    refine WC.skip ?_
    refine WQ.next ?_
    refine WC.block ?_
    refine WC.region ?_
    refine WL.op rfl rfl (op_move rfl ?_)
    refine WL.op rfl rfl (op_buildSlice (cs := [_]) H5 Tryz.underlying114 Fa.I5 rfl rfl rfl rfl (by decide) (by decide) (fun b7 w7 H7 => ?_))
    refine WL.op rfl rfl (op_appendM (f := vU8) (l := (hrest all ++ [128] ++ List.replicate k 0)) (l' := [0]) (i := 2) H7 Tryz.underlying114 Fa.I5 rfl rfl rfl rfl (Src.ofArr Tryz.underlying114 (H7.arrR (i := 4) rfl)) (one_mapM (fun _ => rfl)) (by omega) (by omega) (fun v8 w8 H8 => ?_))
    refine WL.op rfl rfl (op_assign rfl ?_)
    refine WL.nil ?_
    refine WQ.inNormal ?_
    exact WQ.round (k + 1, v8) ⟨(by omega), (by have h := (show Own [] w w8 [Ent.bo q [(vU32 (hst all).a), (vU32 (hst all).b), (vU32 (hst all).c), (vU32 (hst all).d), (vU32 (hst all).e), (vU32 (hst all).f), (vU32 (hst all).g), (vU32 (hst all).h), v, (vN all.length)], Ent.ar v 1 (hrest all).length (List.map vU8 (hrest all)), .row v8 5 1 (((0 + (hrest all).length) + 1 + k) + 1) (List.map vU8 ((hrest all ++ [128] ++ List.replicate k 0) ++ [0])), .row (.slice (some ⟨b3, 0, none⟩) 1 1) 5 1 1 (List.map vU8 [128])] from (H8.take 4)); rw [padStep] at h; exact h)⟩ ⟨rfl, rfl, trivial⟩ (by show padZ all.length - (k + 1) < padZ all.length - k; omega)
  ·
    have hc6 := of_decide_eq_false hb6
    have hk : k = padZ all.length := (by omega)
    refine WC.exit ?_
    refine WQ.thenExit ?_
    refine WQ.thenExit ?_
    refine WQ.inHere ?_
    refine WQ.next ?_
    refine WC.seq ?_
    refine WC.region ?_
    refine WL.op rfl rfl (op_move rfl ?_)
    refine WL.op rfl rfl (op_nilCheck rfl ?_)
    refine WL.op rfl rfl (op_fieldAddr rfl Fa.F325_2 ?_)
    refine WL.op rfl rfl (op_load rfl (H5.cellO (i := 0) rfl rfl) Tryz.underlying3 rfl ?_)
    refine WL.op rfl rfl (op_convNU64 (hs := Tryz.underlying3) (hd := Tryz.underlying154) rfl ?_)
    refine WL.op rfl rfl (op_mulU64 (a := 8) rfl rfl ?_)
    refine WL.op rfl rfl (op_assign rfl ?_)
    refine WL.nil ?_
    refine WQ.next ?_
    refine WC.seq ?_
    refine WC.seq ?_
    refine WC.region ?_
    refine WL.op rfl rfl (op_assign rfl ?_)
    refine WL.nil ?_
    refine WQ.next ?_
    refine WC.block ?_
    refine WC.loop (α := Nat × Value) (fun (j, t) => [(0, (ptr q 0)), (3, t), (4, (vU64 ((8 : UInt64) * (UInt64.ofNat all.length)))), (5, (vI ((56 : Int) - ((8 * j : Nat) : Int))))]) (fun (j, t) w' => (j ≤ 8) ∧ Own [] w w' [Ent.bo q [(vU32 (hst all).a), (vU32 (hst all).b), (vU32 (hst all).c), (vU32 (hst all).d), (vU32 (hst all).e), (vU32 (hst all).f), (vU32 (hst all).g), (vU32 (hst all).h), v, (vN all.length)], Ent.ar v 1 (hrest all).length (List.map vU8 (hrest all)), .row t 5 1 ((hrest all).length + 1 + padZ all.length + j) (List.map vU8 (hrest all ++ ([128] ++ List.replicate (padZ all.length) 0 ++ lenTo all.length j))), .row (.slice (some ⟨b3, 0, none⟩) 1 1) 5 1 1 (List.map vU8 [128])]) (fun (j, t) => 8 - j) (0, t) ⟨(by omega), (by have h := (show Own [] w w5 [Ent.bo q [(vU32 (hst all).a), (vU32 (hst all).b), (vU32 (hst all).c), (vU32 (hst all).d), (vU32 (hst all).e), (vU32 (hst all).f), (vU32 (hst all).g), (vU32 (hst all).h), v, (vN all.length)], Ent.ar v 1 (hrest all).length (List.map vU8 (hrest all)), .row t 5 1 ((0 + (hrest all).length) + 1 + k) (List.map vU8 (hrest all ++ [128] ++ List.replicate k 0)), .row (.slice (some ⟨b3, 0, none⟩) 1 1) 5 1 1 (List.map vU8 [128])] from H5); rw [hk] at h; simpa [lenTo, Nat.add_assoc] using h)⟩ ⟨rfl, rfl, rfl, rfl, trivial⟩ ?_
    rintro ⟨j, t⟩ w9 ⟨hinv, H9⟩
    show WC _ _ _ _ _ [(0, (ptr q 0)), (3, t), (4, (vU64 ((8 : UInt64) * (UInt64.ofNat all.length)))), (5, (vI ((56 : Int) - ((8 * j : Nat) : Int))))] _
    refine WC.seq ?_
    refine WC.seq ?_
    refine WC.region ?_
    refine WL.op rfl rfl (op_move rfl ?_)
    refine WL.op rfl rfl (op_geqI (b := (0 : Int)) rfl rfl ?_)
    refine WL.nil ?_
    refine WQ.next ?_
    refine WC.cond rfl (fun (hb10 : (decide (((56 : Int) - ((8 * j : Nat) : Int)) ≥ (0 : Int))) = true) => ?_) (fun (hb10 : (decide (((56 : Int) - ((8 * j : Nat) : Int)) ≥ (0 : Int))) = false) => ?_)
    ·
      have hc10 := of_decide_eq_true hb10
      rw [show ((56 : Int) - ((8 * j : Nat) : Int)) = ((56 - 8 * j : Nat) : Int) from by omega]
      refine WC.skip ?_
      refine WQ.next ?_
      refine WC.seq ?_
      refine WC.block ?_
      refine WC.region ?_
      refine WL.op rfl rfl (op_move rfl ?_)
      refine WL.op rfl rfl (op_move rfl ?_)
      refine WL.op rfl rfl (op_move rfl ?_)
      refine WL.op rfl rfl (op_shrU64 rfl rfl ?_)
      refine WL.op rfl rfl (op_convU64U8 (hs := Tryz.underlying154) (hd := Tryz.underlying5) rfl ?_)
      refine WL.op rfl rfl (op_buildSlice (cs := [_]) H9 Tryz.underlying114 Fa.I5 rfl rfl rfl rfl (by decide) (by decide) (fun b11 w11 H11 => ?_))
      refine WL.op rfl rfl (op_appendM (f := vU8) (l := (hrest all ++ ([128] ++ List.replicate (padZ all.length) 0 ++ lenTo all.length j))) (l' := [(UInt8.ofNat (shrU64 ((8 : UInt64) * (UInt64.ofNat all.length)) (56 - 8 * j)).toNat)]) (i := 2) H11 Tryz.underlying114 Fa.I5 rfl rfl rfl rfl (Src.ofArr Tryz.underlying114 (H11.arrR (i := 4) rfl)) (one_mapM (fun _ => rfl)) (by omega) (by omega) (fun v12 w12 H12 => ?_))
      refine WL.op rfl rfl (op_assign rfl ?_)
      refine WL.nil ?_
      refine WQ.inNormal ?_
      refine WQ.next ?_
      refine WC.region ?_
      refine WL.op rfl rfl (op_move rfl ?_)
      refine WL.op rfl rfl (op_subI (a := (((56 - 8 * j) : Nat) : Int)) (b := ((8 : Nat) : Int)) rfl rfl (by omega) ?_)
      refine WL.op rfl rfl (op_assign rfl ?_)
      refine WL.nil ?_
      exact WQ.round (j + 1, v12) ⟨(by omega), (by have h := (show Own [] w w12 [Ent.bo q [(vU32 (hst all).a), (vU32 (hst all).b), (vU32 (hst all).c), (vU32 (hst all).d), (vU32 (hst all).e), (vU32 (hst all).f), (vU32 (hst all).g), (vU32 (hst all).h), v, (vN all.length)], Ent.ar v 1 (hrest all).length (List.map vU8 (hrest all)), .row v12 5 1 (((hrest all).length + 1 + padZ all.length + j) + 1) (List.map vU8 ((hrest all ++ ([128] ++ List.replicate (padZ all.length) 0 ++ lenTo all.length j)) ++ [(UInt8.ofNat (shrU64 ((8 : UInt64) * (UInt64.ofNat all.length)) (56 - 8 * j)).toNat)])), .row (.slice (some ⟨b3, 0, none⟩) 1 1) 5 1 1 (List.map vU8 [128])] from (H12.take 4)); rw [lenStep] at h; exact h)⟩ ⟨rfl, rfl, rfl, (by show some (vI (((56 - 8 * j : Nat) : Int) - 8)) = some (vI ((56 : Int) - ((8 * (j + 1) : Nat) : Int))); congr 2; omega), trivial⟩ (by show 8 - (j + 1) < 8 - j; omega)
    ·
      have hc10 := of_decide_eq_false hb10
      refine WC.exit ?_
      refine WQ.thenExit ?_
      refine WQ.thenExit ?_
      refine WQ.inHere ?_
      refine WQ.next ?_
      refine WC.seq ?_
      refine WC.region ?_
      refine WL.op rfl rfl (op_move rfl ?_)
      refine WL.op rfl rfl (op_nilCheck rfl ?_)
      refine WL.op rfl rfl (op_fieldAddr rfl Fa.F325_0 ?_)
      refine WL.op rfl rfl (op_loadS (vs := [_, _, _, _, _, _, _, _]) rfl (H9.cellsO (i := 0) rfl rfl) Tryz.underlying322 rfl Fa.I322 rfl ?_)
      refine WL.op rfl rfl (op_alloc H9 Fa.I322 (fun b13 w13 H13 => ?_))
      refine WL.op rfl rfl (op_storeBW (i := 4) H13 rfl rfl rfl rfl rfl Fa.I322 (fun w14 H14 => ?_))
      refine WL.nil ?_
      refine WQ.next ?_
      refine WC.seq ?_
      refine WC.block ?_
      refine WC.loop (α := Nat × Value) (fun (j, t) => [(3, t), (6, (ptr b13 0))]) (fun (j, t) w' => (64 * j ≤ (hrest all ++ pads all.length).length) ∧ Own [] w w' [Ent.bo q [(vU32 (hst all).a), (vU32 (hst all).b), (vU32 (hst all).c), (vU32 (hst all).d), (vU32 (hst all).e), (vU32 (hst all).f), (vU32 (hst all).g), (vU32 (hst all).h), v, (vN all.length)], Ent.ar v 1 (hrest all).length (List.map vU8 (hrest all)), .row t 5 1 (brest (hrest all ++ pads all.length) j).length (List.map vU8 (brest (hrest all ++ pads all.length) j)), .row (.slice (some ⟨b3, 0, none⟩) 1 1) 5 1 1 (List.map vU8 [128]), .blk b13 [(vU32 (bst (hst all) (hrest all ++ pads all.length) j).a), (vU32 (bst (hst all) (hrest all ++ pads all.length) j).b), (vU32 (bst (hst all) (hrest all ++ pads all.length) j).c), (vU32 (bst (hst all) (hrest all ++ pads all.length) j).d), (vU32 (bst (hst all) (hrest all ++ pads all.length) j).e), (vU32 (bst (hst all) (hrest all ++ pads all.length) j).f), (vU32 (bst (hst all) (hrest all ++ pads all.length) j).g), (vU32 (bst (hst all) (hrest all ++ pads all.length) j).h)] 322]) (fun (j, t) => (hrest all ++ pads all.length).length - 64 * j) (0, t) ⟨(by omega), (by have hj : j = 8 := (by omega); have h := (show Own [] w w14 [Ent.bo q [(vU32 (hst all).a), (vU32 (hst all).b), (vU32 (hst all).c), (vU32 (hst all).d), (vU32 (hst all).e), (vU32 (hst all).f), (vU32 (hst all).g), (vU32 (hst all).h), v, (vN all.length)], Ent.ar v 1 (hrest all).length (List.map vU8 (hrest all)), .row t 5 1 ((hrest all).length + 1 + padZ all.length + j) (List.map vU8 (hrest all ++ ([128] ++ List.replicate (padZ all.length) 0 ++ lenTo all.length j))), .row (.slice (some ⟨b3, 0, none⟩) 1 1) 5 1 1 (List.map vU8 [128]), .blk b13 [(vU32 (hst all).a), (vU32 (hst all).b), (vU32 (hst all).c), (vU32 (hst all).d), (vU32 (hst all).e), (vU32 (hst all).f), (vU32 (hst all).g), (vU32 (hst all).h)] 322] from H14); rw [hj] at h; have e : (hrest all).length + 1 + padZ all.length + 8 = (brest (hrest all ++ pads all.length) 0).length := (by simp [brest, pads, lenTo_length]; omega); rw [e] at h; exact h)⟩ ⟨rfl, rfl, trivial⟩ ?_
      rintro ⟨j, t⟩ w15 ⟨hinv, H15⟩
      show WC _ _ _ _ _ [(3, t), (6, (ptr b13 0))] _
      have hb0 := brest_length (hrest all ++ pads all.length) j
      have hP := padAll all
      refine WC.seq ?_
      refine WC.seq ?_
      refine WC.region ?_
      refine WL.op rfl rfl (op_move rfl ?_)
      refine WL.op rfl rfl (op_lenA Tryz.underlying114 rfl (H15.arrR (i := 2) rfl) ?_)
      refine WL.op rfl rfl (op_gtrN (b := 0) rfl rfl ?_)
      refine WL.nil ?_
      refine WQ.next ?_
      refine WC.cond rfl (fun (hb16 : (decide ((brest (hrest all ++ pads all.length) j).length > 0)) = true) => ?_) (fun (hb16 : (decide ((brest (hrest all ++ pads all.length) j).length > 0)) = false) => ?_)
      ·
        have hc16 := of_decide_eq_true hb16
        refine WC.skip ?_
        refine WQ.next ?_
        refine WC.seq ?_
        refine WC.block ?_
        refine WC.draw 4 Fa.M H15 (HW.op rfl (fun w1 H1 => op_loadS (vs := [_, _, _, _, _, _, _, _]) rfl (H1.cells (i := 4) rfl rfl) Tryz.underlying322 rfl Fa.I322 rfl ⟨rfl, Fr.refl _ _⟩) (HW.op rfl (fun w1 H1 => op_move rfl ⟨rfl, Fr.refl _ _⟩) (HW.op rfl (fun w1 H1 => op_cutHi (b := 64) Tryz.underlying114 Fa.I5 rfl (H1.arrR (i := 2) rfl) rfl (by omega) ⟨rfl, Fr.refl _ _⟩) (HW.op rfl (fun w1 H1 => op_callF Fa.C228 rfl ((block_ok (bst (hst all) (hrest all ++ pads all.length) j) _ ((brest (hrest all ++ pads all.length) j).take 64) _ (by rw [List.length_take]; omega) (((H1.arrR (i := 2) rfl)).cutHiM (f := vU8) (l := (brest (hrest all ++ pads all.length) j)) (b := 64) (by omega))).mono (fun e w2 hq => ⟨_, hq.1, rfl, hq.2⟩)))  HW.nil)))) (by kernel_rfl) ?_
        intro β18 w18 H18
        refine WL.op rfl rfl (op_storeBW (i := 4) H18 rfl rfl rfl rfl rfl Fa.I322 (fun w19 H19 => ?_))
        refine WL.nil ?_
        refine WQ.inNormal ?_
        refine WQ.next ?_
        refine WC.region ?_
        refine WL.op rfl rfl (op_move rfl ?_)
        refine WL.op rfl rfl (op_cutLo (a := 64) Tryz.underlying114 Fa.I5 rfl (H19.arrR (i := 2) rfl) rfl (by omega) ?_)
        have H20 := H19.cutLoM (f := vU8) (l := (brest (hrest all ++ pads all.length) j)) (a := 64) (i := 2) rfl (by omega)
        refine WL.op rfl rfl (op_assign rfl ?_)
        refine WL.nil ?_
        exact WQ.round (j + 1, (cutV t 64 (brest (hrest all ++ pads all.length) j).length 1)) ⟨(by omega), (by have h := (show Own [] w w19 [Ent.bo q [(vU32 (hst all).a), (vU32 (hst all).b), (vU32 (hst all).c), (vU32 (hst all).d), (vU32 (hst all).e), (vU32 (hst all).f), (vU32 (hst all).g), (vU32 (hst all).h), v, (vN all.length)], Ent.ar v 1 (hrest all).length (List.map vU8 (hrest all)), .row (cutV t 64 (brest (hrest all ++ pads all.length) j).length 1) 5 1 ((brest (hrest all ++ pads all.length) j).length - 64) (List.map vU8 ((brest (hrest all ++ pads all.length) j).drop 64)), .row (.slice (some ⟨b3, 0, none⟩) 1 1) 5 1 1 (List.map vU8 [128]), .blk b13 [(vU32 (blockS (bst (hst all) (hrest all ++ pads all.length) j) ((brest (hrest all ++ pads all.length) j).take 64)).a), (vU32 (blockS (bst (hst all) (hrest all ++ pads all.length) j) ((brest (hrest all ++ pads all.length) j).take 64)).b), (vU32 (blockS (bst (hst all) (hrest all ++ pads all.length) j) ((brest (hrest all ++ pads all.length) j).take 64)).c), (vU32 (blockS (bst (hst all) (hrest all ++ pads all.length) j) ((brest (hrest all ++ pads all.length) j).take 64)).d), (vU32 (blockS (bst (hst all) (hrest all ++ pads all.length) j) ((brest (hrest all ++ pads all.length) j).take 64)).e), (vU32 (blockS (bst (hst all) (hrest all ++ pads all.length) j) ((brest (hrest all ++ pads all.length) j).take 64)).f), (vU32 (blockS (bst (hst all) (hrest all ++ pads all.length) j) ((brest (hrest all ++ pads all.length) j).take 64)).g), (vU32 (blockS (bst (hst all) (hrest all ++ pads all.length) j) ((brest (hrest all ++ pads all.length) j).take 64)).h)] 322] from H20); rw [← List.length_drop] at h; exact h)⟩ ⟨rfl, rfl, trivial⟩ (by show (hrest all ++ pads all.length).length - 64 * (j + 1) < (hrest all ++ pads all.length).length - 64 * j; omega)
      ·
        have hc16 := of_decide_eq_false hb16
        refine WC.exit ?_
        refine WQ.thenExit ?_
        refine WQ.thenExit ?_
        refine WQ.inHere ?_
        refine WQ.next ?_
        refine WC.seq ?_
        refine WC.region ?_
        refine WL.op rfl rfl (op_assign rfl ?_)
        have H21 := H15.nilRow 5 1
        refine WL.nil ?_
        refine WQ.next ?_
        refine WC.seq ?_
        refine WC.seq ?_
        refine WC.region ?_
        refine WL.op rfl rfl (op_loadS (vs := [_, _, _, _, _, _, _, _]) rfl (H21.cells (i := 4) rfl rfl) Tryz.underlying322 rfl Fa.I322 rfl ?_)
        refine WL.op rfl rfl (op_move rfl ?_)
        refine WL.nil ?_
        refine WQ.next ?_
        refine WC.block ?_
        refine WC.loop (α := Nat × Value) (fun (k, t2) => [(7, t2), (56, (.agg #[(vU32 (bst (hst all) (hrest all ++ pads all.length) j).a), (vU32 (bst (hst all) (hrest all ++ pads all.length) j).b), (vU32 (bst (hst all) (hrest all ++ pads all.length) j).c), (vU32 (bst (hst all) (hrest all ++ pads all.length) j).d), (vU32 (bst (hst all) (hrest all ++ pads all.length) j).e), (vU32 (bst (hst all) (hrest all ++ pads all.length) j).f), (vU32 (bst (hst all) (hrest all ++ pads all.length) j).g), (vU32 (bst (hst all) (hrest all ++ pads all.length) j).h)])), (57, (vN k))]) (fun (k, t2) w' => (k ≤ 8) ∧ Own [] w w' [Ent.bo q [(vU32 (hst all).a), (vU32 (hst all).b), (vU32 (hst all).c), (vU32 (hst all).d), (vU32 (hst all).e), (vU32 (hst all).f), (vU32 (hst all).g), (vU32 (hst all).h), v, (vN all.length)], Ent.ar v 1 (hrest all).length (List.map vU8 (hrest all)), .row t 5 1 (brest (hrest all ++ pads all.length) j).length (List.map vU8 (brest (hrest all ++ pads all.length) j)), .row (.slice (some ⟨b3, 0, none⟩) 1 1) 5 1 1 (List.map vU8 [128]), .blk b13 [(vU32 (bst (hst all) (hrest all ++ pads all.length) j).a), (vU32 (bst (hst all) (hrest all ++ pads all.length) j).b), (vU32 (bst (hst all) (hrest all ++ pads all.length) j).c), (vU32 (bst (hst all) (hrest all ++ pads all.length) j).d), (vU32 (bst (hst all) (hrest all ++ pads all.length) j).e), (vU32 (bst (hst all) (hrest all ++ pads all.length) j).f), (vU32 (bst (hst all) (hrest all ++ pads all.length) j).g), (vU32 (bst (hst all) (hrest all ++ pads all.length) j).h)] 322, .row t2 5 1 (4 * k) (List.map vU8 (outTo (bst (hst all) (hrest all ++ pads all.length) j) k))]) (fun (k, t2) => 8 - k) (0, (.slice none 0 0)) ⟨(by omega), H21⟩ ⟨rfl, rfl, rfl, trivial⟩ ?_
        rintro ⟨k, t2⟩ w22 ⟨hinv, H22⟩
        show WC _ _ _ _ _ [(7, t2), (56, (.agg #[(vU32 (bst (hst all) (hrest all ++ pads all.length) j).a), (vU32 (bst (hst all) (hrest all ++ pads all.length) j).b), (vU32 (bst (hst all) (hrest all ++ pads all.length) j).c), (vU32 (bst (hst all) (hrest all ++ pads all.length) j).d), (vU32 (bst (hst all) (hrest all ++ pads all.length) j).e), (vU32 (bst (hst all) (hrest all ++ pads all.length) j).f), (vU32 (bst (hst all) (hrest all ++ pads all.length) j).g), (vU32 (bst (hst all) (hrest all ++ pads all.length) j).h)])), (57, (vN k))] _
        refine WC.seq ?_
        refine WC.region ?_
        refine WL.op rfl rfl (op_lssN (b := 8) rfl rfl ?_)
        refine WL.nil ?_
        refine WQ.next ?_
        refine WC.seq ?_
        refine WC.cond rfl (fun (hb23 : (decide (k < 8)) = true) => ?_) (fun (hb23 : (decide (k < 8)) = false) => ?_)
        ·
          have hc23 := of_decide_eq_true hb23
          refine WC.skip ?_
          refine WQ.next ?_
          refine WC.seq ?_
          refine WC.block ?_
          refine WC.seq ?_
          refine WC.region ?_
          refine WL.op rfl rfl (op_indexA1 (cs := _) Tryz.underlying322 Fa.I22 Tryz.underlying22 rfl rfl rfl (by omega) (get_map (l := (bst (hst all) (hrest all ++ pads all.length) j).vals) vU32 0 (by rw [vals_length]; omega)) ?_)
          refine WL.op rfl rfl (op_assign rfl ?_)
          refine WL.nil ?_
          refine WQ.next ?_
          refine WC.region ?_
          refine WL.op rfl rfl (op_move rfl ?_)
          refine WL.op rfl rfl (op_move rfl ?_)
          refine WL.op rfl rfl (op_shrU32 (s := 24) rfl rfl ?_)
          refine WL.op rfl rfl (op_convU32U8 (hs := Tryz.underlying22) (hd := Tryz.underlying5) rfl ?_)
          refine WL.op rfl rfl (op_move rfl ?_)
          refine WL.op rfl rfl (op_shrU32 (s := 16) rfl rfl ?_)
          refine WL.op rfl rfl (op_convU32U8 (hs := Tryz.underlying22) (hd := Tryz.underlying5) rfl ?_)
          refine WL.op rfl rfl (op_move rfl ?_)
          refine WL.op rfl rfl (op_shrU32 (s := 8) rfl rfl ?_)
          refine WL.op rfl rfl (op_convU32U8 (hs := Tryz.underlying22) (hd := Tryz.underlying5) rfl ?_)
          refine WL.op rfl rfl (op_move rfl ?_)
          refine WL.op rfl rfl (op_convU32U8 (hs := Tryz.underlying22) (hd := Tryz.underlying5) rfl ?_)
          refine WL.op rfl rfl (op_buildSlice (cs := [_, _, _, _]) H22 Tryz.underlying114 Fa.I5 rfl rfl rfl rfl (by decide) (by decide) (fun b24 w24 H24 => ?_))
          refine WL.op rfl rfl (op_appendM (f := vU8) (l := (outTo (bst (hst all) (hrest all ++ pads all.length) j) k)) (l' := [(UInt8.ofNat (shrU32 ((bst (hst all) (hrest all ++ pads all.length) j).vals.getD k 0) 24).toNat), (UInt8.ofNat (shrU32 ((bst (hst all) (hrest all ++ pads all.length) j).vals.getD k 0) 16).toNat), (UInt8.ofNat (shrU32 ((bst (hst all) (hrest all ++ pads all.length) j).vals.getD k 0) 8).toNat), (UInt8.ofNat ((bst (hst all) (hrest all ++ pads all.length) j).vals.getD k 0).toNat)]) (i := 5) H24 Tryz.underlying114 Fa.I5 rfl rfl rfl rfl (Src.ofArr Tryz.underlying114 (H24.arrR (i := 6) rfl)) (one_mapM (fun _ => rfl)) (by omega) (by omega) (fun v25 w25 H25 => ?_))
          refine WL.op rfl rfl (op_assign rfl ?_)
          refine WL.nil ?_
          refine WQ.inNormal ?_
          refine WQ.next ?_
          refine WC.region ?_
          refine WL.op rfl rfl (op_addN (b := 1) rfl rfl (by omega) ?_)
          refine WL.op rfl rfl (op_move rfl ?_)
          refine WL.nil ?_
          exact WQ.round (k + 1, v25) ⟨(by omega), (H25.take 6)⟩ ⟨rfl, rfl, rfl, trivial⟩ (by show 8 - (k + 1) < 8 - k; omega)
        ·
          have hc23 := of_decide_eq_false hb23
          refine WC.exit ?_
          refine WQ.thenExit ?_
          refine WQ.thenExit ?_
          refine WQ.inHere ?_
          refine WQ.next ?_
          refine WC.seq ?_
          refine WC.region ?_
          refine WL.op rfl rfl (op_move rfl ?_)
          refine WL.op rfl rfl (op_bytesStr (l := (outTo (bst (hst all) (hrest all ++ pads all.length) j) k)) Tryz.underlying114 Tryz.underlying5 Tryz.underlying9 rfl (H22.arrR (i := 5) rfl) rfl ?_)
          refine WL.op rfl rfl (op_assign rfl ?_)
          refine WL.nil ?_
          refine WQ.next ?_
          refine WC.ret ?_
          refine WQ.out (.tmp rfl .nil) ?_
          exact ⟨(by have hk : k = 8 := (by omega); subst hk; rw [sumEnd all j (by omega) (by rw [← List.length_append]; omega)]; rfl), H22.fr⟩
end Go.Proofs.YtbjhccnffacbcaaGreat
/-! from WSha2 -/
namespace Go.Proofs.YtbjhccnffacbcaaGreat
open Go.Owl Go.Spec
set_option maxRecDepth 100000 in
theorem ssum_ok (s : List UInt8) (w : World) (hs : s.length < 2 ^ 40) :
    Calls Tryz.prog 227 #[(str s)] w (fun e w' => e = .returned (str (sha s)) ∧ Fr [] w w') := by
  refine enter (args := [(str s)]) Tryz.func227 rfl rfl ?_
  have H0 : Own [] w w [] := Own.start w []
  refine WC.seq ?_
  refine WC.region ?_
  refine WL.op rfl rfl (op_assign rfl ?_)
  refine WL.nil ?_
  refine WQ.next ?_
  refine WC.seq ?_
  refine WC.region ?_
  refine WL.op rfl rfl (op_callF Fa.C191 rfl ((new_ok _).mono (fun e w1 hq => ?_)))
  obtain ⟨q1, rfl, hq1⟩ := hq
  refine ⟨_, rfl, ?_⟩
  have H1 : Own [] w w1 [.blk q1 [(vU32 (hst ([] : List UInt8)).a), (vU32 (hst ([] : List UInt8)).b), (vU32 (hst ([] : List UInt8)).c), (vU32 (hst ([] : List UInt8)).d), (vU32 (hst ([] : List UInt8)).e), (vU32 (hst ([] : List UInt8)).f), (vU32 (hst ([] : List UInt8)).g), (vU32 (hst ([] : List UInt8)).h), (.slice none 0 0), (vN ([] : List UInt8).length)] 325, .row (.slice none 0 0) 5 1 (hrest ([] : List UInt8)).length (List.map vU8 (hrest ([] : List UInt8)))] := H0.splice [] [] [.blk q1 [(vU32 (hst ([] : List UInt8)).a), (vU32 (hst ([] : List UInt8)).b), (vU32 (hst ([] : List UInt8)).c), (vU32 (hst ([] : List UInt8)).d), (vU32 (hst ([] : List UInt8)).e), (vU32 (hst ([] : List UInt8)).f), (vU32 (hst ([] : List UInt8)).g), (vU32 (hst ([] : List UInt8)).h), (.slice none 0 0), (vN ([] : List UInt8).length)] 325, .row (.slice none 0 0) 5 1 (hrest ([] : List UInt8)).length (List.map vU8 (hrest ([] : List UInt8)))] rfl rfl hq1 (Fits.solid True.intro (Fits.solid True.intro Fits.nil))
  refine WL.op rfl rfl (op_assign rfl ?_)
  refine WL.nil ?_
  refine WQ.next ?_
  refine WC.seq ?_
  refine WC.region ?_
  refine WL.op rfl rfl (op_move rfl ?_)
  refine WL.op rfl rfl (op_move rfl ?_)
  refine WL.op rfl rfl (op_buildSlice (cs := [_]) H1 Tryz.underlying59 Fa.I9 rfl rfl rfl rfl (by decide) (by decide) (fun b2 w2 H2 => ?_))
  refine WL.op rfl rfl (op_callF Fa.C193 rfl ((write_ok q1 (.slice none 0 0) (.slice (some ⟨b2, 0, none⟩) 1 1) ([] : List UInt8) ([s]) _ _ (H2.part [0, 1] rfl rfl) (H2.stayR (I := [0, 1]) (k := 2) rfl rfl rfl) (by simpa using hs) (by simp)).mono (fun e w3 hq => ?_)))
  obtain ⟨v3, rfl, hq3⟩ := hq
  refine ⟨_, rfl, ?_⟩
  have H3 : Own [] w w3 [.blk q1 [(vU32 (hst (([] : List UInt8) ++ [s].flatten)).a), (vU32 (hst (([] : List UInt8) ++ [s].flatten)).b), (vU32 (hst (([] : List UInt8) ++ [s].flatten)).c), (vU32 (hst (([] : List UInt8) ++ [s].flatten)).d), (vU32 (hst (([] : List UInt8) ++ [s].flatten)).e), (vU32 (hst (([] : List UInt8) ++ [s].flatten)).f), (vU32 (hst (([] : List UInt8) ++ [s].flatten)).g), (vU32 (hst (([] : List UInt8) ++ [s].flatten)).h), v3, (vN (([] : List UInt8) ++ [s].flatten).length)] 325, .row v3 5 1 (hrest (([] : List UInt8) ++ [s].flatten)).length (List.map vU8 (hrest (([] : List UInt8) ++ [s].flatten))), .row (.slice (some ⟨b2, 0, none⟩) 1 1) 9 1 1 (List.map str [s])] := H2.splice [0, 1] [.blk q1 [(vU32 (hst (([] : List UInt8) ++ [s].flatten)).a), (vU32 (hst (([] : List UInt8) ++ [s].flatten)).b), (vU32 (hst (([] : List UInt8) ++ [s].flatten)).c), (vU32 (hst (([] : List UInt8) ++ [s].flatten)).d), (vU32 (hst (([] : List UInt8) ++ [s].flatten)).e), (vU32 (hst (([] : List UInt8) ++ [s].flatten)).f), (vU32 (hst (([] : List UInt8) ++ [s].flatten)).g), (vU32 (hst (([] : List UInt8) ++ [s].flatten)).h), v3, (vN (([] : List UInt8) ++ [s].flatten).length)] 325, .row v3 5 1 (hrest (([] : List UInt8) ++ [s].flatten)).length (List.map vU8 (hrest (([] : List UInt8) ++ [s].flatten)))] [] rfl rfl hq3 (Fits.solid True.intro (Fits.solid True.intro Fits.nil))
  refine WL.nil ?_
  refine WQ.next ?_
  refine WC.seq ?_
  refine WC.region ?_
  refine WL.op rfl rfl (op_move rfl ?_)
  refine WL.op rfl rfl (op_callF Fa.C195 rfl ((hsum_ok q1 v3 (([] : List UInt8) ++ [s].flatten) _ (H3.cellsAt (i := 0) rfl) (H3.arrR (i := 1) rfl) (by simpa using hs)).mono (fun e w4 hq => ?_)))
  obtain ⟨rfl, hf4⟩ := hq
  refine ⟨_, rfl, ?_⟩
  have H4 := H3.fr' hf4
  refine WL.op rfl rfl (op_assign rfl ?_)
  refine WL.nil ?_
  refine WQ.next ?_
  refine WC.ret ?_
  refine WQ.out (.tmp rfl .nil) ?_
  exact ⟨by simp [tup], H4.fr⟩
end Go.Proofs.YtbjhccnffacbcaaGreat
