/- General lemmas and walks: FWInsn, FWRef4, FWSha, FWSha2, FWRef2, FWMac, FWBuild, FWSlot, FWSlot2, FWSlot3, FWSlot4, FWSlot5, FWSlot6, FWSlot7, FWSlot8, FWSlot9, WInsn, WRef4, WSha, WSha2. No condition but what each theorem names. -/
import Derived.Test.YtbjhccnffacbcaaQ71f7a9f0
import Derived.Test.YtbjhccnffacbcaaQaa083b07
import Derived.Test.YtbjhccnffacbcaaChecked
import Derived.Test.YtbjhccnffacbcaaQdf79d389
/-! from FWInsn -/
/- Closed facts, off the tables of the program. -/
namespace Go.Proofs.Ytbjhccnffacbcaa
open Go.Owl
namespace Fa
theorem C129 : callB Try.prog 129 = true := by kernel_rfl
theorem I5 : tiB Try.prog 5 = some ([(vU8 0)], 1, 1) := by kernel_rfl
end Fa
end Go.Proofs.Ytbjhccnffacbcaa
/-! from FWRef4 -/
/- Closed facts, off the tables of the program. -/
namespace Go.Proofs.Ytbjhccnffacbcaa
open Go.Owl
namespace Fa
end Fa
end Go.Proofs.Ytbjhccnffacbcaa
/-! from FWSha -/
/- Closed facts, off the tables of the program. -/
namespace Go.Proofs.Ytbjhccnffacbcaa
open Go.Owl
namespace Fa
theorem C158 : callB Try.prog 158 = true := by kernel_rfl
theorem C160 : callB Try.prog 160 = true := by kernel_rfl
theorem C170 : callB Try.prog 170 = true := by kernel_rfl
theorem C171 : callB Try.prog 171 = true := by kernel_rfl
theorem C172 : callB Try.prog 172 = true := by kernel_rfl
theorem F233_0 : faB Try.prog 233 0 = some (0, 8, false) := by kernel_rfl
theorem F233_1 : faB Try.prog 233 1 = some (8, 1, true) := by kernel_rfl
theorem F233_2 : faB Try.prog 233 2 = some (9, 1, true) := by kernel_rfl
theorem I106 : tiB Try.prog 106 = some ([(.slice none 0 0)], 1, 24) := by kernel_rfl
theorem I230 : tiB Try.prog 230 = some ([(vU32 0), (vU32 0), (vU32 0), (vU32 0), (vU32 0), (vU32 0), (vU32 0), (vU32 0)], 8, 32) := by kernel_rfl
theorem I233 : tiB Try.prog 233 = some ([(vU32 0), (vU32 0), (vU32 0), (vU32 0), (vU32 0), (vU32 0), (vU32 0), (vU32 0), (.slice none 0 0), (vN 0)], 10, 64) := by kernel_rfl
theorem I244 : tiB Try.prog 244 = some ((List.replicate 64 (vU32 0)), 64, 256) := by kernel_rfl
theorem I29 : tiB Try.prog 29 = some ([(vU32 0)], 1, 4) := by kernel_rfl
theorem I3 : tiB Try.prog 3 = some ([(vN 0)], 1, 8) := by kernel_rfl
theorem I9 : tiB Try.prog 9 = some ([(str [])], 1, 16) := by kernel_rfl
theorem M : Try.prog.follows .mixedOrders = true := by kernel_rfl
theorem PL233 : plB Try.prog 233 = some [(0, 8), (8, 1), (9, 1)] := by kernel_rfl
theorem PT204 : Try.prog.underlying 204 = some (.pointer (Try.prog.pointee 204)) := by kernel_rfl
end Fa
end Go.Proofs.Ytbjhccnffacbcaa
/-! from FWSha2 -/
/- Closed facts, off the tables of the program. -/
namespace Go.Proofs.Ytbjhccnffacbcaa
open Go.Owl
namespace Fa
theorem C133 : callB Try.prog 133 = true := by kernel_rfl
theorem C135 : callB Try.prog 135 = true := by kernel_rfl
theorem C137 : callB Try.prog 137 = true := by kernel_rfl
end Fa
end Go.Proofs.Ytbjhccnffacbcaa
/-! from FWRef2 -/
/- Closed facts, off the tables of the program. -/
namespace Go.Proofs.Ytbjhccnffacbcaa
open Go.Owl
namespace Fa
theorem C118 : callB Try.prog 118 = true := by kernel_rfl
theorem C119 : callB Try.prog 119 = true := by kernel_rfl
theorem C120 : callB Try.prog 120 = true := by kernel_rfl
theorem C138 : callB Try.prog 138 = true := by kernel_rfl
theorem C139 : callB Try.prog 139 = true := by kernel_rfl
theorem C140 : callB Try.prog 140 = true := by kernel_rfl
theorem C141 : callB Try.prog 141 = true := by kernel_rfl
theorem C161 : callB Try.prog 161 = true := by kernel_rfl
theorem C162 : callB Try.prog 162 = true := by kernel_rfl
end Fa
end Go.Proofs.Ytbjhccnffacbcaa
/-! from FWMac -/
/- Closed facts, off the tables of the program. -/
namespace Go.Proofs.Ytbjhccnffacbcaa
open Go.Owl
namespace Fa
theorem C113 : callB Try.prog 113 = true := by kernel_rfl
theorem C114 : callB Try.prog 114 = true := by kernel_rfl
theorem C115 : callB Try.prog 115 = true := by kernel_rfl
theorem C134 : callB Try.prog 134 = true := by kernel_rfl
theorem C136 : callB Try.prog 136 = true := by kernel_rfl
theorem C159 : callB Try.prog 159 = true := by kernel_rfl
theorem C86 : callB Try.prog 86 = true := by kernel_rfl
theorem C87 : callB Try.prog 87 = true := by kernel_rfl
theorem C88 : callB Try.prog 88 = true := by kernel_rfl
theorem F207_0 : faB Try.prog 207 0 = some (0, 1, true) := by kernel_rfl
theorem F207_1 : faB Try.prog 207 1 = some (1, 1, true) := by kernel_rfl
theorem I207 : tiB Try.prog 207 = some ([(.pointer none), (str [])], 2, 24) := by kernel_rfl
theorem PL207 : plB Try.prog 207 = some [(0, 1), (1, 1)] := by kernel_rfl
theorem PT178 : Try.prog.underlying 178 = some (.pointer (Try.prog.pointee 178)) := by kernel_rfl
end Fa
end Go.Proofs.Ytbjhccnffacbcaa
/-! from FWBuild -/
/- Closed facts, off the tables of the program. -/
namespace Go.Proofs.Ytbjhccnffacbcaa
open Go.Owl
namespace Fa
theorem C110 : callB Try.prog 110 = true := by kernel_rfl
theorem CO143 : Try.prog.cellsOf 143 = 2 := by kernel_rfl
theorem CO5 : Try.prog.cellsOf 5 = 1 := by kernel_rfl
theorem F143_0 : faB Try.prog 143 0 = some (0, 1, true) := by kernel_rfl
theorem F143_1 : faB Try.prog 143 1 = some (1, 1, true) := by kernel_rfl
theorem I141 : tiB Try.prog 141 = some ([(.pointer none)], 1, 8) := by kernel_rfl
theorem PT141 : Try.prog.underlying 141 = some (.pointer (Try.prog.pointee 141)) := by kernel_rfl
end Fa
end Go.Proofs.Ytbjhccnffacbcaa
/-! from FWSlot -/
/- Closed facts, off the tables of the program. -/
namespace Go.Proofs.Ytbjhccnffacbcaa
open Go.Owl
namespace Fa
theorem C116 : callB Try.prog 116 = true := by kernel_rfl
theorem C117 : callB Try.prog 117 = true := by kernel_rfl
theorem C84 : callB Try.prog 84 = true := by kernel_rfl
theorem C85 : callB Try.prog 85 = true := by kernel_rfl
theorem F140_0 : faB Try.prog 140 0 = some (0, 1, true) := by kernel_rfl
theorem F173_3 : faB Try.prog 173 3 = some (4, 1, true) := by kernel_rfl
theorem I41 : tiB Try.prog 41 = some ([(.slice none 0 0)], 1, 24) := by kernel_rfl
theorem PT131 : Try.prog.underlying 131 = some (.pointer (Try.prog.pointee 131)) := by kernel_rfl
theorem PT181 : Try.prog.underlying 181 = some (.pointer (Try.prog.pointee 181)) := by kernel_rfl
theorem PT25 : Try.prog.underlying 25 = some (.pointer (Try.prog.pointee 25)) := by kernel_rfl
end Fa
end Go.Proofs.Ytbjhccnffacbcaa
/-! from FWSlot2 -/
/- Closed facts, off the tables of the program. -/
namespace Go.Proofs.Ytbjhccnffacbcaa
open Go.Owl
namespace Fa
theorem C111 : callB Try.prog 111 = true := by kernel_rfl
theorem C112 : callB Try.prog 112 = true := by kernel_rfl
theorem C40 : callB Try.prog 40 = true := by kernel_rfl
theorem C43 : callB Try.prog 43 = true := by kernel_rfl
theorem C44 : callB Try.prog 44 = true := by kernel_rfl
theorem C45 : callB Try.prog 45 = true := by kernel_rfl
theorem C51 : callB Try.prog 51 = true := by kernel_rfl
theorem C76 : callB Try.prog 76 = true := by kernel_rfl
theorem C77 : callB Try.prog 77 = true := by kernel_rfl
theorem C78 : callB Try.prog 78 = true := by kernel_rfl
theorem C79 : callB Try.prog 79 = true := by kernel_rfl
theorem C80 : callB Try.prog 80 = true := by kernel_rfl
theorem C81 : callB Try.prog 81 = true := by kernel_rfl
theorem C82 : callB Try.prog 82 = true := by kernel_rfl
theorem F94_0 : faB Try.prog 94 0 = some (0, 1, true) := by kernel_rfl
theorem F94_1 : faB Try.prog 94 1 = some (1, 1, true) := by kernel_rfl
theorem F98_0 : faB Try.prog 98 0 = some (0, 1, true) := by kernel_rfl
theorem F98_1 : faB Try.prog 98 1 = some (1, 1, true) := by kernel_rfl
theorem F98_2 : faB Try.prog 98 2 = some (2, 1, true) := by kernel_rfl
theorem F98_3 : faB Try.prog 98 3 = some (3, 1, true) := by kernel_rfl
theorem F98_4 : faB Try.prog 98 4 = some (4, 1, true) := by kernel_rfl
theorem I143 : tiB Try.prog 143 = some ([(.pointer none), (.slice none 0 0)], 2, 32) := by kernel_rfl
theorem I94 : tiB Try.prog 94 = some ([(.pointer none), (vN 0)], 2, 16) := by kernel_rfl
theorem LI143_143 : liesAt Try.prog Try.prog.depth 143 1 0 143 1 = true := by kernel_rfl
theorem PL94 : plB Try.prog 94 = some [(0, 1), (1, 1)] := by kernel_rfl
theorem PT26 : Try.prog.underlying 26 = some (.pointer (Try.prog.pointee 26)) := by kernel_rfl
end Fa
end Go.Proofs.Ytbjhccnffacbcaa
/-! from FWSlot3 -/
/- Closed facts, off the tables of the program. -/
namespace Go.Proofs.Ytbjhccnffacbcaa
open Go.Owl
namespace Fa
theorem C47 : callB Try.prog 47 = true := by kernel_rfl
theorem C83 : callB Try.prog 83 = true := by kernel_rfl
theorem I24 : tiB Try.prog 24 = some ([.nilFunc], 1, 8) := by kernel_rfl
end Fa
end Go.Proofs.Ytbjhccnffacbcaa
/-! from FWSlot4 -/
/- Closed facts, off the tables of the program. -/
namespace Go.Proofs.Ytbjhccnffacbcaa
open Go.Owl
namespace Fa
theorem C46 : callB Try.prog 46 = true := by kernel_rfl
theorem C48 : callB Try.prog 48 = true := by kernel_rfl
theorem C49 : callB Try.prog 49 = true := by kernel_rfl
end Fa
end Go.Proofs.Ytbjhccnffacbcaa
/-! from FWSlot5 -/
/- Closed facts, off the tables of the program. -/
namespace Go.Proofs.Ytbjhccnffacbcaa
open Go.Owl
namespace Fa
theorem C11 : callB Try.prog 11 = true := by kernel_rfl
theorem C41 : callB Try.prog 41 = true := by kernel_rfl
theorem C50 : callB Try.prog 50 = true := by kernel_rfl
end Fa
end Go.Proofs.Ytbjhccnffacbcaa
/-! from FWSlot6 -/
/- Closed facts, off the tables of the program. -/
namespace Go.Proofs.Ytbjhccnffacbcaa
open Go.Owl
namespace Fa
theorem C127 : callB Try.prog 127 = true := by kernel_rfl
theorem C34 : callB Try.prog 34 = true := by kernel_rfl
theorem C54 : callB Try.prog 54 = true := by kernel_rfl
theorem F48_0 : faB Try.prog 48 0 = some (0, 1, true) := by kernel_rfl
theorem F48_1 : faB Try.prog 48 1 = some (1, 1, true) := by kernel_rfl
theorem I112 : tiB Try.prog 112 = some ([(vU32 0), (.slice none 0 0), (.map none)], 3, 40) := by kernel_rfl
theorem I196 : tiB Try.prog 196 = some ([(.map none), (.slice none 0 0), (vN 0)], 3, 40) := by kernel_rfl
theorem I46 : tiB Try.prog 46 = some ([(.slice none 0 0)], 1, 24) := by kernel_rfl
theorem I48 : tiB Try.prog 48 = some ([(vU32 0), (.slice none 0 0)], 2, 32) := by kernel_rfl
theorem PL112 : plB Try.prog 112 = some [(0, 2), (2, 1)] := by kernel_rfl
theorem PL196 : plB Try.prog 196 = some [(0, 1), (1, 1), (2, 1)] := by kernel_rfl
end Fa
end Go.Proofs.Ytbjhccnffacbcaa
/-! from FWSlot7 -/
/- Closed facts, off the tables of the program. -/
namespace Go.Proofs.Ytbjhccnffacbcaa
open Go.Owl
namespace Fa
theorem C108 : callB Try.prog 108 = true := by kernel_rfl
theorem C109 : callB Try.prog 109 = true := by kernel_rfl
theorem C18 : callB Try.prog 18 = true := by kernel_rfl
theorem C75 : callB Try.prog 75 = true := by kernel_rfl
theorem I140 : tiB Try.prog 140 = some ([(.pointer none), (.bool false), (vN 0), (.pointer none), (.bool false), (vN 0), (.pointer none), (.bool false), (vN 0), (.pointer none), (.bool false), (vN 0), (.pointer none), (.bool false), (vN 0), (.pointer none), (.bool false), (vN 0), (.pointer none), (.bool false), (vN 0), (.pointer none), (.bool false), (vN 0), (.pointer none), (.bool false), (vN 0), (.pointer none), (.slice none 0 0)], 29, 248) := by kernel_rfl
theorem I171 : tiB Try.prog 171 = some ([(.slice none 0 0)], 1, 24) := by kernel_rfl
theorem I173 : tiB Try.prog 173 = some ([(vU32 0), (.slice none 0 0), (.pointer none), (.pointer none), (.slice none 0 0), (vU32 0)], 6, 80) := by kernel_rfl
theorem I98 : tiB Try.prog 98 = some ([(.pointer none), (vU32 0), (str []), (vN 0), (vN 0)], 5, 48) := by kernel_rfl
theorem PL140 : plB Try.prog 140 = some [(0, 1), (1, 27), (28, 1)] := by kernel_rfl
theorem PL173 : plB Try.prog 173 = some [(0, 2), (2, 1), (3, 1), (4, 1), (5, 1)] := by kernel_rfl
theorem PL98 : plB Try.prog 98 = some [(0, 1), (1, 1), (2, 1), (3, 1), (4, 1)] := by kernel_rfl
end Fa
end Go.Proofs.Ytbjhccnffacbcaa
/-! from FWSlot8 -/
/- Closed facts, off the tables of the program. -/
namespace Go.Proofs.Ytbjhccnffacbcaa
open Go.Owl
namespace Fa
theorem C10 : callB Try.prog 10 = true := by kernel_rfl
theorem C12 : callB Try.prog 12 = true := by kernel_rfl
theorem C13 : callB Try.prog 13 = true := by kernel_rfl
theorem C14 : callB Try.prog 14 = true := by kernel_rfl
theorem C42 : callB Try.prog 42 = true := by kernel_rfl
theorem C52 : callB Try.prog 52 = true := by kernel_rfl
theorem C53 : callB Try.prog 53 = true := by kernel_rfl
theorem F43_1 : faB Try.prog 43 1 = some (1, 1, true) := by kernel_rfl
theorem PL48 : plB Try.prog 48 = some [(0, 1), (1, 1)] := by kernel_rfl
end Fa
end Go.Proofs.Ytbjhccnffacbcaa
/-! from FWSlot9 -/
/- Closed facts, off the tables of the program. -/
namespace Go.Proofs.Ytbjhccnffacbcaa
open Go.Owl
namespace Fa
theorem C15 : callB Try.prog 15 = true := by kernel_rfl
theorem C9 : callB Try.prog 9 = true := by kernel_rfl
theorem I43 : tiB Try.prog 43 = some ([(.slice none 0 0), (str []), (vN 0)], 3, 48) := by kernel_rfl
theorem PL43 : plB Try.prog 43 = some [(0, 1), (1, 1), (2, 1)] := by kernel_rfl
end Fa
end Go.Proofs.Ytbjhccnffacbcaa
/-! from WInsn -/
namespace Go.Proofs.Ytbjhccnffacbcaa
open Go.Owl Go.Spec
set_option maxRecDepth 100000 in
theorem text_ok (v : Value) (m : Nat) (l : List UInt8) (w : World) (hA : Arr w v 1 m (l.map vU8)) :
    Calls Try.prog 129 #[v] w (fun e w' => e = .returned (str l) ∧ Fr [] w w') := by
  refine enter (args := [v]) Try.func129 rfl rfl ?_
  have H0 : Own [] w w [] := Own.start w []
  refine WC.seq ?_
  refine WC.region ?_
  refine WL.op rfl rfl (op_assign rfl ?_)
  refine WL.nil ?_
  refine WQ.next ?_
  refine WC.seq ?_
  refine WC.region ?_
  refine WL.op rfl rfl (op_move rfl ?_)
  refine WL.op rfl rfl (op_bytesStr (l := l) Try.underlying106 Try.underlying5 Try.underlying9 rfl (H0.arr hA) rfl ?_)
  refine WL.op rfl rfl (op_assign rfl ?_)
  refine WL.nil ?_
  refine WQ.next ?_
  refine WC.ret ?_
  refine WQ.out (.tmp rfl .nil) ?_
  exact ⟨rfl, H0.fr⟩
set_option maxRecDepth 100000 in
theorem put4_ok (v : UInt32) (w : World) :
    Calls Try.prog 111 #[(vU32 v), (vN 4)] w (fun e w' => e = .returned (.tuple #[str (le4 v), vN 0]) ∧ Fr [] w w') := by
  refine enter (args := [(vU32 v), (vN 4)]) Try.func111 rfl rfl ?_
  have H0 : Own [] w w [] := Own.start w []
  refine WC.seq ?_
  refine WC.region ?_
  refine WL.op rfl rfl (op_assign rfl ?_)
  refine WL.op rfl rfl (op_assign rfl ?_)
  refine WL.nil ?_
  refine WQ.next ?_
  refine WC.seq ?_
  refine WC.block ?_
  refine WC.seq ?_
  refine WC.region ?_
  refine WL.op rfl rfl (op_move rfl ?_)
  refine WL.op rfl rfl (op_lssN (b := 1) rfl rfl ?_)
  refine WL.op rfl rfl (op_move rfl ?_)
  refine WL.yes rfl rfl rfl (by decide) rfl (op_move rfl ?_)
  refine WL.yes rfl rfl rfl (by decide) rfl (op_gtrN (b := 4) rfl rfl ?_)
  refine WL.op rfl rfl (op_pickF rfl (by decide) rfl ?_)
  refine WL.op rfl rfl (op_assign rfl ?_)
  refine WL.nil ?_
  refine WQ.next ?_
  refine WC.no rfl (by decide) ?_
  refine WC.seq ?_
  refine WC.region ?_
  refine WL.op rfl rfl (op_move rfl ?_)
  refine WL.op rfl rfl (op_lssN (b := 4) rfl rfl ?_)
  refine WL.op rfl rfl (op_move rfl ?_)
  refine WL.no rfl rfl rfl (by decide) rfl ?_
  refine WL.no rfl rfl rfl (by decide) rfl ?_
  refine WL.no rfl rfl rfl (by decide) rfl ?_
  refine WL.no rfl rfl rfl (by decide) rfl ?_
  refine WL.no rfl rfl rfl (by decide) rfl ?_
  refine WL.op rfl rfl (op_pickF rfl (by decide) rfl ?_)
  refine WL.op rfl rfl (op_assign rfl ?_)
  refine WL.nil ?_
  refine WQ.next ?_
  refine WC.no rfl rfl ?_
  refine WC.skip ?_
  refine WQ.inNormal ?_
  refine WQ.next ?_
  refine WC.seq ?_
  refine WC.region ?_
  refine WL.op rfl rfl (op_move rfl ?_)
  refine WL.op rfl rfl (op_convU32U8 (hs := Try.underlying29) (hd := Try.underlying5) rfl ?_)
  refine WL.op rfl rfl (op_move rfl ?_)
  refine WL.op rfl rfl (op_shrU32 (s := 8) rfl rfl ?_)
  refine WL.op rfl rfl (op_convU32U8 (hs := Try.underlying29) (hd := Try.underlying5) rfl ?_)
  refine WL.op rfl rfl (op_move rfl ?_)
  refine WL.op rfl rfl (op_shrU32 (s := 16) rfl rfl ?_)
  refine WL.op rfl rfl (op_convU32U8 (hs := Try.underlying29) (hd := Try.underlying5) rfl ?_)
  refine WL.op rfl rfl (op_move rfl ?_)
  refine WL.op rfl rfl (op_shrU32 (s := 24) rfl rfl ?_)
  refine WL.op rfl rfl (op_convU32U8 (hs := Try.underlying29) (hd := Try.underlying5) rfl ?_)
  refine WL.op rfl rfl (op_buildSlice (cs := [_, _, _, _]) H0 Try.underlying106 Fa.I5 rfl rfl rfl rfl (by decide) (by decide) (fun b1 w1 H1 => ?_))
  refine WL.op rfl rfl (op_move rfl ?_)
  refine WL.op rfl rfl (op_cutHi Try.underlying106 Fa.I5 rfl (H1.arrR (i := 0) rfl) rfl (by omega) ?_)
  refine WL.op rfl rfl (op_callF Fa.C129 rfl ((text_ok _ _ (([(UInt8.ofNat v.toNat), (UInt8.ofNat (shrU32 v 8).toNat), (UInt8.ofNat (shrU32 v 16).toNat), (UInt8.ofNat (shrU32 v 24).toNat)].take 4)) _ (((H1.arrR (i := 0) rfl)).cutHiM (f := vU8) (l := [(UInt8.ofNat v.toNat), (UInt8.ofNat (shrU32 v 8).toNat), (UInt8.ofNat (shrU32 v 16).toNat), (UInt8.ofNat (shrU32 v 24).toNat)]) (b := 4) (by omega))).mono (fun e w2 hq => ?_)))
  obtain ⟨rfl, hf2⟩ := hq
  refine ⟨_, rfl, ?_⟩
  have H2 := H1.fr' hf2
  refine WL.op rfl rfl (op_assign rfl ?_)
  refine WL.op rfl rfl (op_assign rfl ?_)
  refine WL.nil ?_
  refine WQ.next ?_
  refine WC.ret ?_
  refine WQ.out (.tmp rfl (.tmp rfl .nil)) ?_
  exact ⟨rfl, H2.fr⟩
set_option maxRecDepth 100000 in
theorem get_ok (s : List UInt8) (w : World) :
    Calls Try.prog 77 #[(str s)] w (fun e w' => e = .returned (.tuple #[vU32 (getV s), vN (getE s)]) ∧ Fr [] w w') := by
  refine enter (args := [(str s)]) Try.func77 rfl rfl ?_
  have H0 : Own [] w w [] := Own.start w []
  refine WC.seq ?_
  refine WC.region ?_
  refine WL.op rfl rfl (op_assign rfl ?_)
  refine WL.op rfl rfl (op_assign rfl ?_)
  refine WL.nil ?_
  refine WQ.next ?_
  refine WC.seq ?_
  refine WC.seq ?_
  refine WC.region ?_
  refine WL.op rfl rfl (op_move rfl ?_)
  refine WL.op rfl rfl (op_lenStr Try.underlying9 rfl ?_)
  refine WL.op rfl rfl (op_lssN (b := 1) rfl rfl ?_)
  refine WL.op rfl rfl (op_move rfl ?_)
  refine WL.split (t := 8) rfl (fun (hb1 : (decide (s.length < 1)) = true) => ?_) (fun (hb1 : (decide (s.length < 1)) = false) => ?_)
  ·
    have hc1 := of_decide_eq_true hb1
    refine WL.no rfl rfl rfl hb1 rfl ?_
    refine WL.no rfl rfl rfl hb1 rfl ?_
    refine WL.no rfl rfl rfl hb1 rfl ?_
    refine WL.op rfl rfl (op_pickT rfl hb1 rfl ?_)
    refine WL.nil ?_
    refine WQ.next ?_
    refine WC.yes rfl rfl ?_
    refine WC.seq ?_
    refine WC.region ?_
    refine WL.op rfl rfl (op_assign rfl ?_)
    refine WL.op rfl rfl (op_assign rfl ?_)
    refine WL.nil ?_
    refine WQ.next ?_
    refine WC.ret ?_
    refine WQ.thenRet ?_
    refine WQ.out (.tmp rfl (.tmp rfl .nil)) ?_
    exact ⟨by first | (have hk : k = s.length := (by omega); subst hk; rw [getV, getE, if_neg (by omega), if_neg (by omega)]; rfl) | (rw [getV, getE, if_pos (by omega), if_pos (by omega)]; rfl), H0.fr⟩
  ·
    have hc1 := of_decide_eq_false hb1
    refine WL.yes rfl rfl rfl hb1 rfl (op_move rfl ?_)
    refine WL.yes rfl rfl rfl hb1 rfl (op_lenStr Try.underlying9 rfl ?_)
    refine WL.yes rfl rfl rfl hb1 rfl (op_gtrN (b := 4) rfl rfl ?_)
    refine WL.op rfl rfl (op_pickF rfl hb1 rfl ?_)
    refine WL.nil ?_
    refine WQ.next ?_
    refine WC.cond rfl (fun (hb2 : (decide (s.length > 4)) = true) => ?_) (fun (hb2 : (decide (s.length > 4)) = false) => ?_)
    ·
      have hc2 := of_decide_eq_true hb2
      refine WC.seq ?_
      refine WC.region ?_
      refine WL.op rfl rfl (op_assign rfl ?_)
      refine WL.op rfl rfl (op_assign rfl ?_)
      refine WL.nil ?_
      refine WQ.next ?_
      refine WC.ret ?_
      refine WQ.thenRet ?_
      refine WQ.out (.tmp rfl (.tmp rfl .nil)) ?_
      exact ⟨by first | (have hk : k = s.length := (by omega); subst hk; rw [getV, getE, if_neg (by omega), if_neg (by omega)]; rfl) | (rw [getV, getE, if_pos (by omega), if_pos (by omega)]; rfl), H0.fr⟩
    ·
      have hc2 := of_decide_eq_false hb2
      refine WC.skip ?_
      refine WQ.next ?_
      refine WC.seq ?_
      refine WC.seq ?_
      refine WC.region ?_
      refine WL.op rfl rfl (op_move rfl ?_)
      refine WL.op rfl rfl (op_lenStr Try.underlying9 rfl ?_)
      refine WL.op rfl rfl (op_move rfl ?_)
      refine WL.nil ?_
      refine WQ.next ?_
      refine WC.block ?_
      refine WC.loop (α := Nat) (fun k => [(0, (str s)), (3, (vN 0)), (14, (vN s.length)), (15, (vN k)), (2, (vU32 (getTo s k)))]) (fun k w' => (k ≤ s.length) ∧ Own [] w w' []) (fun k => s.length - k) 0 ⟨(by omega), H0⟩ ⟨rfl, rfl, rfl, rfl, rfl, trivial⟩ ?_
      rintro k w3 ⟨hinv, H3⟩
      show WC _ _ _ _ _ [(0, (str s)), (3, (vN 0)), (14, (vN s.length)), (15, (vN k)), (2, (vU32 (getTo s k)))] _
      refine WC.seq ?_
      refine WC.region ?_
      refine WL.op rfl rfl (op_lssN rfl rfl ?_)
      refine WL.nil ?_
      refine WQ.next ?_
      refine WC.seq ?_
      refine WC.cond rfl (fun (hb4 : (decide (k < s.length)) = true) => ?_) (fun (hb4 : (decide (k < s.length)) = false) => ?_)
      ·
        have hc4 := of_decide_eq_true hb4
        refine WC.skip ?_
        refine WQ.next ?_
        refine WC.seq ?_
        refine WC.block ?_
        refine WC.seq ?_
        refine WC.region ?_
        refine WL.op rfl rfl (op_move rfl ?_)
        refine WL.op rfl rfl (op_assign rfl ?_)
        refine WL.nil ?_
        refine WQ.next ?_
        refine WC.region ?_
        refine WL.op rfl rfl (op_move rfl ?_)
        refine WL.op rfl rfl (op_move rfl ?_)
        refine WL.op rfl rfl (op_move rfl ?_)
        refine WL.op rfl rfl (op_indexStrD Try.underlying9 rfl rfl (by omega) ?_)
        refine WL.op rfl rfl (op_convU8U32 (hs := Try.underlying5) (hd := Try.underlying29) rfl ?_)
        refine WL.op rfl rfl (op_move rfl ?_)
        refine WL.op rfl rfl (op_mulN (a := 8) rfl rfl (by omega) ?_)
        refine WL.op rfl rfl (op_shlU32 rfl rfl ?_)
        refine WL.op rfl rfl (op_orU32 rfl rfl ?_)
        refine WL.op rfl rfl (op_assign rfl ?_)
        refine WL.nil ?_
        refine WQ.inNormal ?_
        refine WQ.next ?_
        refine WC.region ?_
        refine WL.op rfl rfl (op_addN (b := 1) rfl rfl (by omega) ?_)
        refine WL.op rfl rfl (op_move rfl ?_)
        refine WL.nil ?_
        exact WQ.round (k + 1) ⟨(by omega), H3⟩ ⟨rfl, rfl, rfl, rfl, rfl, trivial⟩ (by omega)
      ·
        have hc4 := of_decide_eq_false hb4
        refine WC.exit ?_
        refine WQ.thenExit ?_
        refine WQ.thenExit ?_
        refine WQ.inHere ?_
        refine WQ.next ?_
        refine WC.seq ?_
        refine WC.region ?_
        refine WL.op rfl rfl (op_move rfl ?_)
        refine WL.op rfl rfl (op_assign rfl ?_)
        refine WL.op rfl rfl (op_assign rfl ?_)
        refine WL.nil ?_
        refine WQ.next ?_
        refine WC.ret ?_
        refine WQ.out (.tmp rfl (.tmp rfl .nil)) ?_
        exact ⟨by first | (have hk : k = s.length := (by omega); subst hk; rw [getV, getE, if_neg (by omega), if_neg (by omega)]; rfl) | (rw [getV, getE, if_pos (by omega), if_pos (by omega)]; rfl), H3.fr⟩
end Go.Proofs.Ytbjhccnffacbcaa
/-! from WRef4 -/
namespace Go.Proofs.Ytbjhccnffacbcaa
open Go.Owl Go.Spec
set_option maxRecDepth 100000 in
theorem bytes_ok (v : UInt32) (n : Nat) (hn : n ≤ 100) (w : World) :
    Calls Try.prog 52 #[(vU32 v), (vN n)] w (fun e w' => e = .returned (str (rB v n)) ∧ Fr [] w w') := by
  refine enter (args := [(vU32 v), (vN n)]) Try.func52 rfl rfl ?_
  have H0 : Own [] w w [] := Own.start w []
  refine WC.seq ?_
  refine WC.region ?_
  refine WL.op rfl rfl (op_assign rfl ?_)
  refine WL.nil ?_
  refine WQ.next ?_
  refine WC.seq ?_
  refine WC.region ?_
  refine WL.op rfl rfl (op_assign rfl ?_)
  have H1 := H0.nilRow 5 1
  refine WL.nil ?_
  refine WQ.next ?_
  refine WC.seq ?_
  refine WC.seq ?_
  refine WC.region ?_
  refine WL.op rfl rfl (op_assign rfl ?_)
  refine WL.nil ?_
  refine WQ.next ?_
  refine WC.block ?_
  refine WC.loop (α := Nat × Value) (fun (k, q) => [(1, (vN n)), (6, (vN k)), (0, (vU32 (rV v k))), (5, q)]) (fun (k, q) w' => (k ≤ n) ∧ Own [] w w' [.row q 5 1 k (List.map vU8 (rB v k))]) (fun (k, q) => n - k) (0, (.slice none 0 0)) ⟨(by omega), H1⟩ ⟨rfl, rfl, rfl, rfl, trivial⟩ ?_
  rintro ⟨k, q⟩ w2 ⟨hinv, H2⟩
  show WC _ _ _ _ _ [(1, (vN n)), (6, (vN k)), (0, (vU32 (rV v k))), (5, q)] _
  refine WC.seq ?_
  refine WC.seq ?_
  refine WC.region ?_
  refine WL.op rfl rfl (op_move rfl ?_)
  refine WL.op rfl rfl (op_move rfl ?_)
  refine WL.op rfl rfl (op_lssN rfl rfl ?_)
  refine WL.nil ?_
  refine WQ.next ?_
  refine WC.cond rfl (fun (hb3 : (decide (k < n)) = true) => ?_) (fun (hb3 : (decide (k < n)) = false) => ?_)
  ·
    have hc3 := of_decide_eq_true hb3
    refine WC.skip ?_
    refine WQ.next ?_
    refine WC.seq ?_
    refine WC.block ?_
    refine WC.seq ?_
    refine WC.region ?_
    refine WL.op rfl rfl (op_move rfl ?_)
    refine WL.op rfl rfl (op_move rfl ?_)
    refine WL.op rfl rfl (op_remU32 (b := 256) rfl rfl (by decide) ?_)
    refine WL.op rfl rfl (op_convU32U8 (hs := Try.underlying29) (hd := Try.underlying5) rfl ?_)
    refine WL.op rfl rfl (op_buildSlice (cs := [_]) H2 Try.underlying106 Fa.I5 rfl rfl rfl rfl (by decide) (by decide) (fun b4 w4 H4 => ?_))
    refine WL.op rfl rfl (op_appendM (f := vU8) (l := (rB v k)) (l' := [(UInt8.ofNat ((rV v k) % (256 : UInt32)).toNat)]) (i := 0) H4 Try.underlying106 Fa.I5 rfl rfl rfl rfl (Src.ofArr Try.underlying106 (H4.arrR (i := 1) rfl)) (one_mapM (fun _ => rfl)) (by omega) (by omega) (fun v5 w5 H5 => ?_))
    refine WL.op rfl rfl (op_assign rfl ?_)
    refine WL.nil ?_
    refine WQ.next ?_
    refine WC.region ?_
    refine WL.op rfl rfl (op_move rfl ?_)
    refine WL.op rfl rfl (op_quoU32 (b := 256) rfl rfl (by decide) ?_)
    refine WL.op rfl rfl (op_assign rfl ?_)
    refine WL.nil ?_
    refine WQ.inNormal ?_
    refine WQ.next ?_
    refine WC.region ?_
    refine WL.op rfl rfl (op_move rfl ?_)
    refine WL.op rfl rfl (op_addN (b := 1) rfl rfl (by omega) ?_)
    refine WL.op rfl rfl (op_assign rfl ?_)
    refine WL.nil ?_
    exact WQ.round (k + 1, v5) ⟨(by omega), (H5.take 1)⟩ ⟨rfl, rfl, rfl, rfl, trivial⟩ (by show n - (k + 1) < n - k; omega)
  ·
    have hc3 := of_decide_eq_false hb3
    refine WC.exit ?_
    refine WQ.thenExit ?_
    refine WQ.thenExit ?_
    refine WQ.inHere ?_
    refine WQ.next ?_
    refine WC.seq ?_
    refine WC.region ?_
    refine WL.op rfl rfl (op_move rfl ?_)
    refine WL.op rfl rfl (op_bytesStr (l := (rB v k)) Try.underlying106 Try.underlying5 Try.underlying9 rfl (H2.arrR (i := 0) rfl) rfl ?_)
    refine WL.op rfl rfl (op_assign rfl ?_)
    refine WL.nil ?_
    refine WQ.next ?_
    refine WC.ret ?_
    refine WQ.out (.tmp rfl .nil) ?_
    exact ⟨by have hk : k = n := (by omega); subst hk; rfl, H2.fr⟩
end Go.Proofs.Ytbjhccnffacbcaa
/-! from WSha -/
namespace Go.Proofs.Ytbjhccnffacbcaa
open Go.Owl Go.Spec
set_option maxRecDepth 100000 in
theorem turn_ok (x : UInt32) (n : Nat) (hn : n ≤ 32) (w : World) :
    Calls Try.prog 172 #[(vU32 x), (vN n)] w (fun e w' => e = .returned (vU32 (rot x n)) ∧ Fr [] w w') := by
  refine enter (args := [(vU32 x), (vN n)]) Try.func172 rfl rfl ?_
  have H0 : Own [] w w [] := Own.start w []
  refine WC.seq ?_
  refine WC.region ?_
  refine WL.op rfl rfl (op_assign rfl ?_)
  refine WL.nil ?_
  refine WQ.next ?_
  refine WC.seq ?_
  refine WC.draw 9 Fa.M H0 (HW.op rfl (fun w1 H1 => op_move rfl ⟨rfl, Fr.refl _ _⟩) (HW.op rfl (fun w1 H1 => op_move rfl ⟨rfl, Fr.refl _ _⟩) (HW.op rfl (fun w1 H1 => op_shrU32 rfl rfl ⟨rfl, Fr.refl _ _⟩) (HW.op rfl (fun w1 H1 => op_move rfl ⟨rfl, Fr.refl _ _⟩) (HW.op rfl (fun w1 H1 => op_move rfl ⟨rfl, Fr.refl _ _⟩) (HW.op rfl (fun w1 H1 => op_subN (a := 32) rfl rfl (by omega) (by omega) ⟨rfl, Fr.refl _ _⟩) (HW.op rfl (fun w1 H1 => op_shlU32 rfl rfl ⟨rfl, Fr.refl _ _⟩) (HW.op rfl (fun w1 H1 => op_orU32 rfl rfl ⟨rfl, Fr.refl _ _⟩) (HW.op rfl (fun w1 H1 => op_assign rfl ⟨rfl, Fr.refl _ _⟩)  HW.nil))))))))) (by kernel_rfl) ?_
  intro β1 w1 H1
  refine WL.nil ?_
  refine WQ.next ?_
  refine WC.ret ?_
  refine WQ.out (.tmp rfl .nil) ?_
  exact ⟨rfl, H1.fr⟩
set_option maxRecDepth 100000 in
theorem first_ok  (w : World) :
    Calls Try.prog 158 #[] w (fun e w' => e = .returned (.agg #[vU32 firstS.a, vU32 firstS.b, vU32 firstS.c, vU32 firstS.d, vU32 firstS.e, vU32 firstS.f, vU32 firstS.g, vU32 firstS.h]) ∧ Fr [] w w') := by
  refine enter (args := []) Try.func158 rfl rfl ?_
  have H0 : Own [] w w [] := Own.start w []
  refine WC.seq ?_
  refine WC.region ?_
  refine WL.op rfl rfl (op_alloc H0 Fa.I230 (fun b1 w1 H1 => ?_))
  refine WL.nil ?_
  refine WQ.next ?_
  refine WC.seq ?_
  refine WC.region ?_
  refine WL.op rfl rfl (op_buildA (cs := [_, _, _, _, _, _, _, _]) Fa.I230 Try.underlying230 Fa.I29 rfl rfl ?_)
  refine WL.op rfl rfl (op_storeBW (i := 0) H1 rfl rfl rfl rfl rfl Fa.I230 (fun w2 H2 => ?_))
  refine WL.nil ?_
  refine WQ.next ?_
  refine WC.ret ?_
  refine WQ.out (.cell rfl (run_loadVarS (vs := [_, _, _, _, _, _, _, _]) (H2.cells (i := 0) rfl rfl) Try.underlying230 rfl Fa.I230 rfl) .nil) ?_
  exact ⟨rfl, H2.fr⟩
set_option maxRecDepth 100000 in
theorem keys_ok  (w : World) :
    Calls Try.prog 171 #[] w (fun e w' => e = .returned (.agg (keyL.map vU32).toArray) ∧ Fr [] w w') := by
  refine enter (args := []) Try.func171 rfl rfl ?_
  have H0 : Own [] w w [] := Own.start w []
  refine WC.seq ?_
  refine WC.region ?_
  refine WL.op rfl rfl (op_alloc H0 Fa.I244 (fun b1 w1 H1 => ?_))
  refine WL.nil ?_
  refine WQ.next ?_
  refine WC.seq ?_
  refine WC.region ?_
  refine WL.op rfl rfl (op_buildA (cs := keyL.map vU32) Fa.I244 Try.underlying244 Fa.I29 rfl (by kernel_rfl) ?_)
  refine WL.op rfl rfl (op_storeBV (i := 0) H1 rfl rfl rfl (by kernel_rfl) (one_U32 _) (by kernel_rfl) Fa.I244 (fun w2 H2 => ?_))
  refine WL.nil ?_
  refine WQ.next ?_
  refine WC.ret ?_
  refine WQ.out (.cell rfl (run_loadVarS (H2.cellsW (i := 0) rfl) Try.underlying244 rfl Fa.I244 (by kernel_rfl)) .nil) ?_
  exact ⟨rfl, H2.fr⟩
set_option maxRecDepth 100000 in
theorem words_ok (v : Value) (b : List UInt8) (w : World) (hl : b.length = 64) (hA : Arr w v 1 64 (b.map vU8)) :
    Calls Try.prog 170 #[v] w (fun e w' => e = .returned (.agg ((wl b 64).map vU32).toArray) ∧ Fr [] w w') := by
  refine enter (args := [v]) Try.func170 rfl rfl ?_
  have H0 : Own [] w w [] := Own.start w []
  refine WC.seq ?_
  refine WC.region ?_
  refine WL.op rfl rfl (op_alloc H0 Fa.I244 (fun b1 w1 H1 => ?_))
  refine WL.nil ?_
  refine WQ.next ?_
  refine WC.seq ?_
  refine WC.seq ?_
  refine WC.region ?_
  refine WL.op rfl rfl (op_move rfl ?_)
  refine WL.nil ?_
  refine WQ.next ?_
  refine WC.block ?_
  refine WC.loop (α := Nat) (fun k => [(0, v), (2, (ptr b1 0)), (7, (vN k))]) (fun k w' => (k ≤ 16) ∧ Own [] w w' [.blk b1 (wC b k) 244]) (fun k => 16 - k) 0 ⟨(by omega), H1⟩ ⟨rfl, rfl, rfl, trivial⟩ ?_
  rintro k w2 ⟨hinv, H2⟩
  show WC _ _ _ _ _ [(0, v), (2, (ptr b1 0)), (7, (vN k))] _
  refine WC.seq ?_
  refine WC.region ?_
  refine WL.op rfl rfl (op_lssN (b := 16) rfl rfl ?_)
  refine WL.nil ?_
  refine WQ.next ?_
  refine WC.seq ?_
  refine WC.cond rfl (fun (hb3 : (decide (k < 16)) = true) => ?_) (fun (hb3 : (decide (k < 16)) = false) => ?_)
  ·
    have hc3 := of_decide_eq_true hb3
    refine WC.skip ?_
    refine WQ.next ?_
    refine WC.seq ?_
    refine WC.block ?_
    refine WC.seq ?_
    refine WC.region ?_
    refine WL.op rfl rfl (op_move rfl ?_)
    refine WL.op rfl rfl (op_assign rfl ?_)
    refine WL.nil ?_
    refine WQ.next ?_
    refine WC.draw 35 Fa.M H2 (HW.op rfl (fun w1 H1 => op_move rfl ⟨rfl, Fr.refl _ _⟩) (HW.op rfl (fun w1 H1 => op_move rfl ⟨rfl, Fr.refl _ _⟩) (HW.op rfl (fun w1 H1 => op_move rfl ⟨rfl, Fr.refl _ _⟩) (HW.op rfl (fun w1 H1 => op_mulN (a := 4) rfl rfl (by omega) ⟨rfl, Fr.refl _ _⟩) (HW.op rfl (fun w1 H1 => op_indexAddr1 Try.underlying106 Fa.I5 rfl (H1.arr hA) rfl (by omega) ⟨rfl, Fr.refl _ _⟩) (HW.op rfl (fun w1 H1 => op_load rfl ((H1.arr hA).at (get_map vU8 0 (by omega))) Try.underlying5 rfl ⟨rfl, Fr.refl _ _⟩) (HW.op rfl (fun w1 H1 => op_convU8U32 (hs := Try.underlying5) (hd := Try.underlying29) rfl ⟨rfl, Fr.refl _ _⟩) (HW.op rfl (fun w1 H1 => op_shlU32 (s := 24) rfl rfl ⟨rfl, Fr.refl _ _⟩) (HW.op rfl (fun w1 H1 => op_move rfl ⟨rfl, Fr.refl _ _⟩) (HW.op rfl (fun w1 H1 => op_move rfl ⟨rfl, Fr.refl _ _⟩) (HW.op rfl (fun w1 H1 => op_mulN (a := 4) rfl rfl (by omega) ⟨rfl, Fr.refl _ _⟩) (HW.op rfl (fun w1 H1 => op_addN (b := 1) rfl rfl (by omega) ⟨rfl, Fr.refl _ _⟩) (HW.op rfl (fun w1 H1 => op_indexAddr1 Try.underlying106 Fa.I5 rfl (H1.arr hA) rfl (by omega) ⟨rfl, Fr.refl _ _⟩) (HW.op rfl (fun w1 H1 => op_load rfl ((H1.arr hA).at (get_map vU8 0 (by omega))) Try.underlying5 rfl ⟨rfl, Fr.refl _ _⟩) (HW.op rfl (fun w1 H1 => op_convU8U32 (hs := Try.underlying5) (hd := Try.underlying29) rfl ⟨rfl, Fr.refl _ _⟩) (HW.op rfl (fun w1 H1 => op_shlU32 (s := 16) rfl rfl ⟨rfl, Fr.refl _ _⟩) (HW.op rfl (fun w1 H1 => op_orU32 rfl rfl ⟨rfl, Fr.refl _ _⟩) (HW.op rfl (fun w1 H1 => op_move rfl ⟨rfl, Fr.refl _ _⟩) (HW.op rfl (fun w1 H1 => op_move rfl ⟨rfl, Fr.refl _ _⟩) (HW.op rfl (fun w1 H1 => op_mulN (a := 4) rfl rfl (by omega) ⟨rfl, Fr.refl _ _⟩) (HW.op rfl (fun w1 H1 => op_addN (b := 2) rfl rfl (by omega) ⟨rfl, Fr.refl _ _⟩) (HW.op rfl (fun w1 H1 => op_indexAddr1 Try.underlying106 Fa.I5 rfl (H1.arr hA) rfl (by omega) ⟨rfl, Fr.refl _ _⟩) (HW.op rfl (fun w1 H1 => op_load rfl ((H1.arr hA).at (get_map vU8 0 (by omega))) Try.underlying5 rfl ⟨rfl, Fr.refl _ _⟩) (HW.op rfl (fun w1 H1 => op_convU8U32 (hs := Try.underlying5) (hd := Try.underlying29) rfl ⟨rfl, Fr.refl _ _⟩) (HW.op rfl (fun w1 H1 => op_shlU32 (s := 8) rfl rfl ⟨rfl, Fr.refl _ _⟩) (HW.op rfl (fun w1 H1 => op_orU32 rfl rfl ⟨rfl, Fr.refl _ _⟩) (HW.op rfl (fun w1 H1 => op_move rfl ⟨rfl, Fr.refl _ _⟩) (HW.op rfl (fun w1 H1 => op_move rfl ⟨rfl, Fr.refl _ _⟩) (HW.op rfl (fun w1 H1 => op_mulN (a := 4) rfl rfl (by omega) ⟨rfl, Fr.refl _ _⟩) (HW.op rfl (fun w1 H1 => op_addN (b := 3) rfl rfl (by omega) ⟨rfl, Fr.refl _ _⟩) (HW.op rfl (fun w1 H1 => op_indexAddr1 Try.underlying106 Fa.I5 rfl (H1.arr hA) rfl (by omega) ⟨rfl, Fr.refl _ _⟩) (HW.op rfl (fun w1 H1 => op_load rfl ((H1.arr hA).at (get_map vU8 0 (by omega))) Try.underlying5 rfl ⟨rfl, Fr.refl _ _⟩) (HW.op rfl (fun w1 H1 => op_convU8U32 (hs := Try.underlying5) (hd := Try.underlying29) rfl ⟨rfl, Fr.refl _ _⟩) (HW.op rfl (fun w1 H1 => op_orU32 rfl rfl ⟨rfl, Fr.refl _ _⟩) (HW.op rfl (fun w1 H1 => op_indexAddrA1 Try.underlying244 Fa.I29 rfl rfl (by omega) ⟨rfl, Fr.refl _ _⟩)  HW.nil))))))))))))))))))))))))))))))))))) (by kernel_rfl) ?_
    intro β4 w4 H4
    refine WL.op rfl rfl (op_storeB (i := 0) H4 rfl rfl rfl (by rw [Nat.blt_eq, wC_length _ _ (by omega)]; omega) rfl Fa.I29 (fun w5 H5 => ?_))
    refine WL.nil ?_
    refine WQ.inNormal ?_
    refine WQ.next ?_
    refine WC.region ?_
    refine WL.op rfl rfl (op_addN (b := 1) rfl rfl (by omega) ?_)
    refine WL.op rfl rfl (op_move rfl ?_)
    refine WL.nil ?_
    exact WQ.round (k + 1) ⟨(by omega), (by rw [wC_set b (k := k) (by omega), if_pos (by omega)]; exact H5)⟩ ⟨rfl, rfl, rfl, trivial⟩ (by omega)
  ·
    have hc3 := of_decide_eq_false hb3
    refine WC.exit ?_
    refine WQ.thenExit ?_
    refine WQ.thenExit ?_
    refine WQ.inHere ?_
    refine WQ.next ?_
    refine WC.seq ?_
    refine WC.seq ?_
    refine WC.region ?_
    refine WL.op rfl rfl (op_assign rfl ?_)
    refine WL.nil ?_
    refine WQ.next ?_
    refine WC.block ?_
    refine WC.loop (α := Nat) (fun k => [(0, v), (2, (ptr b1 0)), (4, (vN k))]) (fun k w' => ((16 ≤ k ∧ k ≤ 64)) ∧ Own [] w w' [.blk b1 (wC b k) 244]) (fun k => 64 - k) 16 ⟨(by omega), (by have hk : k = 16 := (by omega); subst hk; exact H2)⟩ ⟨rfl, rfl, rfl, trivial⟩ ?_
    rintro k w6 ⟨hinv, H6⟩
    show WC _ _ _ _ _ [(0, v), (2, (ptr b1 0)), (4, (vN k))] _
    refine WC.seq ?_
    refine WC.seq ?_
    refine WC.region ?_
    refine WL.op rfl rfl (op_move rfl ?_)
    refine WL.op rfl rfl (op_lssN (b := 64) rfl rfl ?_)
    refine WL.nil ?_
    refine WQ.next ?_
    refine WC.cond rfl (fun (hb7 : (decide (k < 64)) = true) => ?_) (fun (hb7 : (decide (k < 64)) = false) => ?_)
    ·
      have hc7 := of_decide_eq_true hb7
      refine WC.skip ?_
      refine WQ.next ?_
      refine WC.seq ?_
      refine WC.block ?_
      refine WC.seq ?_
      refine WC.draw 10 Fa.M H6 (HW.op rfl (fun w1 H1 => op_move rfl ⟨rfl, Fr.refl _ _⟩) (HW.op rfl (fun w1 H1 => op_subN (b := 15) rfl rfl (by omega) (by omega) ⟨rfl, Fr.refl _ _⟩) (HW.op rfl (fun w1 H1 => op_indexAddrA1 Try.underlying244 Fa.I29 rfl rfl (by omega) ⟨rfl, Fr.refl _ _⟩) (HW.op rfl (fun w1 H1 => op_load rfl (H1.cell (i := 0) rfl (wC_get b (by omega))) Try.underlying29 rfl ⟨rfl, Fr.refl _ _⟩) (HW.op rfl (fun w1 H1 => op_move rfl ⟨rfl, Fr.refl _ _⟩) (HW.op rfl (fun w1 H1 => op_subN (b := 2) rfl rfl (by omega) (by omega) ⟨rfl, Fr.refl _ _⟩) (HW.op rfl (fun w1 H1 => op_indexAddrA1 Try.underlying244 Fa.I29 rfl rfl (by omega) ⟨rfl, Fr.refl _ _⟩) (HW.op rfl (fun w1 H1 => op_load rfl (H1.cell (i := 0) rfl (wC_get b (by omega))) Try.underlying29 rfl ⟨rfl, Fr.refl _ _⟩) (HW.op rfl (fun w1 H1 => op_assign rfl ⟨rfl, Fr.refl _ _⟩) (HW.op rfl (fun w1 H1 => op_assign rfl ⟨rfl, Fr.refl _ _⟩)  HW.nil)))))))))) (by kernel_rfl) ?_
      intro β8 w8 H8
      refine WL.nil ?_
      refine WQ.next ?_
      refine WC.draw 29 Fa.M H8 (HW.op rfl (fun w1 H1 => op_move rfl ⟨rfl, Fr.refl _ _⟩) (HW.op rfl (fun w1 H1 => op_move rfl ⟨rfl, Fr.refl _ _⟩) (HW.op rfl (fun w1 H1 => op_subN (b := 16) rfl rfl (by omega) (by omega) ⟨rfl, Fr.refl _ _⟩) (HW.op rfl (fun w1 H1 => op_indexAddrA1 Try.underlying244 Fa.I29 rfl rfl (by omega) ⟨rfl, Fr.refl _ _⟩) (HW.op rfl (fun w1 H1 => op_load rfl (H1.cell (i := 0) rfl (wC_get b (by omega))) Try.underlying29 rfl ⟨rfl, Fr.refl _ _⟩) (HW.op rfl (fun w1 H1 => op_move rfl ⟨rfl, Fr.refl _ _⟩) (HW.op rfl (fun w1 H1 => op_callF Fa.C172 rfl ((turn_ok ((wl b k).getD (k - 15) 0) 7 (by decide) _).mono (fun e w2 hq => ⟨_, hq.1, rfl, hq.2⟩))) (HW.op rfl (fun w1 H1 => op_move rfl ⟨rfl, Fr.refl _ _⟩) (HW.op rfl (fun w1 H1 => op_callF Fa.C172 rfl ((turn_ok ((wl b k).getD (k - 15) 0) 18 (by decide) _).mono (fun e w2 hq => ⟨_, hq.1, rfl, hq.2⟩))) (HW.op rfl (fun w1 H1 => op_xorU32 rfl rfl ⟨rfl, Fr.refl _ _⟩) (HW.op rfl (fun w1 H1 => op_move rfl ⟨rfl, Fr.refl _ _⟩) (HW.op rfl (fun w1 H1 => op_shrU32 (s := 3) rfl rfl ⟨rfl, Fr.refl _ _⟩) (HW.op rfl (fun w1 H1 => op_xorU32 rfl rfl ⟨rfl, Fr.refl _ _⟩) (HW.op rfl (fun w1 H1 => op_addU32 rfl rfl ⟨rfl, Fr.refl _ _⟩) (HW.op rfl (fun w1 H1 => op_move rfl ⟨rfl, Fr.refl _ _⟩) (HW.op rfl (fun w1 H1 => op_subN (b := 7) rfl rfl (by omega) (by omega) ⟨rfl, Fr.refl _ _⟩) (HW.op rfl (fun w1 H1 => op_indexAddrA1 Try.underlying244 Fa.I29 rfl rfl (by omega) ⟨rfl, Fr.refl _ _⟩) (HW.op rfl (fun w1 H1 => op_load rfl (H1.cell (i := 0) rfl (wC_get b (by omega))) Try.underlying29 rfl ⟨rfl, Fr.refl _ _⟩) (HW.op rfl (fun w1 H1 => op_addU32 rfl rfl ⟨rfl, Fr.refl _ _⟩) (HW.op rfl (fun w1 H1 => op_move rfl ⟨rfl, Fr.refl _ _⟩) (HW.op rfl (fun w1 H1 => op_callF Fa.C172 rfl ((turn_ok ((wl b k).getD (k - 2) 0) 17 (by decide) _).mono (fun e w2 hq => ⟨_, hq.1, rfl, hq.2⟩))) (HW.op rfl (fun w1 H1 => op_move rfl ⟨rfl, Fr.refl _ _⟩) (HW.op rfl (fun w1 H1 => op_callF Fa.C172 rfl ((turn_ok ((wl b k).getD (k - 2) 0) 19 (by decide) _).mono (fun e w2 hq => ⟨_, hq.1, rfl, hq.2⟩))) (HW.op rfl (fun w1 H1 => op_xorU32 rfl rfl ⟨rfl, Fr.refl _ _⟩) (HW.op rfl (fun w1 H1 => op_move rfl ⟨rfl, Fr.refl _ _⟩) (HW.op rfl (fun w1 H1 => op_shrU32 (s := 10) rfl rfl ⟨rfl, Fr.refl _ _⟩) (HW.op rfl (fun w1 H1 => op_xorU32 rfl rfl ⟨rfl, Fr.refl _ _⟩) (HW.op rfl (fun w1 H1 => op_addU32 rfl rfl ⟨rfl, Fr.refl _ _⟩) (HW.op rfl (fun w1 H1 => op_indexAddrA1 Try.underlying244 Fa.I29 rfl rfl (by omega) ⟨rfl, Fr.refl _ _⟩)  HW.nil))))))))))))))))))))))))))))) (by kernel_rfl) ?_
      intro β13 w13 H13
      refine WL.op rfl rfl (op_storeB (i := 0) H13 rfl rfl rfl (by rw [Nat.blt_eq, wC_length _ _ (by omega)]; omega) rfl Fa.I29 (fun w14 H14 => ?_))
      refine WL.nil ?_
      refine WQ.inNormal ?_
      refine WQ.next ?_
      refine WC.region ?_
      refine WL.op rfl rfl (op_move rfl ?_)
      refine WL.op rfl rfl (op_addN (b := 1) rfl rfl (by omega) ?_)
      refine WL.op rfl rfl (op_assign rfl ?_)
      refine WL.nil ?_
      exact WQ.round (k + 1) ⟨(by omega), (by rw [wC_set b (k := k) (by omega), if_neg (by omega)]; exact H14)⟩ ⟨rfl, rfl, rfl, trivial⟩ (by omega)
    ·
      have hc7 := of_decide_eq_false hb7
      refine WC.exit ?_
      refine WQ.thenExit ?_
      refine WQ.thenExit ?_
      refine WQ.inHere ?_
      refine WQ.next ?_
      refine WC.seq ?_
      refine WC.region ?_
      refine WL.op rfl rfl (op_loadS rfl (H6.cellsW (i := 0) rfl) Try.underlying244 rfl Fa.I244 (wC_length _ _ (by omega)) ?_)
      refine WL.op rfl rfl (op_storeBV (i := 0) H6 rfl rfl rfl (by rw [wC_length _ _ (by omega)]; exact Nat.beq_refl 64) (by have hk : k = 64 := (by omega); subst hk; rw [wC_end]; exact one_U32 _) (wC_length _ _ (by omega)) Fa.I244 (fun w15 H15 => ?_))
      refine WL.nil ?_
      refine WQ.next ?_
      refine WC.ret ?_
      refine WQ.out (.cell rfl (run_loadVarS (H15.cellsW (i := 0) rfl) Try.underlying244 rfl Fa.I244 (wC_length _ _ (by omega))) .nil) ?_
      exact ⟨by have hk : k = 64 := (by omega); subst hk; rw [← wC_end]; rfl, H15.fr⟩
set_option maxRecDepth 100000 in
theorem block_ok (h : St) (v : Value) (b : List UInt8) (w : World) (hl : b.length = 64) (hA : Arr w v 1 64 (b.map vU8)) :
    Calls Try.prog 160 #[(.agg #[(vU32 h.a), (vU32 h.b), (vU32 h.c), (vU32 h.d), (vU32 h.e), (vU32 h.f), (vU32 h.g), (vU32 h.h)]), v] w (fun e w' => e = .returned (.agg #[vU32 (blockS h b).a, vU32 (blockS h b).b, vU32 (blockS h b).c, vU32 (blockS h b).d, vU32 (blockS h b).e, vU32 (blockS h b).f, vU32 (blockS h b).g, vU32 (blockS h b).h]) ∧ Fr [] w w') := by
  refine enter (args := [(.agg #[(vU32 h.a), (vU32 h.b), (vU32 h.c), (vU32 h.d), (vU32 h.e), (vU32 h.f), (vU32 h.g), (vU32 h.h)]), v]) Try.func160 rfl rfl ?_
  have H0 : Own [] w w [] := Own.start w []
  refine WC.seq ?_
  refine WC.region ?_
  refine WL.op rfl rfl (op_box H0 rfl rfl (fun b1 w1 H1 => ?_))
  refine WL.op rfl rfl (op_alloc H1 Fa.I230 (fun b2 w2 H2 => ?_))
  refine WL.nil ?_
  refine WQ.next ?_
  refine WC.seq ?_
  refine WC.draw 7 Fa.M H2 (HW.op rfl (fun w1 H1 => op_loadS (vs := [_, _, _, _, _, _, _, _]) rfl (H1.cells (i := 0) rfl rfl) Try.underlying230 rfl Fa.I230 rfl ⟨rfl, Fr.refl _ _⟩) (HW.op rfl (fun w1 H1 => op_move rfl ⟨rfl, Fr.refl _ _⟩) (HW.op rfl (fun w1 H1 => op_callF Fa.C170 rfl ((words_ok _ _ _ hl (H1.arr hA)).mono (fun e w2 hq => ⟨_, hq.1, rfl, hq.2⟩))) (HW.op rfl (fun w1 H1 => op_callF Fa.C171 rfl ((keys_ok _).mono (fun e w2 hq => ⟨_, hq.1, rfl, hq.2⟩))) (HW.flt (mk := fun bq => ptr bq.1 0) (ent := fun bq => .blk bq.1 _ _) rfl (fun w1 _ => op_alloc (Own.start w1 []) Fa.I230 (fun bq w2 H2 => ⟨(bq, undef), rfl, H2, True.intro⟩)) (HW.flt (mk := fun bq => ptr bq.1 0) (ent := fun bq => .blk bq.1 _ _) rfl (fun w1 _ => op_alloc (Own.start w1 []) Fa.I244 (fun bq w2 H2 => ⟨(bq, undef), rfl, H2, True.intro⟩)) (HW.flt (mk := fun bq => ptr bq.1 0) (ent := fun bq => .blk bq.1 _ _) rfl (fun w1 _ => op_alloc (Own.start w1 []) Fa.I244 (fun bq w2 H2 => ⟨(bq, undef), rfl, H2, True.intro⟩))  HW.nil))))))) (by kernel_rfl) ?_
  intro β5 w5 H5
  refine WL.op rfl rfl (op_storeBW (i := 2) H5 rfl rfl rfl rfl rfl Fa.I230 (fun w6 H6 => ?_))
  refine WL.op rfl rfl (op_storeBV (i := 3) H6 rfl rfl rfl (by rw [List.length_map, wl_length, List.length_replicate]; rfl) (one_U32 _) (by rw [List.length_map, wl_length]) Fa.I244 (fun w7 H7 => ?_))
  refine WL.op rfl rfl (op_storeBV (i := 4) H7 rfl rfl rfl (by kernel_rfl) (one_U32 _) (by kernel_rfl) Fa.I244 (fun w8 H8 => ?_))
  refine WL.nil ?_
  refine WQ.next ?_
  refine WC.seq ?_
  refine WC.seq ?_
  refine WC.region ?_
  refine WL.op rfl rfl (op_move rfl ?_)
  refine WL.nil ?_
  refine WQ.next ?_
  refine WC.block ?_
  refine WC.loop (α := Nat) (fun t => [(2, (ptr b1 0)), (4, (ptr b2 0)), (5, (ptr (β5 4).1 0)), (6, (ptr (β5 5).1 0)), (7, (ptr (β5 6).1 0)), (16, (vN t))]) (fun t w' => (t ≤ 64) ∧ Own [] w w' [.blk b1 [(vU32 h.a), (vU32 h.b), (vU32 h.c), (vU32 h.d), (vU32 h.e), (vU32 h.f), (vU32 h.g), (vU32 h.h)] 230, .blk b2 [(vU32 0), (vU32 0), (vU32 0), (vU32 0), (vU32 0), (vU32 0), (vU32 0), (vU32 0)] 230, .blk (β5 4).1 [(vU32 (rounds h (wl b 64) t).a), (vU32 (rounds h (wl b 64) t).b), (vU32 (rounds h (wl b 64) t).c), (vU32 (rounds h (wl b 64) t).d), (vU32 (rounds h (wl b 64) t).e), (vU32 (rounds h (wl b 64) t).f), (vU32 (rounds h (wl b 64) t).g), (vU32 (rounds h (wl b 64) t).h)] 230, .blk (β5 5).1 ((wl b 64).map vU32) 244, .blk (β5 6).1 (keyL.map vU32) 244]) (fun t => 64 - t) 0 ⟨(by omega), H8⟩ ⟨rfl, rfl, rfl, rfl, rfl, rfl, trivial⟩ ?_
  rintro t w9 ⟨hinv, H9⟩
  show WC _ _ _ _ _ [(2, (ptr b1 0)), (4, (ptr b2 0)), (5, (ptr (β5 4).1 0)), (6, (ptr (β5 5).1 0)), (7, (ptr (β5 6).1 0)), (16, (vN t))] _
  refine WC.seq ?_
  refine WC.region ?_
  refine WL.op rfl rfl (op_lssN (b := 64) rfl rfl ?_)
  refine WL.nil ?_
  refine WQ.next ?_
  refine WC.seq ?_
  refine WC.cond rfl (fun (hb10 : (decide (t < 64)) = true) => ?_) (fun (hb10 : (decide (t < 64)) = false) => ?_)
  ·
    have hc10 := of_decide_eq_true hb10
    refine WC.skip ?_
    refine WQ.next ?_
    refine WC.seq ?_
    refine WC.block ?_
    refine WC.seq ?_
    refine WC.region ?_
    refine WL.op rfl rfl (op_move rfl ?_)
    refine WL.op rfl rfl (op_assign rfl ?_)
    refine WL.nil ?_
    refine WQ.next ?_
    refine WC.seq ?_
    refine WC.draw 35 Fa.M H9 (HW.op rfl (fun w1 H1 => op_indexAddrA1 (m := 7) Try.underlying230 Fa.I29 rfl rfl (by omega) ⟨rfl, Fr.refl _ _⟩) (HW.op rfl (fun w1 H1 => op_load rfl (H1.cell (i := 2) rfl rfl) Try.underlying29 rfl ⟨rfl, Fr.refl _ _⟩) (HW.op rfl (fun w1 H1 => op_indexAddrA1 (m := 4) Try.underlying230 Fa.I29 rfl rfl (by omega) ⟨rfl, Fr.refl _ _⟩) (HW.op rfl (fun w1 H1 => op_load rfl (H1.cell (i := 2) rfl rfl) Try.underlying29 rfl ⟨rfl, Fr.refl _ _⟩) (HW.op rfl (fun w1 H1 => op_callF Fa.C172 rfl ((turn_ok ((rounds h (wl b 64) t).e) 6 (by decide) _).mono (fun e w2 hq => ⟨_, hq.1, rfl, hq.2⟩))) (HW.op rfl (fun w1 H1 => op_indexAddrA1 (m := 4) Try.underlying230 Fa.I29 rfl rfl (by omega) ⟨rfl, Fr.refl _ _⟩) (HW.op rfl (fun w1 H1 => op_load rfl (H1.cell (i := 2) rfl rfl) Try.underlying29 rfl ⟨rfl, Fr.refl _ _⟩) (HW.op rfl (fun w1 H1 => op_callF Fa.C172 rfl ((turn_ok ((rounds h (wl b 64) t).e) 11 (by decide) _).mono (fun e w2 hq => ⟨_, hq.1, rfl, hq.2⟩))) (HW.op rfl (fun w1 H1 => op_xorU32 rfl rfl ⟨rfl, Fr.refl _ _⟩) (HW.op rfl (fun w1 H1 => op_indexAddrA1 (m := 4) Try.underlying230 Fa.I29 rfl rfl (by omega) ⟨rfl, Fr.refl _ _⟩) (HW.op rfl (fun w1 H1 => op_load rfl (H1.cell (i := 2) rfl rfl) Try.underlying29 rfl ⟨rfl, Fr.refl _ _⟩) (HW.op rfl (fun w1 H1 => op_callF Fa.C172 rfl ((turn_ok ((rounds h (wl b 64) t).e) 25 (by decide) _).mono (fun e w2 hq => ⟨_, hq.1, rfl, hq.2⟩))) (HW.op rfl (fun w1 H1 => op_xorU32 rfl rfl ⟨rfl, Fr.refl _ _⟩) (HW.op rfl (fun w1 H1 => op_addU32 rfl rfl ⟨rfl, Fr.refl _ _⟩) (HW.op rfl (fun w1 H1 => op_indexAddrA1 (m := 4) Try.underlying230 Fa.I29 rfl rfl (by omega) ⟨rfl, Fr.refl _ _⟩) (HW.op rfl (fun w1 H1 => op_load rfl (H1.cell (i := 2) rfl rfl) Try.underlying29 rfl ⟨rfl, Fr.refl _ _⟩) (HW.op rfl (fun w1 H1 => op_indexAddrA1 (m := 5) Try.underlying230 Fa.I29 rfl rfl (by omega) ⟨rfl, Fr.refl _ _⟩) (HW.op rfl (fun w1 H1 => op_load rfl (H1.cell (i := 2) rfl rfl) Try.underlying29 rfl ⟨rfl, Fr.refl _ _⟩) (HW.op rfl (fun w1 H1 => op_andU32 rfl rfl ⟨rfl, Fr.refl _ _⟩) (HW.op rfl (fun w1 H1 => op_indexAddrA1 (m := 6) Try.underlying230 Fa.I29 rfl rfl (by omega) ⟨rfl, Fr.refl _ _⟩) (HW.op rfl (fun w1 H1 => op_load rfl (H1.cell (i := 2) rfl rfl) Try.underlying29 rfl ⟨rfl, Fr.refl _ _⟩) (HW.op rfl (fun w1 H1 => op_indexAddrA1 (m := 4) Try.underlying230 Fa.I29 rfl rfl (by omega) ⟨rfl, Fr.refl _ _⟩) (HW.op rfl (fun w1 H1 => op_load rfl (H1.cell (i := 2) rfl rfl) Try.underlying29 rfl ⟨rfl, Fr.refl _ _⟩) (HW.op rfl (fun w1 H1 => op_andNotU32 rfl rfl ⟨rfl, Fr.refl _ _⟩) (HW.op rfl (fun w1 H1 => op_xorU32 rfl rfl ⟨rfl, Fr.refl _ _⟩) (HW.op rfl (fun w1 H1 => op_addU32 rfl rfl ⟨rfl, Fr.refl _ _⟩) (HW.op rfl (fun w1 H1 => op_move rfl ⟨rfl, Fr.refl _ _⟩) (HW.op rfl (fun w1 H1 => op_indexAddrA1 Try.underlying244 Fa.I29 rfl rfl (by omega) ⟨rfl, Fr.refl _ _⟩) (HW.op rfl (fun w1 H1 => op_load rfl (H1.cell (i := 4) rfl (get_map0 vU32 0 (by rw [keyL_length]; omega))) Try.underlying29 rfl ⟨rfl, Fr.refl _ _⟩) (HW.op rfl (fun w1 H1 => op_addU32 rfl rfl ⟨rfl, Fr.refl _ _⟩) (HW.op rfl (fun w1 H1 => op_move rfl ⟨rfl, Fr.refl _ _⟩) (HW.op rfl (fun w1 H1 => op_indexAddrA1 Try.underlying244 Fa.I29 rfl rfl (by omega) ⟨rfl, Fr.refl _ _⟩) (HW.op rfl (fun w1 H1 => op_load rfl (H1.cell (i := 3) rfl (get_map0 vU32 0 (by rw [wl_length]; omega))) Try.underlying29 rfl ⟨rfl, Fr.refl _ _⟩) (HW.op rfl (fun w1 H1 => op_addU32 rfl rfl ⟨rfl, Fr.refl _ _⟩) (HW.op rfl (fun w1 H1 => op_assign rfl ⟨rfl, Fr.refl _ _⟩)  HW.nil))))))))))))))))))))))))))))))))))) (by kernel_rfl) ?_
    intro β14 w14 H14
    refine WL.nil ?_
    refine WQ.next ?_
    refine WC.seq ?_
    refine WC.draw 30 Fa.M H14 (HW.op rfl (fun w1 H1 => op_indexAddrA1 (m := 0) Try.underlying230 Fa.I29 rfl rfl (by omega) ⟨rfl, Fr.refl _ _⟩) (HW.op rfl (fun w1 H1 => op_load rfl (H1.cell (i := 2) rfl rfl) Try.underlying29 rfl ⟨rfl, Fr.refl _ _⟩) (HW.op rfl (fun w1 H1 => op_callF Fa.C172 rfl ((turn_ok ((rounds h (wl b 64) t).a) 2 (by decide) _).mono (fun e w2 hq => ⟨_, hq.1, rfl, hq.2⟩))) (HW.op rfl (fun w1 H1 => op_indexAddrA1 (m := 0) Try.underlying230 Fa.I29 rfl rfl (by omega) ⟨rfl, Fr.refl _ _⟩) (HW.op rfl (fun w1 H1 => op_load rfl (H1.cell (i := 2) rfl rfl) Try.underlying29 rfl ⟨rfl, Fr.refl _ _⟩) (HW.op rfl (fun w1 H1 => op_callF Fa.C172 rfl ((turn_ok ((rounds h (wl b 64) t).a) 13 (by decide) _).mono (fun e w2 hq => ⟨_, hq.1, rfl, hq.2⟩))) (HW.op rfl (fun w1 H1 => op_xorU32 rfl rfl ⟨rfl, Fr.refl _ _⟩) (HW.op rfl (fun w1 H1 => op_indexAddrA1 (m := 0) Try.underlying230 Fa.I29 rfl rfl (by omega) ⟨rfl, Fr.refl _ _⟩) (HW.op rfl (fun w1 H1 => op_load rfl (H1.cell (i := 2) rfl rfl) Try.underlying29 rfl ⟨rfl, Fr.refl _ _⟩) (HW.op rfl (fun w1 H1 => op_callF Fa.C172 rfl ((turn_ok ((rounds h (wl b 64) t).a) 22 (by decide) _).mono (fun e w2 hq => ⟨_, hq.1, rfl, hq.2⟩))) (HW.op rfl (fun w1 H1 => op_xorU32 rfl rfl ⟨rfl, Fr.refl _ _⟩) (HW.op rfl (fun w1 H1 => op_indexAddrA1 (m := 0) Try.underlying230 Fa.I29 rfl rfl (by omega) ⟨rfl, Fr.refl _ _⟩) (HW.op rfl (fun w1 H1 => op_load rfl (H1.cell (i := 2) rfl rfl) Try.underlying29 rfl ⟨rfl, Fr.refl _ _⟩) (HW.op rfl (fun w1 H1 => op_indexAddrA1 (m := 1) Try.underlying230 Fa.I29 rfl rfl (by omega) ⟨rfl, Fr.refl _ _⟩) (HW.op rfl (fun w1 H1 => op_load rfl (H1.cell (i := 2) rfl rfl) Try.underlying29 rfl ⟨rfl, Fr.refl _ _⟩) (HW.op rfl (fun w1 H1 => op_andU32 rfl rfl ⟨rfl, Fr.refl _ _⟩) (HW.op rfl (fun w1 H1 => op_indexAddrA1 (m := 0) Try.underlying230 Fa.I29 rfl rfl (by omega) ⟨rfl, Fr.refl _ _⟩) (HW.op rfl (fun w1 H1 => op_load rfl (H1.cell (i := 2) rfl rfl) Try.underlying29 rfl ⟨rfl, Fr.refl _ _⟩) (HW.op rfl (fun w1 H1 => op_indexAddrA1 (m := 2) Try.underlying230 Fa.I29 rfl rfl (by omega) ⟨rfl, Fr.refl _ _⟩) (HW.op rfl (fun w1 H1 => op_load rfl (H1.cell (i := 2) rfl rfl) Try.underlying29 rfl ⟨rfl, Fr.refl _ _⟩) (HW.op rfl (fun w1 H1 => op_andU32 rfl rfl ⟨rfl, Fr.refl _ _⟩) (HW.op rfl (fun w1 H1 => op_xorU32 rfl rfl ⟨rfl, Fr.refl _ _⟩) (HW.op rfl (fun w1 H1 => op_indexAddrA1 (m := 1) Try.underlying230 Fa.I29 rfl rfl (by omega) ⟨rfl, Fr.refl _ _⟩) (HW.op rfl (fun w1 H1 => op_load rfl (H1.cell (i := 2) rfl rfl) Try.underlying29 rfl ⟨rfl, Fr.refl _ _⟩) (HW.op rfl (fun w1 H1 => op_indexAddrA1 (m := 2) Try.underlying230 Fa.I29 rfl rfl (by omega) ⟨rfl, Fr.refl _ _⟩) (HW.op rfl (fun w1 H1 => op_load rfl (H1.cell (i := 2) rfl rfl) Try.underlying29 rfl ⟨rfl, Fr.refl _ _⟩) (HW.op rfl (fun w1 H1 => op_andU32 rfl rfl ⟨rfl, Fr.refl _ _⟩) (HW.op rfl (fun w1 H1 => op_xorU32 rfl rfl ⟨rfl, Fr.refl _ _⟩) (HW.op rfl (fun w1 H1 => op_addU32 rfl rfl ⟨rfl, Fr.refl _ _⟩) (HW.op rfl (fun w1 H1 => op_assign rfl ⟨rfl, Fr.refl _ _⟩)  HW.nil)))))))))))))))))))))))))))))) (by kernel_rfl) ?_
    intro β18 w18 H18
    refine WL.nil ?_
    refine WQ.next ?_
    refine WC.region ?_
    refine WL.op rfl rfl (op_move rfl ?_)
    refine WL.op rfl rfl (op_move rfl ?_)
    refine WL.op rfl rfl (op_addU32 rfl rfl ?_)
    refine WL.op rfl rfl (op_indexAddrA1 (m := 0) Try.underlying230 Fa.I29 rfl rfl (by omega) ?_)
    refine WL.op rfl rfl (op_load rfl (H18.cell (i := 2) rfl rfl) Try.underlying29 rfl ?_)
    refine WL.op rfl rfl (op_indexAddrA1 (m := 1) Try.underlying230 Fa.I29 rfl rfl (by omega) ?_)
    refine WL.op rfl rfl (op_load rfl (H18.cell (i := 2) rfl rfl) Try.underlying29 rfl ?_)
    refine WL.op rfl rfl (op_indexAddrA1 (m := 2) Try.underlying230 Fa.I29 rfl rfl (by omega) ?_)
    refine WL.op rfl rfl (op_load rfl (H18.cell (i := 2) rfl rfl) Try.underlying29 rfl ?_)
    refine WL.op rfl rfl (op_indexAddrA1 (m := 3) Try.underlying230 Fa.I29 rfl rfl (by omega) ?_)
    refine WL.op rfl rfl (op_load rfl (H18.cell (i := 2) rfl rfl) Try.underlying29 rfl ?_)
    refine WL.op rfl rfl (op_move rfl ?_)
    refine WL.op rfl rfl (op_addU32 rfl rfl ?_)
    refine WL.op rfl rfl (op_indexAddrA1 (m := 4) Try.underlying230 Fa.I29 rfl rfl (by omega) ?_)
    refine WL.op rfl rfl (op_load rfl (H18.cell (i := 2) rfl rfl) Try.underlying29 rfl ?_)
    refine WL.op rfl rfl (op_indexAddrA1 (m := 5) Try.underlying230 Fa.I29 rfl rfl (by omega) ?_)
    refine WL.op rfl rfl (op_load rfl (H18.cell (i := 2) rfl rfl) Try.underlying29 rfl ?_)
    refine WL.op rfl rfl (op_indexAddrA1 (m := 6) Try.underlying230 Fa.I29 rfl rfl (by omega) ?_)
    refine WL.op rfl rfl (op_load rfl (H18.cell (i := 2) rfl rfl) Try.underlying29 rfl ?_)
    refine WL.op rfl rfl (op_buildA (cs := [_, _, _, _, _, _, _, _]) Fa.I230 Try.underlying230 Fa.I29 rfl rfl ?_)
    refine WL.op rfl rfl (op_storeBW (i := 2) H18 rfl rfl rfl rfl rfl Fa.I230 (fun w19 H19 => ?_))
    refine WL.nil ?_
    refine WQ.inNormal ?_
    refine WQ.next ?_
    refine WC.region ?_
    refine WL.op rfl rfl (op_addN (b := 1) rfl rfl (by omega) ?_)
    refine WL.op rfl rfl (op_move rfl ?_)
    refine WL.nil ?_
    exact WQ.round (t + 1) ⟨(by omega), (by exact H19)⟩ ⟨rfl, rfl, rfl, rfl, rfl, rfl, trivial⟩ (by omega)
  ·
    have hc10 := of_decide_eq_false hb10
    refine WC.exit ?_
    refine WQ.thenExit ?_
    refine WQ.thenExit ?_
    refine WQ.inHere ?_
    refine WQ.next ?_
    refine WC.seq ?_
    refine WC.seq ?_
    refine WC.region ?_
    refine WL.op rfl rfl (op_move rfl ?_)
    refine WL.nil ?_
    refine WQ.next ?_
    refine WC.block ?_
    refine WC.loop (α := Nat) (fun k => [(2, (ptr b1 0)), (4, (ptr b2 0)), (5, (ptr (β5 4).1 0)), (103, (vN k))]) (fun k w' => (k ≤ 8) ∧ Own [] w w' [.blk b1 (h.vals.map vU32) 230, .blk b2 [(vU32 0), (vU32 0), (vU32 0), (vU32 0), (vU32 0), (vU32 0), (vU32 0), (vU32 0)] 230, .blk (β5 4).1 ((addTo (rounds h (wl b 64) 64) h k).map vU32) 230, .blk (β5 5).1 ((wl b 64).map vU32) 244, .blk (β5 6).1 (keyL.map vU32) 244]) (fun k => 8 - k) 0 ⟨(by omega), (by have ht : t = 64 := (by omega); subst ht; exact H9)⟩ ⟨rfl, rfl, rfl, rfl, trivial⟩ ?_
    rintro k w20 ⟨hinv, H20⟩
    show WC _ _ _ _ _ [(2, (ptr b1 0)), (4, (ptr b2 0)), (5, (ptr (β5 4).1 0)), (103, (vN k))] _
    refine WC.seq ?_
    refine WC.region ?_
    refine WL.op rfl rfl (op_lssN (b := 8) rfl rfl ?_)
    refine WL.nil ?_
    refine WQ.next ?_
    refine WC.seq ?_
    refine WC.cond rfl (fun (hb21 : (decide (k < 8)) = true) => ?_) (fun (hb21 : (decide (k < 8)) = false) => ?_)
    ·
      have hc21 := of_decide_eq_true hb21
      refine WC.skip ?_
      refine WQ.next ?_
      refine WC.seq ?_
      refine WC.block ?_
      refine WC.seq ?_
      refine WC.region ?_
      refine WL.op rfl rfl (op_move rfl ?_)
      refine WL.op rfl rfl (op_assign rfl ?_)
      refine WL.nil ?_
      refine WQ.next ?_
      refine WC.draw 8 Fa.M H20 (HW.op rfl (fun w1 H1 => op_move rfl ⟨rfl, Fr.refl _ _⟩) (HW.op rfl (fun w1 H1 => op_indexAddrA1 Try.underlying230 Fa.I29 rfl rfl (by omega) ⟨rfl, Fr.refl _ _⟩) (HW.op rfl (fun w1 H1 => op_load rfl (H1.cell (i := 2) rfl (get_map0 vU32 0 (by rw [addTo_length _ _ _ (by omega)]; omega))) Try.underlying29 rfl ⟨rfl, Fr.refl _ _⟩) (HW.op rfl (fun w1 H1 => op_move rfl ⟨rfl, Fr.refl _ _⟩) (HW.op rfl (fun w1 H1 => op_indexAddrA1 Try.underlying230 Fa.I29 rfl rfl (by omega) ⟨rfl, Fr.refl _ _⟩) (HW.op rfl (fun w1 H1 => op_load rfl (H1.cell (i := 0) rfl (get_map0 vU32 0 (by rw [vals_length]; omega))) Try.underlying29 rfl ⟨rfl, Fr.refl _ _⟩) (HW.op rfl (fun w1 H1 => op_addU32 rfl rfl ⟨rfl, Fr.refl _ _⟩) (HW.op rfl (fun w1 H1 => op_indexAddrA1 Try.underlying230 Fa.I29 rfl rfl (by omega) ⟨rfl, Fr.refl _ _⟩)  HW.nil)))))))) (by kernel_rfl) ?_
      intro β22 w22 H22
      refine WL.op rfl rfl (op_storeB (i := 2) H22 rfl rfl rfl (by rw [Nat.blt_eq, List.length_map, addTo_length _ _ _ (by omega)]; omega) rfl Fa.I29 (fun w23 H23 => ?_))
      refine WL.nil ?_
      refine WQ.inNormal ?_
      refine WQ.next ?_
      refine WC.region ?_
      refine WL.op rfl rfl (op_addN (b := 1) rfl rfl (by omega) ?_)
      refine WL.op rfl rfl (op_move rfl ?_)
      refine WL.nil ?_
      exact WQ.round (k + 1) ⟨(by omega), (by rw [addTo_map _ _ (by omega)]; exact H23)⟩ ⟨rfl, rfl, rfl, rfl, trivial⟩ (by omega)
    ·
      have hc21 := of_decide_eq_false hb21
      refine WC.exit ?_
      refine WQ.thenExit ?_
      refine WQ.thenExit ?_
      refine WQ.inHere ?_
      refine WQ.next ?_
      refine WC.seq ?_
      refine WC.region ?_
      refine WL.op rfl rfl (op_loadS rfl (H20.cellsW (i := 2) rfl) Try.underlying230 rfl Fa.I230 (by rw [List.length_map, addTo_length _ _ _ (by omega)]) ?_)
      refine WL.op rfl rfl (op_storeBV (i := 1) H20 rfl rfl rfl (by rw [List.length_map, addTo_length _ _ _ (by omega)]; rfl) (one_U32 _) (by rw [List.length_map, addTo_length _ _ _ (by omega)]) Fa.I230 (fun w24 H24 => ?_))
      refine WL.nil ?_
      refine WQ.next ?_
      refine WC.ret ?_
      refine WQ.out (.cell rfl (run_loadVarS (H24.cellsW (i := 1) rfl) Try.underlying230 rfl Fa.I230 (by rw [List.length_map, addTo_length _ _ _ (by omega)])) .nil) ?_
      exact ⟨by have hk : k = 8 := (by omega); subst hk; rw [addTo_end]; rfl, H24.fr⟩
set_option maxRecDepth 100000 in
theorem new_ok  (w : World) :
    Calls Try.prog 133 #[] w (fun e w' => ∃ q, e = .returned (ptr q 0) ∧ Own [] w w' [.blk q [(vU32 (hst ([] : List UInt8)).a), (vU32 (hst ([] : List UInt8)).b), (vU32 (hst ([] : List UInt8)).c), (vU32 (hst ([] : List UInt8)).d), (vU32 (hst ([] : List UInt8)).e), (vU32 (hst ([] : List UInt8)).f), (vU32 (hst ([] : List UInt8)).g), (vU32 (hst ([] : List UInt8)).h), (.slice none 0 0), (vN ([] : List UInt8).length)] 233, .row (.slice none 0 0) 5 1 (hrest ([] : List UInt8)).length ((hrest ([] : List UInt8)).map vU8)]) := by
  refine enter (args := []) Try.func133 rfl rfl ?_
  have H0 : Own [] w w [] := Own.start w []
  refine WC.seq ?_
  refine WC.region ?_
  refine WL.op rfl rfl (op_assign rfl ?_)
  refine WL.nil ?_
  refine WQ.next ?_
  refine WC.seq ?_
  refine WC.region ?_
  refine WL.op rfl rfl (op_callF Fa.C158 rfl ((first_ok _).mono (fun e w1 hq => ?_)))
  obtain ⟨rfl, hf1⟩ := hq
  refine ⟨_, rfl, ?_⟩
  have H1 := H0.fr' hf1
  refine WL.op rfl rfl (op_build (cs := [_, _, _, _, _, _, _, _, _, _]) Fa.I233 Fa.PL233 rfl rfl ?_)
  refine WL.op rfl rfl (op_box H1 rfl rfl (fun b2 w2 H2 => ?_))
  refine WL.op rfl rfl (op_assign rfl ?_)
  refine WL.nil ?_
  refine WQ.next ?_
  refine WC.ret ?_
  refine WQ.out (.tmp rfl .nil) ?_
  exact ⟨b2, rfl, H2.nilRow _ _⟩
set_option maxRecDepth 100000 in
theorem write_ok (q : Nat) (v lv : Value) (all : List UInt8) (ls : List (List UInt8)) (T : List Nat) (w : World) (H : Own T w w [.blk q [(vU32 (hst all).a), (vU32 (hst all).b), (vU32 (hst all).c), (vU32 (hst all).d), (vU32 (hst all).e), (vU32 (hst all).f), (vU32 (hst all).g), (vU32 (hst all).h), v, (vN all.length)] 233, .row v 5 1 (hrest all).length ((hrest all).map vU8)]) {nl : Nat} (hA : ∀ w1, Fr T w w1 → Arr w1 lv 1 nl (ls.map str)) (hb : (all ++ ls.flatten).length < 2 ^ 40) (hn : ls.length < 2 ^ 40) :
    Calls Try.prog 135 #[(ptr q 0), lv] w (fun e w' => ∃ v, e = .returned (vN 0) ∧ Own T w w' [.blk q [(vU32 (hst (all ++ ls.flatten)).a), (vU32 (hst (all ++ ls.flatten)).b), (vU32 (hst (all ++ ls.flatten)).c), (vU32 (hst (all ++ ls.flatten)).d), (vU32 (hst (all ++ ls.flatten)).e), (vU32 (hst (all ++ ls.flatten)).f), (vU32 (hst (all ++ ls.flatten)).g), (vU32 (hst (all ++ ls.flatten)).h), v, (vN (all ++ ls.flatten).length)] 233, .row v 5 1 (hrest (all ++ ls.flatten)).length ((hrest (all ++ ls.flatten)).map vU8)]) := by
  refine enter (args := [(ptr q 0), lv]) Try.func135 rfl rfl ?_
  obtain rfl := (hA w (Fr.refl _ _)).mapLen
  refine WC.seq ?_
  refine WC.region ?_
  refine WL.op rfl rfl (op_assign rfl ?_)
  refine WL.nil ?_
  refine WQ.next ?_
  refine WC.seq ?_
  refine WC.seq ?_
  refine WC.region ?_
  refine WL.op rfl rfl (op_move rfl ?_)
  refine WL.op rfl rfl (op_eqlPN Fa.PT204 rfl rfl ?_)
  refine WL.nil ?_
  refine WQ.next ?_
  refine WC.no rfl rfl ?_
  refine WC.skip ?_
  refine WQ.next ?_
  refine WC.seq ?_
  refine WC.seq ?_
  refine WC.region ?_
  refine WL.op rfl rfl (op_move rfl ?_)
  refine WL.op rfl rfl (op_lenA Try.underlying41 rfl (hA _ H.fr) ?_)
  refine WL.op rfl rfl (op_move rfl ?_)
  refine WL.nil ?_
  refine WQ.next ?_
  refine WC.block ?_
  refine WC.loop (α := Nat × Value) (fun (k, v) => [(0, (ptr q 0)), (9, lv), (10, (vN ls.length)), (11, (vN k))]) (fun (k, v) w' => (k ≤ ls.length) ∧ Own T w w' [.blk q [(vU32 (hst (acc all ls k)).a), (vU32 (hst (acc all ls k)).b), (vU32 (hst (acc all ls k)).c), (vU32 (hst (acc all ls k)).d), (vU32 (hst (acc all ls k)).e), (vU32 (hst (acc all ls k)).f), (vU32 (hst (acc all ls k)).g), (vU32 (hst (acc all ls k)).h), v, (vN (acc all ls k).length)] 233, .row v 5 1 (hrest (acc all ls k)).length (List.map vU8 (hrest (acc all ls k)))]) (fun (k, v) => ls.length - k) (0, v) ⟨(by omega), H⟩ ⟨rfl, rfl, rfl, rfl, trivial⟩ ?_
  rintro ⟨k, v⟩ w1 ⟨hinv, H1⟩
  show WC _ _ _ _ _ [(0, (ptr q 0)), (9, lv), (10, (vN ls.length)), (11, (vN k))] _
  have hl0 := acc_len all ls k (by omega)
  have hr0 := hrest_length (acc all ls k)
  refine WC.seq ?_
  refine WC.region ?_
  refine WL.op rfl rfl (op_lssN rfl rfl ?_)
  refine WL.nil ?_
  refine WQ.next ?_
  refine WC.seq ?_
  refine WC.cond rfl (fun (hb2 : (decide (k < ls.length)) = true) => ?_) (fun (hb2 : (decide (k < ls.length)) = false) => ?_)
  ·
    have hc2 := of_decide_eq_true hb2
    have hl1 := acc_len1 all ls k hc2
    refine WC.skip ?_
    refine WQ.next ?_
    refine WC.seq ?_
    refine WC.block ?_
    refine WC.seq ?_
    refine WC.region ?_
    refine WL.op rfl rfl (op_indexAddr1 Try.underlying41 Fa.I9 rfl (hA _ H1.fr) rfl (by omega) ?_)
    refine WL.op rfl rfl (op_load rfl ((hA _ H1.fr).at (get_map str [] (by first | omega | (simp; omega)))) Try.underlying9 rfl ?_)
    refine WL.op rfl rfl (op_assign rfl ?_)
    refine WL.nil ?_
    refine WQ.next ?_
    refine WC.seq ?_
    refine WC.region ?_
    refine WL.op rfl rfl (op_move rfl ?_)
    refine WL.op rfl rfl (op_move rfl ?_)
    refine WL.op rfl rfl (op_nilCheck rfl ?_)
    refine WL.op rfl rfl (op_fieldAddr rfl Fa.F233_1 ?_)
    refine WL.op rfl rfl (op_load rfl (H1.cell (i := 0) rfl rfl) Try.underlying106 rfl ?_)
    refine WL.op rfl rfl (op_move rfl ?_)
    refine WL.op rfl rfl (op_appendM (f := vU8) (l := (hrest (acc all ls k))) (l' := (ls.getD k [])) (i := 1) H1 Try.underlying106 Fa.I5 rfl rfl rfl rfl (Src.ofStr Try.underlying9) (one_mapM (fun _ => rfl)) (by omega) (by omega) (fun v3 w3 H3 => ?_))
    refine WL.op rfl rfl (op_nilCheck rfl ?_)
    refine WL.op rfl rfl (op_fieldAddr rfl Fa.F233_1 ?_)
    refine WL.op rfl rfl (op_storeB (i := 0) H3 rfl rfl rfl rfl (Arr.one (H3.arrR (i := 1) rfl)) Fa.I106 (fun w4 H4 => ?_))
    refine WL.nil ?_
    refine WQ.next ?_
    refine WC.seq ?_
    refine WC.region ?_
    refine WL.op rfl rfl (op_move rfl ?_)
    refine WL.op rfl rfl (op_nilCheck rfl ?_)
    refine WL.op rfl rfl (op_fieldAddr rfl Fa.F233_2 ?_)
    refine WL.op rfl rfl (op_load rfl (H4.cell (i := 0) rfl rfl) Try.underlying3 rfl ?_)
    refine WL.op rfl rfl (op_move rfl ?_)
    refine WL.op rfl rfl (op_lenStr Try.underlying9 rfl ?_)
    refine WL.op rfl rfl (op_addN rfl rfl (by omega) ?_)
    refine WL.op rfl rfl (op_nilCheck rfl ?_)
    refine WL.op rfl rfl (op_fieldAddr rfl Fa.F233_2 ?_)
    refine WL.op rfl rfl (op_storeB (i := 0) H4 rfl rfl rfl rfl rfl Fa.I3 (fun w5 H5 => ?_))
    refine WL.nil ?_
    refine WQ.next ?_
    refine WC.block ?_
    refine WC.loop (α := Nat × Value) (fun (j, v) => [(0, (ptr q 0)), (6, (str (ls.getD k []))), (9, lv), (10, (vN ls.length)), (11, (vN k))]) (fun (j, v) w' => (64 * j ≤ (hrest (acc all ls k)).length + (ls.getD k []).length) ∧ Own T w w' [.blk q [(vU32 (bst (hst (acc all ls k)) (hrest (acc all ls k) ++ (ls.getD k [])) j).a), (vU32 (bst (hst (acc all ls k)) (hrest (acc all ls k) ++ (ls.getD k [])) j).b), (vU32 (bst (hst (acc all ls k)) (hrest (acc all ls k) ++ (ls.getD k [])) j).c), (vU32 (bst (hst (acc all ls k)) (hrest (acc all ls k) ++ (ls.getD k [])) j).d), (vU32 (bst (hst (acc all ls k)) (hrest (acc all ls k) ++ (ls.getD k [])) j).e), (vU32 (bst (hst (acc all ls k)) (hrest (acc all ls k) ++ (ls.getD k [])) j).f), (vU32 (bst (hst (acc all ls k)) (hrest (acc all ls k) ++ (ls.getD k [])) j).g), (vU32 (bst (hst (acc all ls k)) (hrest (acc all ls k) ++ (ls.getD k [])) j).h), v, (vN ((acc all ls k).length + (ls.getD k []).length))] 233, .row v 5 1 (brest (hrest (acc all ls k) ++ (ls.getD k [])) j).length (List.map vU8 (brest (hrest (acc all ls k) ++ (ls.getD k [])) j))]) (fun (j, v) => (hrest (acc all ls k)).length + (ls.getD k []).length - 64 * j) (0, v3) ⟨(by omega), (by have h := H5; rw [← @List.length_append _ (hrest (acc all ls k)) (ls.getD k [])] at h; exact h)⟩ ⟨rfl, rfl, rfl, rfl, rfl, trivial⟩ ?_
    rintro ⟨j, v⟩ w6 ⟨hinv, H6⟩
    show WC _ _ _ _ _ [(0, (ptr q 0)), (6, (str (ls.getD k []))), (9, lv), (10, (vN ls.length)), (11, (vN k))] _
    have hb0 := brest_length (hrest (acc all ls k) ++ (ls.getD k [])) j
    rw [List.length_append] at hb0
    refine WC.seq ?_
    refine WC.seq ?_
    refine WC.region ?_
    refine WL.op rfl rfl (op_move rfl ?_)
    refine WL.op rfl rfl (op_nilCheck rfl ?_)
    refine WL.op rfl rfl (op_fieldAddr rfl Fa.F233_1 ?_)
    refine WL.op rfl rfl (op_load rfl (H6.cell (i := 0) rfl rfl) Try.underlying106 rfl ?_)
    refine WL.op rfl rfl (op_lenA Try.underlying106 rfl (H6.arrR (i := 1) rfl) ?_)
    refine WL.op rfl rfl (op_geqN (b := 64) rfl rfl ?_)
    refine WL.nil ?_
    refine WQ.next ?_
    refine WC.cond rfl (fun (hb7 : (decide ((brest (hrest (acc all ls k) ++ (ls.getD k [])) j).length ≥ 64)) = true) => ?_) (fun (hb7 : (decide ((brest (hrest (acc all ls k) ++ (ls.getD k [])) j).length ≥ 64)) = false) => ?_)
    ·
      have hc7 := of_decide_eq_true hb7
      refine WC.skip ?_
      refine WQ.next ?_
      refine WC.block ?_
      refine WC.seq ?_
      refine WC.draw 13 Fa.M H6 (HW.op rfl (fun w1 H1 => op_move rfl ⟨rfl, Fr.refl _ _⟩) (HW.op rfl (fun w1 H1 => op_move rfl ⟨rfl, Fr.refl _ _⟩) (HW.op rfl (fun w1 H1 => op_nilCheck rfl ⟨rfl, Fr.refl _ _⟩) (HW.op rfl (fun w1 H1 => op_fieldAddr rfl Fa.F233_0 ⟨rfl, Fr.refl _ _⟩) (HW.op rfl (fun w1 H1 => op_loadS (vs := [_, _, _, _, _, _, _, _]) rfl (H1.cells (i := 0) rfl rfl) Try.underlying230 rfl Fa.I230 rfl ⟨rfl, Fr.refl _ _⟩) (HW.op rfl (fun w1 H1 => op_move rfl ⟨rfl, Fr.refl _ _⟩) (HW.op rfl (fun w1 H1 => op_nilCheck rfl ⟨rfl, Fr.refl _ _⟩) (HW.op rfl (fun w1 H1 => op_fieldAddr rfl Fa.F233_1 ⟨rfl, Fr.refl _ _⟩) (HW.op rfl (fun w1 H1 => op_load rfl (H1.cell (i := 0) rfl rfl) Try.underlying106 rfl ⟨rfl, Fr.refl _ _⟩) (HW.op rfl (fun w1 H1 => op_cutHi (b := 64) Try.underlying106 Fa.I5 rfl (H1.arrR (i := 1) rfl) rfl (by omega) ⟨rfl, Fr.refl _ _⟩) (HW.op rfl (fun w1 H1 => op_callF Fa.C160 rfl ((block_ok (bst (hst (acc all ls k)) (hrest (acc all ls k) ++ (ls.getD k [])) j) _ ((brest (hrest (acc all ls k) ++ (ls.getD k [])) j).take 64) _ (by rw [List.length_take]; omega) (((H1.arrR (i := 1) rfl)).cutHiM (f := vU8) (l := (brest (hrest (acc all ls k) ++ (ls.getD k [])) j)) (b := 64) (by omega))).mono (fun e w2 hq => ⟨_, hq.1, rfl, hq.2⟩))) (HW.op rfl (fun w1 H1 => op_nilCheck rfl ⟨rfl, Fr.refl _ _⟩) (HW.op rfl (fun w1 H1 => op_fieldAddr rfl Fa.F233_0 ⟨rfl, Fr.refl _ _⟩)  HW.nil))))))))))))) (by kernel_rfl) ?_
      intro β9 w9 H9
      refine WL.op rfl rfl (op_storeBS (i := 0) (vs := [_, _, _, _, _, _, _, _]) H9 rfl rfl rfl rfl rfl Fa.I230 (fun w10 H10 => ?_))
      refine WL.nil ?_
      refine WQ.next ?_
      refine WC.region ?_
      refine WL.op rfl rfl (op_move rfl ?_)
      refine WL.op rfl rfl (op_move rfl ?_)
      refine WL.op rfl rfl (op_nilCheck rfl ?_)
      refine WL.op rfl rfl (op_fieldAddr rfl Fa.F233_1 ?_)
      refine WL.op rfl rfl (op_load rfl (H10.cell (i := 0) rfl rfl) Try.underlying106 rfl ?_)
      refine WL.op rfl rfl (op_cutLo (a := 64) Try.underlying106 Fa.I5 rfl (H10.arrR (i := 1) rfl) rfl (by omega) ?_)
      have H11 := H10.cutLoM (f := vU8) (l := (brest (hrest (acc all ls k) ++ (ls.getD k [])) j)) (a := 64) (i := 1) rfl (by omega)
      refine WL.op rfl rfl (op_nilCheck rfl ?_)
      refine WL.op rfl rfl (op_fieldAddr rfl Fa.F233_1 ?_)
      refine WL.op rfl rfl (op_storeB (i := 0) H11 rfl rfl rfl rfl (Arr.one (H11.arrR (i := 1) rfl)) Fa.I106 (fun w12 H12 => ?_))
      refine WL.nil ?_
      refine WQ.inNormal ?_
      exact WQ.round (j + 1, (cutV v 64 (brest (hrest (acc all ls k) ++ (ls.getD k [])) j).length 1)) ⟨(by omega), (by have h := H12; rw [← List.length_drop] at h; exact h)⟩ ⟨rfl, rfl, rfl, rfl, rfl, trivial⟩ (by show (hrest (acc all ls k)).length + (ls.getD k []).length - 64 * (j + 1) < (hrest (acc all ls k)).length + (ls.getD k []).length - 64 * j; omega)
    ·
      have hc7 := of_decide_eq_false hb7
      obtain ⟨he1, he2⟩ := mEnd (acc all ls k) (ls.getD k []) j (by omega) (by omega)
      have H13 : Own T w w6 [.blk q [(vU32 (hst (acc all ls (k + 1))).a), (vU32 (hst (acc all ls (k + 1))).b), (vU32 (hst (acc all ls (k + 1))).c), (vU32 (hst (acc all ls (k + 1))).d), (vU32 (hst (acc all ls (k + 1))).e), (vU32 (hst (acc all ls (k + 1))).f), (vU32 (hst (acc all ls (k + 1))).g), (vU32 (hst (acc all ls (k + 1))).h), v, (vN (acc all ls (k + 1)).length)] 233, .row v 5 1 (hrest (acc all ls (k + 1))).length (List.map vU8 (hrest (acc all ls (k + 1))))] := by have h := H6; rw [he1, he2, ← @List.length_append _ (acc all ls k) (ls.getD k [])] at h; exact h
      refine WC.exit ?_
      refine WQ.thenExit ?_
      refine WQ.thenExit ?_
      refine WQ.inHere ?_
      refine WQ.inNormal ?_
      refine WQ.next ?_
      refine WC.region ?_
      refine WL.op rfl rfl (op_addN (b := 1) rfl rfl (by omega) ?_)
      refine WL.op rfl rfl (op_move rfl ?_)
      refine WL.nil ?_
      exact WQ.round (k + 1, v) ⟨(by omega), H13⟩ ⟨rfl, rfl, rfl, rfl, trivial⟩ (by show ls.length - (k + 1) < ls.length - k; omega)
  ·
    have hc2 := of_decide_eq_false hb2
    refine WC.exit ?_
    refine WQ.thenExit ?_
    refine WQ.thenExit ?_
    refine WQ.inHere ?_
    refine WQ.next ?_
    refine WC.seq ?_
    refine WC.region ?_
    refine WL.op rfl rfl (op_assign rfl ?_)
    refine WL.nil ?_
    refine WQ.next ?_
    refine WC.ret ?_
    refine WQ.out (.tmp rfl .nil) ?_
    exact ⟨_, rfl, (by have hk : k = ls.length := (by omega); subst hk; have h := H1; rw [acc_end] at h; exact h)⟩
set_option maxRecDepth 100000 in
theorem hsum_ok (q : Nat) (v : Value) (all : List UInt8) (w : World) (hQ : cellsAt w q [(vU32 (hst all).a), (vU32 (hst all).b), (vU32 (hst all).c), (vU32 (hst all).d), (vU32 (hst all).e), (vU32 (hst all).f), (vU32 (hst all).g), (vU32 (hst all).h), v, (vN all.length)]) (hV : Arr w v 1 (hrest all).length (List.map vU8 (hrest all))) (hb : all.length < 2 ^ 40) :
    Calls Try.prog 137 #[(ptr q 0)] w (fun e w' => e = .returned (str (sha all)) ∧ Fr [] w w') := by
  refine enter (args := [(ptr q 0)]) Try.func137 rfl rfl ?_
  have H0 : Own [] w w [Ent.bo q [(vU32 (hst all).a), (vU32 (hst all).b), (vU32 (hst all).c), (vU32 (hst all).d), (vU32 (hst all).e), (vU32 (hst all).f), (vU32 (hst all).g), (vU32 (hst all).h), v, (vN all.length)], Ent.ar v 1 (hrest all).length (List.map vU8 (hrest all))] := (((Own.start w []).oldB hQ).oldA hV)
  have hr0 := hrest_length all
  have hp0 : padZ all.length = (119 - all.length % 64) % 64 := rfl
  refine WC.seq ?_
  refine WC.region ?_
  refine WL.op rfl rfl (op_assign rfl ?_)
  refine WL.nil ?_
  refine WQ.next ?_
  refine WC.seq ?_
  refine WC.seq ?_
  refine WC.region ?_
  refine WL.op rfl rfl (op_move rfl ?_)
  refine WL.op rfl rfl (op_eqlPN Fa.PT204 rfl rfl ?_)
  refine WL.nil ?_
  refine WQ.next ?_
  refine WC.no rfl rfl ?_
  refine WC.skip ?_
  refine WQ.next ?_
  refine WC.seq ?_
  refine WC.region ?_
  refine WL.op rfl rfl (op_move rfl ?_)
  refine WL.op rfl rfl (op_nilCheck rfl ?_)
  refine WL.op rfl rfl (op_fieldAddr rfl Fa.F233_1 ?_)
  refine WL.op rfl rfl (op_load rfl (H0.cellO (i := 0) rfl rfl) Try.underlying106 rfl ?_)
  have H2 := H0.nilRow 5 1
  refine WL.op rfl rfl (op_appendM (f := vU8) (l := []) (l' := (hrest all)) (i := 2) H2 Try.underlying106 Fa.I5 rfl rfl rfl rfl (Src.ofArr Try.underlying106 (H2.arrO (i := 1) rfl)) (one_mapM (fun _ => rfl)) (by omega) (by omega) (fun v1 w1 H1 => ?_))
  refine WL.op rfl rfl (op_buildSlice (cs := [_]) H1 Try.underlying106 Fa.I5 rfl rfl rfl rfl (by decide) (by decide) (fun b3 w3 H3 => ?_))
  refine WL.op rfl rfl (op_appendM (f := vU8) (l := ([] ++ (hrest all))) (l' := [128]) (i := 2) H3 Try.underlying106 Fa.I5 rfl rfl rfl rfl (Src.ofArr Try.underlying106 (H3.arrR (i := 3) rfl)) (one_mapM (fun _ => rfl)) (by omega) (by omega) (fun v4 w4 H4 => ?_))
  refine WL.op rfl rfl (op_assign rfl ?_)
  refine WL.nil ?_
  refine WQ.next ?_
  refine WC.seq ?_
  refine WC.block ?_
  refine WC.loop (α := Nat × Value) (fun (k, t) => [(0, (ptr q 0)), (3, t)]) (fun (k, t) w' => (k ≤ padZ all.length) ∧ Own [] w w' [Ent.bo q [(vU32 (hst all).a), (vU32 (hst all).b), (vU32 (hst all).c), (vU32 (hst all).d), (vU32 (hst all).e), (vU32 (hst all).f), (vU32 (hst all).g), (vU32 (hst all).h), v, (vN all.length)], Ent.ar v 1 (hrest all).length (List.map vU8 (hrest all)), .row t 5 1 ((0 + (hrest all).length) + 1 + k) (List.map vU8 (hrest all ++ [128] ++ List.replicate k 0)), .row (.slice (some ⟨b3, 0, none⟩) 1 1) 5 1 1 (List.map vU8 [128])]) (fun (k, t) => padZ all.length - k) (0, v4) ⟨(by omega), (by have h := (show Own [] w w4 [Ent.bo q [(vU32 (hst all).a), (vU32 (hst all).b), (vU32 (hst all).c), (vU32 (hst all).d), (vU32 (hst all).e), (vU32 (hst all).f), (vU32 (hst all).g), (vU32 (hst all).h), v, (vN all.length)], Ent.ar v 1 (hrest all).length (List.map vU8 (hrest all)), .row v4 5 1 ((0 + (hrest all).length) + 1) (List.map vU8 (([] ++ (hrest all)) ++ [128])), .row (.slice (some ⟨b3, 0, none⟩) 1 1) 5 1 1 (List.map vU8 [128])] from H4); simpa using h)⟩ ⟨rfl, rfl, trivial⟩ ?_
  rintro ⟨k, t⟩ w5 ⟨hinv, H5⟩
  show WC _ _ _ _ _ [(0, (ptr q 0)), (3, t)] _
  refine WC.seq ?_
  refine WC.seq ?_
  refine WC.region ?_
  refine WL.op rfl rfl (op_move rfl ?_)
  refine WL.op rfl rfl (op_lenA Try.underlying106 rfl (H5.arrR (i := 2) rfl) ?_)
  refine WL.op rfl rfl (op_remN (b := 64) rfl rfl (by omega) ?_)
  refine WL.op rfl rfl (op_neqN (b := 56) rfl rfl ?_)
  refine WL.nil ?_
  refine WQ.next ?_
  refine WC.cond rfl (fun (hb6 : (decide ((((0 + (hrest all).length) + 1 + k) % 64) ≠ 56)) = true) => ?_) (fun (hb6 : (decide ((((0 + (hrest all).length) + 1 + k) % 64) ≠ 56)) = false) => ?_)
  ·
    have hc6 := of_decide_eq_true hb6
    refine WC.skip ?_
    refine WQ.next ?_
    refine WC.block ?_
    refine WC.region ?_
    refine WL.op rfl rfl (op_move rfl ?_)
    refine WL.op rfl rfl (op_buildSlice (cs := [_]) H5 Try.underlying106 Fa.I5 rfl rfl rfl rfl (by decide) (by decide) (fun b7 w7 H7 => ?_))
    refine WL.op rfl rfl (op_appendM (f := vU8) (l := (hrest all ++ [128] ++ List.replicate k 0)) (l' := [0]) (i := 2) H7 Try.underlying106 Fa.I5 rfl rfl rfl rfl (Src.ofArr Try.underlying106 (H7.arrR (i := 4) rfl)) (one_mapM (fun _ => rfl)) (by omega) (by omega) (fun v8 w8 H8 => ?_))
    refine WL.op rfl rfl (op_assign rfl ?_)
    refine WL.nil ?_
    refine WQ.inNormal ?_
    exact WQ.round (k + 1, v8) ⟨(by omega), (by have h := (show Own [] w w8 [Ent.bo q [(vU32 (hst all).a), (vU32 (hst all).b), (vU32 (hst all).c), (vU32 (hst all).d), (vU32 (hst all).e), (vU32 (hst all).f), (vU32 (hst all).g), (vU32 (hst all).h), v, (vN all.length)], Ent.ar v 1 (hrest all).length (List.map vU8 (hrest all)), .row v8 5 1 (((0 + (hrest all).length) + 1 + k) + 1) (List.map vU8 ((hrest all ++ [128] ++ List.replicate k 0) ++ [0])), .row (.slice (some ⟨b3, 0, none⟩) 1 1) 5 1 1 (List.map vU8 [128])] from (H8.take 4)); rw [padStep] at h; exact h)⟩ ⟨rfl, rfl, trivial⟩ (by show padZ all.length - (k + 1) < padZ all.length - k; omega)
  ·
    have hc6 := of_decide_eq_false hb6
    have hk : k = padZ all.length := (by omega)
    refine WC.exit ?_
    refine WQ.thenExit ?_
    refine WQ.thenExit ?_
    refine WQ.inHere ?_
    refine WQ.next ?_
    refine WC.seq ?_
    refine WC.region ?_
    refine WL.op rfl rfl (op_move rfl ?_)
    refine WL.op rfl rfl (op_nilCheck rfl ?_)
    refine WL.op rfl rfl (op_fieldAddr rfl Fa.F233_2 ?_)
    refine WL.op rfl rfl (op_load rfl (H5.cellO (i := 0) rfl rfl) Try.underlying3 rfl ?_)
    refine WL.op rfl rfl (op_convNU64 (hs := Try.underlying3) (hd := Try.underlying210) rfl ?_)
    refine WL.op rfl rfl (op_mulU64 (a := 8) rfl rfl ?_)
    refine WL.op rfl rfl (op_assign rfl ?_)
    refine WL.nil ?_
    refine WQ.next ?_
    refine WC.seq ?_
    refine WC.seq ?_
    refine WC.region ?_
    refine WL.op rfl rfl (op_assign rfl ?_)
    refine WL.nil ?_
    refine WQ.next ?_
    refine WC.block ?_
    refine WC.loop (α := Nat × Value) (fun (j, t) => [(0, (ptr q 0)), (3, t), (4, (vU64 ((8 : UInt64) * (UInt64.ofNat all.length)))), (5, (vI ((56 : Int) - ((8 * j : Nat) : Int))))]) (fun (j, t) w' => (j ≤ 8) ∧ Own [] w w' [Ent.bo q [(vU32 (hst all).a), (vU32 (hst all).b), (vU32 (hst all).c), (vU32 (hst all).d), (vU32 (hst all).e), (vU32 (hst all).f), (vU32 (hst all).g), (vU32 (hst all).h), v, (vN all.length)], Ent.ar v 1 (hrest all).length (List.map vU8 (hrest all)), .row t 5 1 ((hrest all).length + 1 + padZ all.length + j) (List.map vU8 (hrest all ++ ([128] ++ List.replicate (padZ all.length) 0 ++ lenTo all.length j))), .row (.slice (some ⟨b3, 0, none⟩) 1 1) 5 1 1 (List.map vU8 [128])]) (fun (j, t) => 8 - j) (0, t) ⟨(by omega), (by have h := (show Own [] w w5 [Ent.bo q [(vU32 (hst all).a), (vU32 (hst all).b), (vU32 (hst all).c), (vU32 (hst all).d), (vU32 (hst all).e), (vU32 (hst all).f), (vU32 (hst all).g), (vU32 (hst all).h), v, (vN all.length)], Ent.ar v 1 (hrest all).length (List.map vU8 (hrest all)), .row t 5 1 ((0 + (hrest all).length) + 1 + k) (List.map vU8 (hrest all ++ [128] ++ List.replicate k 0)), .row (.slice (some ⟨b3, 0, none⟩) 1 1) 5 1 1 (List.map vU8 [128])] from H5); rw [hk] at h; simpa [lenTo, Nat.add_assoc] using h)⟩ ⟨rfl, rfl, rfl, rfl, trivial⟩ ?_
    rintro ⟨j, t⟩ w9 ⟨hinv, H9⟩
    show WC _ _ _ _ _ [(0, (ptr q 0)), (3, t), (4, (vU64 ((8 : UInt64) * (UInt64.ofNat all.length)))), (5, (vI ((56 : Int) - ((8 * j : Nat) : Int))))] _
    refine WC.seq ?_
    refine WC.seq ?_
    refine WC.region ?_
    refine WL.op rfl rfl (op_move rfl ?_)
    refine WL.op rfl rfl (op_geqI (b := (0 : Int)) rfl rfl ?_)
    refine WL.nil ?_
    refine WQ.next ?_
    refine WC.cond rfl (fun (hb10 : (decide (((56 : Int) - ((8 * j : Nat) : Int)) ≥ (0 : Int))) = true) => ?_) (fun (hb10 : (decide (((56 : Int) - ((8 * j : Nat) : Int)) ≥ (0 : Int))) = false) => ?_)
    ·
      have hc10 := of_decide_eq_true hb10
      rw [show ((56 : Int) - ((8 * j : Nat) : Int)) = ((56 - 8 * j : Nat) : Int) from by omega]
      refine WC.skip ?_
      refine WQ.next ?_
      refine WC.seq ?_
      refine WC.block ?_
      refine WC.region ?_
      refine WL.op rfl rfl (op_move rfl ?_)
      refine WL.op rfl rfl (op_move rfl ?_)
      refine WL.op rfl rfl (op_move rfl ?_)
      refine WL.op rfl rfl (op_shrU64 rfl rfl ?_)
      refine WL.op rfl rfl (op_convU64U8 (hs := Try.underlying210) (hd := Try.underlying5) rfl ?_)
      refine WL.op rfl rfl (op_buildSlice (cs := [_]) H9 Try.underlying106 Fa.I5 rfl rfl rfl rfl (by decide) (by decide) (fun b11 w11 H11 => ?_))
      refine WL.op rfl rfl (op_appendM (f := vU8) (l := (hrest all ++ ([128] ++ List.replicate (padZ all.length) 0 ++ lenTo all.length j))) (l' := [(UInt8.ofNat (shrU64 ((8 : UInt64) * (UInt64.ofNat all.length)) (56 - 8 * j)).toNat)]) (i := 2) H11 Try.underlying106 Fa.I5 rfl rfl rfl rfl (Src.ofArr Try.underlying106 (H11.arrR (i := 4) rfl)) (one_mapM (fun _ => rfl)) (by omega) (by omega) (fun v12 w12 H12 => ?_))
      refine WL.op rfl rfl (op_assign rfl ?_)
      refine WL.nil ?_
      refine WQ.inNormal ?_
      refine WQ.next ?_
      refine WC.region ?_
      refine WL.op rfl rfl (op_move rfl ?_)
      refine WL.op rfl rfl (op_subI (a := (((56 - 8 * j) : Nat) : Int)) (b := ((8 : Nat) : Int)) rfl rfl (by omega) ?_)
      refine WL.op rfl rfl (op_assign rfl ?_)
      refine WL.nil ?_
      exact WQ.round (j + 1, v12) ⟨(by omega), (by have h := (show Own [] w w12 [Ent.bo q [(vU32 (hst all).a), (vU32 (hst all).b), (vU32 (hst all).c), (vU32 (hst all).d), (vU32 (hst all).e), (vU32 (hst all).f), (vU32 (hst all).g), (vU32 (hst all).h), v, (vN all.length)], Ent.ar v 1 (hrest all).length (List.map vU8 (hrest all)), .row v12 5 1 (((hrest all).length + 1 + padZ all.length + j) + 1) (List.map vU8 ((hrest all ++ ([128] ++ List.replicate (padZ all.length) 0 ++ lenTo all.length j)) ++ [(UInt8.ofNat (shrU64 ((8 : UInt64) * (UInt64.ofNat all.length)) (56 - 8 * j)).toNat)])), .row (.slice (some ⟨b3, 0, none⟩) 1 1) 5 1 1 (List.map vU8 [128])] from (H12.take 4)); rw [lenStep] at h; exact h)⟩ ⟨rfl, rfl, rfl, (by show some (vI (((56 - 8 * j : Nat) : Int) - 8)) = some (vI ((56 : Int) - ((8 * (j + 1) : Nat) : Int))); congr 2; omega), trivial⟩ (by show 8 - (j + 1) < 8 - j; omega)
    ·
      have hc10 := of_decide_eq_false hb10
      refine WC.exit ?_
      refine WQ.thenExit ?_
      refine WQ.thenExit ?_
      refine WQ.inHere ?_
      refine WQ.next ?_
      refine WC.seq ?_
      refine WC.region ?_
      refine WL.op rfl rfl (op_move rfl ?_)
      refine WL.op rfl rfl (op_nilCheck rfl ?_)
      refine WL.op rfl rfl (op_fieldAddr rfl Fa.F233_0 ?_)
      refine WL.op rfl rfl (op_loadS (vs := [_, _, _, _, _, _, _, _]) rfl (H9.cellsO (i := 0) rfl rfl) Try.underlying230 rfl Fa.I230 rfl ?_)
      refine WL.op rfl rfl (op_alloc H9 Fa.I230 (fun b13 w13 H13 => ?_))
      refine WL.op rfl rfl (op_storeBW (i := 4) H13 rfl rfl rfl rfl rfl Fa.I230 (fun w14 H14 => ?_))
      refine WL.nil ?_
      refine WQ.next ?_
      refine WC.seq ?_
      refine WC.block ?_
      refine WC.loop (α := Nat × Value) (fun (j, t) => [(3, t), (6, (ptr b13 0))]) (fun (j, t) w' => (64 * j ≤ (hrest all ++ pads all.length).length) ∧ Own [] w w' [Ent.bo q [(vU32 (hst all).a), (vU32 (hst all).b), (vU32 (hst all).c), (vU32 (hst all).d), (vU32 (hst all).e), (vU32 (hst all).f), (vU32 (hst all).g), (vU32 (hst all).h), v, (vN all.length)], Ent.ar v 1 (hrest all).length (List.map vU8 (hrest all)), .row t 5 1 (brest (hrest all ++ pads all.length) j).length (List.map vU8 (brest (hrest all ++ pads all.length) j)), .row (.slice (some ⟨b3, 0, none⟩) 1 1) 5 1 1 (List.map vU8 [128]), .blk b13 [(vU32 (bst (hst all) (hrest all ++ pads all.length) j).a), (vU32 (bst (hst all) (hrest all ++ pads all.length) j).b), (vU32 (bst (hst all) (hrest all ++ pads all.length) j).c), (vU32 (bst (hst all) (hrest all ++ pads all.length) j).d), (vU32 (bst (hst all) (hrest all ++ pads all.length) j).e), (vU32 (bst (hst all) (hrest all ++ pads all.length) j).f), (vU32 (bst (hst all) (hrest all ++ pads all.length) j).g), (vU32 (bst (hst all) (hrest all ++ pads all.length) j).h)] 230]) (fun (j, t) => (hrest all ++ pads all.length).length - 64 * j) (0, t) ⟨(by omega), (by have hj : j = 8 := (by omega); have h := (show Own [] w w14 [Ent.bo q [(vU32 (hst all).a), (vU32 (hst all).b), (vU32 (hst all).c), (vU32 (hst all).d), (vU32 (hst all).e), (vU32 (hst all).f), (vU32 (hst all).g), (vU32 (hst all).h), v, (vN all.length)], Ent.ar v 1 (hrest all).length (List.map vU8 (hrest all)), .row t 5 1 ((hrest all).length + 1 + padZ all.length + j) (List.map vU8 (hrest all ++ ([128] ++ List.replicate (padZ all.length) 0 ++ lenTo all.length j))), .row (.slice (some ⟨b3, 0, none⟩) 1 1) 5 1 1 (List.map vU8 [128]), .blk b13 [(vU32 (hst all).a), (vU32 (hst all).b), (vU32 (hst all).c), (vU32 (hst all).d), (vU32 (hst all).e), (vU32 (hst all).f), (vU32 (hst all).g), (vU32 (hst all).h)] 230] from H14); rw [hj] at h; have e : (hrest all).length + 1 + padZ all.length + 8 = (brest (hrest all ++ pads all.length) 0).length := (by simp [brest, pads, lenTo_length]; omega); rw [e] at h; exact h)⟩ ⟨rfl, rfl, trivial⟩ ?_
      rintro ⟨j, t⟩ w15 ⟨hinv, H15⟩
      show WC _ _ _ _ _ [(3, t), (6, (ptr b13 0))] _
      have hb0 := brest_length (hrest all ++ pads all.length) j
      have hP := padAll all
      refine WC.seq ?_
      refine WC.seq ?_
      refine WC.region ?_
      refine WL.op rfl rfl (op_move rfl ?_)
      refine WL.op rfl rfl (op_lenA Try.underlying106 rfl (H15.arrR (i := 2) rfl) ?_)
      refine WL.op rfl rfl (op_gtrN (b := 0) rfl rfl ?_)
      refine WL.nil ?_
      refine WQ.next ?_
      refine WC.cond rfl (fun (hb16 : (decide ((brest (hrest all ++ pads all.length) j).length > 0)) = true) => ?_) (fun (hb16 : (decide ((brest (hrest all ++ pads all.length) j).length > 0)) = false) => ?_)
      ·
        have hc16 := of_decide_eq_true hb16
        refine WC.skip ?_
        refine WQ.next ?_
        refine WC.seq ?_
        refine WC.block ?_
        refine WC.draw 4 Fa.M H15 (HW.op rfl (fun w1 H1 => op_loadS (vs := [_, _, _, _, _, _, _, _]) rfl (H1.cells (i := 4) rfl rfl) Try.underlying230 rfl Fa.I230 rfl ⟨rfl, Fr.refl _ _⟩) (HW.op rfl (fun w1 H1 => op_move rfl ⟨rfl, Fr.refl _ _⟩) (HW.op rfl (fun w1 H1 => op_cutHi (b := 64) Try.underlying106 Fa.I5 rfl (H1.arrR (i := 2) rfl) rfl (by omega) ⟨rfl, Fr.refl _ _⟩) (HW.op rfl (fun w1 H1 => op_callF Fa.C160 rfl ((block_ok (bst (hst all) (hrest all ++ pads all.length) j) _ ((brest (hrest all ++ pads all.length) j).take 64) _ (by rw [List.length_take]; omega) (((H1.arrR (i := 2) rfl)).cutHiM (f := vU8) (l := (brest (hrest all ++ pads all.length) j)) (b := 64) (by omega))).mono (fun e w2 hq => ⟨_, hq.1, rfl, hq.2⟩)))  HW.nil)))) (by kernel_rfl) ?_
        intro β18 w18 H18
        refine WL.op rfl rfl (op_storeBW (i := 4) H18 rfl rfl rfl rfl rfl Fa.I230 (fun w19 H19 => ?_))
        refine WL.nil ?_
        refine WQ.inNormal ?_
        refine WQ.next ?_
        refine WC.region ?_
        refine WL.op rfl rfl (op_move rfl ?_)
        refine WL.op rfl rfl (op_cutLo (a := 64) Try.underlying106 Fa.I5 rfl (H19.arrR (i := 2) rfl) rfl (by omega) ?_)
        have H20 := H19.cutLoM (f := vU8) (l := (brest (hrest all ++ pads all.length) j)) (a := 64) (i := 2) rfl (by omega)
        refine WL.op rfl rfl (op_assign rfl ?_)
        refine WL.nil ?_
        exact WQ.round (j + 1, (cutV t 64 (brest (hrest all ++ pads all.length) j).length 1)) ⟨(by omega), (by have h := (show Own [] w w19 [Ent.bo q [(vU32 (hst all).a), (vU32 (hst all).b), (vU32 (hst all).c), (vU32 (hst all).d), (vU32 (hst all).e), (vU32 (hst all).f), (vU32 (hst all).g), (vU32 (hst all).h), v, (vN all.length)], Ent.ar v 1 (hrest all).length (List.map vU8 (hrest all)), .row (cutV t 64 (brest (hrest all ++ pads all.length) j).length 1) 5 1 ((brest (hrest all ++ pads all.length) j).length - 64) (List.map vU8 ((brest (hrest all ++ pads all.length) j).drop 64)), .row (.slice (some ⟨b3, 0, none⟩) 1 1) 5 1 1 (List.map vU8 [128]), .blk b13 [(vU32 (blockS (bst (hst all) (hrest all ++ pads all.length) j) ((brest (hrest all ++ pads all.length) j).take 64)).a), (vU32 (blockS (bst (hst all) (hrest all ++ pads all.length) j) ((brest (hrest all ++ pads all.length) j).take 64)).b), (vU32 (blockS (bst (hst all) (hrest all ++ pads all.length) j) ((brest (hrest all ++ pads all.length) j).take 64)).c), (vU32 (blockS (bst (hst all) (hrest all ++ pads all.length) j) ((brest (hrest all ++ pads all.length) j).take 64)).d), (vU32 (blockS (bst (hst all) (hrest all ++ pads all.length) j) ((brest (hrest all ++ pads all.length) j).take 64)).e), (vU32 (blockS (bst (hst all) (hrest all ++ pads all.length) j) ((brest (hrest all ++ pads all.length) j).take 64)).f), (vU32 (blockS (bst (hst all) (hrest all ++ pads all.length) j) ((brest (hrest all ++ pads all.length) j).take 64)).g), (vU32 (blockS (bst (hst all) (hrest all ++ pads all.length) j) ((brest (hrest all ++ pads all.length) j).take 64)).h)] 230] from H20); rw [← List.length_drop] at h; exact h)⟩ ⟨rfl, rfl, trivial⟩ (by show (hrest all ++ pads all.length).length - 64 * (j + 1) < (hrest all ++ pads all.length).length - 64 * j; omega)
      ·
        have hc16 := of_decide_eq_false hb16
        refine WC.exit ?_
        refine WQ.thenExit ?_
        refine WQ.thenExit ?_
        refine WQ.inHere ?_
        refine WQ.next ?_
        refine WC.seq ?_
        refine WC.region ?_
        refine WL.op rfl rfl (op_assign rfl ?_)
        have H21 := H15.nilRow 5 1
        refine WL.nil ?_
        refine WQ.next ?_
        refine WC.seq ?_
        refine WC.seq ?_
        refine WC.region ?_
        refine WL.op rfl rfl (op_loadS (vs := [_, _, _, _, _, _, _, _]) rfl (H21.cells (i := 4) rfl rfl) Try.underlying230 rfl Fa.I230 rfl ?_)
        refine WL.op rfl rfl (op_move rfl ?_)
        refine WL.nil ?_
        refine WQ.next ?_
        refine WC.block ?_
        refine WC.loop (α := Nat × Value) (fun (k, t2) => [(7, t2), (56, (.agg #[(vU32 (bst (hst all) (hrest all ++ pads all.length) j).a), (vU32 (bst (hst all) (hrest all ++ pads all.length) j).b), (vU32 (bst (hst all) (hrest all ++ pads all.length) j).c), (vU32 (bst (hst all) (hrest all ++ pads all.length) j).d), (vU32 (bst (hst all) (hrest all ++ pads all.length) j).e), (vU32 (bst (hst all) (hrest all ++ pads all.length) j).f), (vU32 (bst (hst all) (hrest all ++ pads all.length) j).g), (vU32 (bst (hst all) (hrest all ++ pads all.length) j).h)])), (57, (vN k))]) (fun (k, t2) w' => (k ≤ 8) ∧ Own [] w w' [Ent.bo q [(vU32 (hst all).a), (vU32 (hst all).b), (vU32 (hst all).c), (vU32 (hst all).d), (vU32 (hst all).e), (vU32 (hst all).f), (vU32 (hst all).g), (vU32 (hst all).h), v, (vN all.length)], Ent.ar v 1 (hrest all).length (List.map vU8 (hrest all)), .row t 5 1 (brest (hrest all ++ pads all.length) j).length (List.map vU8 (brest (hrest all ++ pads all.length) j)), .row (.slice (some ⟨b3, 0, none⟩) 1 1) 5 1 1 (List.map vU8 [128]), .blk b13 [(vU32 (bst (hst all) (hrest all ++ pads all.length) j).a), (vU32 (bst (hst all) (hrest all ++ pads all.length) j).b), (vU32 (bst (hst all) (hrest all ++ pads all.length) j).c), (vU32 (bst (hst all) (hrest all ++ pads all.length) j).d), (vU32 (bst (hst all) (hrest all ++ pads all.length) j).e), (vU32 (bst (hst all) (hrest all ++ pads all.length) j).f), (vU32 (bst (hst all) (hrest all ++ pads all.length) j).g), (vU32 (bst (hst all) (hrest all ++ pads all.length) j).h)] 230, .row t2 5 1 (4 * k) (List.map vU8 (outTo (bst (hst all) (hrest all ++ pads all.length) j) k))]) (fun (k, t2) => 8 - k) (0, (.slice none 0 0)) ⟨(by omega), H21⟩ ⟨rfl, rfl, rfl, trivial⟩ ?_
        rintro ⟨k, t2⟩ w22 ⟨hinv, H22⟩
        show WC _ _ _ _ _ [(7, t2), (56, (.agg #[(vU32 (bst (hst all) (hrest all ++ pads all.length) j).a), (vU32 (bst (hst all) (hrest all ++ pads all.length) j).b), (vU32 (bst (hst all) (hrest all ++ pads all.length) j).c), (vU32 (bst (hst all) (hrest all ++ pads all.length) j).d), (vU32 (bst (hst all) (hrest all ++ pads all.length) j).e), (vU32 (bst (hst all) (hrest all ++ pads all.length) j).f), (vU32 (bst (hst all) (hrest all ++ pads all.length) j).g), (vU32 (bst (hst all) (hrest all ++ pads all.length) j).h)])), (57, (vN k))] _
        refine WC.seq ?_
        refine WC.region ?_
        refine WL.op rfl rfl (op_lssN (b := 8) rfl rfl ?_)
        refine WL.nil ?_
        refine WQ.next ?_
        refine WC.seq ?_
        refine WC.cond rfl (fun (hb23 : (decide (k < 8)) = true) => ?_) (fun (hb23 : (decide (k < 8)) = false) => ?_)
        ·
          have hc23 := of_decide_eq_true hb23
          refine WC.skip ?_
          refine WQ.next ?_
          refine WC.seq ?_
          refine WC.block ?_
          refine WC.seq ?_
          refine WC.region ?_
          refine WL.op rfl rfl (op_indexA1 (cs := _) Try.underlying230 Fa.I29 Try.underlying29 rfl rfl rfl (by omega) (get_map (l := (bst (hst all) (hrest all ++ pads all.length) j).vals) vU32 0 (by rw [vals_length]; omega)) ?_)
          refine WL.op rfl rfl (op_assign rfl ?_)
          refine WL.nil ?_
          refine WQ.next ?_
          refine WC.region ?_
          refine WL.op rfl rfl (op_move rfl ?_)
          refine WL.op rfl rfl (op_move rfl ?_)
          refine WL.op rfl rfl (op_shrU32 (s := 24) rfl rfl ?_)
          refine WL.op rfl rfl (op_convU32U8 (hs := Try.underlying29) (hd := Try.underlying5) rfl ?_)
          refine WL.op rfl rfl (op_move rfl ?_)
          refine WL.op rfl rfl (op_shrU32 (s := 16) rfl rfl ?_)
          refine WL.op rfl rfl (op_convU32U8 (hs := Try.underlying29) (hd := Try.underlying5) rfl ?_)
          refine WL.op rfl rfl (op_move rfl ?_)
          refine WL.op rfl rfl (op_shrU32 (s := 8) rfl rfl ?_)
          refine WL.op rfl rfl (op_convU32U8 (hs := Try.underlying29) (hd := Try.underlying5) rfl ?_)
          refine WL.op rfl rfl (op_move rfl ?_)
          refine WL.op rfl rfl (op_convU32U8 (hs := Try.underlying29) (hd := Try.underlying5) rfl ?_)
          refine WL.op rfl rfl (op_buildSlice (cs := [_, _, _, _]) H22 Try.underlying106 Fa.I5 rfl rfl rfl rfl (by decide) (by decide) (fun b24 w24 H24 => ?_))
          refine WL.op rfl rfl (op_appendM (f := vU8) (l := (outTo (bst (hst all) (hrest all ++ pads all.length) j) k)) (l' := [(UInt8.ofNat (shrU32 ((bst (hst all) (hrest all ++ pads all.length) j).vals.getD k 0) 24).toNat), (UInt8.ofNat (shrU32 ((bst (hst all) (hrest all ++ pads all.length) j).vals.getD k 0) 16).toNat), (UInt8.ofNat (shrU32 ((bst (hst all) (hrest all ++ pads all.length) j).vals.getD k 0) 8).toNat), (UInt8.ofNat ((bst (hst all) (hrest all ++ pads all.length) j).vals.getD k 0).toNat)]) (i := 5) H24 Try.underlying106 Fa.I5 rfl rfl rfl rfl (Src.ofArr Try.underlying106 (H24.arrR (i := 6) rfl)) (one_mapM (fun _ => rfl)) (by omega) (by omega) (fun v25 w25 H25 => ?_))
          refine WL.op rfl rfl (op_assign rfl ?_)
          refine WL.nil ?_
          refine WQ.inNormal ?_
          refine WQ.next ?_
          refine WC.region ?_
          refine WL.op rfl rfl (op_addN (b := 1) rfl rfl (by omega) ?_)
          refine WL.op rfl rfl (op_move rfl ?_)
          refine WL.nil ?_
          exact WQ.round (k + 1, v25) ⟨(by omega), (H25.take 6)⟩ ⟨rfl, rfl, rfl, trivial⟩ (by show 8 - (k + 1) < 8 - k; omega)
        ·
          have hc23 := of_decide_eq_false hb23
          refine WC.exit ?_
          refine WQ.thenExit ?_
          refine WQ.thenExit ?_
          refine WQ.inHere ?_
          refine WQ.next ?_
          refine WC.seq ?_
          refine WC.region ?_
          refine WL.op rfl rfl (op_move rfl ?_)
          refine WL.op rfl rfl (op_bytesStr (l := (outTo (bst (hst all) (hrest all ++ pads all.length) j) k)) Try.underlying106 Try.underlying5 Try.underlying9 rfl (H22.arrR (i := 5) rfl) rfl ?_)
          refine WL.op rfl rfl (op_assign rfl ?_)
          refine WL.nil ?_
          refine WQ.next ?_
          refine WC.ret ?_
          refine WQ.out (.tmp rfl .nil) ?_
          exact ⟨(by have hk : k = 8 := (by omega); subst hk; rw [sumEnd all j (by omega) (by rw [← List.length_append]; omega)]; rfl), H22.fr⟩
end Go.Proofs.Ytbjhccnffacbcaa
/-! from WSha2 -/
namespace Go.Proofs.Ytbjhccnffacbcaa
open Go.Owl Go.Spec
set_option maxRecDepth 100000 in
theorem ssum_ok (s : List UInt8) (w : World) (hs : s.length < 2 ^ 40) :
    Calls Try.prog 159 #[(str s)] w (fun e w' => e = .returned (str (sha s)) ∧ Fr [] w w') := by
  refine enter (args := [(str s)]) Try.func159 rfl rfl ?_
  have H0 : Own [] w w [] := Own.start w []
  refine WC.seq ?_
  refine WC.region ?_
  refine WL.op rfl rfl (op_assign rfl ?_)
  refine WL.nil ?_
  refine WQ.next ?_
  refine WC.seq ?_
  refine WC.region ?_
  refine WL.op rfl rfl (op_callF Fa.C133 rfl ((new_ok _).mono (fun e w1 hq => ?_)))
  obtain ⟨q1, rfl, hq1⟩ := hq
  refine ⟨_, rfl, ?_⟩
  have H1 : Own [] w w1 [.blk q1 [(vU32 (hst ([] : List UInt8)).a), (vU32 (hst ([] : List UInt8)).b), (vU32 (hst ([] : List UInt8)).c), (vU32 (hst ([] : List UInt8)).d), (vU32 (hst ([] : List UInt8)).e), (vU32 (hst ([] : List UInt8)).f), (vU32 (hst ([] : List UInt8)).g), (vU32 (hst ([] : List UInt8)).h), (.slice none 0 0), (vN ([] : List UInt8).length)] 233, .row (.slice none 0 0) 5 1 (hrest ([] : List UInt8)).length (List.map vU8 (hrest ([] : List UInt8)))] := H0.splice [] [] [.blk q1 [(vU32 (hst ([] : List UInt8)).a), (vU32 (hst ([] : List UInt8)).b), (vU32 (hst ([] : List UInt8)).c), (vU32 (hst ([] : List UInt8)).d), (vU32 (hst ([] : List UInt8)).e), (vU32 (hst ([] : List UInt8)).f), (vU32 (hst ([] : List UInt8)).g), (vU32 (hst ([] : List UInt8)).h), (.slice none 0 0), (vN ([] : List UInt8).length)] 233, .row (.slice none 0 0) 5 1 (hrest ([] : List UInt8)).length (List.map vU8 (hrest ([] : List UInt8)))] rfl rfl hq1 (Fits.solid True.intro (Fits.solid True.intro Fits.nil))
  refine WL.op rfl rfl (op_assign rfl ?_)
  refine WL.nil ?_
  refine WQ.next ?_
  refine WC.seq ?_
  refine WC.region ?_
  refine WL.op rfl rfl (op_move rfl ?_)
  refine WL.op rfl rfl (op_move rfl ?_)
  refine WL.op rfl rfl (op_buildSlice (cs := [_]) H1 Try.underlying41 Fa.I9 rfl rfl rfl rfl (by decide) (by decide) (fun b2 w2 H2 => ?_))
  refine WL.op rfl rfl (op_callF Fa.C135 rfl ((write_ok q1 (.slice none 0 0) (.slice (some ⟨b2, 0, none⟩) 1 1) ([] : List UInt8) ([s]) _ _ (H2.part [0, 1] rfl rfl) (H2.stayR (I := [0, 1]) (k := 2) rfl rfl rfl) (by simpa using hs) (by simp)).mono (fun e w3 hq => ?_)))
  obtain ⟨v3, rfl, hq3⟩ := hq
  refine ⟨_, rfl, ?_⟩
  have H3 : Own [] w w3 [.blk q1 [(vU32 (hst (([] : List UInt8) ++ [s].flatten)).a), (vU32 (hst (([] : List UInt8) ++ [s].flatten)).b), (vU32 (hst (([] : List UInt8) ++ [s].flatten)).c), (vU32 (hst (([] : List UInt8) ++ [s].flatten)).d), (vU32 (hst (([] : List UInt8) ++ [s].flatten)).e), (vU32 (hst (([] : List UInt8) ++ [s].flatten)).f), (vU32 (hst (([] : List UInt8) ++ [s].flatten)).g), (vU32 (hst (([] : List UInt8) ++ [s].flatten)).h), v3, (vN (([] : List UInt8) ++ [s].flatten).length)] 233, .row v3 5 1 (hrest (([] : List UInt8) ++ [s].flatten)).length (List.map vU8 (hrest (([] : List UInt8) ++ [s].flatten))), .row (.slice (some ⟨b2, 0, none⟩) 1 1) 9 1 1 (List.map str [s])] := H2.splice [0, 1] [.blk q1 [(vU32 (hst (([] : List UInt8) ++ [s].flatten)).a), (vU32 (hst (([] : List UInt8) ++ [s].flatten)).b), (vU32 (hst (([] : List UInt8) ++ [s].flatten)).c), (vU32 (hst (([] : List UInt8) ++ [s].flatten)).d), (vU32 (hst (([] : List UInt8) ++ [s].flatten)).e), (vU32 (hst (([] : List UInt8) ++ [s].flatten)).f), (vU32 (hst (([] : List UInt8) ++ [s].flatten)).g), (vU32 (hst (([] : List UInt8) ++ [s].flatten)).h), v3, (vN (([] : List UInt8) ++ [s].flatten).length)] 233, .row v3 5 1 (hrest (([] : List UInt8) ++ [s].flatten)).length (List.map vU8 (hrest (([] : List UInt8) ++ [s].flatten)))] [] rfl rfl hq3 (Fits.solid True.intro (Fits.solid True.intro Fits.nil))
  refine WL.nil ?_
  refine WQ.next ?_
  refine WC.seq ?_
  refine WC.region ?_
  refine WL.op rfl rfl (op_move rfl ?_)
  refine WL.op rfl rfl (op_callF Fa.C137 rfl ((hsum_ok q1 v3 (([] : List UInt8) ++ [s].flatten) _ (H3.cellsAt (i := 0) rfl) (H3.arrR (i := 1) rfl) (by simpa using hs)).mono (fun e w4 hq => ?_)))
  obtain ⟨rfl, hf4⟩ := hq
  refine ⟨_, rfl, ?_⟩
  have H4 := H3.fr' hf4
  refine WL.op rfl rfl (op_assign rfl ?_)
  refine WL.nil ?_
  refine WQ.next ?_
  refine WC.ret ?_
  refine WQ.out (.tmp rfl .nil) ?_
  exact ⟨by simp [tup], H4.fr⟩
end Go.Proofs.Ytbjhccnffacbcaa
