/- General lemmas and walks: Facts, Facts2, FWLog4, FWLog5, FWLog6, FWLog7, FWLaw39, FWLaw39b, FWLaw39c, FWLaw39d, WPack, WPack2. No condition but what each theorem names. -/
import Derived.Test.YtpnghdalnghpcaaQd866fd4e
import Derived.Test.YtpnghdalnghpcaaChecked
import Derived.Test.YtpnghdalnghpcaaQ5598486a
/-! from Facts -/
/- Closed facts, off the tables of the program. -/
namespace Go.Proofs.Ytpnghdalnghpcaa
open Go.Owl
namespace Fa
theorem C102 : callB Try.prog 102 = true := by kernel_rfl
theorem C103 : callB Try.prog 103 = true := by kernel_rfl
theorem C109 : callB Try.prog 109 = true := by kernel_rfl
theorem C110 : callB Try.prog 110 = true := by kernel_rfl
theorem C111 : callB Try.prog 111 = true := by kernel_rfl
theorem C114 : callB Try.prog 114 = true := by kernel_rfl
theorem C115 : callB Try.prog 115 = true := by kernel_rfl
theorem C116 : callB Try.prog 116 = true := by kernel_rfl
theorem C117 : callB Try.prog 117 = true := by kernel_rfl
theorem C129 : callB Try.prog 129 = true := by kernel_rfl
theorem C130 : callB Try.prog 130 = true := by kernel_rfl
theorem C131 : callB Try.prog 131 = true := by kernel_rfl
theorem C132 : callB Try.prog 132 = true := by kernel_rfl
theorem C133 : callB Try.prog 133 = true := by kernel_rfl
theorem C134 : callB Try.prog 134 = true := by kernel_rfl
theorem C135 : callB Try.prog 135 = true := by kernel_rfl
theorem C136 : callB Try.prog 136 = true := by kernel_rfl
theorem C137 : callB Try.prog 137 = true := by kernel_rfl
theorem C138 : callB Try.prog 138 = true := by kernel_rfl
theorem C143 : callB Try.prog 143 = true := by kernel_rfl
theorem C144 : callB Try.prog 144 = true := by kernel_rfl
theorem C145 : callB Try.prog 145 = true := by kernel_rfl
theorem C146 : callB Try.prog 146 = true := by kernel_rfl
theorem C147 : callB Try.prog 147 = true := by kernel_rfl
theorem C148 : callB Try.prog 148 = true := by kernel_rfl
theorem C149 : callB Try.prog 149 = true := by kernel_rfl
theorem C15 : callB Try.prog 15 = true := by kernel_rfl
theorem C150 : callB Try.prog 150 = true := by kernel_rfl
theorem C151 : callB Try.prog 151 = true := by kernel_rfl
theorem C152 : callB Try.prog 152 = true := by kernel_rfl
theorem C153 : callB Try.prog 153 = true := by kernel_rfl
theorem C154 : callB Try.prog 154 = true := by kernel_rfl
theorem C16 : callB Try.prog 16 = true := by kernel_rfl
theorem C17 : callB Try.prog 17 = true := by kernel_rfl
theorem C18 : callB Try.prog 18 = true := by kernel_rfl
theorem C19 : callB Try.prog 19 = true := by kernel_rfl
theorem C20 : callB Try.prog 20 = true := by kernel_rfl
theorem C21 : callB Try.prog 21 = true := by kernel_rfl
theorem C22 : callB Try.prog 22 = true := by kernel_rfl
theorem C23 : callB Try.prog 23 = true := by kernel_rfl
theorem C24 : callB Try.prog 24 = true := by kernel_rfl
theorem C25 : callB Try.prog 25 = true := by kernel_rfl
theorem C26 : callB Try.prog 26 = true := by kernel_rfl
theorem C27 : callB Try.prog 27 = true := by kernel_rfl
theorem C28 : callB Try.prog 28 = true := by kernel_rfl
theorem C29 : callB Try.prog 29 = true := by kernel_rfl
theorem C30 : callB Try.prog 30 = true := by kernel_rfl
theorem C31 : callB Try.prog 31 = true := by kernel_rfl
theorem C32 : callB Try.prog 32 = true := by kernel_rfl
theorem C33 : callB Try.prog 33 = true := by kernel_rfl
theorem C34 : callB Try.prog 34 = true := by kernel_rfl
theorem C35 : callB Try.prog 35 = true := by kernel_rfl
theorem C36 : callB Try.prog 36 = true := by kernel_rfl
theorem C55 : callB Try.prog 55 = true := by kernel_rfl
theorem C65 : callB Try.prog 65 = true := by kernel_rfl
theorem C73 : callB Try.prog 73 = true := by kernel_rfl
theorem C74 : callB Try.prog 74 = true := by kernel_rfl
theorem C75 : callB Try.prog 75 = true := by kernel_rfl
theorem C76 : callB Try.prog 76 = true := by kernel_rfl
theorem C77 : callB Try.prog 77 = true := by kernel_rfl
theorem C78 : callB Try.prog 78 = true := by kernel_rfl
theorem F105_0 : faB Try.prog 105 0 = some (0, 1, true) := by kernel_rfl
theorem F105_1 : faB Try.prog 105 1 = some (1, 1, true) := by kernel_rfl
theorem F105_2 : faB Try.prog 105 2 = some (2, 1, true) := by kernel_rfl
theorem F107_0 : faB Try.prog 107 0 = some (0, 3, false) := by kernel_rfl
theorem F143_0 : faB Try.prog 143 0 = some (0, 1, true) := by kernel_rfl
theorem F143_1 : faB Try.prog 143 1 = some (1, 1, true) := by kernel_rfl
theorem F143_2 : faB Try.prog 143 2 = some (2, 1, true) := by kernel_rfl
theorem F143_3 : faB Try.prog 143 3 = some (3, 1, true) := by kernel_rfl
theorem F148_0 : faB Try.prog 148 0 = some (0, 1, true) := by kernel_rfl
theorem F148_1 : faB Try.prog 148 1 = some (1, 1, true) := by kernel_rfl
theorem F150_0 : faB Try.prog 150 0 = some (0, 2, false) := by kernel_rfl
theorem F150_2 : faB Try.prog 150 2 = some (3, 1, true) := by kernel_rfl
theorem F185_0 : faB Try.prog 185 0 = some (0, 1, true) := by kernel_rfl
theorem F185_1 : faB Try.prog 185 1 = some (1, 1, true) := by kernel_rfl
theorem F198_0 : faB Try.prog 198 0 = some (0, 8, false) := by kernel_rfl
theorem F198_1 : faB Try.prog 198 1 = some (8, 1, true) := by kernel_rfl
theorem F198_2 : faB Try.prog 198 2 = some (9, 1, true) := by kernel_rfl
theorem F47_0 : faB Try.prog 47 0 = some (0, 1, true) := by kernel_rfl
theorem F47_1 : faB Try.prog 47 1 = some (1, 1, true) := by kernel_rfl
theorem F49_0 : faB Try.prog 49 0 = some (0, 1, true) := by kernel_rfl
theorem F49_1 : faB Try.prog 49 1 = some (1, 1, true) := by kernel_rfl
theorem I105 : tiB Try.prog 105 = some ([(str []), (vN 0), (vN 0)], 3, 32) := by kernel_rfl
theorem I107 : tiB Try.prog 107 = some ([(str []), (vN 0), (vN 0)], 3, 32) := by kernel_rfl
theorem I143 : tiB Try.prog 143 = some ([(vU8 0), (vN 0), (vN 0), (str [])], 4, 40) := by kernel_rfl
theorem I148 : tiB Try.prog 148 = some ([(str []), (str [])], 2, 32) := by kernel_rfl
theorem I150 : tiB Try.prog 150 = some ([(str []), (str []), (.slice none 0 0), (str [])], 4, 72) := by kernel_rfl
theorem I180 : tiB Try.prog 180 = some ([(vN 0), (vN 0)], 2, 16) := by kernel_rfl
theorem I185 : tiB Try.prog 185 = some ([(.pointer none), (str [])], 2, 24) := by kernel_rfl
theorem I195 : tiB Try.prog 195 = some ([(vU32 0), (vU32 0), (vU32 0), (vU32 0), (vU32 0), (vU32 0), (vU32 0), (vU32 0)], 8, 32) := by kernel_rfl
theorem I198 : tiB Try.prog 198 = some ([(vU32 0), (vU32 0), (vU32 0), (vU32 0), (vU32 0), (vU32 0), (vU32 0), (vU32 0), (.slice none 0 0), (vN 0)], 10, 64) := by kernel_rfl
theorem I204 : tiB Try.prog 204 = some ((List.replicate 64 (vU32 0)), 64, 256) := by kernel_rfl
theorem I22 : tiB Try.prog 22 = some ([(vU32 0)], 1, 4) := by kernel_rfl
theorem I26 : tiB Try.prog 26 = some ([(vN 0)], 1, 8) := by kernel_rfl
theorem I3 : tiB Try.prog 3 = some ([(vN 0)], 1, 8) := by kernel_rfl
theorem I47 : tiB Try.prog 47 = some ([(str []), (vN 0)], 2, 24) := by kernel_rfl
theorem I49 : tiB Try.prog 49 = some ([(vN 0), (vN 0)], 2, 16) := by kernel_rfl
theorem I5 : tiB Try.prog 5 = some ([(vU8 0)], 1, 1) := by kernel_rfl
theorem I73 : tiB Try.prog 73 = some ([(.slice none 0 0)], 1, 24) := by kernel_rfl
theorem I84 : tiB Try.prog 84 = some ([(str []), (str []), (str []), (.slice none 0 0)], 4, 72) := by kernel_rfl
theorem I9 : tiB Try.prog 9 = some ([(str [])], 1, 16) := by kernel_rfl
theorem M : Try.prog.follows .mixedOrders = true := by kernel_rfl
theorem PL105 : plB Try.prog 105 = some [(0, 1), (1, 1), (2, 1)] := by kernel_rfl
theorem PL107 : plB Try.prog 107 = some [(0, 3)] := by kernel_rfl
theorem PL143 : plB Try.prog 143 = some [(0, 1), (1, 1), (2, 1), (3, 1)] := by kernel_rfl
theorem PL148 : plB Try.prog 148 = some [(0, 1), (1, 1)] := by kernel_rfl
theorem PL150 : plB Try.prog 150 = some [(0, 2), (2, 1), (3, 1)] := by kernel_rfl
theorem PL185 : plB Try.prog 185 = some [(0, 1), (1, 1)] := by kernel_rfl
theorem PL198 : plB Try.prog 198 = some [(0, 8), (8, 1), (9, 1)] := by kernel_rfl
theorem PL47 : plB Try.prog 47 = some [(0, 1), (1, 1)] := by kernel_rfl
theorem PL84 : plB Try.prog 84 = some [(0, 1), (1, 1), (2, 1), (3, 1)] := by kernel_rfl
theorem PT157 : Try.prog.underlying 157 = some (.pointer (Try.prog.pointee 157)) := by kernel_rfl
theorem PT182 : Try.prog.underlying 182 = some (.pointer (Try.prog.pointee 182)) := by kernel_rfl
theorem PT34 : Try.prog.underlying 34 = some (.pointer (Try.prog.pointee 34)) := by kernel_rfl
theorem PT75 : Try.prog.underlying 75 = some (.pointer (Try.prog.pointee 75)) := by kernel_rfl
end Fa
end Go.Proofs.Ytpnghdalnghpcaa
/-! from Facts2 -/
/- Closed facts, off the tables of the program. -/
namespace Go.Proofs.Ytpnghdalnghpcaa
open Go.Owl
namespace Fa
theorem C101 : callB Try.prog 101 = true := by kernel_rfl
theorem C107 : callB Try.prog 107 = true := by kernel_rfl
theorem C71 : callB Try.prog 71 = true := by kernel_rfl
theorem F150_1 : faB Try.prog 150 1 = some (2, 1, true) := by kernel_rfl
theorem F84_0 : faB Try.prog 84 0 = some (0, 1, true) := by kernel_rfl
theorem F84_1 : faB Try.prog 84 1 = some (1, 1, true) := by kernel_rfl
theorem F84_2 : faB Try.prog 84 2 = some (2, 1, true) := by kernel_rfl
theorem F84_3 : faB Try.prog 84 3 = some (3, 1, true) := by kernel_rfl
theorem FL143 : flatB Try.prog 143 = some [.int .u8, .int .i64, .int .i64, .string] := by kernel_rfl
theorem I72 : tiB Try.prog 72 = some ([(.slice none 0 0)], 1, 24) := by kernel_rfl
end Fa
end Go.Proofs.Ytpnghdalnghpcaa
/-! from FWLog4 -/
/- Closed facts, off the tables of the program. -/
namespace Go.Proofs.Ytpnghdalnghpcaa
open Go.Owl
namespace Fa
theorem C100 : callB Try.prog 100 = true := by kernel_rfl
theorem C104 : callB Try.prog 104 = true := by kernel_rfl
theorem C99 : callB Try.prog 99 = true := by kernel_rfl
end Fa
end Go.Proofs.Ytpnghdalnghpcaa
/-! from FWLog5 -/
/- Closed facts, off the tables of the program. -/
namespace Go.Proofs.Ytpnghdalnghpcaa
open Go.Owl
namespace Fa
theorem C105 : callB Try.prog 105 = true := by kernel_rfl
theorem C106 : callB Try.prog 106 = true := by kernel_rfl
theorem C108 : callB Try.prog 108 = true := by kernel_rfl
theorem C58 : callB Try.prog 58 = true := by kernel_rfl
theorem C59 : callB Try.prog 59 = true := by kernel_rfl
end Fa
end Go.Proofs.Ytpnghdalnghpcaa
/-! from FWLog6 -/
/- Closed facts, off the tables of the program. -/
namespace Go.Proofs.Ytpnghdalnghpcaa
open Go.Owl
namespace Fa
end Fa
end Go.Proofs.Ytpnghdalnghpcaa
/-! from FWLog7 -/
/- Closed facts, off the tables of the program. -/
namespace Go.Proofs.Ytpnghdalnghpcaa
open Go.Owl
namespace Fa
theorem C53 : callB Try.prog 53 = true := by kernel_rfl
theorem C54 : callB Try.prog 54 = true := by kernel_rfl
theorem C56 : callB Try.prog 56 = true := by kernel_rfl
theorem C57 : callB Try.prog 57 = true := by kernel_rfl
theorem C62 : callB Try.prog 62 = true := by kernel_rfl
end Fa
end Go.Proofs.Ytpnghdalnghpcaa
/-! from FWLaw39 -/
/- Closed facts, off the tables of the program. -/
namespace Go.Proofs.Ytpnghdalnghpcaa
open Go.Owl
namespace Fa
theorem C52 : callB Try.prog 52 = true := by kernel_rfl
theorem C61 : callB Try.prog 61 = true := by kernel_rfl
theorem C63 : callB Try.prog 63 = true := by kernel_rfl
end Fa
end Go.Proofs.Ytpnghdalnghpcaa
/-! from FWLaw39b -/
/- Closed facts, off the tables of the program. -/
namespace Go.Proofs.Ytpnghdalnghpcaa
open Go.Owl
namespace Fa
theorem C51 : callB Try.prog 51 = true := by kernel_rfl
theorem C64 : callB Try.prog 64 = true := by kernel_rfl
end Fa
end Go.Proofs.Ytpnghdalnghpcaa
/-! from FWLaw39c -/
/- Closed facts, off the tables of the program. -/
namespace Go.Proofs.Ytpnghdalnghpcaa
open Go.Owl
namespace Fa
end Fa
end Go.Proofs.Ytpnghdalnghpcaa
/-! from FWLaw39d -/
/- Closed facts, off the tables of the program. -/
namespace Go.Proofs.Ytpnghdalnghpcaa
open Go.Owl
namespace Fa
theorem C60 : callB Try.prog 60 = true := by kernel_rfl
end Fa
end Go.Proofs.Ytpnghdalnghpcaa
/-! from WPack -/
namespace Go.Proofs.Ytpnghdalnghpcaa
open Go.Owl Go.Spec
set_option maxRecDepth 100000 in
theorem text_ok (v : Value) (m : Nat) (l : List UInt8) (w : World) (hA : Arr w v 1 m (l.map vU8)) :
    Calls Try.prog 117 #[v] w (fun e w' => e = .returned (str l) ∧ Fr [] w w') := by
  refine enter (args := [v]) Try.func117 rfl rfl ?_
  have H0 : Own [] w w [] := Own.start w []
  refine WC.seq ?_
  refine WC.region ?_
  refine WL.op rfl rfl (op_assign rfl ?_)
  refine WL.nil ?_
  refine WQ.next ?_
  refine WC.seq ?_
  refine WC.region ?_
  refine WL.op rfl rfl (op_move rfl ?_)
  refine WL.op rfl rfl (op_bytesStr (l := l) Try.underlying73 Try.underlying5 Try.underlying9 rfl (H0.arr hA) rfl ?_)
  refine WL.op rfl rfl (op_assign rfl ?_)
  refine WL.nil ?_
  refine WQ.next ?_
  refine WC.ret ?_
  refine WQ.out (.tmp rfl .nil) ?_
  exact ⟨rfl, H0.fr⟩
set_option maxRecDepth 100000 in
theorem get_ok (s : List UInt8) (w : World) :
    Calls Try.prog 76 #[(str s)] w (fun e w' => e = .returned (.tuple #[vU32 (getV s), vN (getE s)]) ∧ Fr [] w w') := by
  refine enter (args := [(str s)]) Try.func76 rfl rfl ?_
  have H0 : Own [] w w [] := Own.start w []
  refine WC.seq ?_
  refine WC.region ?_
  refine WL.op rfl rfl (op_assign rfl ?_)
  refine WL.op rfl rfl (op_assign rfl ?_)
  refine WL.nil ?_
  refine WQ.next ?_
  refine WC.seq ?_
  refine WC.seq ?_
  refine WC.region ?_
  refine WL.op rfl rfl (op_move rfl ?_)
  refine WL.op rfl rfl (op_lenStr Try.underlying9 rfl ?_)
  refine WL.op rfl rfl (op_lssN (b := 1) rfl rfl ?_)
  refine WL.op rfl rfl (op_move rfl ?_)
  refine WL.split (t := 8) rfl (fun (hb1 : (decide (s.length < 1)) = true) => ?_) (fun (hb1 : (decide (s.length < 1)) = false) => ?_)
  ·
    have hc1 := of_decide_eq_true hb1
    refine WL.no rfl rfl rfl hb1 rfl ?_
    refine WL.no rfl rfl rfl hb1 rfl ?_
    refine WL.no rfl rfl rfl hb1 rfl ?_
    refine WL.op rfl rfl (op_pickT rfl hb1 rfl ?_)
    refine WL.nil ?_
    refine WQ.next ?_
    refine WC.yes rfl rfl ?_
    refine WC.seq ?_
    refine WC.region ?_
    refine WL.op rfl rfl (op_assign rfl ?_)
    refine WL.op rfl rfl (op_assign rfl ?_)
    refine WL.nil ?_
    refine WQ.next ?_
    refine WC.ret ?_
    refine WQ.thenRet ?_
    refine WQ.out (.tmp rfl (.tmp rfl .nil)) ?_
    exact ⟨by first | (have hk : k = s.length := (by omega); subst hk; rw [getV, getE, if_neg (by omega), if_neg (by omega)]; rfl) | (rw [getV, getE, if_pos (by omega), if_pos (by omega)]; rfl), H0.fr⟩
  ·
    have hc1 := of_decide_eq_false hb1
    refine WL.yes rfl rfl rfl hb1 rfl (op_move rfl ?_)
    refine WL.yes rfl rfl rfl hb1 rfl (op_lenStr Try.underlying9 rfl ?_)
    refine WL.yes rfl rfl rfl hb1 rfl (op_gtrN (b := 4) rfl rfl ?_)
    refine WL.op rfl rfl (op_pickF rfl hb1 rfl ?_)
    refine WL.nil ?_
    refine WQ.next ?_
    refine WC.cond rfl (fun (hb2 : (decide (s.length > 4)) = true) => ?_) (fun (hb2 : (decide (s.length > 4)) = false) => ?_)
    ·
      have hc2 := of_decide_eq_true hb2
      refine WC.seq ?_
      refine WC.region ?_
      refine WL.op rfl rfl (op_assign rfl ?_)
      refine WL.op rfl rfl (op_assign rfl ?_)
      refine WL.nil ?_
      refine WQ.next ?_
      refine WC.ret ?_
      refine WQ.thenRet ?_
      refine WQ.out (.tmp rfl (.tmp rfl .nil)) ?_
      exact ⟨by first | (have hk : k = s.length := (by omega); subst hk; rw [getV, getE, if_neg (by omega), if_neg (by omega)]; rfl) | (rw [getV, getE, if_pos (by omega), if_pos (by omega)]; rfl), H0.fr⟩
    ·
      have hc2 := of_decide_eq_false hb2
      refine WC.skip ?_
      refine WQ.next ?_
      refine WC.seq ?_
      refine WC.seq ?_
      refine WC.region ?_
      refine WL.op rfl rfl (op_move rfl ?_)
      refine WL.op rfl rfl (op_lenStr Try.underlying9 rfl ?_)
      refine WL.op rfl rfl (op_move rfl ?_)
      refine WL.nil ?_
      refine WQ.next ?_
      refine WC.block ?_
      refine WC.loop (α := Nat) (fun k => [(0, (str s)), (3, (vN 0)), (14, (vN s.length)), (15, (vN k)), (2, (vU32 (getTo s k)))]) (fun k w' => (k ≤ s.length) ∧ Own [] w w' []) (fun k => s.length - k) 0 ⟨(by omega), H0⟩ ⟨rfl, rfl, rfl, rfl, rfl, trivial⟩ ?_
      rintro k w3 ⟨hinv, H3⟩
      show WC _ _ _ _ _ [(0, (str s)), (3, (vN 0)), (14, (vN s.length)), (15, (vN k)), (2, (vU32 (getTo s k)))] _
      refine WC.seq ?_
      refine WC.region ?_
      refine WL.op rfl rfl (op_lssN rfl rfl ?_)
      refine WL.nil ?_
      refine WQ.next ?_
      refine WC.seq ?_
      refine WC.cond rfl (fun (hb4 : (decide (k < s.length)) = true) => ?_) (fun (hb4 : (decide (k < s.length)) = false) => ?_)
      ·
        have hc4 := of_decide_eq_true hb4
        refine WC.skip ?_
        refine WQ.next ?_
        refine WC.seq ?_
        refine WC.block ?_
        refine WC.seq ?_
        refine WC.region ?_
        refine WL.op rfl rfl (op_move rfl ?_)
        refine WL.op rfl rfl (op_assign rfl ?_)
        refine WL.nil ?_
        refine WQ.next ?_
        refine WC.region ?_
        refine WL.op rfl rfl (op_move rfl ?_)
        refine WL.op rfl rfl (op_move rfl ?_)
        refine WL.op rfl rfl (op_move rfl ?_)
        refine WL.op rfl rfl (op_indexStrD Try.underlying9 rfl rfl (by omega) ?_)
        refine WL.op rfl rfl (op_convU8U32 (hs := Try.underlying5) (hd := Try.underlying22) rfl ?_)
        refine WL.op rfl rfl (op_move rfl ?_)
        refine WL.op rfl rfl (op_mulN (a := 8) rfl rfl (by omega) ?_)
        refine WL.op rfl rfl (op_shlU32 rfl rfl ?_)
        refine WL.op rfl rfl (op_orU32 rfl rfl ?_)
        refine WL.op rfl rfl (op_assign rfl ?_)
        refine WL.nil ?_
        refine WQ.inNormal ?_
        refine WQ.next ?_
        refine WC.region ?_
        refine WL.op rfl rfl (op_addN (b := 1) rfl rfl (by omega) ?_)
        refine WL.op rfl rfl (op_move rfl ?_)
        refine WL.nil ?_
        exact WQ.round (k + 1) ⟨(by omega), H3⟩ ⟨rfl, rfl, rfl, rfl, rfl, trivial⟩ (by omega)
      ·
        have hc4 := of_decide_eq_false hb4
        refine WC.exit ?_
        refine WQ.thenExit ?_
        refine WQ.thenExit ?_
        refine WQ.inHere ?_
        refine WQ.next ?_
        refine WC.seq ?_
        refine WC.region ?_
        refine WL.op rfl rfl (op_move rfl ?_)
        refine WL.op rfl rfl (op_assign rfl ?_)
        refine WL.op rfl rfl (op_assign rfl ?_)
        refine WL.nil ?_
        refine WQ.next ?_
        refine WC.ret ?_
        refine WQ.out (.tmp rfl (.tmp rfl .nil)) ?_
        exact ⟨by first | (have hk : k = s.length := (by omega); subst hk; rw [getV, getE, if_neg (by omega), if_neg (by omega)]; rfl) | (rw [getV, getE, if_pos (by omega), if_pos (by omega)]; rfl), H3.fr⟩
set_option maxRecDepth 100000 in
theorem put_ok (v : UInt32) (n : Int) (w : World) :
    Calls Try.prog 73 #[(vU32 v), (vI n)] w (fun e w' => e = .returned (.tuple #[str (numS v n), vN (numE v n)]) ∧ Fr [] w w') := by
  refine enter (args := [(vU32 v), (vI n)]) Try.func73 rfl rfl ?_
  have H0 : Own [] w w [] := Own.start w []
  refine WC.seq ?_
  refine WC.region ?_
  refine WL.op rfl rfl (op_assign rfl ?_)
  refine WL.op rfl rfl (op_assign rfl ?_)
  refine WL.nil ?_
  refine WQ.next ?_
  refine WC.seq ?_
  refine WC.block ?_
  refine WC.seq ?_
  refine WC.region ?_
  refine WL.op rfl rfl (op_move rfl ?_)
  refine WL.op rfl rfl (op_lssI (b := (1 : Int)) rfl rfl ?_)
  refine WL.op rfl rfl (op_move rfl ?_)
  refine WL.split (t := 9) rfl (fun (hb1 : (decide (n < (1 : Int))) = true) => ?_) (fun (hb1 : (decide (n < (1 : Int))) = false) => ?_)
  ·
    have hc1 := of_decide_eq_true hb1
    refine WL.no rfl rfl rfl hb1 rfl ?_
    refine WL.no rfl rfl rfl hb1 rfl ?_
    refine WL.op rfl rfl (op_pickT rfl hb1 rfl ?_)
    refine WL.op rfl rfl (op_assign rfl ?_)
    refine WL.nil ?_
    refine WQ.next ?_
    refine WC.yes rfl rfl ?_
    refine WC.seq ?_
    refine WC.region ?_
    refine WL.op rfl rfl (op_assign rfl ?_)
    refine WL.op rfl rfl (op_assign rfl ?_)
    refine WL.nil ?_
    refine WQ.next ?_
    refine WC.ret ?_
    refine WQ.inRet ?_
    refine WQ.thenRet ?_
    refine WQ.out (.tmp rfl (.tmp rfl .nil)) ?_
    rw [numS, numE, if_pos (show n < 1 ∨ n > 4 from by omega), if_neg (by decide)]
    exact ⟨rfl, H0.fr⟩
  ·
    have hc1 := of_decide_eq_false hb1
    refine WL.yes rfl rfl rfl hb1 rfl (op_move rfl ?_)
    refine WL.yes rfl rfl rfl hb1 rfl (op_gtrI (b := (4 : Int)) rfl rfl ?_)
    refine WL.op rfl rfl (op_pickF rfl hb1 rfl ?_)
    refine WL.op rfl rfl (op_assign rfl ?_)
    refine WL.nil ?_
    refine WQ.next ?_
    refine WC.cond rfl (fun (hb2 : (decide (n > (4 : Int))) = true) => ?_) (fun (hb2 : (decide (n > (4 : Int))) = false) => ?_)
    ·
      have hc2 := of_decide_eq_true hb2
      refine WC.seq ?_
      refine WC.region ?_
      refine WL.op rfl rfl (op_assign rfl ?_)
      refine WL.op rfl rfl (op_assign rfl ?_)
      refine WL.nil ?_
      refine WQ.next ?_
      refine WC.ret ?_
      refine WQ.inRet ?_
      refine WQ.thenRet ?_
      refine WQ.out (.tmp rfl (.tmp rfl .nil)) ?_
      rw [numS, numE, if_pos (show n < 1 ∨ n > 4 from by omega), if_neg (by decide)]
      exact ⟨rfl, H0.fr⟩
    ·
      have hc2 := of_decide_eq_false hb2
      obtain ⟨m, rfl⟩ : ∃ m : Nat, n = (m : Int) := ⟨n.toNat, by omega⟩
      refine WC.seq ?_
      refine WC.region ?_
      refine WL.op rfl rfl (op_move rfl ?_)
      refine WL.op rfl rfl (op_lssN (b := 4) rfl rfl ?_)
      refine WL.op rfl rfl (op_move rfl ?_)
      refine WL.split (t := 16) rfl (fun (hb3 : (decide (m < 4)) = true) => ?_) (fun (hb3 : (decide (m < 4)) = false) => ?_)
      ·
        have hc3 := of_decide_eq_true hb3
        refine WL.yes rfl rfl rfl hb3 rfl (op_move rfl ?_)
        refine WL.yes rfl rfl rfl hb3 rfl (op_move rfl ?_)
        refine WL.yes rfl rfl rfl hb3 rfl (op_mulN (a := 8) rfl rfl (by omega) ?_)
        refine WL.yes rfl rfl rfl hb3 rfl (op_shrU32 rfl rfl ?_)
        refine WL.yes rfl rfl rfl hb3 rfl (op_neqU32 (b := 0) rfl rfl ?_)
        refine WL.op rfl rfl (op_pickT rfl hb3 rfl ?_)
        refine WL.op rfl rfl (op_assign rfl ?_)
        refine WL.nil ?_
        refine WQ.next ?_
        refine WC.cond rfl (fun (hb4 : (decide ((shrU32 v (8 * m)) ≠ (0 : UInt32))) = true) => ?_) (fun (hb4 : (decide ((shrU32 v (8 * m)) ≠ (0 : UInt32))) = false) => ?_)
        ·
          have hc4 := of_decide_eq_true hb4
          refine WC.seq ?_
          refine WC.region ?_
          refine WL.op rfl rfl (op_assign rfl ?_)
          refine WL.op rfl rfl (op_assign rfl ?_)
          refine WL.nil ?_
          refine WQ.next ?_
          refine WC.ret ?_
          refine WQ.inRet ?_
          refine WQ.thenRet ?_
          refine WQ.out (.tmp rfl (.tmp rfl .nil)) ?_
          rw [numS, numE, if_neg (show ¬ ((m : Int) < 1 ∨ (m : Int) > 4) from by omega), Int.toNat_natCast, if_pos (show rV v m ≠ 0 from by rw [← rV_shr]; exact hc4), if_neg (by decide)]
          exact ⟨rfl, H0.fr⟩
        ·
          have hc4 := of_decide_eq_false hb4
          refine WC.skip ?_
          refine WQ.inNormal ?_
          refine WQ.next ?_
          refine WC.seq ?_
          refine WC.region ?_
          refine WL.op rfl rfl (op_move rfl ?_)
          refine WL.op rfl rfl (op_convU32U8 (hs := Try.underlying22) (hd := Try.underlying5) rfl ?_)
          refine WL.op rfl rfl (op_move rfl ?_)
          refine WL.op rfl rfl (op_shrU32 (s := 8) rfl rfl ?_)
          refine WL.op rfl rfl (op_convU32U8 (hs := Try.underlying22) (hd := Try.underlying5) rfl ?_)
          refine WL.op rfl rfl (op_move rfl ?_)
          refine WL.op rfl rfl (op_shrU32 (s := 16) rfl rfl ?_)
          refine WL.op rfl rfl (op_convU32U8 (hs := Try.underlying22) (hd := Try.underlying5) rfl ?_)
          refine WL.op rfl rfl (op_move rfl ?_)
          refine WL.op rfl rfl (op_shrU32 (s := 24) rfl rfl ?_)
          refine WL.op rfl rfl (op_convU32U8 (hs := Try.underlying22) (hd := Try.underlying5) rfl ?_)
          refine WL.op rfl rfl (op_buildSlice (cs := [_, _, _, _]) H0 Try.underlying73 Fa.I5 rfl rfl rfl rfl (by decide) (by decide) (fun b5 w5 H5 => ?_))
          refine WL.op rfl rfl (op_move rfl ?_)
          refine WL.op rfl rfl (op_cutHi Try.underlying73 Fa.I5 rfl (H5.arrR (i := 0) rfl) rfl (by omega) ?_)
          refine WL.op rfl rfl (op_callF Fa.C117 rfl ((text_ok _ _ (([(UInt8.ofNat v.toNat), (UInt8.ofNat (shrU32 v 8).toNat), (UInt8.ofNat (shrU32 v 16).toNat), (UInt8.ofNat (shrU32 v 24).toNat)].take m)) _ (((H5.arrR (i := 0) rfl)).cutHiM (f := vU8) (l := [(UInt8.ofNat v.toNat), (UInt8.ofNat (shrU32 v 8).toNat), (UInt8.ofNat (shrU32 v 16).toNat), (UInt8.ofNat (shrU32 v 24).toNat)]) (b := m) (by omega))).mono (fun e w6 hq => ?_)))
          obtain ⟨rfl, hf6⟩ := hq
          refine ⟨_, rfl, ?_⟩
          have H6 := H5.fr' hf6
          refine WL.op rfl rfl (op_assign rfl ?_)
          refine WL.op rfl rfl (op_assign rfl ?_)
          refine WL.nil ?_
          refine WQ.next ?_
          refine WC.ret ?_
          refine WQ.out (.tmp rfl (.tmp rfl .nil)) ?_
          rw [numS, numE, if_neg (show ¬ ((m : Int) < 1 ∨ (m : Int) > 4) from by omega), Int.toNat_natCast, if_neg (show ¬ (rV v m ≠ 0) from fun h => h (by rw [← rV_shr]; exact Decidable.not_not.mp hc4)), if_pos rfl, ← rB_take v (by omega)]
          exact ⟨rfl, H6.fr⟩
      ·
        have hc3 := of_decide_eq_false hb3
        refine WL.no rfl rfl rfl hb3 rfl ?_
        refine WL.no rfl rfl rfl hb3 rfl ?_
        refine WL.no rfl rfl rfl hb3 rfl ?_
        refine WL.no rfl rfl rfl hb3 rfl ?_
        refine WL.no rfl rfl rfl hb3 rfl ?_
        refine WL.op rfl rfl (op_pickF rfl hb3 rfl ?_)
        refine WL.op rfl rfl (op_assign rfl ?_)
        refine WL.nil ?_
        refine WQ.next ?_
        refine WC.no rfl rfl ?_
        refine WC.skip ?_
        refine WQ.inNormal ?_
        refine WQ.next ?_
        refine WC.seq ?_
        refine WC.region ?_
        refine WL.op rfl rfl (op_move rfl ?_)
        refine WL.op rfl rfl (op_convU32U8 (hs := Try.underlying22) (hd := Try.underlying5) rfl ?_)
        refine WL.op rfl rfl (op_move rfl ?_)
        refine WL.op rfl rfl (op_shrU32 (s := 8) rfl rfl ?_)
        refine WL.op rfl rfl (op_convU32U8 (hs := Try.underlying22) (hd := Try.underlying5) rfl ?_)
        refine WL.op rfl rfl (op_move rfl ?_)
        refine WL.op rfl rfl (op_shrU32 (s := 16) rfl rfl ?_)
        refine WL.op rfl rfl (op_convU32U8 (hs := Try.underlying22) (hd := Try.underlying5) rfl ?_)
        refine WL.op rfl rfl (op_move rfl ?_)
        refine WL.op rfl rfl (op_shrU32 (s := 24) rfl rfl ?_)
        refine WL.op rfl rfl (op_convU32U8 (hs := Try.underlying22) (hd := Try.underlying5) rfl ?_)
        refine WL.op rfl rfl (op_buildSlice (cs := [_, _, _, _]) H0 Try.underlying73 Fa.I5 rfl rfl rfl rfl (by decide) (by decide) (fun b7 w7 H7 => ?_))
        refine WL.op rfl rfl (op_move rfl ?_)
        refine WL.op rfl rfl (op_cutHi Try.underlying73 Fa.I5 rfl (H7.arrR (i := 0) rfl) rfl (by omega) ?_)
        refine WL.op rfl rfl (op_callF Fa.C117 rfl ((text_ok _ _ (([(UInt8.ofNat v.toNat), (UInt8.ofNat (shrU32 v 8).toNat), (UInt8.ofNat (shrU32 v 16).toNat), (UInt8.ofNat (shrU32 v 24).toNat)].take m)) _ (((H7.arrR (i := 0) rfl)).cutHiM (f := vU8) (l := [(UInt8.ofNat v.toNat), (UInt8.ofNat (shrU32 v 8).toNat), (UInt8.ofNat (shrU32 v 16).toNat), (UInt8.ofNat (shrU32 v 24).toNat)]) (b := m) (by omega))).mono (fun e w8 hq => ?_)))
        obtain ⟨rfl, hf8⟩ := hq
        refine ⟨_, rfl, ?_⟩
        have H8 := H7.fr' hf8
        refine WL.op rfl rfl (op_assign rfl ?_)
        refine WL.op rfl rfl (op_assign rfl ?_)
        refine WL.nil ?_
        refine WQ.next ?_
        refine WC.ret ?_
        refine WQ.out (.tmp rfl (.tmp rfl .nil)) ?_
        rw [numS, numE, if_neg (show ¬ ((m : Int) < 1 ∨ (m : Int) > 4) from by omega), Int.toNat_natCast, if_neg (show ¬ (rV v m ≠ 0) from fun h => h (by rw [show m = 4 from by omega]; exact rV_4 v)), if_pos rfl, ← rB_take v (by omega)]
        exact ⟨rfl, H8.fr⟩
set_option maxRecDepth 100000 in
theorem num_ok (v : UInt32) (n : Int) (w : World) :
    Calls Try.prog 17 #[(vU32 v), (vI n)] w (fun e w' => e = .returned (.tuple #[str (numS v n), vN (numE v n)]) ∧ Fr [] w w') := by
  refine enter (args := [(vU32 v), (vI n)]) Try.func17 rfl rfl ?_
  have H0 : Own [] w w [] := Own.start w []
  refine WC.seq ?_
  refine WC.region ?_
  refine WL.op rfl rfl (op_assign rfl ?_)
  refine WL.op rfl rfl (op_assign rfl ?_)
  refine WL.nil ?_
  refine WQ.next ?_
  refine WC.seq ?_
  refine WC.block ?_
  refine WC.seq ?_
  refine WC.region ?_
  refine WL.op rfl rfl (op_move rfl ?_)
  refine WL.op rfl rfl (op_lssI (b := (1 : Int)) rfl rfl ?_)
  refine WL.op rfl rfl (op_move rfl ?_)
  refine WL.split (t := 9) rfl (fun (hb1 : (decide (n < (1 : Int))) = true) => ?_) (fun (hb1 : (decide (n < (1 : Int))) = false) => ?_)
  ·
    have hc1 := of_decide_eq_true hb1
    refine WL.no rfl rfl rfl hb1 rfl ?_
    refine WL.no rfl rfl rfl hb1 rfl ?_
    refine WL.op rfl rfl (op_pickT rfl hb1 rfl ?_)
    refine WL.op rfl rfl (op_assign rfl ?_)
    refine WL.nil ?_
    refine WQ.next ?_
    refine WC.yes rfl rfl ?_
    refine WC.seq ?_
    refine WC.region ?_
    refine WL.op rfl rfl (op_assign rfl ?_)
    refine WL.op rfl rfl (op_assign rfl ?_)
    refine WL.nil ?_
    refine WQ.next ?_
    refine WC.ret ?_
    refine WQ.inRet ?_
    refine WQ.thenRet ?_
    refine WQ.out (.tmp rfl (.tmp rfl .nil)) ?_
    rw [numS, numE, if_pos (show n < 1 ∨ n > 4 from by omega), if_neg (by decide)]
    exact ⟨rfl, H0.fr⟩
  ·
    have hc1 := of_decide_eq_false hb1
    refine WL.yes rfl rfl rfl hb1 rfl (op_move rfl ?_)
    refine WL.yes rfl rfl rfl hb1 rfl (op_gtrI (b := (4 : Int)) rfl rfl ?_)
    refine WL.op rfl rfl (op_pickF rfl hb1 rfl ?_)
    refine WL.op rfl rfl (op_assign rfl ?_)
    refine WL.nil ?_
    refine WQ.next ?_
    refine WC.cond rfl (fun (hb2 : (decide (n > (4 : Int))) = true) => ?_) (fun (hb2 : (decide (n > (4 : Int))) = false) => ?_)
    ·
      have hc2 := of_decide_eq_true hb2
      refine WC.seq ?_
      refine WC.region ?_
      refine WL.op rfl rfl (op_assign rfl ?_)
      refine WL.op rfl rfl (op_assign rfl ?_)
      refine WL.nil ?_
      refine WQ.next ?_
      refine WC.ret ?_
      refine WQ.inRet ?_
      refine WQ.thenRet ?_
      refine WQ.out (.tmp rfl (.tmp rfl .nil)) ?_
      rw [numS, numE, if_pos (show n < 1 ∨ n > 4 from by omega), if_neg (by decide)]
      exact ⟨rfl, H0.fr⟩
    ·
      have hc2 := of_decide_eq_false hb2
      obtain ⟨m, rfl⟩ : ∃ m : Nat, n = (m : Int) := ⟨n.toNat, by omega⟩
      refine WC.seq ?_
      refine WC.region ?_
      refine WL.op rfl rfl (op_move rfl ?_)
      refine WL.op rfl rfl (op_lssN (b := 4) rfl rfl ?_)
      refine WL.op rfl rfl (op_move rfl ?_)
      refine WL.split (t := 16) rfl (fun (hb3 : (decide (m < 4)) = true) => ?_) (fun (hb3 : (decide (m < 4)) = false) => ?_)
      ·
        have hc3 := of_decide_eq_true hb3
        refine WL.yes rfl rfl rfl hb3 rfl (op_move rfl ?_)
        refine WL.yes rfl rfl rfl hb3 rfl (op_move rfl ?_)
        refine WL.yes rfl rfl rfl hb3 rfl (op_mulN (a := 8) rfl rfl (by omega) ?_)
        refine WL.yes rfl rfl rfl hb3 rfl (op_shrU32 rfl rfl ?_)
        refine WL.yes rfl rfl rfl hb3 rfl (op_neqU32 (b := 0) rfl rfl ?_)
        refine WL.op rfl rfl (op_pickT rfl hb3 rfl ?_)
        refine WL.op rfl rfl (op_assign rfl ?_)
        refine WL.nil ?_
        refine WQ.next ?_
        refine WC.cond rfl (fun (hb4 : (decide ((shrU32 v (8 * m)) ≠ (0 : UInt32))) = true) => ?_) (fun (hb4 : (decide ((shrU32 v (8 * m)) ≠ (0 : UInt32))) = false) => ?_)
        ·
          have hc4 := of_decide_eq_true hb4
          refine WC.seq ?_
          refine WC.region ?_
          refine WL.op rfl rfl (op_assign rfl ?_)
          refine WL.op rfl rfl (op_assign rfl ?_)
          refine WL.nil ?_
          refine WQ.next ?_
          refine WC.ret ?_
          refine WQ.inRet ?_
          refine WQ.thenRet ?_
          refine WQ.out (.tmp rfl (.tmp rfl .nil)) ?_
          rw [numS, numE, if_neg (show ¬ ((m : Int) < 1 ∨ (m : Int) > 4) from by omega), Int.toNat_natCast, if_pos (show rV v m ≠ 0 from by rw [← rV_shr]; exact hc4), if_neg (by decide)]
          exact ⟨rfl, H0.fr⟩
        ·
          have hc4 := of_decide_eq_false hb4
          refine WC.skip ?_
          refine WQ.inNormal ?_
          refine WQ.next ?_
          refine WC.seq ?_
          refine WC.region ?_
          refine WL.op rfl rfl (op_move rfl ?_)
          refine WL.op rfl rfl (op_move rfl ?_)
          refine WL.op rfl rfl (op_callF Fa.C73 rfl ((put_ok v ((m : Nat)) _).mono (fun e w5 hq => ?_)))
          obtain ⟨rfl, hf5⟩ := hq
          refine ⟨_, rfl, ?_⟩
          have H5 := H0.fr' hf5
          refine WL.op rfl rfl (op_extract rfl rfl ?_)
          refine WL.op rfl rfl (op_extract rfl rfl ?_)
          refine WL.op rfl rfl (op_assign rfl ?_)
          refine WL.op rfl rfl (op_assign rfl ?_)
          refine WL.nil ?_
          refine WQ.next ?_
          refine WC.ret ?_
          refine WQ.out (.tmp rfl (.tmp rfl .nil)) ?_
          exact ⟨rfl, H5.fr⟩
      ·
        have hc3 := of_decide_eq_false hb3
        refine WL.no rfl rfl rfl hb3 rfl ?_
        refine WL.no rfl rfl rfl hb3 rfl ?_
        refine WL.no rfl rfl rfl hb3 rfl ?_
        refine WL.no rfl rfl rfl hb3 rfl ?_
        refine WL.no rfl rfl rfl hb3 rfl ?_
        refine WL.op rfl rfl (op_pickF rfl hb3 rfl ?_)
        refine WL.op rfl rfl (op_assign rfl ?_)
        refine WL.nil ?_
        refine WQ.next ?_
        refine WC.no rfl rfl ?_
        refine WC.skip ?_
        refine WQ.inNormal ?_
        refine WQ.next ?_
        refine WC.seq ?_
        refine WC.region ?_
        refine WL.op rfl rfl (op_move rfl ?_)
        refine WL.op rfl rfl (op_move rfl ?_)
        refine WL.op rfl rfl (op_callF Fa.C73 rfl ((put_ok v ((m : Nat)) _).mono (fun e w6 hq => ?_)))
        obtain ⟨rfl, hf6⟩ := hq
        refine ⟨_, rfl, ?_⟩
        have H6 := H0.fr' hf6
        refine WL.op rfl rfl (op_extract rfl rfl ?_)
        refine WL.op rfl rfl (op_extract rfl rfl ?_)
        refine WL.op rfl rfl (op_assign rfl ?_)
        refine WL.op rfl rfl (op_assign rfl ?_)
        refine WL.nil ?_
        refine WQ.next ?_
        refine WC.ret ?_
        refine WQ.out (.tmp rfl (.tmp rfl .nil)) ?_
        exact ⟨rfl, H6.fr⟩
set_option maxRecDepth 100000 in
theorem rnum_ok (v : UInt32) (n : Int) (w : World) :
    Calls Try.prog 18 #[(vU32 v), (vI n)] w (fun e w' => e = .returned (.tuple #[str (numS v n), vN (numE v n)]) ∧ Fr [] w w') := by
  refine enter (args := [(vU32 v), (vI n)]) Try.func18 rfl rfl ?_
  have H0 : Own [] w w [] := Own.start w []
  refine WC.seq ?_
  refine WC.region ?_
  refine WL.op rfl rfl (op_assign rfl ?_)
  refine WL.op rfl rfl (op_assign rfl ?_)
  refine WL.nil ?_
  refine WQ.next ?_
  refine WC.seq ?_
  refine WC.seq ?_
  refine WC.region ?_
  refine WL.op rfl rfl (op_move rfl ?_)
  refine WL.op rfl rfl (op_lssI (b := (1 : Int)) rfl rfl ?_)
  refine WL.op rfl rfl (op_move rfl ?_)
  refine WL.split (t := 10) rfl (fun (hb1 : (decide (n < (1 : Int))) = true) => ?_) (fun (hb1 : (decide (n < (1 : Int))) = false) => ?_)
  ·
    have hc1 := of_decide_eq_true hb1
    refine WL.no rfl rfl rfl hb1 rfl ?_
    refine WL.no rfl rfl rfl hb1 rfl ?_
    refine WL.op rfl rfl (op_pickT rfl hb1 rfl ?_)
    refine WL.nil ?_
    refine WQ.next ?_
    refine WC.yes rfl rfl ?_
    refine WC.seq ?_
    refine WC.region ?_
    refine WL.op rfl rfl (op_assign rfl ?_)
    refine WL.op rfl rfl (op_assign rfl ?_)
    refine WL.nil ?_
    refine WQ.next ?_
    refine WC.ret ?_
    refine WQ.thenRet ?_
    refine WQ.out (.tmp rfl (.tmp rfl .nil)) ?_
    rw [numS, numE, if_pos (show n < 1 ∨ n > 4 from by omega), if_neg (by decide)]
    exact ⟨rfl, H0.fr⟩
  ·
    have hc1 := of_decide_eq_false hb1
    refine WL.yes rfl rfl rfl hb1 rfl (op_move rfl ?_)
    refine WL.yes rfl rfl rfl hb1 rfl (op_gtrI (b := (4 : Int)) rfl rfl ?_)
    refine WL.op rfl rfl (op_pickF rfl hb1 rfl ?_)
    refine WL.nil ?_
    refine WQ.next ?_
    refine WC.cond rfl (fun (hb2 : (decide (n > (4 : Int))) = true) => ?_) (fun (hb2 : (decide (n > (4 : Int))) = false) => ?_)
    ·
      have hc2 := of_decide_eq_true hb2
      refine WC.seq ?_
      refine WC.region ?_
      refine WL.op rfl rfl (op_assign rfl ?_)
      refine WL.op rfl rfl (op_assign rfl ?_)
      refine WL.nil ?_
      refine WQ.next ?_
      refine WC.ret ?_
      refine WQ.thenRet ?_
      refine WQ.out (.tmp rfl (.tmp rfl .nil)) ?_
      rw [numS, numE, if_pos (show n < 1 ∨ n > 4 from by omega), if_neg (by decide)]
      exact ⟨rfl, H0.fr⟩
    ·
      have hc2 := of_decide_eq_false hb2
      obtain ⟨m, rfl⟩ : ∃ m : Nat, n = (m : Int) := ⟨n.toNat, by omega⟩
      refine WC.skip ?_
      refine WQ.next ?_
      refine WC.seq ?_
      refine WC.region ?_
      refine WL.op rfl rfl (op_assign rfl ?_)
      have H3 := H0.nilRow 5 1
      refine WL.nil ?_
      refine WQ.next ?_
      refine WC.seq ?_
      refine WC.seq ?_
      refine WC.region ?_
      refine WL.op rfl rfl (op_assign rfl ?_)
      refine WL.nil ?_
      refine WQ.next ?_
      refine WC.block ?_
      refine WC.loop (α := Nat × Value) (fun (k, q) => [(1, (vN m)), (7, (vN k)), (0, (vU32 (rV v k))), (6, q)]) (fun (k, q) w' => (k ≤ m) ∧ Own [] w w' [.row q 5 1 k (List.map vU8 (rB v k))]) (fun (k, q) => m - k) (0, (.slice none 0 0)) ⟨(by omega), H3⟩ ⟨rfl, rfl, rfl, rfl, trivial⟩ ?_
      rintro ⟨k, q⟩ w4 ⟨hinv, H4⟩
      show WC _ _ _ _ _ [(1, (vN m)), (7, (vN k)), (0, (vU32 (rV v k))), (6, q)] _
      refine WC.seq ?_
      refine WC.seq ?_
      refine WC.region ?_
      refine WL.op rfl rfl (op_move rfl ?_)
      refine WL.op rfl rfl (op_move rfl ?_)
      refine WL.op rfl rfl (op_lssN rfl rfl ?_)
      refine WL.nil ?_
      refine WQ.next ?_
      refine WC.cond rfl (fun (hb5 : (decide (k < m)) = true) => ?_) (fun (hb5 : (decide (k < m)) = false) => ?_)
      ·
        have hc5 := of_decide_eq_true hb5
        refine WC.skip ?_
        refine WQ.next ?_
        refine WC.seq ?_
        refine WC.block ?_
        refine WC.seq ?_
        refine WC.region ?_
        refine WL.op rfl rfl (op_move rfl ?_)
        refine WL.op rfl rfl (op_move rfl ?_)
        refine WL.op rfl rfl (op_remU32 (b := 256) rfl rfl (by decide) ?_)
        refine WL.op rfl rfl (op_convU32U8 (hs := Try.underlying22) (hd := Try.underlying5) rfl ?_)
        refine WL.op rfl rfl (op_buildSlice (cs := [_]) H4 Try.underlying73 Fa.I5 rfl rfl rfl rfl (by decide) (by decide) (fun b6 w6 H6 => ?_))
        refine WL.op rfl rfl (op_appendM (f := vU8) (l := (rB v k)) (l' := [(UInt8.ofNat ((rV v k) % (256 : UInt32)).toNat)]) (i := 0) H6 Try.underlying73 Fa.I5 rfl rfl rfl rfl (Src.ofArr Try.underlying73 (H6.arrR (i := 1) rfl)) (one_mapM (fun _ => rfl)) (by omega) (by omega) (fun v7 w7 H7 => ?_))
        refine WL.op rfl rfl (op_assign rfl ?_)
        refine WL.nil ?_
        refine WQ.next ?_
        refine WC.region ?_
        refine WL.op rfl rfl (op_move rfl ?_)
        refine WL.op rfl rfl (op_quoU32 (b := 256) rfl rfl (by decide) ?_)
        refine WL.op rfl rfl (op_assign rfl ?_)
        refine WL.nil ?_
        refine WQ.inNormal ?_
        refine WQ.next ?_
        refine WC.region ?_
        refine WL.op rfl rfl (op_move rfl ?_)
        refine WL.op rfl rfl (op_addN (b := 1) rfl rfl (by omega) ?_)
        refine WL.op rfl rfl (op_assign rfl ?_)
        refine WL.nil ?_
        exact WQ.round (k + 1, v7) ⟨(by omega), (H7.take 1)⟩ ⟨rfl, rfl, rfl, rfl, trivial⟩ (by show m - (k + 1) < m - k; omega)
      ·
        have hc5 := of_decide_eq_false hb5
        refine WC.exit ?_
        refine WQ.thenExit ?_
        refine WQ.thenExit ?_
        refine WQ.inHere ?_
        refine WQ.next ?_
        refine WC.seq ?_
        refine WC.seq ?_
        refine WC.region ?_
        refine WL.op rfl rfl (op_move rfl ?_)
        refine WL.op rfl rfl (op_neqU32 (b := 0) rfl rfl ?_)
        refine WL.nil ?_
        refine WQ.next ?_
        refine WC.cond rfl (fun (hb8 : (decide ((rV v k) ≠ (0 : UInt32))) = true) => ?_) (fun (hb8 : (decide ((rV v k) ≠ (0 : UInt32))) = false) => ?_)
        ·
          have hc8 := of_decide_eq_true hb8
          refine WC.seq ?_
          refine WC.region ?_
          refine WL.op rfl rfl (op_assign rfl ?_)
          refine WL.op rfl rfl (op_assign rfl ?_)
          refine WL.nil ?_
          refine WQ.next ?_
          refine WC.ret ?_
          refine WQ.thenRet ?_
          refine WQ.out (.tmp rfl (.tmp rfl .nil)) ?_
          have hk : k = m := (by omega)
          subst hk
          rw [numS, numE, if_neg (show ¬ ((k : Int) < 1 ∨ (k : Int) > 4) from by omega), Int.toNat_natCast, if_pos hc8, if_neg (by decide)]
          exact ⟨rfl, H4.fr⟩
        ·
          have hc8 := of_decide_eq_false hb8
          refine WC.skip ?_
          refine WQ.next ?_
          refine WC.seq ?_
          refine WC.region ?_
          refine WL.op rfl rfl (op_move rfl ?_)
          refine WL.op rfl rfl (op_bytesStr (l := (rB v k)) Try.underlying73 Try.underlying5 Try.underlying9 rfl (H4.arrR (i := 0) rfl) rfl ?_)
          refine WL.op rfl rfl (op_assign rfl ?_)
          refine WL.op rfl rfl (op_assign rfl ?_)
          refine WL.nil ?_
          refine WQ.next ?_
          refine WC.ret ?_
          refine WQ.out (.tmp rfl (.tmp rfl .nil)) ?_
          have hk : k = m := (by omega)
          subst hk
          rw [numS, numE, if_neg (show ¬ ((k : Int) < 1 ∨ (k : Int) > 4) from by omega), Int.toNat_natCast, if_neg hc8, if_pos rfl]
          exact ⟨rfl, H4.fr⟩
set_option maxRecDepth 100000 in
theorem ptext_ok (s : List UInt8) (w : World) (hs : s.length < 2 ^ 47) :
    Calls Try.prog 19 #[(str s)] w (fun e w' => e = .returned (.tuple #[str (txS s), vN (txE s)]) ∧ Fr [] w w') := by
  refine enter (args := [(str s)]) Try.func19 rfl rfl ?_
  have H0 : Own [] w w [] := Own.start w []
  have he := numE_2 (n := min s.length 65536) (by omega)
  refine WC.seq ?_
  refine WC.region ?_
  refine WL.op rfl rfl (op_assign rfl ?_)
  refine WL.op rfl rfl (op_assign rfl ?_)
  refine WL.nil ?_
  refine WQ.next ?_
  refine WC.seq ?_
  refine WC.region ?_
  refine WL.op rfl rfl (op_move rfl ?_)
  refine WL.op rfl rfl (op_lenStr Try.underlying9 rfl ?_)
  refine WL.op rfl rfl (op_minN (b := 65536) rfl rfl ?_)
  refine WL.op rfl rfl (op_convNU32 (hs := Try.underlying3) (hd := Try.underlying22) rfl ?_)
  refine WL.op rfl rfl (op_callF Fa.C17 rfl ((num_ok (UInt32.ofNat (min s.length 65536)) (2) _).mono (fun e w1 hq => ?_)))
  obtain ⟨rfl, hf1⟩ := hq
  refine ⟨_, rfl, ?_⟩
  have H1 := H0.fr' hf1
  refine WL.op rfl rfl (op_move rfl ?_)
  refine WL.op rfl rfl (op_extract rfl rfl ?_)
  refine WL.op rfl rfl (op_extract rfl rfl ?_)
  refine WL.op rfl rfl (op_assign rfl ?_)
  refine WL.op rfl rfl (op_assign rfl ?_)
  refine WL.nil ?_
  refine WQ.next ?_
  refine WC.seq ?_
  refine WC.seq ?_
  refine WC.region ?_
  refine WL.op rfl rfl (op_move rfl ?_)
  refine WL.op rfl rfl (op_neqN (b := 0) rfl rfl ?_)
  refine WL.nil ?_
  refine WQ.next ?_
  refine WC.cond rfl (fun (hb2 : (decide ((numE (UInt32.ofNat (min s.length 65536)) 2) ≠ 0)) = true) => ?_) (fun (hb2 : (decide ((numE (UInt32.ofNat (min s.length 65536)) 2) ≠ 0)) = false) => ?_)
  ·
    have hc2 := of_decide_eq_true hb2
    refine WC.seq ?_
    refine WC.region ?_
    refine WL.op rfl rfl (op_move rfl ?_)
    refine WL.op rfl rfl (op_assign rfl ?_)
    refine WL.op rfl rfl (op_assign rfl ?_)
    refine WL.nil ?_
    refine WQ.next ?_
    refine WC.ret ?_
    refine WQ.thenRet ?_
    refine WQ.out (.tmp rfl (.tmp rfl .nil)) ?_
    rw [he] at hc2
    rw [he, txS, txE, if_pos (by split at hc2 <;> omega), if_pos (by split at hc2 <;> omega)]
    exact ⟨by rw [if_pos (by split at hc2 <;> omega)]; rfl, H1.fr⟩
  ·
    have hc2 := of_decide_eq_false hb2
    refine WC.skip ?_
    refine WQ.next ?_
    refine WC.seq ?_
    refine WC.region ?_
    refine WL.op rfl rfl (op_move rfl ?_)
    refine WL.op rfl rfl (op_move rfl ?_)
    refine WL.op rfl rfl (op_addStr rfl rfl (by have := numE_len (UInt32.ofNat (min s.length 65536)) 2; omega) ?_)
    refine WL.op rfl rfl (op_assign rfl ?_)
    refine WL.op rfl rfl (op_assign rfl ?_)
    refine WL.nil ?_
    refine WQ.next ?_
    refine WC.ret ?_
    refine WQ.out (.tmp rfl (.tmp rfl .nil)) ?_
    rw [he] at hc2
    have hl : ¬ s.length > 65535 := by split at hc2 <;> omega
    rw [txS, txE, if_neg hl, if_neg hl, numS, if_pos (by rw [he, if_neg (by omega)]), show min s.length 65536 = s.length from by omega]
    exact ⟨rfl, H1.fr⟩
set_option maxRecDepth 100000 in
theorem rtext_ok (s : List UInt8) (w : World) (hs : s.length < 2 ^ 47) :
    Calls Try.prog 20 #[(str s)] w (fun e w' => e = .returned (.tuple #[str (txS s), vN (txE s)]) ∧ Fr [] w w') := by
  refine enter (args := [(str s)]) Try.func20 rfl rfl ?_
  have H0 : Own [] w w [] := Own.start w []
  refine WC.seq ?_
  refine WC.region ?_
  refine WL.op rfl rfl (op_assign rfl ?_)
  refine WL.op rfl rfl (op_assign rfl ?_)
  refine WL.nil ?_
  refine WQ.next ?_
  refine WC.seq ?_
  refine WC.seq ?_
  refine WC.region ?_
  refine WL.op rfl rfl (op_move rfl ?_)
  refine WL.op rfl rfl (op_lenStr Try.underlying9 rfl ?_)
  refine WL.op rfl rfl (op_gtrN (b := 65535) rfl rfl ?_)
  refine WL.nil ?_
  refine WQ.next ?_
  refine WC.cond rfl (fun (hb1 : (decide (s.length > 65535)) = true) => ?_) (fun (hb1 : (decide (s.length > 65535)) = false) => ?_)
  ·
    have hc1 := of_decide_eq_true hb1
    refine WC.seq ?_
    refine WC.region ?_
    refine WL.op rfl rfl (op_assign rfl ?_)
    refine WL.op rfl rfl (op_assign rfl ?_)
    refine WL.nil ?_
    refine WQ.next ?_
    refine WC.ret ?_
    refine WQ.thenRet ?_
    refine WQ.out (.tmp rfl (.tmp rfl .nil)) ?_
    rw [txS, txE, if_pos hc1, if_pos hc1]
    exact ⟨rfl, H0.fr⟩
  ·
    have hc1 := of_decide_eq_false hb1
    refine WC.skip ?_
    refine WQ.next ?_
    refine WC.seq ?_
    refine WC.region ?_
    refine WL.op rfl rfl (op_move rfl ?_)
    refine WL.op rfl rfl (op_lenStr Try.underlying9 rfl ?_)
    refine WL.op rfl rfl (op_remN (b := 256) rfl rfl (by omega) ?_)
    refine WL.op rfl rfl (op_convNU8 (hs := Try.underlying3) (hd := Try.underlying5) rfl ?_)
    refine WL.op rfl rfl (op_move rfl ?_)
    refine WL.op rfl rfl (op_lenStr Try.underlying9 rfl ?_)
    refine WL.op rfl rfl (op_quoN (b := 256) rfl rfl (by omega) (by omega) ?_)
    refine WL.op rfl rfl (op_convNU8 (hs := Try.underlying3) (hd := Try.underlying5) rfl ?_)
    refine WL.op rfl rfl (op_buildSlice (cs := [_, _]) H0 Try.underlying73 Fa.I5 rfl rfl rfl rfl (by decide) (by decide) (fun b2 w2 H2 => ?_))
    refine WL.op rfl rfl (op_bytesStr (l := [(UInt8.ofNat (s.length % 256)), (UInt8.ofNat (s.length / 256))]) Try.underlying73 Try.underlying5 Try.underlying9 rfl (H2.arrR (i := 0) rfl) rfl ?_)
    refine WL.op rfl rfl (op_move rfl ?_)
    refine WL.op rfl rfl (op_addStr rfl rfl (by simp; omega) ?_)
    refine WL.op rfl rfl (op_assign rfl ?_)
    refine WL.op rfl rfl (op_assign rfl ?_)
    refine WL.nil ?_
    refine WQ.next ?_
    refine WC.ret ?_
    refine WQ.out (.tmp rfl (.tmp rfl .nil)) ?_
    rw [txS, txE, if_neg hc1, if_neg hc1, rB_2 (by omega)]
    exact ⟨rfl, H2.fr⟩
set_option maxRecDepth 100000 in
theorem ptexts_ok (lv : Value) (l : List (List UInt8)) (nl : Nat) (w : World) (hA : Arr w lv 1 nl (List.map str l)) (hb : nl < 2 ^ 40 ∧ (∀ x ∈ l, x.length < 2 ^ 47)) :
    Calls Try.prog 21 #[lv] w (fun e w' => e = .returned (.tuple #[str (tsS l), vN (tsE l)]) ∧ Fr [] w w') := by
  refine enter (args := [lv]) Try.func21 rfl rfl ?_
  have H0 : Own [] w w [] := Own.start w []
  obtain rfl := hA.mapLen
  refine WC.seq ?_
  refine WC.region ?_
  refine WL.op rfl rfl (op_assign rfl ?_)
  refine WL.op rfl rfl (op_assign rfl ?_)
  refine WL.nil ?_
  refine WQ.next ?_
  refine WC.seq ?_
  refine WC.seq ?_
  refine WC.region ?_
  refine WL.op rfl rfl (op_move rfl ?_)
  refine WL.op rfl rfl (op_lenA Try.underlying23 rfl (H0.arr hA) ?_)
  refine WL.op rfl rfl (op_gtrN (b := 4096) rfl rfl ?_)
  refine WL.nil ?_
  refine WQ.next ?_
  refine WC.cond rfl (fun (hb1 : (decide (l.length > 4096)) = true) => ?_) (fun (hb1 : (decide (l.length > 4096)) = false) => ?_)
  ·
    have hc1 := of_decide_eq_true hb1
    refine WC.seq ?_
    refine WC.region ?_
    refine WL.op rfl rfl (op_assign rfl ?_)
    refine WL.op rfl rfl (op_assign rfl ?_)
    refine WL.nil ?_
    refine WQ.next ?_
    refine WC.ret ?_
    refine WQ.thenRet ?_
    refine WQ.out (.tmp rfl (.tmp rfl .nil)) ?_
    rw [tsS, tsE, if_pos hc1, if_neg (by decide)]
    exact ⟨rfl, H0.fr⟩
  ·
    have hc1 := of_decide_eq_false hb1
    refine WC.skip ?_
    refine WQ.next ?_
    refine WC.seq ?_
    refine WC.region ?_
    refine WL.op rfl rfl (op_move rfl ?_)
    refine WL.op rfl rfl (op_lenA Try.underlying23 rfl (H0.arr hA) ?_)
    refine WL.op rfl rfl (op_convNU32 (hs := Try.underlying3) (hd := Try.underlying22) rfl ?_)
    refine WL.op rfl rfl (op_callF Fa.C17 rfl ((num_ok (UInt32.ofNat l.length) (2) _).mono (fun e w2 hq => ?_)))
    obtain ⟨rfl, hf2⟩ := hq
    refine ⟨_, rfl, ?_⟩
    have H2 := H0.fr' hf2
    refine WL.op rfl rfl (op_move rfl ?_)
    refine WL.op rfl rfl (op_extract rfl rfl ?_)
    refine WL.op rfl rfl (op_extract rfl rfl ?_)
    refine WL.op rfl rfl (op_assign rfl ?_)
    refine WL.op rfl rfl (op_assign rfl ?_)
    refine WL.nil ?_
    refine WQ.next ?_
    refine WC.seq ?_
    refine WC.seq ?_
    refine WC.region ?_
    refine WL.op rfl rfl (op_move rfl ?_)
    refine WL.op rfl rfl (op_lenA Try.underlying23 rfl (H2.arr hA) ?_)
    refine WL.op rfl rfl (op_move rfl ?_)
    refine WL.nil ?_
    refine WQ.next ?_
    refine WC.block ?_
    refine WC.loop (α := Nat) (fun k => [(20, lv), (21, (vN l.length)), (4, (str (txsTo l k))), (22, (vN k))]) (fun k w' => (k ≤ l.length ∧ (∀ j, j < k → (l.getD j []).length ≤ 65535)) ∧ Own [] w w' []) (fun k => l.length - k) 0 ⟨⟨Nat.zero_le _, fun j h => by omega⟩, H2⟩ ⟨rfl, rfl, (by rw [txsTo, numS, if_pos (by rw [numE_2 (by omega), if_neg (by omega)])]; rfl), rfl, trivial⟩ ?_
    rintro k w3 ⟨⟨hk1, hok⟩, H3⟩
    show WC _ _ _ _ _ [(20, lv), (21, (vN l.length)), (4, (str (txsTo l k))), (22, (vN k))] _
    have hg := getD_mem47 hb.2 k
    have hl := txsTo_len l k hok
    refine WC.seq ?_
    refine WC.region ?_
    refine WL.op rfl rfl (op_lssN rfl rfl ?_)
    refine WL.nil ?_
    refine WQ.next ?_
    refine WC.seq ?_
    refine WC.cond rfl (fun (hb4 : (decide (k < l.length)) = true) => ?_) (fun (hb4 : (decide (k < l.length)) = false) => ?_)
    ·
      have hc4 := of_decide_eq_true hb4
      refine WC.skip ?_
      refine WQ.next ?_
      refine WC.seq ?_
      refine WC.block ?_
      refine WC.seq ?_
      refine WC.region ?_
      refine WL.op rfl rfl (op_indexAddr1 Try.underlying23 Fa.I9 rfl (H3.arr hA) rfl (by omega) ?_)
      refine WL.op rfl rfl (op_load rfl ((H3.arr hA).at (get_map str [] (Arr.ltM (H3.arr hA) (by omega)))) Try.underlying9 rfl ?_)
      refine WL.op rfl rfl (op_assign rfl ?_)
      refine WL.nil ?_
      refine WQ.next ?_
      refine WC.seq ?_
      refine WC.region ?_
      refine WL.op rfl rfl (op_move rfl ?_)
      refine WL.op rfl rfl (op_callF Fa.C19 rfl ((ptext_ok (l.getD k []) _ (by omega)).mono (fun e w5 hq => ?_)))
      obtain ⟨rfl, hf5⟩ := hq
      refine ⟨_, rfl, ?_⟩
      have H5 := H3.fr' hf5
      refine WL.op rfl rfl (op_move rfl ?_)
      refine WL.op rfl rfl (op_extract rfl rfl ?_)
      refine WL.op rfl rfl (op_extract rfl rfl ?_)
      refine WL.op rfl rfl (op_assign rfl ?_)
      refine WL.op rfl rfl (op_assign rfl ?_)
      refine WL.nil ?_
      refine WQ.next ?_
      refine WC.seq ?_
      refine WC.seq ?_
      refine WC.region ?_
      refine WL.op rfl rfl (op_move rfl ?_)
      refine WL.op rfl rfl (op_neqN (b := 0) rfl rfl ?_)
      refine WL.nil ?_
      refine WQ.next ?_
      refine WC.cond rfl (fun (hb6 : (decide ((txE (l.getD k [])) ≠ 0)) = true) => ?_) (fun (hb6 : (decide ((txE (l.getD k [])) ≠ 0)) = false) => ?_)
      ·
        have hc6 := of_decide_eq_true hb6
        refine WC.seq ?_
        refine WC.region ?_
        refine WL.op rfl rfl (op_move rfl ?_)
        refine WL.op rfl rfl (op_assign rfl ?_)
        refine WL.op rfl rfl (op_assign rfl ?_)
        refine WL.nil ?_
        refine WQ.next ?_
        refine WC.ret ?_
        refine WQ.thenRet ?_
        refine WQ.inRet ?_
        refine WQ.thenRet ?_
        refine WQ.thenRet ?_
        refine WQ.inRet ?_
        refine WQ.thenRet ?_
        refine WQ.out (.tmp rfl (.tmp rfl .nil)) ?_
        rw [tsS, tsE, if_neg (show ¬ l.length > 4096 from by omega), tsBad_out (k := k) (by omega) (txE_1 hc6).1, if_pos rfl, if_neg (by decide), (txE_1 hc6).2]
        exact ⟨rfl, H5.fr⟩
      ·
        have hc6 := of_decide_eq_false hb6
        refine WC.skip ?_
        refine WQ.next ?_
        refine WC.region ?_
        refine WL.op rfl rfl (op_move rfl ?_)
        refine WL.op rfl rfl (op_move rfl ?_)
        refine WL.op rfl rfl (op_addStr rfl rfl (by have := txS_len (l.getD k []); omega) ?_)
        refine WL.op rfl rfl (op_assign rfl ?_)
        refine WL.nil ?_
        refine WQ.inNormal ?_
        refine WQ.next ?_
        refine WC.region ?_
        refine WL.op rfl rfl (op_addN (b := 1) rfl rfl (by omega) ?_)
        refine WL.op rfl rfl (op_move rfl ?_)
        refine WL.nil ?_
        exact WQ.round (k + 1) ⟨⟨by omega, nextP hok (txE_0 (Decidable.not_not.mp hc6))⟩, H5⟩ ⟨rfl, rfl, rfl, rfl, trivial⟩ (by omega)
    ·
      have hc4 := of_decide_eq_false hb4
      refine WC.exit ?_
      refine WQ.thenExit ?_
      refine WQ.thenExit ?_
      refine WQ.inHere ?_
      refine WQ.next ?_
      refine WC.seq ?_
      refine WC.region ?_
      refine WL.op rfl rfl (op_move rfl ?_)
      refine WL.op rfl rfl (op_assign rfl ?_)
      refine WL.op rfl rfl (op_assign rfl ?_)
      refine WL.nil ?_
      refine WQ.next ?_
      refine WC.ret ?_
      refine WQ.out (.tmp rfl (.tmp rfl .nil)) ?_
      have hk : k = l.length := (by omega)
      subst hk
      rw [tsS, tsE, if_neg (show ¬ l.length > 4096 from by omega), tsBad_no hok, if_neg (show ¬ (false = true) from by decide), if_pos rfl]
      exact ⟨rfl, H3.fr⟩
set_option maxRecDepth 100000 in
theorem rtexts_ok (lv : Value) (l : List (List UInt8)) (nl : Nat) (w : World) (hA : Arr w lv 1 nl (List.map str l)) (hb : nl < 2 ^ 40 ∧ (∀ x ∈ l, x.length < 2 ^ 47)) :
    Calls Try.prog 22 #[lv] w (fun e w' => e = .returned (.tuple #[str (tsS l), vN (tsE l)]) ∧ Fr [] w w') := by
  refine enter (args := [lv]) Try.func22 rfl rfl ?_
  have H0 : Own [] w w [] := Own.start w []
  obtain rfl := hA.mapLen
  refine WC.seq ?_
  refine WC.region ?_
  refine WL.op rfl rfl (op_assign rfl ?_)
  refine WL.op rfl rfl (op_assign rfl ?_)
  refine WL.nil ?_
  refine WQ.next ?_
  refine WC.seq ?_
  refine WC.seq ?_
  refine WC.region ?_
  refine WL.op rfl rfl (op_move rfl ?_)
  refine WL.op rfl rfl (op_lenA Try.underlying23 rfl (H0.arr hA) ?_)
  refine WL.op rfl rfl (op_gtrN (b := 4096) rfl rfl ?_)
  refine WL.nil ?_
  refine WQ.next ?_
  refine WC.cond rfl (fun (hb1 : (decide (l.length > 4096)) = true) => ?_) (fun (hb1 : (decide (l.length > 4096)) = false) => ?_)
  ·
    have hc1 := of_decide_eq_true hb1
    refine WC.seq ?_
    refine WC.region ?_
    refine WL.op rfl rfl (op_assign rfl ?_)
    refine WL.op rfl rfl (op_assign rfl ?_)
    refine WL.nil ?_
    refine WQ.next ?_
    refine WC.ret ?_
    refine WQ.thenRet ?_
    refine WQ.out (.tmp rfl (.tmp rfl .nil)) ?_
    rw [tsS, tsE, if_pos hc1, if_neg (by decide)]
    exact ⟨rfl, H0.fr⟩
  ·
    have hc1 := of_decide_eq_false hb1
    refine WC.skip ?_
    refine WQ.next ?_
    refine WC.seq ?_
    refine WC.region ?_
    refine WL.op rfl rfl (op_move rfl ?_)
    refine WL.op rfl rfl (op_lenA Try.underlying23 rfl (H0.arr hA) ?_)
    refine WL.op rfl rfl (op_convNU32 (hs := Try.underlying3) (hd := Try.underlying22) rfl ?_)
    refine WL.op rfl rfl (op_callF Fa.C18 rfl ((rnum_ok (UInt32.ofNat l.length) (2) _).mono (fun e w2 hq => ?_)))
    obtain ⟨rfl, hf2⟩ := hq
    refine ⟨_, rfl, ?_⟩
    have H2 := H0.fr' hf2
    refine WL.op rfl rfl (op_move rfl ?_)
    refine WL.op rfl rfl (op_extract rfl rfl ?_)
    refine WL.op rfl rfl (op_extract rfl rfl ?_)
    refine WL.op rfl rfl (op_assign rfl ?_)
    refine WL.op rfl rfl (op_assign rfl ?_)
    refine WL.nil ?_
    refine WQ.next ?_
    refine WC.seq ?_
    refine WC.seq ?_
    refine WC.region ?_
    refine WL.op rfl rfl (op_assign rfl ?_)
    refine WL.nil ?_
    refine WQ.next ?_
    refine WC.block ?_
    refine WC.loop (α := Nat) (fun k => [(0, lv), (4, (str (txsTo l k))), (6, (vN k))]) (fun k w' => (k ≤ l.length ∧ (∀ j, j < k → (l.getD j []).length ≤ 65535)) ∧ Own [] w w' []) (fun k => l.length - k) 0 ⟨⟨Nat.zero_le _, fun j h => by omega⟩, H2⟩ ⟨rfl, (by rw [txsTo, numS, if_pos (by rw [numE_2 (by omega), if_neg (by omega)])]; rfl), rfl, trivial⟩ ?_
    rintro k w3 ⟨⟨hk1, hok⟩, H3⟩
    show WC _ _ _ _ _ [(0, lv), (4, (str (txsTo l k))), (6, (vN k))] _
    have hg := getD_mem47 hb.2 k
    have hl := txsTo_len l k hok
    refine WC.seq ?_
    refine WC.seq ?_
    refine WC.region ?_
    refine WL.op rfl rfl (op_move rfl ?_)
    refine WL.op rfl rfl (op_move rfl ?_)
    refine WL.op rfl rfl (op_lenA Try.underlying23 rfl (H3.arr hA) ?_)
    refine WL.op rfl rfl (op_lssN rfl rfl ?_)
    refine WL.nil ?_
    refine WQ.next ?_
    refine WC.cond rfl (fun (hb4 : (decide (k < l.length)) = true) => ?_) (fun (hb4 : (decide (k < l.length)) = false) => ?_)
    ·
      have hc4 := of_decide_eq_true hb4
      refine WC.skip ?_
      refine WQ.next ?_
      refine WC.seq ?_
      refine WC.block ?_
      refine WC.seq ?_
      refine WC.region ?_
      refine WL.op rfl rfl (op_move rfl ?_)
      refine WL.op rfl rfl (op_move rfl ?_)
      refine WL.op rfl rfl (op_indexAddr1 Try.underlying23 Fa.I9 rfl (H3.arr hA) rfl (by omega) ?_)
      refine WL.op rfl rfl (op_load rfl ((H3.arr hA).at (get_map str [] (Arr.ltM (H3.arr hA) (by omega)))) Try.underlying9 rfl ?_)
      refine WL.op rfl rfl (op_callF Fa.C20 rfl ((rtext_ok (l.getD k []) _ (by omega)).mono (fun e w5 hq => ?_)))
      obtain ⟨rfl, hf5⟩ := hq
      refine ⟨_, rfl, ?_⟩
      have H5 := H3.fr' hf5
      refine WL.op rfl rfl (op_move rfl ?_)
      refine WL.op rfl rfl (op_extract rfl rfl ?_)
      refine WL.op rfl rfl (op_extract rfl rfl ?_)
      refine WL.op rfl rfl (op_assign rfl ?_)
      refine WL.op rfl rfl (op_assign rfl ?_)
      refine WL.nil ?_
      refine WQ.next ?_
      refine WC.seq ?_
      refine WC.seq ?_
      refine WC.region ?_
      refine WL.op rfl rfl (op_move rfl ?_)
      refine WL.op rfl rfl (op_neqN (b := 0) rfl rfl ?_)
      refine WL.nil ?_
      refine WQ.next ?_
      refine WC.cond rfl (fun (hb6 : (decide ((txE (l.getD k [])) ≠ 0)) = true) => ?_) (fun (hb6 : (decide ((txE (l.getD k [])) ≠ 0)) = false) => ?_)
      ·
        have hc6 := of_decide_eq_true hb6
        refine WC.seq ?_
        refine WC.region ?_
        refine WL.op rfl rfl (op_move rfl ?_)
        refine WL.op rfl rfl (op_assign rfl ?_)
        refine WL.op rfl rfl (op_assign rfl ?_)
        refine WL.nil ?_
        refine WQ.next ?_
        refine WC.ret ?_
        refine WQ.thenRet ?_
        refine WQ.inRet ?_
        refine WQ.thenRet ?_
        refine WQ.thenRet ?_
        refine WQ.inRet ?_
        refine WQ.thenRet ?_
        refine WQ.out (.tmp rfl (.tmp rfl .nil)) ?_
        rw [tsS, tsE, if_neg (show ¬ l.length > 4096 from by omega), tsBad_out (k := k) (by omega) (txE_1 hc6).1, if_pos rfl, if_neg (by decide), (txE_1 hc6).2]
        exact ⟨rfl, H5.fr⟩
      ·
        have hc6 := of_decide_eq_false hb6
        refine WC.skip ?_
        refine WQ.next ?_
        refine WC.region ?_
        refine WL.op rfl rfl (op_move rfl ?_)
        refine WL.op rfl rfl (op_move rfl ?_)
        refine WL.op rfl rfl (op_addStr rfl rfl (by have := txS_len (l.getD k []); omega) ?_)
        refine WL.op rfl rfl (op_assign rfl ?_)
        refine WL.nil ?_
        refine WQ.inNormal ?_
        refine WQ.next ?_
        refine WC.region ?_
        refine WL.op rfl rfl (op_move rfl ?_)
        refine WL.op rfl rfl (op_addN (b := 1) rfl rfl (by omega) ?_)
        refine WL.op rfl rfl (op_assign rfl ?_)
        refine WL.nil ?_
        exact WQ.round (k + 1) ⟨⟨by omega, nextP hok (txE_0 (Decidable.not_not.mp hc6))⟩, H5⟩ ⟨rfl, rfl, rfl, trivial⟩ (by omega)
    ·
      have hc4 := of_decide_eq_false hb4
      refine WC.exit ?_
      refine WQ.thenExit ?_
      refine WQ.thenExit ?_
      refine WQ.inHere ?_
      refine WQ.next ?_
      refine WC.seq ?_
      refine WC.region ?_
      refine WL.op rfl rfl (op_move rfl ?_)
      refine WL.op rfl rfl (op_assign rfl ?_)
      refine WL.op rfl rfl (op_assign rfl ?_)
      refine WL.nil ?_
      refine WQ.next ?_
      refine WC.ret ?_
      refine WQ.out (.tmp rfl (.tmp rfl .nil)) ?_
      have hk : k = l.length := (by omega)
      subst hk
      rw [tsS, tsE, if_neg (show ¬ l.length > 4096 from by omega), tsBad_no hok, if_neg (show ¬ (false = true) from by decide), if_pos rfl]
      exact ⟨rfl, H3.fr⟩
set_option maxRecDepth 100000 in
theorem rdnew_ok (s : List UInt8) (w : World) :
    Calls Try.prog 24 #[(str s)] w (fun e w' => ∃ q, e = .returned (ptr q 0) ∧ Own [] w w' [.blk q [str s, vN 0, vN 0] 107]) := by
  refine enter (args := [(str s)]) Try.func24 rfl rfl ?_
  have H0 : Own [] w w [] := Own.start w []
  refine WC.seq ?_
  refine WC.region ?_
  refine WL.op rfl rfl (op_assign rfl ?_)
  refine WL.nil ?_
  refine WQ.next ?_
  refine WC.seq ?_
  refine WC.region ?_
  refine WL.op rfl rfl (op_move rfl ?_)
  refine WL.op rfl rfl (op_build (cs := [_, _, _]) Fa.I105 Fa.PL105 rfl rfl ?_)
  refine WL.op rfl rfl (op_build (cs := [_, _, _]) Fa.I107 Fa.PL107 rfl rfl ?_)
  refine WL.op rfl rfl (op_box H0 rfl rfl (fun b1 w1 H1 => ?_))
  refine WL.op rfl rfl (op_assign rfl ?_)
  refine WL.nil ?_
  refine WQ.next ?_
  refine WC.ret ?_
  refine WQ.out (.tmp rfl .nil) ?_
  exact ⟨_, rfl, H1⟩
set_option maxRecDepth 100000 in
theorem spoilt_ok (q : Nat) (r : Rd) (x : Nat) (TR : TypeId) (T : List Nat) (w : World) (H : Own T w w [.blk q [(str r.s), (vN r.at_), (vN r.f)] TR]) :
    Calls Try.prog 74 #[(ptr q 0), (vN x)] w (fun e w' => e = .returned (vN x) ∧ Own T w w' [.blk q [str (r.bad x).s, vN (r.bad x).at_, vN (r.bad x).f] TR]) := by
  refine enter (args := [(ptr q 0), (vN x)]) Try.func74 rfl rfl ?_
  refine WC.seq ?_
  refine WC.region ?_
  refine WL.op rfl rfl (op_assign rfl ?_)
  refine WL.nil ?_
  refine WQ.next ?_
  refine WC.seq ?_
  refine WC.region ?_
  refine WL.op rfl rfl (op_move rfl ?_)
  refine WL.op rfl rfl (op_move rfl ?_)
  refine WL.op rfl rfl (op_nilCheck rfl ?_)
  refine WL.op rfl rfl (op_fieldAddr rfl Fa.F105_2 ?_)
  refine WL.op rfl rfl (op_storeB (i := 0) H rfl rfl rfl rfl rfl Fa.I26 (fun w1 H1 => ?_))
  refine WL.nil ?_
  refine WQ.next ?_
  refine WC.seq ?_
  refine WC.region ?_
  refine WL.op rfl rfl (op_move rfl ?_)
  refine WL.op rfl rfl (op_assign rfl ?_)
  refine WL.nil ?_
  refine WQ.next ?_
  refine WC.ret ?_
  refine WQ.out (.tmp rfl .nil) ?_
  exact ⟨rfl, H1⟩
set_option maxRecDepth 100000 in
theorem left_ok (q : Nat) (r : Rd) (w : World) (hQ : cellsAt w q [(str r.s), (vN r.at_), (vN r.f)]) (hr : r.s.length < 2 ^ 47) :
    Calls Try.prog 77 #[(ptr q 0)] w (fun e w' => e = .returned (vN (r.s.length - r.at_)) ∧ Fr [] w w') := by
  refine enter (args := [(ptr q 0)]) Try.func77 rfl rfl ?_
  have H0 : Own [] w w [Ent.bo q [(str r.s), (vN r.at_), (vN r.f)]] := ((Own.start w []).oldB hQ)
  have hrh := r.h
  refine WC.seq ?_
  refine WC.region ?_
  refine WL.op rfl rfl (op_assign rfl ?_)
  refine WL.nil ?_
  refine WQ.next ?_
  refine WC.seq ?_
  refine WC.draw 11 Fa.M H0 (HW.op rfl (fun w1 H1 => op_move rfl ⟨rfl, Fr.refl _ _⟩) (HW.op rfl (fun w1 H1 => op_nilCheck rfl ⟨rfl, Fr.refl _ _⟩) (HW.op rfl (fun w1 H1 => op_fieldAddr rfl Fa.F105_0 ⟨rfl, Fr.refl _ _⟩) (HW.op rfl (fun w1 H1 => op_load rfl (H1.cellO (i := 0) rfl rfl) Try.underlying9 rfl ⟨rfl, Fr.refl _ _⟩) (HW.op rfl (fun w1 H1 => op_lenStr Try.underlying9 rfl ⟨rfl, Fr.refl _ _⟩) (HW.op rfl (fun w1 H1 => op_move rfl ⟨rfl, Fr.refl _ _⟩) (HW.op rfl (fun w1 H1 => op_nilCheck rfl ⟨rfl, Fr.refl _ _⟩) (HW.op rfl (fun w1 H1 => op_fieldAddr rfl Fa.F105_1 ⟨rfl, Fr.refl _ _⟩) (HW.op rfl (fun w1 H1 => op_load rfl (H1.cellO (i := 0) rfl rfl) Try.underlying3 rfl ⟨rfl, Fr.refl _ _⟩) (HW.op rfl (fun w1 H1 => op_subN rfl rfl (by omega) (by omega) ⟨rfl, Fr.refl _ _⟩) (HW.op rfl (fun w1 H1 => op_assign rfl ⟨rfl, Fr.refl _ _⟩)  HW.nil))))))))))) (by kernel_rfl) ?_
  intro β1 w1 H1
  refine WL.nil ?_
  refine WQ.next ?_
  refine WC.ret ?_
  refine WQ.out (.tmp rfl .nil) ?_
  exact ⟨rfl, H1.fr⟩
set_option maxRecDepth 100000 in
theorem fault_ok (q : Nat) (r : Rd) (w : World) (hQ : cellsAt w q [(str r.s), (vN r.at_), (vN r.f)]) :
    Calls Try.prog 36 #[(ptr q 0)] w (fun e w' => e = .returned (vN r.f) ∧ Fr [] w w') := by
  refine enter (args := [(ptr q 0)]) Try.func36 rfl rfl ?_
  have H0 : Own [] w w [Ent.bo q [(str r.s), (vN r.at_), (vN r.f)]] := ((Own.start w []).oldB hQ)
  refine WC.seq ?_
  refine WC.region ?_
  refine WL.op rfl rfl (op_assign rfl ?_)
  refine WL.nil ?_
  refine WQ.next ?_
  refine WC.seq ?_
  refine WC.seq ?_
  refine WC.region ?_
  refine WL.op rfl rfl (op_move rfl ?_)
  refine WL.op rfl rfl (op_eqlPN Fa.PT34 rfl rfl ?_)
  refine WL.nil ?_
  refine WQ.next ?_
  refine WC.no rfl rfl ?_
  refine WC.skip ?_
  refine WQ.next ?_
  refine WC.seq ?_
  refine WC.region ?_
  refine WL.op rfl rfl (op_move rfl ?_)
  refine WL.op rfl rfl (op_nilCheck rfl ?_)
  refine WL.op rfl rfl (op_fieldAddr rfl Fa.F107_0 ?_)
  refine WL.op rfl rfl (op_fieldAddr rfl Fa.F105_2 ?_)
  refine WL.op rfl rfl (op_load rfl (H0.cellO (i := 0) rfl rfl) Try.underlying26 rfl ?_)
  refine WL.op rfl rfl (op_assign rfl ?_)
  refine WL.nil ?_
  refine WQ.next ?_
  refine WC.ret ?_
  refine WQ.out (.tmp rfl .nil) ?_
  exact ⟨rfl, H0.fr⟩
set_option maxRecDepth 100000 in
theorem rleft_ok (q : Nat) (r : Rd) (w : World) (hQ : cellsAt w q [(str r.s), (vN r.at_), (vN r.f)]) (hr : r.s.length < 2 ^ 47) :
    Calls Try.prog 28 #[(ptr q 0)] w (fun e w' => e = .returned (vN (r.s.length - r.at_)) ∧ Fr [] w w') := by
  refine enter (args := [(ptr q 0)]) Try.func28 rfl rfl ?_
  have H0 : Own [] w w [Ent.bo q [(str r.s), (vN r.at_), (vN r.f)]] := ((Own.start w []).oldB hQ)
  refine WC.seq ?_
  refine WC.region ?_
  refine WL.op rfl rfl (op_assign rfl ?_)
  refine WL.nil ?_
  refine WQ.next ?_
  refine WC.seq ?_
  refine WC.seq ?_
  refine WC.region ?_
  refine WL.op rfl rfl (op_move rfl ?_)
  refine WL.op rfl rfl (op_eqlPN Fa.PT34 rfl rfl ?_)
  refine WL.nil ?_
  refine WQ.next ?_
  refine WC.no rfl rfl ?_
  refine WC.skip ?_
  refine WQ.next ?_
  refine WC.seq ?_
  refine WC.region ?_
  refine WL.op rfl rfl (op_move rfl ?_)
  refine WL.op rfl rfl (op_nilCheck rfl ?_)
  refine WL.op rfl rfl (op_fieldAddr rfl Fa.F107_0 ?_)
  refine WL.op rfl rfl (op_callF Fa.C77 rfl ((left_ok q r _ (H0.cellsAtO (i := 0) rfl) hr).mono (fun e w1 hq => ?_)))
  obtain ⟨rfl, hf1⟩ := hq
  refine ⟨_, rfl, ?_⟩
  have H1 := H0.fr' hf1
  refine WL.op rfl rfl (op_assign rfl ?_)
  refine WL.nil ?_
  refine WQ.next ?_
  refine WC.ret ?_
  refine WQ.out (.tmp rfl .nil) ?_
  exact ⟨rfl, H1.fr⟩
set_option maxRecDepth 100000 in
theorem rtake_ok (q : Nat) (r : Rd) (n : Nat) (TR : TypeId) (T : List Nat) (w : World) (H : Own T w w [.blk q [(str r.s), (vN r.at_), (vN r.f)] TR]) (hr : r.s.length < 2 ^ 47) :
    Calls Try.prog 75 #[(ptr q 0), (vN n)] w (fun e w' => e = .returned (.tuple #[str (rawR r n).1.1, vN (rawR r n).1.2]) ∧ Own T w w' [.blk q [str (rawR r n).2.s, vN (rawR r n).2.at_, vN (rawR r n).2.f] TR]) := by
  refine enter (args := [(ptr q 0), (vN n)]) Try.func75 rfl rfl ?_
  have hrh := r.h
  refine WC.seq ?_
  refine WC.region ?_
  refine WL.op rfl rfl (op_assign rfl ?_)
  refine WL.op rfl rfl (op_assign rfl ?_)
  refine WL.nil ?_
  refine WQ.next ?_
  refine WC.seq ?_
  refine WC.seq ?_
  refine WC.region ?_
  refine WL.op rfl rfl (op_move rfl ?_)
  refine WL.op rfl rfl (op_move rfl ?_)
  refine WL.op rfl rfl (op_callF Fa.C77 rfl ((left_ok q r _ (H.cellsAt (i := 0) rfl) (by first | assumption | omega)).mono (fun e w1 hq => ?_)))
  obtain ⟨rfl, hf1⟩ := hq
  refine ⟨_, rfl, ?_⟩
  have H1 := H.fr' hf1
  refine WL.op rfl rfl (op_gtrN rfl rfl ?_)
  refine WL.nil ?_
  refine WQ.next ?_
  refine WC.cond rfl (fun (hb2 : (decide (n > (r.s.length - r.at_))) = true) => ?_) (fun (hb2 : (decide (n > (r.s.length - r.at_))) = false) => ?_)
  ·
    have hc2 := of_decide_eq_true hb2
    refine WC.seq ?_
    refine WC.region ?_
    refine WL.op rfl rfl (op_move rfl ?_)
    refine WL.op rfl rfl (op_callF Fa.C74 rfl ((spoilt_ok q r 6 TR _ _ (H1.part [0] rfl rfl)).mono (fun e w3 hq => ?_)))
    obtain ⟨rfl, hq3⟩ := hq
    refine ⟨_, rfl, ?_⟩
    have H3 : Own T w w3 [.blk q [(str (r.bad 6).s), (vN (r.bad 6).at_), (vN (r.bad 6).f)] TR] := H1.splice [0] [.blk q [(str (r.bad 6).s), (vN (r.bad 6).at_), (vN (r.bad 6).f)] TR] [] rfl rfl hq3 (Fits.solid True.intro Fits.nil)
    refine WL.op rfl rfl (op_assign rfl ?_)
    refine WL.op rfl rfl (op_assign rfl ?_)
    refine WL.nil ?_
    refine WQ.next ?_
    refine WC.ret ?_
    refine WQ.thenRet ?_
    refine WQ.out (.tmp rfl (.tmp rfl .nil)) ?_
    rw [rawR_1 hc2]
    exact ⟨rfl, H3⟩
  ·
    have hc2 := of_decide_eq_false hb2
    refine WC.skip ?_
    refine WQ.next ?_
    refine WC.seq ?_
    refine WC.region ?_
    refine WL.op rfl rfl (op_move rfl ?_)
    refine WL.op rfl rfl (op_nilCheck rfl ?_)
    refine WL.op rfl rfl (op_fieldAddr rfl Fa.F105_1 ?_)
    refine WL.op rfl rfl (op_load rfl (H1.cell (i := 0) rfl rfl) Try.underlying3 rfl ?_)
    refine WL.op rfl rfl (op_move rfl ?_)
    refine WL.op rfl rfl (op_addN rfl rfl (by omega) ?_)
    refine WL.op rfl rfl (op_nilCheck rfl ?_)
    refine WL.op rfl rfl (op_fieldAddr rfl Fa.F105_1 ?_)
    refine WL.op rfl rfl (op_storeB (i := 0) H1 rfl rfl rfl rfl rfl Fa.I3 (fun w4 H4 => ?_))
    refine WL.nil ?_
    refine WQ.next ?_
    refine WC.seq ?_
    refine WC.draw 17 Fa.M H4 (HW.op rfl (fun w1 H1 => op_move rfl ⟨rfl, Fr.refl _ _⟩) (HW.op rfl (fun w1 H1 => op_nilCheck rfl ⟨rfl, Fr.refl _ _⟩) (HW.op rfl (fun w1 H1 => op_fieldAddr rfl Fa.F105_0 ⟨rfl, Fr.refl _ _⟩) (HW.op rfl (fun w1 H1 => op_load rfl (H1.cell (i := 0) rfl rfl) Try.underlying9 rfl ⟨rfl, Fr.refl _ _⟩) (HW.op rfl (fun w1 H1 => op_move rfl ⟨rfl, Fr.refl _ _⟩) (HW.op rfl (fun w1 H1 => op_nilCheck rfl ⟨rfl, Fr.refl _ _⟩) (HW.op rfl (fun w1 H1 => op_fieldAddr rfl Fa.F105_1 ⟨rfl, Fr.refl _ _⟩) (HW.op rfl (fun w1 H1 => op_load rfl (H1.cell (i := 0) rfl rfl) Try.underlying3 rfl ⟨rfl, Fr.refl _ _⟩) (HW.op rfl (fun w1 H1 => op_move rfl ⟨rfl, Fr.refl _ _⟩) (HW.op rfl (fun w1 H1 => op_subN rfl rfl (by omega) (by omega) ⟨rfl, Fr.refl _ _⟩) (HW.op rfl (fun w1 H1 => op_move rfl ⟨rfl, Fr.refl _ _⟩) (HW.op rfl (fun w1 H1 => op_nilCheck rfl ⟨rfl, Fr.refl _ _⟩) (HW.op rfl (fun w1 H1 => op_fieldAddr rfl Fa.F105_1 ⟨rfl, Fr.refl _ _⟩) (HW.op rfl (fun w1 H1 => op_load rfl (H1.cell (i := 0) rfl rfl) Try.underlying3 rfl ⟨rfl, Fr.refl _ _⟩) (HW.op rfl (fun w1 H1 => op_sliceStr Try.underlying9 rfl rfl rfl (by omega) (by omega) ⟨rfl, Fr.refl _ _⟩) (HW.op rfl (fun w1 H1 => op_assign rfl ⟨rfl, Fr.refl _ _⟩) (HW.op rfl (fun w1 H1 => op_assign rfl ⟨rfl, Fr.refl _ _⟩)  HW.nil))))))))))))))))) (by kernel_rfl) ?_
    intro β5 w5 H5
    refine WL.nil ?_
    refine WQ.next ?_
    refine WC.ret ?_
    refine WQ.out (.tmp rfl (.tmp rfl .nil)) ?_
    rw [rawR_2 hc2]
    exact ⟨by show _ = Ending.returned (.tuple #[str ((r.s.drop r.at_).take n), vN 0]); rw [show r.at_ + n - n = r.at_ from by omega, show r.at_ + n - r.at_ = n from by omega]; rfl, H5⟩
set_option maxRecDepth 100000 in
theorem take_ok (q : Nat) (r : Rd) (n : Int) (TR : TypeId) (T : List Nat) (w : World) (H : Own T w w [.blk q [(str r.s), (vN r.at_), (vN r.f)] TR]) (hr : r.s.length < 2 ^ 47) :
    Calls Try.prog 30 #[(ptr q 0), (vI n)] w (fun e w' => e = .returned (.tuple #[str (takeR r n).1.1, vN (takeR r n).1.2]) ∧ Own T w w' [.blk q [str (takeR r n).2.s, vN (takeR r n).2.at_, vN (takeR r n).2.f] TR]) := by
  refine enter (args := [(ptr q 0), (vI n)]) Try.func30 rfl rfl ?_
  refine WC.seq ?_
  refine WC.region ?_
  refine WL.op rfl rfl (op_assign rfl ?_)
  refine WL.op rfl rfl (op_assign rfl ?_)
  refine WL.nil ?_
  refine WQ.next ?_
  refine WC.seq ?_
  refine WC.seq ?_
  refine WC.region ?_
  refine WL.op rfl rfl (op_move rfl ?_)
  refine WL.op rfl rfl (op_callF Fa.C36 rfl ((fault_ok q r _ (H.cellsAt (i := 0) rfl)).mono (fun e w1 hq => ?_)))
  obtain ⟨rfl, hf1⟩ := hq
  refine ⟨_, rfl, ?_⟩
  have H1 := H.fr' hf1
  refine WL.op rfl rfl (op_assign rfl ?_)
  refine WL.nil ?_
  refine WQ.next ?_
  refine WC.seq ?_
  refine WC.region ?_
  refine WL.op rfl rfl (op_move rfl ?_)
  refine WL.op rfl rfl (op_neqN (b := 0) rfl rfl ?_)
  refine WL.nil ?_
  refine WQ.next ?_
  refine WC.cond rfl (fun (hb2 : (decide (r.f ≠ 0)) = true) => ?_) (fun (hb2 : (decide (r.f ≠ 0)) = false) => ?_)
  ·
    have hc2 := of_decide_eq_true hb2
    refine WC.seq ?_
    refine WC.region ?_
    refine WL.op rfl rfl (op_move rfl ?_)
    refine WL.op rfl rfl (op_assign rfl ?_)
    refine WL.op rfl rfl (op_assign rfl ?_)
    refine WL.nil ?_
    refine WQ.next ?_
    refine WC.ret ?_
    refine WQ.thenRet ?_
    refine WQ.out (.tmp rfl (.tmp rfl .nil)) ?_
    rw [takeR, if_pos hc2]
    exact ⟨rfl, H1⟩
  ·
    have hc2 := of_decide_eq_false hb2
    refine WC.skip ?_
    refine WQ.next ?_
    refine WC.seq ?_
    refine WC.seq ?_
    refine WC.region ?_
    refine WL.op rfl rfl (op_move rfl ?_)
    refine WL.op rfl rfl (op_lssI (b := (0 : Int)) rfl rfl ?_)
    refine WL.nil ?_
    refine WQ.next ?_
    refine WC.cond rfl (fun (hb3 : (decide (n < (0 : Int))) = true) => ?_) (fun (hb3 : (decide (n < (0 : Int))) = false) => ?_)
    ·
      have hc3 := of_decide_eq_true hb3
      refine WC.seq ?_
      refine WC.region ?_
      refine WL.op rfl rfl (op_move rfl ?_)
      refine WL.op rfl rfl (op_nilCheck rfl ?_)
      refine WL.op rfl rfl (op_fieldAddr rfl Fa.F107_0 ?_)
      refine WL.op rfl rfl (op_callF Fa.C74 rfl ((spoilt_ok q r 2 TR _ _ (H1.part [0] rfl rfl)).mono (fun e w4 hq => ?_)))
      obtain ⟨rfl, hq4⟩ := hq
      refine ⟨_, rfl, ?_⟩
      have H4 : Own T w w4 [.blk q [(str (r.bad 2).s), (vN (r.bad 2).at_), (vN (r.bad 2).f)] TR] := H1.splice [0] [.blk q [(str (r.bad 2).s), (vN (r.bad 2).at_), (vN (r.bad 2).f)] TR] [] rfl rfl hq4 (Fits.solid True.intro Fits.nil)
      refine WL.op rfl rfl (op_assign rfl ?_)
      refine WL.op rfl rfl (op_assign rfl ?_)
      refine WL.nil ?_
      refine WQ.next ?_
      refine WC.ret ?_
      refine WQ.thenRet ?_
      refine WQ.out (.tmp rfl (.tmp rfl .nil)) ?_
      rw [takeR, if_neg hc2, if_pos hc3]
      exact ⟨rfl, H4⟩
    ·
      have hc3 := of_decide_eq_false hb3
      obtain ⟨m, rfl⟩ : ∃ m : Nat, n = (m : Int) := ⟨n.toNat, by omega⟩
      refine WC.skip ?_
      refine WQ.next ?_
      refine WC.seq ?_
      refine WC.region ?_
      refine WL.op rfl rfl (op_move rfl ?_)
      refine WL.op rfl rfl (op_nilCheck rfl ?_)
      refine WL.op rfl rfl (op_fieldAddr rfl Fa.F107_0 ?_)
      refine WL.op rfl rfl (op_move rfl ?_)
      refine WL.op rfl rfl (op_callF Fa.C75 rfl ((rtake_ok q r ((m : Nat)) TR _ _ (H1.part [0] rfl rfl) (by first | assumption | omega)).mono (fun e w5 hq => ?_)))
      obtain ⟨rfl, hq5⟩ := hq
      refine ⟨_, rfl, ?_⟩
      have H5 : Own T w w5 [.blk q [(str ((rawR r (m : Nat)).2).s), (vN ((rawR r (m : Nat)).2).at_), (vN ((rawR r (m : Nat)).2).f)] TR] := H1.splice [0] [.blk q [(str ((rawR r (m : Nat)).2).s), (vN ((rawR r (m : Nat)).2).at_), (vN ((rawR r (m : Nat)).2).f)] TR] [] rfl rfl hq5 (Fits.solid True.intro Fits.nil)
      refine WL.op rfl rfl (op_extract rfl rfl ?_)
      refine WL.op rfl rfl (op_extract rfl rfl ?_)
      refine WL.op rfl rfl (op_assign rfl ?_)
      refine WL.op rfl rfl (op_assign rfl ?_)
      refine WL.nil ?_
      refine WQ.next ?_
      refine WC.ret ?_
      refine WQ.out (.tmp rfl (.tmp rfl .nil)) ?_
      rw [takeR, if_neg hc2, if_neg (show ¬ ((m : Int) < 0) from by omega), Int.toNat_natCast]
      exact ⟨rfl, H5⟩
set_option maxRecDepth 100000 in
theorem rdnum_ok (q : Nat) (r : Rd) (n : Int) (TR : TypeId) (T : List Nat) (w : World) (H : Own T w w [.blk q [(str r.s), (vN r.at_), (vN r.f)] TR]) (hr : r.s.length < 2 ^ 47) :
    Calls Try.prog 25 #[(ptr q 0), (vI n)] w (fun e w' => e = .returned (.tuple #[vU32 (numR r n).1.1, vN (numR r n).1.2]) ∧ Own T w w' [.blk q [str (numR r n).2.s, vN (numR r n).2.at_, vN (numR r n).2.f] TR]) := by
  refine enter (args := [(ptr q 0), (vI n)]) Try.func25 rfl rfl ?_
  refine WC.seq ?_
  refine WC.region ?_
  refine WL.op rfl rfl (op_assign rfl ?_)
  refine WL.op rfl rfl (op_assign rfl ?_)
  refine WL.nil ?_
  refine WQ.next ?_
  refine WC.seq ?_
  refine WC.seq ?_
  refine WC.region ?_
  refine WL.op rfl rfl (op_move rfl ?_)
  refine WL.op rfl rfl (op_callF Fa.C36 rfl ((fault_ok q r _ (H.cellsAt (i := 0) rfl)).mono (fun e w1 hq => ?_)))
  obtain ⟨rfl, hf1⟩ := hq
  refine ⟨_, rfl, ?_⟩
  have H1 := H.fr' hf1
  refine WL.op rfl rfl (op_assign rfl ?_)
  refine WL.nil ?_
  refine WQ.next ?_
  refine WC.seq ?_
  refine WC.region ?_
  refine WL.op rfl rfl (op_move rfl ?_)
  refine WL.op rfl rfl (op_neqN (b := 0) rfl rfl ?_)
  refine WL.nil ?_
  refine WQ.next ?_
  refine WC.cond rfl (fun (hb2 : (decide (r.f ≠ 0)) = true) => ?_) (fun (hb2 : (decide (r.f ≠ 0)) = false) => ?_)
  ·
    have hc2 := of_decide_eq_true hb2
    refine WC.seq ?_
    refine WC.region ?_
    refine WL.op rfl rfl (op_move rfl ?_)
    refine WL.op rfl rfl (op_assign rfl ?_)
    refine WL.op rfl rfl (op_assign rfl ?_)
    refine WL.nil ?_
    refine WQ.next ?_
    refine WC.ret ?_
    refine WQ.thenRet ?_
    refine WQ.out (.tmp rfl (.tmp rfl .nil)) ?_
    rw [numR, if_pos hc2]
    exact ⟨rfl, H1⟩
  ·
    have hc2 := of_decide_eq_false hb2
    refine WC.skip ?_
    refine WQ.next ?_
    refine WC.seq ?_
    refine WC.seq ?_
    refine WC.region ?_
    refine WL.op rfl rfl (op_move rfl ?_)
    refine WL.op rfl rfl (op_lssI (b := (1 : Int)) rfl rfl ?_)
    refine WL.op rfl rfl (op_move rfl ?_)
    refine WL.split (t := 16) rfl (fun (hb3 : (decide (n < (1 : Int))) = true) => ?_) (fun (hb3 : (decide (n < (1 : Int))) = false) => ?_)
    ·
      have hc3 := of_decide_eq_true hb3
      refine WL.no rfl rfl rfl hb3 rfl ?_
      refine WL.no rfl rfl rfl hb3 rfl ?_
      refine WL.op rfl rfl (op_pickT rfl hb3 rfl ?_)
      refine WL.nil ?_
      refine WQ.next ?_
      refine WC.yes rfl rfl ?_
      refine WC.seq ?_
      refine WC.region ?_
      refine WL.op rfl rfl (op_move rfl ?_)
      refine WL.op rfl rfl (op_nilCheck rfl ?_)
      refine WL.op rfl rfl (op_fieldAddr rfl Fa.F107_0 ?_)
      refine WL.op rfl rfl (op_callF Fa.C74 rfl ((spoilt_ok q r 2 TR _ _ (H1.part [0] rfl rfl)).mono (fun e w4 hq => ?_)))
      obtain ⟨rfl, hq4⟩ := hq
      refine ⟨_, rfl, ?_⟩
      have H4 : Own T w w4 [.blk q [(str (r.bad 2).s), (vN (r.bad 2).at_), (vN (r.bad 2).f)] TR] := H1.splice [0] [.blk q [(str (r.bad 2).s), (vN (r.bad 2).at_), (vN (r.bad 2).f)] TR] [] rfl rfl hq4 (Fits.solid True.intro Fits.nil)
      refine WL.op rfl rfl (op_assign rfl ?_)
      refine WL.op rfl rfl (op_assign rfl ?_)
      refine WL.nil ?_
      refine WQ.next ?_
      refine WC.ret ?_
      refine WQ.thenRet ?_
      refine WQ.out (.tmp rfl (.tmp rfl .nil)) ?_
      rw [numR, if_neg hc2, if_pos (show n < 1 ∨ n > 4 from by omega)]
      exact ⟨rfl, H4⟩
    ·
      have hc3 := of_decide_eq_false hb3
      refine WL.yes rfl rfl rfl hb3 rfl (op_move rfl ?_)
      refine WL.yes rfl rfl rfl hb3 rfl (op_gtrI (b := (4 : Int)) rfl rfl ?_)
      refine WL.op rfl rfl (op_pickF rfl hb3 rfl ?_)
      refine WL.nil ?_
      refine WQ.next ?_
      refine WC.cond rfl (fun (hb5 : (decide (n > (4 : Int))) = true) => ?_) (fun (hb5 : (decide (n > (4 : Int))) = false) => ?_)
      ·
        have hc5 := of_decide_eq_true hb5
        refine WC.seq ?_
        refine WC.region ?_
        refine WL.op rfl rfl (op_move rfl ?_)
        refine WL.op rfl rfl (op_nilCheck rfl ?_)
        refine WL.op rfl rfl (op_fieldAddr rfl Fa.F107_0 ?_)
        refine WL.op rfl rfl (op_callF Fa.C74 rfl ((spoilt_ok q r 2 TR _ _ (H1.part [0] rfl rfl)).mono (fun e w6 hq => ?_)))
        obtain ⟨rfl, hq6⟩ := hq
        refine ⟨_, rfl, ?_⟩
        have H6 : Own T w w6 [.blk q [(str (r.bad 2).s), (vN (r.bad 2).at_), (vN (r.bad 2).f)] TR] := H1.splice [0] [.blk q [(str (r.bad 2).s), (vN (r.bad 2).at_), (vN (r.bad 2).f)] TR] [] rfl rfl hq6 (Fits.solid True.intro Fits.nil)
        refine WL.op rfl rfl (op_assign rfl ?_)
        refine WL.op rfl rfl (op_assign rfl ?_)
        refine WL.nil ?_
        refine WQ.next ?_
        refine WC.ret ?_
        refine WQ.thenRet ?_
        refine WQ.out (.tmp rfl (.tmp rfl .nil)) ?_
        rw [numR, if_neg hc2, if_pos (show n < 1 ∨ n > 4 from by omega)]
        exact ⟨rfl, H6⟩
      ·
        have hc5 := of_decide_eq_false hb5
        obtain ⟨m, rfl⟩ : ∃ m : Nat, n = (m : Int) := ⟨n.toNat, by omega⟩
        refine WC.skip ?_
        refine WQ.next ?_
        refine WC.seq ?_
        refine WC.region ?_
        refine WL.op rfl rfl (op_move rfl ?_)
        refine WL.op rfl rfl (op_nilCheck rfl ?_)
        refine WL.op rfl rfl (op_fieldAddr rfl Fa.F107_0 ?_)
        refine WL.op rfl rfl (op_move rfl ?_)
        refine WL.op rfl rfl (op_callF Fa.C75 rfl ((rtake_ok q r ((m : Nat)) TR _ _ (H1.part [0] rfl rfl) (by first | assumption | omega)).mono (fun e w7 hq => ?_)))
        obtain ⟨rfl, hq7⟩ := hq
        refine ⟨_, rfl, ?_⟩
        have H7 : Own T w w7 [.blk q [(str ((rawR r (m : Nat)).2).s), (vN ((rawR r (m : Nat)).2).at_), (vN ((rawR r (m : Nat)).2).f)] TR] := H1.splice [0] [.blk q [(str ((rawR r (m : Nat)).2).s), (vN ((rawR r (m : Nat)).2).at_), (vN ((rawR r (m : Nat)).2).f)] TR] [] rfl rfl hq7 (Fits.solid True.intro Fits.nil)
        refine WL.op rfl rfl (op_move rfl ?_)
        refine WL.op rfl rfl (op_extract rfl rfl ?_)
        refine WL.op rfl rfl (op_extract rfl rfl ?_)
        refine WL.op rfl rfl (op_assign rfl ?_)
        refine WL.op rfl rfl (op_assign rfl ?_)
        refine WL.nil ?_
        refine WQ.next ?_
        refine WC.seq ?_
        refine WC.seq ?_
        refine WC.region ?_
        refine WL.op rfl rfl (op_move rfl ?_)
        refine WL.op rfl rfl (op_neqN (b := 0) rfl rfl ?_)
        refine WL.nil ?_
        refine WQ.next ?_
        refine WC.cond rfl (fun (hb8 : (decide ((rawR r (m : Nat)).1.2 ≠ 0)) = true) => ?_) (fun (hb8 : (decide ((rawR r (m : Nat)).1.2 ≠ 0)) = false) => ?_)
        ·
          have hc8 := of_decide_eq_true hb8
          refine WC.seq ?_
          refine WC.region ?_
          refine WL.op rfl rfl (op_move rfl ?_)
          refine WL.op rfl rfl (op_assign rfl ?_)
          refine WL.op rfl rfl (op_assign rfl ?_)
          refine WL.nil ?_
          refine WQ.next ?_
          refine WC.ret ?_
          refine WQ.thenRet ?_
          refine WQ.out (.tmp rfl (.tmp rfl .nil)) ?_
          rw [numR, if_neg hc2, if_neg (show ¬ ((m : Int) < 1 ∨ (m : Int) > 4) from by omega), Int.toNat_natCast, if_pos hc8]
          exact ⟨rfl, H7⟩
        ·
          have hc8 := of_decide_eq_false hb8
          refine WC.skip ?_
          refine WQ.next ?_
          refine WC.seq ?_
          refine WC.region ?_
          refine WL.op rfl rfl (op_move rfl ?_)
          refine WL.op rfl rfl (op_callF Fa.C76 rfl ((get_ok ((rawR r (m : Nat)).1.1) _).mono (fun e w9 hq => ?_)))
          obtain ⟨rfl, hf9⟩ := hq
          refine ⟨_, rfl, ?_⟩
          have H9 := H7.fr' hf9
          refine WL.op rfl rfl (op_extract rfl rfl ?_)
          refine WL.op rfl rfl (op_extract rfl rfl ?_)
          refine WL.op rfl rfl (op_assign rfl ?_)
          refine WL.op rfl rfl (op_assign rfl ?_)
          refine WL.nil ?_
          refine WQ.next ?_
          refine WC.ret ?_
          refine WQ.out (.tmp rfl (.tmp rfl .nil)) ?_
          have hl := rawR_len (Decidable.not_not.mp hc8)
          rw [numR, if_neg hc2, if_neg (show ¬ ((m : Int) < 1 ∨ (m : Int) > 4) from by omega), Int.toNat_natCast, if_neg hc8]
          exact ⟨by rw [getE, if_neg (by omega)]; rfl, H9⟩
set_option maxRecDepth 100000 in
theorem rdtext_ok (q : Nat) (r : Rd) (TR : TypeId) (T : List Nat) (w : World) (H : Own T w w [.blk q [(str r.s), (vN r.at_), (vN r.f)] TR]) (hr : r.s.length < 2 ^ 47) :
    Calls Try.prog 26 #[(ptr q 0)] w (fun e w' => e = .returned (.tuple #[str (textR r).1.1, vN (textR r).1.2]) ∧ Own T w w' [.blk q [str (textR r).2.s, vN (textR r).2.at_, vN (textR r).2.f] TR]) := by
  refine enter (args := [(ptr q 0)]) Try.func26 rfl rfl ?_
  refine WC.seq ?_
  refine WC.region ?_
  refine WL.op rfl rfl (op_assign rfl ?_)
  refine WL.op rfl rfl (op_assign rfl ?_)
  refine WL.nil ?_
  refine WQ.next ?_
  refine WC.seq ?_
  refine WC.region ?_
  refine WL.op rfl rfl (op_move rfl ?_)
  refine WL.op rfl rfl (op_callF Fa.C25 rfl ((rdnum_ok q r (2) TR _ _ (H.part [0] rfl rfl) (by first | exact hr | (rw [numR_s]; exact hr))).mono (fun e w1 hq => ?_)))
  obtain ⟨rfl, hq1⟩ := hq
  refine ⟨_, rfl, ?_⟩
  have H1 : Own T w w1 [.blk q [(str ((numR r 2).2).s), (vN ((numR r 2).2).at_), (vN ((numR r 2).2).f)] TR] := H.splice [0] [.blk q [(str ((numR r 2).2).s), (vN ((numR r 2).2).at_), (vN ((numR r 2).2).f)] TR] [] rfl rfl hq1 (Fits.solid True.intro Fits.nil)
  refine WL.op rfl rfl (op_move rfl ?_)
  refine WL.op rfl rfl (op_extract rfl rfl ?_)
  refine WL.op rfl rfl (op_extract rfl rfl ?_)
  refine WL.op rfl rfl (op_assign rfl ?_)
  refine WL.op rfl rfl (op_assign rfl ?_)
  refine WL.nil ?_
  refine WQ.next ?_
  refine WC.seq ?_
  refine WC.seq ?_
  refine WC.region ?_
  refine WL.op rfl rfl (op_move rfl ?_)
  refine WL.op rfl rfl (op_neqN (b := 0) rfl rfl ?_)
  refine WL.nil ?_
  refine WQ.next ?_
  refine WC.cond rfl (fun (hb2 : (decide ((numR r 2).1.2 ≠ 0)) = true) => ?_) (fun (hb2 : (decide ((numR r 2).1.2 ≠ 0)) = false) => ?_)
  ·
    have hc2 := of_decide_eq_true hb2
    refine WC.seq ?_
    refine WC.region ?_
    refine WL.op rfl rfl (op_move rfl ?_)
    refine WL.op rfl rfl (op_assign rfl ?_)
    refine WL.op rfl rfl (op_assign rfl ?_)
    refine WL.nil ?_
    refine WQ.next ?_
    refine WC.ret ?_
    refine WQ.thenRet ?_
    refine WQ.out (.tmp rfl (.tmp rfl .nil)) ?_
    rw [textR, if_pos hc2]
    exact ⟨rfl, H1⟩
  ·
    have hc2 := of_decide_eq_false hb2
    refine WC.skip ?_
    refine WQ.next ?_
    refine WC.seq ?_
    refine WC.region ?_
    refine WL.op rfl rfl (op_move rfl ?_)
    refine WL.op rfl rfl (op_nilCheck rfl ?_)
    refine WL.op rfl rfl (op_fieldAddr rfl Fa.F107_0 ?_)
    refine WL.op rfl rfl (op_move rfl ?_)
    refine WL.op rfl rfl (op_convU32N (hs := Try.underlying22) (hd := Try.underlying3) rfl ?_)
    refine WL.op rfl rfl (op_callF Fa.C75 rfl ((rtake_ok q ((numR r 2).2) (((numR r 2).1.1.toNat : Nat)) TR _ _ (H1.part [0] rfl rfl) (by first | exact hr | (rw [numR_s]; exact hr))).mono (fun e w3 hq => ?_)))
    obtain ⟨rfl, hq3⟩ := hq
    refine ⟨_, rfl, ?_⟩
    have H3 : Own T w w3 [.blk q [(str ((rawR ((numR r 2).2) ((numR r 2).1.1.toNat : Nat)).2).s), (vN ((rawR ((numR r 2).2) ((numR r 2).1.1.toNat : Nat)).2).at_), (vN ((rawR ((numR r 2).2) ((numR r 2).1.1.toNat : Nat)).2).f)] TR] := H1.splice [0] [.blk q [(str ((rawR ((numR r 2).2) ((numR r 2).1.1.toNat : Nat)).2).s), (vN ((rawR ((numR r 2).2) ((numR r 2).1.1.toNat : Nat)).2).at_), (vN ((rawR ((numR r 2).2) ((numR r 2).1.1.toNat : Nat)).2).f)] TR] [] rfl rfl hq3 (Fits.solid True.intro Fits.nil)
    refine WL.op rfl rfl (op_move rfl ?_)
    refine WL.op rfl rfl (op_extract rfl rfl ?_)
    refine WL.op rfl rfl (op_extract rfl rfl ?_)
    refine WL.op rfl rfl (op_assign rfl ?_)
    refine WL.op rfl rfl (op_assign rfl ?_)
    refine WL.nil ?_
    refine WQ.next ?_
    refine WC.seq ?_
    refine WC.seq ?_
    refine WC.region ?_
    refine WL.op rfl rfl (op_move rfl ?_)
    refine WL.op rfl rfl (op_neqN (b := 0) rfl rfl ?_)
    refine WL.nil ?_
    refine WQ.next ?_
    refine WC.cond rfl (fun (hb4 : (decide ((rawR ((numR r 2).2) ((numR r 2).1.1.toNat : Nat)).1.2 ≠ 0)) = true) => ?_) (fun (hb4 : (decide ((rawR ((numR r 2).2) ((numR r 2).1.1.toNat : Nat)).1.2 ≠ 0)) = false) => ?_)
    ·
      have hc4 := of_decide_eq_true hb4
      refine WC.region ?_
      refine WL.op rfl rfl (op_move rfl ?_)
      refine WL.op rfl rfl (op_nilCheck rfl ?_)
      refine WL.op rfl rfl (op_fieldAddr rfl Fa.F107_0 ?_)
      refine WL.op rfl rfl (op_fieldAddr rfl Fa.F105_1 ?_)
      refine WL.op rfl rfl (op_load rfl (H3.cell (i := 0) rfl rfl) Try.underlying3 rfl ?_)
      refine WL.op rfl rfl (op_subN (b := 2) rfl rfl (by rw [(rawR_at6 hc4).1, numR_at2 (Decidable.not_not.mp hc2)]; omega) (by have := (rawR (numR r 2).2 (numR r 2).1.1.toNat).2.h; rw [rawR_s, numR_s] at this; omega) ?_)
      refine WL.op rfl rfl (op_nilCheck rfl ?_)
      refine WL.op rfl rfl (op_fieldAddr rfl Fa.F107_0 ?_)
      refine WL.op rfl rfl (op_fieldAddr rfl Fa.F105_1 ?_)
      refine WL.op rfl rfl (op_storeB (i := 0) H3 rfl rfl rfl rfl rfl Fa.I3 (fun w5 H5 => ?_))
      refine WL.nil ?_
      refine WQ.next ?_
      refine WC.seq ?_
      refine WC.region ?_
      refine WL.op rfl rfl (op_move rfl ?_)
      refine WL.op rfl rfl (op_move rfl ?_)
      refine WL.op rfl rfl (op_assign rfl ?_)
      refine WL.op rfl rfl (op_assign rfl ?_)
      refine WL.nil ?_
      refine WQ.next ?_
      refine WC.ret ?_
      refine WQ.out (.tmp rfl (.tmp rfl .nil)) ?_
      rw [textR, if_neg hc2, if_pos hc4]
      exact ⟨rfl, (by have h := (show Own T w w5 [.blk q [(str ((rawR ((numR r 2).2) ((numR r 2).1.1.toNat : Nat)).2).s), (vN (((rawR ((numR r 2).2) ((numR r 2).1.1.toNat : Nat)).2).at_ - 2)), (vN ((rawR ((numR r 2).2) ((numR r 2).1.1.toNat : Nat)).2).f)] TR] from H5); rw [rawR_s, numR_s, (rawR_at6 hc4).1, numR_at2 (Decidable.not_not.mp hc2), Nat.add_sub_cancel] at h; exact h)⟩
    ·
      have hc4 := of_decide_eq_false hb4
      refine WC.skip ?_
      refine WQ.next ?_
      refine WC.seq ?_
      refine WC.region ?_
      refine WL.op rfl rfl (op_move rfl ?_)
      refine WL.op rfl rfl (op_move rfl ?_)
      refine WL.op rfl rfl (op_assign rfl ?_)
      refine WL.op rfl rfl (op_assign rfl ?_)
      refine WL.nil ?_
      refine WQ.next ?_
      refine WC.ret ?_
      refine WQ.out (.tmp rfl (.tmp rfl .nil)) ?_
      rw [textR, if_neg hc2, if_neg hc4]
      exact ⟨rfl, H3⟩
set_option maxRecDepth 100000 in
theorem rdend_ok (q : Nat) (r : Rd) (TR : TypeId) (T : List Nat) (w : World) (H : Own T w w [.blk q [(str r.s), (vN r.at_), (vN r.f)] TR]) (hr : r.s.length < 2 ^ 47) :
    Calls Try.prog 29 #[(ptr q 0)] w (fun e w' => e = .returned (vN (endR r).1) ∧ Own T w w' [.blk q [str (endR r).2.s, vN (endR r).2.at_, vN (endR r).2.f] TR]) := by
  refine enter (args := [(ptr q 0)]) Try.func29 rfl rfl ?_
  refine WC.seq ?_
  refine WC.region ?_
  refine WL.op rfl rfl (op_assign rfl ?_)
  refine WL.nil ?_
  refine WQ.next ?_
  refine WC.seq ?_
  refine WC.seq ?_
  refine WC.region ?_
  refine WL.op rfl rfl (op_move rfl ?_)
  refine WL.op rfl rfl (op_callF Fa.C36 rfl ((fault_ok q r _ (H.cellsAt (i := 0) rfl)).mono (fun e w1 hq => ?_)))
  obtain ⟨rfl, hf1⟩ := hq
  refine ⟨_, rfl, ?_⟩
  have H1 := H.fr' hf1
  refine WL.op rfl rfl (op_assign rfl ?_)
  refine WL.nil ?_
  refine WQ.next ?_
  refine WC.seq ?_
  refine WC.region ?_
  refine WL.op rfl rfl (op_move rfl ?_)
  refine WL.op rfl rfl (op_neqN (b := 0) rfl rfl ?_)
  refine WL.nil ?_
  refine WQ.next ?_
  refine WC.cond rfl (fun (hb2 : (decide (r.f ≠ 0)) = true) => ?_) (fun (hb2 : (decide (r.f ≠ 0)) = false) => ?_)
  ·
    have hc2 := of_decide_eq_true hb2
    refine WC.seq ?_
    refine WC.region ?_
    refine WL.op rfl rfl (op_move rfl ?_)
    refine WL.op rfl rfl (op_assign rfl ?_)
    refine WL.nil ?_
    refine WQ.next ?_
    refine WC.ret ?_
    refine WQ.thenRet ?_
    refine WQ.out (.tmp rfl .nil) ?_
    rw [endR, if_pos hc2]
    exact ⟨rfl, H1⟩
  ·
    have hc2 := of_decide_eq_false hb2
    refine WC.skip ?_
    refine WQ.next ?_
    refine WC.seq ?_
    refine WC.seq ?_
    refine WC.region ?_
    refine WL.op rfl rfl (op_move rfl ?_)
    refine WL.op rfl rfl (op_nilCheck rfl ?_)
    refine WL.op rfl rfl (op_fieldAddr rfl Fa.F107_0 ?_)
    refine WL.op rfl rfl (op_callF Fa.C77 rfl ((left_ok q r _ (H1.cellsAt (i := 0) rfl) hr).mono (fun e w3 hq => ?_)))
    obtain ⟨rfl, hf3⟩ := hq
    refine ⟨_, rfl, ?_⟩
    have H3 := H1.fr' hf3
    refine WL.op rfl rfl (op_gtrN (b := 0) rfl rfl ?_)
    refine WL.nil ?_
    refine WQ.next ?_
    refine WC.cond rfl (fun (hb4 : (decide ((r.s.length - r.at_) > 0)) = true) => ?_) (fun (hb4 : (decide ((r.s.length - r.at_) > 0)) = false) => ?_)
    ·
      have hc4 := of_decide_eq_true hb4
      refine WC.seq ?_
      refine WC.region ?_
      refine WL.op rfl rfl (op_move rfl ?_)
      refine WL.op rfl rfl (op_nilCheck rfl ?_)
      refine WL.op rfl rfl (op_fieldAddr rfl Fa.F107_0 ?_)
      refine WL.op rfl rfl (op_callF Fa.C74 rfl ((spoilt_ok q r 7 TR _ _ (H3.part [0] rfl rfl)).mono (fun e w5 hq => ?_)))
      obtain ⟨rfl, hq5⟩ := hq
      refine ⟨_, rfl, ?_⟩
      have H5 : Own T w w5 [.blk q [(str (r.bad 7).s), (vN (r.bad 7).at_), (vN (r.bad 7).f)] TR] := H3.splice [0] [.blk q [(str (r.bad 7).s), (vN (r.bad 7).at_), (vN (r.bad 7).f)] TR] [] rfl rfl hq5 (Fits.solid True.intro Fits.nil)
      refine WL.op rfl rfl (op_assign rfl ?_)
      refine WL.nil ?_
      refine WQ.next ?_
      refine WC.ret ?_
      refine WQ.thenRet ?_
      refine WQ.out (.tmp rfl .nil) ?_
      rw [endR, if_neg hc2, if_pos hc4]
      exact ⟨rfl, H5⟩
    ·
      have hc4 := of_decide_eq_false hb4
      refine WC.skip ?_
      refine WQ.next ?_
      refine WC.seq ?_
      refine WC.region ?_
      refine WL.op rfl rfl (op_assign rfl ?_)
      refine WL.nil ?_
      refine WQ.next ?_
      refine WC.ret ?_
      refine WQ.out (.tmp rfl .nil) ?_
      rw [endR, if_neg hc2, if_neg hc4]
      exact ⟨rfl, H3⟩
end Go.Proofs.Ytpnghdalnghpcaa
/-! from WPack2 -/
namespace Go.Proofs.Ytpnghdalnghpcaa
open Go.Owl Go.Spec
set_option maxRecDepth 100000 in
theorem rdtexts_ok (q : Nat) (r : Rd) (TR : TypeId) (T : List Nat) (w : World) (H : Own T w w [.blk q [(str r.s), (vN r.at_), (vN r.f)] TR]) (hr : r.s.length < 2 ^ 47) :
    Calls Try.prog 27 #[(ptr q 0)] w (fun e w' => ∃ v, e = .returned (.tuple #[v, vN (textsR r).1.2]) ∧ Own T w w' [.blk q [str (textsR r).2.s, vN (textsR r).2.at_, vN (textsR r).2.f] TR, .row v 9 1 (textsR r).1.1.length (List.map str (textsR r).1.1)]) := by
  refine enter (args := [(ptr q 0)]) Try.func27 rfl rfl ?_
  refine WC.seq ?_
  refine WC.region ?_
  refine WL.op rfl rfl (op_assign rfl ?_)
  refine WL.op rfl rfl (op_assign rfl ?_)
  refine WL.nil ?_
  refine WQ.next ?_
  refine WC.seq ?_
  refine WC.region ?_
  refine WL.op rfl rfl (op_move rfl ?_)
  refine WL.op rfl rfl (op_callF Fa.C25 rfl ((rdnum_ok q r (2) TR _ _ (H.part [0] rfl rfl) (by first | exact hr | (rw [numR_s]; exact hr) | (rw [txR_s, numR_s]; exact hr))).mono (fun e w1 hq => ?_)))
  obtain ⟨rfl, hq1⟩ := hq
  refine ⟨_, rfl, ?_⟩
  have H1 : Own T w w1 [.blk q [(str ((numR r 2).2).s), (vN ((numR r 2).2).at_), (vN ((numR r 2).2).f)] TR] := H.splice [0] [.blk q [(str ((numR r 2).2).s), (vN ((numR r 2).2).at_), (vN ((numR r 2).2).f)] TR] [] rfl rfl hq1 (Fits.solid True.intro Fits.nil)
  refine WL.op rfl rfl (op_move rfl ?_)
  refine WL.op rfl rfl (op_extract rfl rfl ?_)
  refine WL.op rfl rfl (op_extract rfl rfl ?_)
  refine WL.op rfl rfl (op_assign rfl ?_)
  refine WL.op rfl rfl (op_assign rfl ?_)
  refine WL.nil ?_
  refine WQ.next ?_
  refine WC.seq ?_
  refine WC.seq ?_
  refine WC.region ?_
  refine WL.op rfl rfl (op_move rfl ?_)
  refine WL.op rfl rfl (op_neqN (b := 0) rfl rfl ?_)
  refine WL.nil ?_
  refine WQ.next ?_
  refine WC.cond rfl (fun (hb2 : (decide ((numR r 2).1.2 ≠ 0)) = true) => ?_) (fun (hb2 : (decide ((numR r 2).1.2 ≠ 0)) = false) => ?_)
  ·
    have hc2 := of_decide_eq_true hb2
    refine WC.seq ?_
    refine WC.region ?_
    refine WL.op rfl rfl (op_move rfl ?_)
    refine WL.op rfl rfl (op_assign rfl ?_)
    refine WL.op rfl rfl (op_assign rfl ?_)
    refine WL.nil ?_
    refine WQ.next ?_
    refine WC.ret ?_
    refine WQ.thenRet ?_
    refine WQ.out (.tmp rfl (.tmp rfl .nil)) ?_
    rw [textsR, if_pos hc2]
    exact ⟨_, rfl, H1.nilRow _ _⟩
  ·
    have hc2 := of_decide_eq_false hb2
    refine WC.skip ?_
    refine WQ.next ?_
    refine WC.seq ?_
    refine WC.region ?_
    refine WL.op rfl rfl (op_move rfl ?_)
    refine WL.op rfl rfl (op_nilCheck rfl ?_)
    refine WL.op rfl rfl (op_fieldAddr rfl Fa.F107_0 ?_)
    refine WL.op rfl rfl (op_fieldAddr rfl Fa.F105_1 ?_)
    refine WL.op rfl rfl (op_load rfl (H1.cell (i := 0) rfl rfl) Try.underlying3 rfl ?_)
    refine WL.op rfl rfl (op_subN (b := 2) rfl rfl (by rw [numR_at2 (Decidable.not_not.mp hc2)]; omega) (by have := (numR r 2).2.h; rw [numR_s] at this; omega) ?_)
    refine WL.op rfl rfl (op_assign rfl ?_)
    refine WL.nil ?_
    refine WQ.next ?_
    refine WC.seq ?_
    refine WC.seq ?_
    refine WC.region ?_
    have hat : (numR r 2).2.at_ - 2 = r.at_ := by rw [numR_at2 (Decidable.not_not.mp hc2)]; omega
    rw [hat]
    refine WL.op rfl rfl (op_move rfl ?_)
    refine WL.op rfl rfl (op_gtrU32 (b := 4096) rfl rfl ?_)
    refine WL.nil ?_
    refine WQ.next ?_
    refine WC.cond rfl (fun (hb3 : (decide ((numR r 2).1.1 > (4096 : UInt32))) = true) => ?_) (fun (hb3 : (decide ((numR r 2).1.1 > (4096 : UInt32))) = false) => ?_)
    ·
      have hc3 := of_decide_eq_true hb3
      refine WC.seq ?_
      refine WC.region ?_
      refine WL.op rfl rfl (op_move rfl ?_)
      refine WL.op rfl rfl (op_move rfl ?_)
      refine WL.op rfl rfl (op_nilCheck rfl ?_)
      refine WL.op rfl rfl (op_fieldAddr rfl Fa.F107_0 ?_)
      refine WL.op rfl rfl (op_fieldAddr rfl Fa.F105_1 ?_)
      refine WL.op rfl rfl (op_storeB (i := 0) H1 rfl rfl rfl rfl rfl Fa.I3 (fun w4 H4 => ?_))
      refine WL.nil ?_
      refine WQ.next ?_
      refine WC.seq ?_
      refine WC.region ?_
      have H5 : Own T w w4 [.blk q [(str (Rd.mk r.s r.at_ (numR r 2).2.f r.h).s), (vN (Rd.mk r.s r.at_ (numR r 2).2.f r.h).at_), (vN (Rd.mk r.s r.at_ (numR r 2).2.f r.h).f)] TR] := by have h := (show Own T w w4 [.blk q [(str ((numR r 2).2).s), (vN r.at_), (vN ((numR r 2).2).f)] TR] from H4); rw [numR_s] at h; exact h
      refine WL.op rfl rfl (op_move rfl ?_)
      refine WL.op rfl rfl (op_nilCheck rfl ?_)
      refine WL.op rfl rfl (op_fieldAddr rfl Fa.F107_0 ?_)
      refine WL.op rfl rfl (op_callF Fa.C74 rfl ((spoilt_ok q (Rd.mk r.s r.at_ (numR r 2).2.f r.h) 7 TR _ _ (H5.part [0] rfl rfl)).mono (fun e w6 hq => ?_)))
      obtain ⟨rfl, hq6⟩ := hq
      refine ⟨_, rfl, ?_⟩
      have H6 : Own T w w6 [.blk q [(str ((Rd.mk r.s r.at_ (numR r 2).2.f r.h).bad 7).s), (vN ((Rd.mk r.s r.at_ (numR r 2).2.f r.h).bad 7).at_), (vN ((Rd.mk r.s r.at_ (numR r 2).2.f r.h).bad 7).f)] TR] := H5.splice [0] [.blk q [(str ((Rd.mk r.s r.at_ (numR r 2).2.f r.h).bad 7).s), (vN ((Rd.mk r.s r.at_ (numR r 2).2.f r.h).bad 7).at_), (vN ((Rd.mk r.s r.at_ (numR r 2).2.f r.h).bad 7).f)] TR] [] rfl rfl hq6 (Fits.solid True.intro Fits.nil)
      refine WL.op rfl rfl (op_assign rfl ?_)
      refine WL.op rfl rfl (op_assign rfl ?_)
      refine WL.nil ?_
      refine WQ.next ?_
      refine WC.ret ?_
      refine WQ.thenRet ?_
      refine WQ.out (.tmp rfl (.tmp rfl .nil)) ?_
      rw [textsR, if_neg hc2, if_pos hc3]
      exact ⟨_, rfl, H6.nilRow _ _⟩
    ·
      have hc3 := of_decide_eq_false hb3
      refine WC.skip ?_
      refine WQ.next ?_
      refine WC.seq ?_
      refine WC.region ?_
      refine WL.op rfl rfl (op_assign rfl ?_)
      have H7 := H1.nilRow 9 1
      refine WL.nil ?_
      refine WQ.next ?_
      refine WC.seq ?_
      refine WC.seq ?_
      refine WC.region ?_
      refine WL.op rfl rfl (op_move rfl ?_)
      refine WL.op rfl rfl (op_move rfl ?_)
      refine WL.nil ?_
      refine WQ.next ?_
      refine WC.block ?_
      refine WC.loop (α := Nat × Value) (fun (k, v) => [(0, (ptr q 0)), (6, (vN r.at_)), (7, v), (35, (vU32 (numR r 2).1.1)), (36, (vU32 (UInt32.ofNat k)))]) (fun (k, v) w' => (k ≤ (numR r 2).1.1.toNat ∧ (∀ j, j < k → (textR (txR (numR r 2).2 j)).1.2 = 0)) ∧ Own T w w' [.blk q [(str (txR (numR r 2).2 k).s), (vN (txR (numR r 2).2 k).at_), (vN (txR (numR r 2).2 k).f)] TR, .row v 9 1 k (List.map str (txL (numR r 2).2 k))]) (fun (k, v) => (numR r 2).1.1.toNat - k) (0, (.slice none 0 0)) ⟨⟨Nat.zero_le _, fun j h => by omega⟩, H7⟩ ⟨rfl, rfl, rfl, rfl, rfl, trivial⟩ ?_
      rintro ⟨k, v⟩ w8 ⟨⟨hk1, hok⟩, H8⟩
      show WC _ _ _ _ _ [(0, (ptr q 0)), (6, (vN r.at_)), (7, v), (35, (vU32 (numR r 2).1.1)), (36, (vU32 (UInt32.ofNat k)))] _
      have hn4 : (numR r 2).1.1.toNat ≤ 4096 := by have := hc3; rw [gt_iff_lt, UInt32.lt_iff_toNat_lt] at this; exact Nat.le_of_not_lt this
      have hlt := u32_lt (k := k) (n := (numR r 2).1.1) (by omega)
      refine WC.seq ?_
      refine WC.region ?_
      refine WL.op rfl rfl (op_lssU32 rfl rfl ?_)
      refine WL.nil ?_
      refine WQ.next ?_
      refine WC.seq ?_
      refine WC.cond rfl (fun (hb9 : (decide ((UInt32.ofNat k) < (numR r 2).1.1)) = true) => ?_) (fun (hb9 : (decide ((UInt32.ofNat k) < (numR r 2).1.1)) = false) => ?_)
      ·
        have hc9 := of_decide_eq_true hb9
        have hc_lt := hc9
        refine WC.skip ?_
        refine WQ.next ?_
        refine WC.seq ?_
        refine WC.block ?_
        refine WC.seq ?_
        refine WC.region ?_
        refine WL.op rfl rfl (op_move rfl ?_)
        refine WL.op rfl rfl (op_callF Fa.C26 rfl ((rdtext_ok q (txR (numR r 2).2 k)  TR _ _ (H8.part [0] rfl rfl) (by first | exact hr | (rw [numR_s]; exact hr) | (rw [txR_s, numR_s]; exact hr))).mono (fun e w10 hq => ?_)))
        obtain ⟨rfl, hq10⟩ := hq
        refine ⟨_, rfl, ?_⟩
        have H10 : Own T w w10 [.blk q [(str ((textR (txR (numR r 2).2 k)).2).s), (vN ((textR (txR (numR r 2).2 k)).2).at_), (vN ((textR (txR (numR r 2).2 k)).2).f)] TR, .row v 9 1 k (List.map str (txL (numR r 2).2 k))] := H8.splice [0] [.blk q [(str ((textR (txR (numR r 2).2 k)).2).s), (vN ((textR (txR (numR r 2).2 k)).2).at_), (vN ((textR (txR (numR r 2).2 k)).2).f)] TR] [] rfl rfl hq10 (Fits.solid True.intro Fits.nil)
        refine WL.op rfl rfl (op_move rfl ?_)
        refine WL.op rfl rfl (op_extract rfl rfl ?_)
        refine WL.op rfl rfl (op_extract rfl rfl ?_)
        refine WL.op rfl rfl (op_assign rfl ?_)
        refine WL.op rfl rfl (op_assign rfl ?_)
        refine WL.nil ?_
        refine WQ.next ?_
        refine WC.seq ?_
        refine WC.seq ?_
        refine WC.region ?_
        refine WL.op rfl rfl (op_move rfl ?_)
        refine WL.op rfl rfl (op_neqN (b := 0) rfl rfl ?_)
        refine WL.nil ?_
        refine WQ.next ?_
        refine WC.cond rfl (fun (hb11 : (decide ((textR (txR (numR r 2).2 k)).1.2 ≠ 0)) = true) => ?_) (fun (hb11 : (decide ((textR (txR (numR r 2).2 k)).1.2 ≠ 0)) = false) => ?_)
        ·
          have hc11 := of_decide_eq_true hb11
          refine WC.seq ?_
          refine WC.region ?_
          refine WL.op rfl rfl (op_move rfl ?_)
          refine WL.op rfl rfl (op_move rfl ?_)
          refine WL.op rfl rfl (op_nilCheck rfl ?_)
          refine WL.op rfl rfl (op_fieldAddr rfl Fa.F107_0 ?_)
          refine WL.op rfl rfl (op_fieldAddr rfl Fa.F105_1 ?_)
          refine WL.op rfl rfl (op_storeB (i := 0) H10 rfl rfl rfl rfl rfl Fa.I3 (fun w12 H12 => ?_))
          refine WL.nil ?_
          refine WQ.next ?_
          refine WC.seq ?_
          refine WC.region ?_
          refine WL.op rfl rfl (op_move rfl ?_)
          refine WL.op rfl rfl (op_assign rfl ?_)
          refine WL.op rfl rfl (op_assign rfl ?_)
          refine WL.nil ?_
          refine WQ.next ?_
          refine WC.ret ?_
          refine WQ.thenRet ?_
          refine WQ.inRet ?_
          refine WQ.thenRet ?_
          refine WQ.thenRet ?_
          refine WQ.inRet ?_
          refine WQ.thenRet ?_
          refine WQ.out (.tmp rfl (.tmp rfl .nil)) ?_
          rw [textsR, if_neg hc2, if_neg hc3, txBad_out hok hc11 (hlt.1 hc_lt)]
          have h : Own T w w12 [.blk q [(str ((textR (txR (numR r 2).2 k)).2).s), (vN r.at_), (vN ((textR (txR (numR r 2).2 k)).2).f)] TR] := H12.take 1
          rw [textR_s, txR_s, numR_s] at h
          exact ⟨_, rfl, h.nilRow _ _⟩
        ·
          have hc11 := of_decide_eq_false hb11
          refine WC.skip ?_
          refine WQ.next ?_
          refine WC.region ?_
          refine WL.op rfl rfl (op_move rfl ?_)
          refine WL.op rfl rfl (op_move rfl ?_)
          refine WL.op rfl rfl (op_buildSlice (cs := [_]) H10 Try.underlying23 Fa.I9 rfl rfl rfl rfl (by decide) (by decide) (fun b13 w13 H13 => ?_))
          refine WL.op rfl rfl (op_appendM (f := str) (l := (txL (numR r 2).2 k)) (l' := [(textR (txR (numR r 2).2 k)).1.1]) (i := 1) H13 Try.underlying23 Fa.I9 rfl rfl rfl rfl (Src.ofArr Try.underlying23 (H13.arrR (i := 2) rfl)) (one_mapM (fun _ => rfl)) (by omega) (by omega) (fun v14 w14 H14 => ?_))
          refine WL.op rfl rfl (op_assign rfl ?_)
          refine WL.nil ?_
          refine WQ.inNormal ?_
          refine WQ.next ?_
          refine WC.region ?_
          refine WL.op rfl rfl (op_addU32 (b := 1) rfl rfl ?_)
          refine WL.op rfl rfl (op_move rfl ?_)
          refine WL.nil ?_
          exact WQ.round (k + 1, v14) ⟨⟨(by have := hlt.1 hc_lt; omega), nextP hok (Decidable.not_not.mp hc11)⟩, (H14.take 2)⟩ ⟨rfl, rfl, rfl, rfl, (congrArg (fun x => some (vU32 x)) (u32_succ k)), trivial⟩ (by show (numR r 2).1.1.toNat - (k + 1) < (numR r 2).1.1.toNat - k; have := hlt.1 hc_lt; omega)
      ·
        have hc9 := of_decide_eq_false hb9
        refine WC.exit ?_
        refine WQ.thenExit ?_
        refine WQ.thenExit ?_
        refine WQ.inHere ?_
        refine WQ.next ?_
        refine WC.seq ?_
        refine WC.region ?_
        refine WL.op rfl rfl (op_move rfl ?_)
        refine WL.op rfl rfl (op_assign rfl ?_)
        refine WL.op rfl rfl (op_assign rfl ?_)
        refine WL.nil ?_
        refine WQ.next ?_
        refine WC.ret ?_
        refine WQ.out (.tmp rfl (.tmp rfl .nil)) ?_
        have hk : k = (numR r 2).1.1.toNat := (by have := mt hlt.2 hc9; omega)
        rw [textsR, if_neg hc2, if_neg hc3, txBad_no (n := (numR r 2).1.1.toNat) (hk ▸ hok)]
        subst hk
        exact ⟨_, rfl, Own.rowEqN (i := 1) (f := str) H8 rfl rfl (txL_len _ _).symm⟩
set_option maxRecDepth 100000 in
theorem faultNil_ok  (w : World) :
    Calls Try.prog 36 #[(.pointer none)] w (fun e w' => e = .returned (vN 1) ∧ Fr [] w w') := by
  refine enter (args := [(.pointer none)]) Try.func36 rfl rfl ?_
  have H0 : Own [] w w [] := Own.start w []
  refine WC.seq ?_
  refine WC.region ?_
  refine WL.op rfl rfl (op_assign rfl ?_)
  refine WL.nil ?_
  refine WQ.next ?_
  refine WC.seq ?_
  refine WC.seq ?_
  refine WC.region ?_
  refine WL.op rfl rfl (op_move rfl ?_)
  refine WL.op rfl rfl (op_eqlPN Fa.PT34 rfl rfl ?_)
  refine WL.nil ?_
  refine WQ.next ?_
  refine WC.yes rfl rfl ?_
  refine WC.seq ?_
  refine WC.region ?_
  refine WL.op rfl rfl (op_assign rfl ?_)
  refine WL.nil ?_
  refine WQ.next ?_
  refine WC.ret ?_
  refine WQ.thenRet ?_
  refine WQ.out (.tmp rfl .nil) ?_
  exact ⟨rfl, H0.fr⟩
set_option maxRecDepth 100000 in
theorem rleftNil_ok  (w : World) :
    Calls Try.prog 28 #[(.pointer none)] w (fun e w' => e = .returned (vN 0) ∧ Fr [] w w') := by
  refine enter (args := [(.pointer none)]) Try.func28 rfl rfl ?_
  have H0 : Own [] w w [] := Own.start w []
  refine WC.seq ?_
  refine WC.region ?_
  refine WL.op rfl rfl (op_assign rfl ?_)
  refine WL.nil ?_
  refine WQ.next ?_
  refine WC.seq ?_
  refine WC.seq ?_
  refine WC.region ?_
  refine WL.op rfl rfl (op_move rfl ?_)
  refine WL.op rfl rfl (op_eqlPN Fa.PT34 rfl rfl ?_)
  refine WL.nil ?_
  refine WQ.next ?_
  refine WC.yes rfl rfl ?_
  refine WC.seq ?_
  refine WC.region ?_
  refine WL.op rfl rfl (op_assign rfl ?_)
  refine WL.nil ?_
  refine WQ.next ?_
  refine WC.ret ?_
  refine WQ.thenRet ?_
  refine WQ.out (.tmp rfl .nil) ?_
  exact ⟨rfl, H0.fr⟩
set_option maxRecDepth 100000 in
theorem takeNil_ok (n : Int) (w : World) :
    Calls Try.prog 30 #[(.pointer none), (vI n)] w (fun e w' => e = .returned (.tuple #[str [], vN 1]) ∧ Fr [] w w') := by
  refine enter (args := [(.pointer none), (vI n)]) Try.func30 rfl rfl ?_
  have H0 : Own [] w w [] := Own.start w []
  refine WC.seq ?_
  refine WC.region ?_
  refine WL.op rfl rfl (op_assign rfl ?_)
  refine WL.op rfl rfl (op_assign rfl ?_)
  refine WL.nil ?_
  refine WQ.next ?_
  refine WC.seq ?_
  refine WC.seq ?_
  refine WC.region ?_
  refine WL.op rfl rfl (op_move rfl ?_)
  refine WL.op rfl rfl (op_callF Fa.C36 rfl ((faultNil_ok _).mono (fun e w1 hq => ?_)))
  obtain ⟨rfl, hf1⟩ := hq
  refine ⟨_, rfl, ?_⟩
  have H1 := H0.fr' hf1
  refine WL.op rfl rfl (op_assign rfl ?_)
  refine WL.nil ?_
  refine WQ.next ?_
  refine WC.seq ?_
  refine WC.region ?_
  refine WL.op rfl rfl (op_move rfl ?_)
  refine WL.op rfl rfl (op_neqN (b := 0) rfl rfl ?_)
  refine WL.nil ?_
  refine WQ.next ?_
  refine WC.yes rfl (by decide) ?_
  refine WC.seq ?_
  refine WC.region ?_
  refine WL.op rfl rfl (op_move rfl ?_)
  refine WL.op rfl rfl (op_assign rfl ?_)
  refine WL.op rfl rfl (op_assign rfl ?_)
  refine WL.nil ?_
  refine WQ.next ?_
  refine WC.ret ?_
  refine WQ.thenRet ?_
  refine WQ.out (.tmp rfl (.tmp rfl .nil)) ?_
  exact ⟨rfl, H1.fr⟩
set_option maxRecDepth 100000 in
theorem rdnumNil_ok (n : Int) (w : World) :
    Calls Try.prog 25 #[(.pointer none), (vI n)] w (fun e w' => e = .returned (.tuple #[vU32 0, vN 1]) ∧ Fr [] w w') := by
  refine enter (args := [(.pointer none), (vI n)]) Try.func25 rfl rfl ?_
  have H0 : Own [] w w [] := Own.start w []
  refine WC.seq ?_
  refine WC.region ?_
  refine WL.op rfl rfl (op_assign rfl ?_)
  refine WL.op rfl rfl (op_assign rfl ?_)
  refine WL.nil ?_
  refine WQ.next ?_
  refine WC.seq ?_
  refine WC.seq ?_
  refine WC.region ?_
  refine WL.op rfl rfl (op_move rfl ?_)
  refine WL.op rfl rfl (op_callF Fa.C36 rfl ((faultNil_ok _).mono (fun e w1 hq => ?_)))
  obtain ⟨rfl, hf1⟩ := hq
  refine ⟨_, rfl, ?_⟩
  have H1 := H0.fr' hf1
  refine WL.op rfl rfl (op_assign rfl ?_)
  refine WL.nil ?_
  refine WQ.next ?_
  refine WC.seq ?_
  refine WC.region ?_
  refine WL.op rfl rfl (op_move rfl ?_)
  refine WL.op rfl rfl (op_neqN (b := 0) rfl rfl ?_)
  refine WL.nil ?_
  refine WQ.next ?_
  refine WC.yes rfl (by decide) ?_
  refine WC.seq ?_
  refine WC.region ?_
  refine WL.op rfl rfl (op_move rfl ?_)
  refine WL.op rfl rfl (op_assign rfl ?_)
  refine WL.op rfl rfl (op_assign rfl ?_)
  refine WL.nil ?_
  refine WQ.next ?_
  refine WC.ret ?_
  refine WQ.thenRet ?_
  refine WQ.out (.tmp rfl (.tmp rfl .nil)) ?_
  exact ⟨rfl, H1.fr⟩
set_option maxRecDepth 100000 in
theorem rdtextNil_ok  (w : World) :
    Calls Try.prog 26 #[(.pointer none)] w (fun e w' => e = .returned (.tuple #[str [], vN 1]) ∧ Fr [] w w') := by
  refine enter (args := [(.pointer none)]) Try.func26 rfl rfl ?_
  have H0 : Own [] w w [] := Own.start w []
  refine WC.seq ?_
  refine WC.region ?_
  refine WL.op rfl rfl (op_assign rfl ?_)
  refine WL.op rfl rfl (op_assign rfl ?_)
  refine WL.nil ?_
  refine WQ.next ?_
  refine WC.seq ?_
  refine WC.region ?_
  refine WL.op rfl rfl (op_move rfl ?_)
  refine WL.op rfl rfl (op_callF Fa.C25 rfl ((rdnumNil_ok (2) _).mono (fun e w1 hq => ?_)))
  obtain ⟨rfl, hf1⟩ := hq
  refine ⟨_, rfl, ?_⟩
  have H1 := H0.fr' hf1
  refine WL.op rfl rfl (op_move rfl ?_)
  refine WL.op rfl rfl (op_extract rfl rfl ?_)
  refine WL.op rfl rfl (op_extract rfl rfl ?_)
  refine WL.op rfl rfl (op_assign rfl ?_)
  refine WL.op rfl rfl (op_assign rfl ?_)
  refine WL.nil ?_
  refine WQ.next ?_
  refine WC.seq ?_
  refine WC.seq ?_
  refine WC.region ?_
  refine WL.op rfl rfl (op_move rfl ?_)
  refine WL.op rfl rfl (op_neqN (b := 0) rfl rfl ?_)
  refine WL.nil ?_
  refine WQ.next ?_
  refine WC.yes rfl (by decide) ?_
  refine WC.seq ?_
  refine WC.region ?_
  refine WL.op rfl rfl (op_move rfl ?_)
  refine WL.op rfl rfl (op_assign rfl ?_)
  refine WL.op rfl rfl (op_assign rfl ?_)
  refine WL.nil ?_
  refine WQ.next ?_
  refine WC.ret ?_
  refine WQ.thenRet ?_
  refine WQ.out (.tmp rfl (.tmp rfl .nil)) ?_
  exact ⟨rfl, H1.fr⟩
set_option maxRecDepth 100000 in
theorem rdtextsNil_ok  (w : World) :
    Calls Try.prog 27 #[(.pointer none)] w (fun e w' => e = .returned (.tuple #[.slice none 0 0, vN 1]) ∧ Fr [] w w') := by
  refine enter (args := [(.pointer none)]) Try.func27 rfl rfl ?_
  have H0 : Own [] w w [] := Own.start w []
  refine WC.seq ?_
  refine WC.region ?_
  refine WL.op rfl rfl (op_assign rfl ?_)
  refine WL.op rfl rfl (op_assign rfl ?_)
  refine WL.nil ?_
  refine WQ.next ?_
  refine WC.seq ?_
  refine WC.region ?_
  refine WL.op rfl rfl (op_move rfl ?_)
  refine WL.op rfl rfl (op_callF Fa.C25 rfl ((rdnumNil_ok (2) _).mono (fun e w1 hq => ?_)))
  obtain ⟨rfl, hf1⟩ := hq
  refine ⟨_, rfl, ?_⟩
  have H1 := H0.fr' hf1
  refine WL.op rfl rfl (op_move rfl ?_)
  refine WL.op rfl rfl (op_extract rfl rfl ?_)
  refine WL.op rfl rfl (op_extract rfl rfl ?_)
  refine WL.op rfl rfl (op_assign rfl ?_)
  refine WL.op rfl rfl (op_assign rfl ?_)
  refine WL.nil ?_
  refine WQ.next ?_
  refine WC.seq ?_
  refine WC.seq ?_
  refine WC.region ?_
  refine WL.op rfl rfl (op_move rfl ?_)
  refine WL.op rfl rfl (op_neqN (b := 0) rfl rfl ?_)
  refine WL.nil ?_
  refine WQ.next ?_
  refine WC.yes rfl (by decide) ?_
  refine WC.seq ?_
  refine WC.region ?_
  refine WL.op rfl rfl (op_move rfl ?_)
  refine WL.op rfl rfl (op_assign rfl ?_)
  refine WL.op rfl rfl (op_assign rfl ?_)
  refine WL.nil ?_
  refine WQ.next ?_
  refine WC.ret ?_
  refine WQ.thenRet ?_
  refine WQ.out (.tmp rfl (.tmp rfl .nil)) ?_
  exact ⟨rfl, H1.fr⟩
set_option maxRecDepth 100000 in
theorem rdendNil_ok  (w : World) :
    Calls Try.prog 29 #[(.pointer none)] w (fun e w' => e = .returned (vN 1) ∧ Fr [] w w') := by
  refine enter (args := [(.pointer none)]) Try.func29 rfl rfl ?_
  have H0 : Own [] w w [] := Own.start w []
  refine WC.seq ?_
  refine WC.region ?_
  refine WL.op rfl rfl (op_assign rfl ?_)
  refine WL.nil ?_
  refine WQ.next ?_
  refine WC.seq ?_
  refine WC.seq ?_
  refine WC.region ?_
  refine WL.op rfl rfl (op_move rfl ?_)
  refine WL.op rfl rfl (op_callF Fa.C36 rfl ((faultNil_ok _).mono (fun e w1 hq => ?_)))
  obtain ⟨rfl, hf1⟩ := hq
  refine ⟨_, rfl, ?_⟩
  have H1 := H0.fr' hf1
  refine WL.op rfl rfl (op_assign rfl ?_)
  refine WL.nil ?_
  refine WQ.next ?_
  refine WC.seq ?_
  refine WC.region ?_
  refine WL.op rfl rfl (op_move rfl ?_)
  refine WL.op rfl rfl (op_neqN (b := 0) rfl rfl ?_)
  refine WL.nil ?_
  refine WQ.next ?_
  refine WC.yes rfl (by decide) ?_
  refine WC.seq ?_
  refine WC.region ?_
  refine WL.op rfl rfl (op_move rfl ?_)
  refine WL.op rfl rfl (op_assign rfl ?_)
  refine WL.nil ?_
  refine WQ.next ?_
  refine WC.ret ?_
  refine WQ.thenRet ?_
  refine WQ.out (.tmp rfl .nil) ?_
  exact ⟨rfl, H1.fr⟩
set_option maxRecDepth 100000 in
theorem fails_ok (q : Nat) (S : List UInt8) (E x : Nat) (T : List Nat) (w : World) (H : Own T w w [.blk q [(str S), (vN E)] 47]) :
    Calls Try.prog 78 #[(ptr q 0), (vN x)] w (fun e w' => e = .returned (vN x) ∧ Own T w w' [.blk q [str S, vN x] 47]) := by
  refine enter (args := [(ptr q 0), (vN x)]) Try.func78 rfl rfl ?_
  refine WC.seq ?_
  refine WC.region ?_
  refine WL.op rfl rfl (op_assign rfl ?_)
  refine WL.nil ?_
  refine WQ.next ?_
  refine WC.seq ?_
  refine WC.region ?_
  refine WL.op rfl rfl (op_move rfl ?_)
  refine WL.op rfl rfl (op_move rfl ?_)
  refine WL.op rfl rfl (op_nilCheck rfl ?_)
  refine WL.op rfl rfl (op_fieldAddr rfl Fa.F47_1 ?_)
  refine WL.op rfl rfl (op_storeB (i := 0) H rfl rfl rfl rfl rfl Fa.I26 (fun w1 H1 => ?_))
  refine WL.nil ?_
  refine WQ.next ?_
  refine WC.seq ?_
  refine WC.region ?_
  refine WL.op rfl rfl (op_move rfl ?_)
  refine WL.op rfl rfl (op_assign rfl ?_)
  refine WL.nil ?_
  refine WQ.next ?_
  refine WC.ret ?_
  refine WQ.out (.tmp rfl .nil) ?_
  exact ⟨rfl, H1⟩
set_option maxRecDepth 100000 in
theorem ftake_ok (q : Nat) (S : List UInt8) (E : Nat) (n : Int) (T : List Nat) (w : World) (H : Own T w w [.blk q [(str S), (vN E)] 47]) (hr : S.length < 2 ^ 47) :
    Calls Try.prog 31 #[(ptr q 0), (vI n)] w (fun e w' => e = .returned (.tuple #[str (takeR (Rd.mk S 0 E (Nat.zero_le _)) n).1.1, vN (takeR (Rd.mk S 0 E (Nat.zero_le _)) n).1.2]) ∧ Own T w w' [.blk q [str (takeR (Rd.mk S 0 E (Nat.zero_le _)) n).2.rest, vN (takeR (Rd.mk S 0 E (Nat.zero_le _)) n).2.f] 47]) := by
  refine enter (args := [(ptr q 0), (vI n)]) Try.func31 rfl rfl ?_
  refine WC.seq ?_
  refine WC.region ?_
  refine WL.op rfl rfl (op_assign rfl ?_)
  refine WL.op rfl rfl (op_assign rfl ?_)
  refine WL.nil ?_
  refine WQ.next ?_
  refine WC.seq ?_
  refine WC.seq ?_
  refine WC.region ?_
  refine WL.op rfl rfl (op_move rfl ?_)
  refine WL.op rfl rfl (op_nilCheck rfl ?_)
  refine WL.op rfl rfl (op_fieldAddr rfl Fa.F47_1 ?_)
  refine WL.op rfl rfl (op_load rfl (H.cell (i := 0) rfl rfl) Try.underlying26 rfl ?_)
  refine WL.op rfl rfl (op_neqN (b := 0) rfl rfl ?_)
  refine WL.nil ?_
  refine WQ.next ?_
  refine WC.cond rfl (fun (hb1 : (decide (E ≠ 0)) = true) => ?_) (fun (hb1 : (decide (E ≠ 0)) = false) => ?_)
  ·
    have hc1 := of_decide_eq_true hb1
    refine WC.seq ?_
    refine WC.draw 6 Fa.M H (HW.op rfl (fun w1 H1 => op_move rfl ⟨rfl, Fr.refl _ _⟩) (HW.op rfl (fun w1 H1 => op_nilCheck rfl ⟨rfl, Fr.refl _ _⟩) (HW.op rfl (fun w1 H1 => op_fieldAddr rfl Fa.F47_1 ⟨rfl, Fr.refl _ _⟩) (HW.op rfl (fun w1 H1 => op_load rfl (H1.cell (i := 0) rfl rfl) Try.underlying26 rfl ⟨rfl, Fr.refl _ _⟩) (HW.op rfl (fun w1 H1 => op_assign rfl ⟨rfl, Fr.refl _ _⟩) (HW.op rfl (fun w1 H1 => op_assign rfl ⟨rfl, Fr.refl _ _⟩)  HW.nil)))))) (by kernel_rfl) ?_
    intro β2 w2 H2
    refine WL.nil ?_
    refine WQ.next ?_
    refine WC.ret ?_
    refine WQ.thenRet ?_
    refine WQ.out (.tmp rfl (.tmp rfl .nil)) ?_
    rw [takeR_1 (r := (Rd.mk S 0 E (Nat.zero_le _))) hc1]
    exact ⟨rfl, (by have h := (show Own T w w2 [.blk q [(str S), (vN E)] 47] from H2); simpa only [Rd.rest, Rd.bad, Rd.on, List.drop_zero, Nat.zero_add] using h)⟩
  ·
    have hc1 := of_decide_eq_false hb1
    refine WC.skip ?_
    refine WQ.next ?_
    refine WC.seq ?_
    refine WC.seq ?_
    refine WC.region ?_
    refine WL.op rfl rfl (op_move rfl ?_)
    refine WL.op rfl rfl (op_lssI (b := (0 : Int)) rfl rfl ?_)
    refine WL.nil ?_
    refine WQ.next ?_
    refine WC.cond rfl (fun (hb3 : (decide (n < (0 : Int))) = true) => ?_) (fun (hb3 : (decide (n < (0 : Int))) = false) => ?_)
    ·
      have hc3 := of_decide_eq_true hb3
      refine WC.seq ?_
      refine WC.region ?_
      refine WL.op rfl rfl (op_move rfl ?_)
      refine WL.op rfl rfl (op_callF Fa.C78 rfl ((fails_ok q S E 2 _ _ (H.part [0] rfl rfl)).mono (fun e w4 hq => ?_)))
      obtain ⟨rfl, hq4⟩ := hq
      refine ⟨_, rfl, ?_⟩
      have H4 : Own T w w4 [.blk q [(str S), (vN 2)] 47] := H.splice [0] [.blk q [(str S), (vN 2)] 47] [] rfl rfl hq4 (Fits.solid True.intro Fits.nil)
      refine WL.op rfl rfl (op_assign rfl ?_)
      refine WL.op rfl rfl (op_assign rfl ?_)
      refine WL.nil ?_
      refine WQ.next ?_
      refine WC.ret ?_
      refine WQ.thenRet ?_
      refine WQ.out (.tmp rfl (.tmp rfl .nil)) ?_
      rw [takeR_2 (r := (Rd.mk S 0 E (Nat.zero_le _))) (Decidable.not_not.mp hc1) hc3]
      exact ⟨rfl, (by have h := (show Own T w w4 [.blk q [(str S), (vN 2)] 47] from H4); simpa only [Rd.rest, Rd.bad, Rd.on, List.drop_zero, Nat.zero_add] using h)⟩
    ·
      have hc3 := of_decide_eq_false hb3
      obtain ⟨m, rfl⟩ : ∃ m : Nat, n = (m : Int) := ⟨n.toNat, by omega⟩
      refine WC.skip ?_
      refine WQ.next ?_
      refine WC.seq ?_
      refine WC.seq ?_
      refine WC.region ?_
      refine WL.op rfl rfl (op_move rfl ?_)
      refine WL.op rfl rfl (op_move rfl ?_)
      refine WL.op rfl rfl (op_nilCheck rfl ?_)
      refine WL.op rfl rfl (op_fieldAddr rfl Fa.F47_0 ?_)
      refine WL.op rfl rfl (op_load rfl (H.cell (i := 0) rfl rfl) Try.underlying9 rfl ?_)
      refine WL.op rfl rfl (op_lenStr Try.underlying9 rfl ?_)
      refine WL.op rfl rfl (op_gtrN rfl rfl ?_)
      refine WL.nil ?_
      refine WQ.next ?_
      refine WC.cond rfl (fun (hb5 : (decide (m > S.length)) = true) => ?_) (fun (hb5 : (decide (m > S.length)) = false) => ?_)
      ·
        have hc5 := of_decide_eq_true hb5
        refine WC.seq ?_
        refine WC.region ?_
        refine WL.op rfl rfl (op_move rfl ?_)
        refine WL.op rfl rfl (op_callF Fa.C78 rfl ((fails_ok q S E 6 _ _ (H.part [0] rfl rfl)).mono (fun e w6 hq => ?_)))
        obtain ⟨rfl, hq6⟩ := hq
        refine ⟨_, rfl, ?_⟩
        have H6 : Own T w w6 [.blk q [(str S), (vN 6)] 47] := H.splice [0] [.blk q [(str S), (vN 6)] 47] [] rfl rfl hq6 (Fits.solid True.intro Fits.nil)
        refine WL.op rfl rfl (op_assign rfl ?_)
        refine WL.op rfl rfl (op_assign rfl ?_)
        refine WL.nil ?_
        refine WQ.next ?_
        refine WC.ret ?_
        refine WQ.thenRet ?_
        refine WQ.out (.tmp rfl (.tmp rfl .nil)) ?_
        rw [takeR_3 (r := (Rd.mk S 0 E (Nat.zero_le _))) (Decidable.not_not.mp hc1), rawR_1 (r := (Rd.mk S 0 E (Nat.zero_le _))) (show m > S.length - 0 from hc5)]
        exact ⟨rfl, (by have h := (show Own T w w6 [.blk q [(str S), (vN 6)] 47] from H6); simpa only [Rd.rest, Rd.bad, Rd.on, List.drop_zero, Nat.zero_add] using h)⟩
      ·
        have hc5 := of_decide_eq_false hb5
        refine WC.skip ?_
        refine WQ.next ?_
        refine WC.seq ?_
        refine WC.region ?_
        refine WL.op rfl rfl (op_move rfl ?_)
        refine WL.op rfl rfl (op_nilCheck rfl ?_)
        refine WL.op rfl rfl (op_fieldAddr rfl Fa.F47_0 ?_)
        refine WL.op rfl rfl (op_load rfl (H.cell (i := 0) rfl rfl) Try.underlying9 rfl ?_)
        refine WL.op rfl rfl (op_move rfl ?_)
        refine WL.op rfl rfl (op_sliceStrHi Try.underlying9 rfl rfl (by omega) ?_)
        refine WL.op rfl rfl (op_assign rfl ?_)
        refine WL.nil ?_
        refine WQ.next ?_
        refine WC.seq ?_
        refine WC.region ?_
        refine WL.op rfl rfl (op_move rfl ?_)
        refine WL.op rfl rfl (op_move rfl ?_)
        refine WL.op rfl rfl (op_nilCheck rfl ?_)
        refine WL.op rfl rfl (op_fieldAddr rfl Fa.F47_0 ?_)
        refine WL.op rfl rfl (op_load rfl (H.cell (i := 0) rfl rfl) Try.underlying9 rfl ?_)
        refine WL.op rfl rfl (op_move rfl ?_)
        refine WL.op rfl rfl (op_sliceStrLo Try.underlying9 rfl rfl (by omega) ?_)
        refine WL.op rfl rfl (op_nilCheck rfl ?_)
        refine WL.op rfl rfl (op_fieldAddr rfl Fa.F47_0 ?_)
        refine WL.op rfl rfl (op_storeB (i := 0) H rfl rfl rfl rfl rfl Fa.I9 (fun w7 H7 => ?_))
        refine WL.nil ?_
        refine WQ.next ?_
        refine WC.seq ?_
        refine WC.region ?_
        refine WL.op rfl rfl (op_move rfl ?_)
        refine WL.op rfl rfl (op_assign rfl ?_)
        refine WL.op rfl rfl (op_assign rfl ?_)
        refine WL.nil ?_
        refine WQ.next ?_
        refine WC.ret ?_
        refine WQ.out (.tmp rfl (.tmp rfl .nil)) ?_
        rw [takeR_3 (r := (Rd.mk S 0 E (Nat.zero_le _))) (Decidable.not_not.mp hc1), rawR_2 (r := (Rd.mk S 0 E (Nat.zero_le _))) (show ¬ m > S.length - 0 from hc5)]
        exact ⟨rfl, (by have h := (show Own T w w7 [.blk q [(str (S.drop m)), (vN E)] 47] from H7); simpa only [Rd.rest, Rd.bad, Rd.on, List.drop_zero, Nat.zero_add] using h)⟩
set_option maxRecDepth 100000 in
theorem fnum_ok (q : Nat) (S : List UInt8) (E : Nat) (n : Int) (T : List Nat) (w : World) (H : Own T w w [.blk q [(str S), (vN E)] 47]) (hr : S.length < 2 ^ 47) :
    Calls Try.prog 32 #[(ptr q 0), (vI n)] w (fun e w' => e = .returned (.tuple #[vU32 (numR (Rd.mk S 0 E (Nat.zero_le _)) n).1.1, vN (numR (Rd.mk S 0 E (Nat.zero_le _)) n).1.2]) ∧ Own T w w' [.blk q [str (numR (Rd.mk S 0 E (Nat.zero_le _)) n).2.rest, vN (numR (Rd.mk S 0 E (Nat.zero_le _)) n).2.f] 47]) := by
  refine enter (args := [(ptr q 0), (vI n)]) Try.func32 rfl rfl ?_
  have hTl : (takeR (Rd.mk S 0 E (Nat.zero_le _)) n).1.1.length < 2 ^ 47 := takeR_len _ _ (by exact hr)
  refine WC.seq ?_
  refine WC.region ?_
  refine WL.op rfl rfl (op_assign rfl ?_)
  refine WL.op rfl rfl (op_assign rfl ?_)
  refine WL.nil ?_
  refine WQ.next ?_
  refine WC.seq ?_
  refine WC.seq ?_
  refine WC.region ?_
  refine WL.op rfl rfl (op_move rfl ?_)
  refine WL.op rfl rfl (op_nilCheck rfl ?_)
  refine WL.op rfl rfl (op_fieldAddr rfl Fa.F47_1 ?_)
  refine WL.op rfl rfl (op_load rfl (H.cell (i := 0) rfl rfl) Try.underlying26 rfl ?_)
  refine WL.op rfl rfl (op_eqlN (b := 0) rfl rfl ?_)
  refine WL.op rfl rfl (op_move rfl ?_)
  refine WL.split (t := 15) rfl (fun (hb1 : (decide (E = 0)) = true) => ?_) (fun (hb1 : (decide (E = 0)) = false) => ?_)
  ·
    have hc1 := of_decide_eq_true hb1
    refine WL.yes rfl rfl rfl hb1 rfl (op_move rfl ?_)
    refine WL.yes rfl rfl rfl hb1 rfl (op_lssI (b := (1 : Int)) rfl rfl ?_)
    refine WL.yes rfl rfl rfl hb1 rfl (op_move rfl ?_)
    refine WL.split (t := 18) rfl (fun (hb2 : (decide (n < (1 : Int))) = true) => ?_) (fun (hb2 : (decide (n < (1 : Int))) = false) => ?_)
    ·
      have hc2 := of_decide_eq_true hb2
      refine WL.no rfl rfl rfl hb2 rfl ?_
      refine WL.no rfl rfl rfl hb2 rfl ?_
      refine WL.yes rfl rfl rfl hb1 rfl (op_pickT rfl hb2 rfl ?_)
      refine WL.op rfl rfl (op_pickT rfl hb1 rfl ?_)
      refine WL.nil ?_
      refine WQ.next ?_
      refine WC.yes rfl rfl ?_
      refine WC.seq ?_
      refine WC.region ?_
      refine WL.op rfl rfl (op_move rfl ?_)
      refine WL.op rfl rfl (op_callF Fa.C78 rfl ((fails_ok q S E 2 _ _ (H.part [0] rfl rfl)).mono (fun e w3 hq => ?_)))
      obtain ⟨rfl, hq3⟩ := hq
      refine ⟨_, rfl, ?_⟩
      have H3 : Own T w w3 [.blk q [(str S), (vN 2)] 47] := H.splice [0] [.blk q [(str S), (vN 2)] 47] [] rfl rfl hq3 (Fits.solid True.intro Fits.nil)
      refine WL.op rfl rfl (op_assign rfl ?_)
      refine WL.op rfl rfl (op_assign rfl ?_)
      refine WL.nil ?_
      refine WQ.next ?_
      refine WC.ret ?_
      refine WQ.thenRet ?_
      refine WQ.out (.tmp rfl (.tmp rfl .nil)) ?_
      rw [numR_bad (r := (Rd.mk S 0 E (Nat.zero_le _))) hc1 (by omega)]
      exact ⟨rfl, (by have h := (show Own T w w3 [.blk q [(str S), (vN 2)] 47] from H3); simpa only [Rd.rest, Rd.bad, Rd.on, List.drop_zero, Nat.zero_add] using h)⟩
    ·
      have hc2 := of_decide_eq_false hb2
      refine WL.yes rfl rfl rfl hb2 rfl (op_move rfl ?_)
      refine WL.yes rfl rfl rfl hb2 rfl (op_gtrI (b := (4 : Int)) rfl rfl ?_)
      refine WL.yes rfl rfl rfl hb1 rfl (op_pickF rfl hb2 rfl ?_)
      refine WL.op rfl rfl (op_pickT rfl hb1 rfl ?_)
      refine WL.nil ?_
      refine WQ.next ?_
      refine WC.cond rfl (fun (hb4 : (decide (n > (4 : Int))) = true) => ?_) (fun (hb4 : (decide (n > (4 : Int))) = false) => ?_)
      ·
        have hc4 := of_decide_eq_true hb4
        refine WC.seq ?_
        refine WC.region ?_
        refine WL.op rfl rfl (op_move rfl ?_)
        refine WL.op rfl rfl (op_callF Fa.C78 rfl ((fails_ok q S E 2 _ _ (H.part [0] rfl rfl)).mono (fun e w5 hq => ?_)))
        obtain ⟨rfl, hq5⟩ := hq
        refine ⟨_, rfl, ?_⟩
        have H5 : Own T w w5 [.blk q [(str S), (vN 2)] 47] := H.splice [0] [.blk q [(str S), (vN 2)] 47] [] rfl rfl hq5 (Fits.solid True.intro Fits.nil)
        refine WL.op rfl rfl (op_assign rfl ?_)
        refine WL.op rfl rfl (op_assign rfl ?_)
        refine WL.nil ?_
        refine WQ.next ?_
        refine WC.ret ?_
        refine WQ.thenRet ?_
        refine WQ.out (.tmp rfl (.tmp rfl .nil)) ?_
        rw [numR_bad (r := (Rd.mk S 0 E (Nat.zero_le _))) hc1 (by omega)]
        exact ⟨rfl, (by have h := (show Own T w w5 [.blk q [(str S), (vN 2)] 47] from H5); simpa only [Rd.rest, Rd.bad, Rd.on, List.drop_zero, Nat.zero_add] using h)⟩
      ·
        have hc4 := of_decide_eq_false hb4
        refine WC.skip ?_
        refine WQ.next ?_
        refine WC.seq ?_
        refine WC.region ?_
        refine WL.op rfl rfl (op_move rfl ?_)
        refine WL.op rfl rfl (op_move rfl ?_)
        refine WL.op rfl rfl (op_callF Fa.C31 rfl ((ftake_ok q S E (n) _ _ (H.part [0] rfl rfl) (by first | assumption | omega)).mono (fun e w6 hq => ?_)))
        obtain ⟨rfl, hq6⟩ := hq
        refine ⟨_, rfl, ?_⟩
        have H6 : Own T w w6 [.blk q [(str (takeR (Rd.mk S 0 E (Nat.zero_le _)) n).2.rest), (vN (takeR (Rd.mk S 0 E (Nat.zero_le _)) n).2.f)] 47] := H.splice [0] [.blk q [(str (takeR (Rd.mk S 0 E (Nat.zero_le _)) n).2.rest), (vN (takeR (Rd.mk S 0 E (Nat.zero_le _)) n).2.f)] 47] [] rfl rfl hq6 (Fits.solid True.intro Fits.nil)
        refine WL.op rfl rfl (op_move rfl ?_)
        refine WL.op rfl rfl (op_extract rfl rfl ?_)
        refine WL.op rfl rfl (op_extract rfl rfl ?_)
        refine WL.op rfl rfl (op_assign rfl ?_)
        refine WL.op rfl rfl (op_assign rfl ?_)
        refine WL.nil ?_
        refine WQ.next ?_
        refine WC.seq ?_
        refine WC.region ?_
        refine WL.op rfl rfl (op_assign rfl ?_)
        refine WL.nil ?_
        refine WQ.next ?_
        refine WC.seq ?_
        refine WC.seq ?_
        refine WC.region ?_
        refine WL.op rfl rfl (op_move rfl ?_)
        refine WL.op rfl rfl (op_lenStr Try.underlying9 rfl ?_)
        refine WL.op rfl rfl (op_subI (a := (((takeR (Rd.mk S 0 E (Nat.zero_le _)) n).1.1.length : Nat) : Int)) (b := ((1 : Nat) : Int)) rfl rfl (by omega) ?_)
        refine WL.op rfl rfl (op_assign rfl ?_)
        refine WL.nil ?_
        refine WQ.next ?_
        refine WC.block ?_
        refine WC.loop (α := Nat) (fun j => [(6, (str (takeR (Rd.mk S 0 E (Nat.zero_le _)) n).1.1)), (7, (vN (takeR (Rd.mk S 0 E (Nat.zero_le _)) n).1.2)), (8, (vU32 (gF ((takeR (Rd.mk S 0 E (Nat.zero_le _)) n).1.1.drop j)))), (9, (vI ((j : Int) - (1 : Int))))]) (fun j w' => (j ≤ (takeR (Rd.mk S 0 E (Nat.zero_le _)) n).1.1.length) ∧ Own T w w' [.blk q [(str (takeR (Rd.mk S 0 E (Nat.zero_le _)) n).2.rest), (vN (takeR (Rd.mk S 0 E (Nat.zero_le _)) n).2.f)] 47]) (fun j => j) (takeR (Rd.mk S 0 E (Nat.zero_le _)) n).1.1.length ⟨(by omega), H6⟩ ⟨rfl, rfl, (by rw [List.drop_length]; rfl), rfl, trivial⟩ ?_
        rintro j w7 ⟨hinv, H7⟩
        show WC _ _ _ _ _ [(6, (str (takeR (Rd.mk S 0 E (Nat.zero_le _)) n).1.1)), (7, (vN (takeR (Rd.mk S 0 E (Nat.zero_le _)) n).1.2)), (8, (vU32 (gF ((takeR (Rd.mk S 0 E (Nat.zero_le _)) n).1.1.drop j)))), (9, (vI ((j : Int) - (1 : Int))))] _
        refine WC.seq ?_
        refine WC.seq ?_
        refine WC.region ?_
        refine WL.op rfl rfl (op_move rfl ?_)
        refine WL.op rfl rfl (op_geqI (b := (0 : Int)) rfl rfl ?_)
        refine WL.nil ?_
        refine WQ.next ?_
        refine WC.cond rfl (fun (hb8 : (decide (((j : Int) - (1 : Int)) ≥ (0 : Int))) = true) => ?_) (fun (hb8 : (decide (((j : Int) - (1 : Int)) ≥ (0 : Int))) = false) => ?_)
        ·
          have hc8 := of_decide_eq_true hb8
          obtain ⟨m, hm⟩ : ∃ m, j = m + 1 := ⟨j - 1, by omega⟩
          subst hm
          rw [show (((m + 1 : Nat) : Int) - (1 : Int)) = (m : Int) from by omega]
          refine WC.skip ?_
          refine WQ.next ?_
          refine WC.seq ?_
          refine WC.block ?_
          refine WC.region ?_
          refine WL.op rfl rfl (op_move rfl ?_)
          refine WL.op rfl rfl (op_mulU32 (a := 256) rfl rfl ?_)
          refine WL.op rfl rfl (op_move rfl ?_)
          refine WL.op rfl rfl (op_move rfl ?_)
          refine WL.op rfl rfl (op_indexStrD Try.underlying9 rfl rfl (by omega) ?_)
          refine WL.op rfl rfl (op_convU8U32 (hs := Try.underlying5) (hd := Try.underlying22) rfl ?_)
          refine WL.op rfl rfl (op_addU32 rfl rfl ?_)
          refine WL.op rfl rfl (op_assign rfl ?_)
          refine WL.nil ?_
          refine WQ.inNormal ?_
          refine WQ.next ?_
          refine WC.region ?_
          refine WL.op rfl rfl (op_move rfl ?_)
          refine WL.op rfl rfl (op_subI (a := ((m : Nat) : Int)) (b := ((1 : Nat) : Int)) rfl rfl (by omega) ?_)
          refine WL.op rfl rfl (op_assign rfl ?_)
          refine WL.nil ?_
          exact WQ.round m ⟨(by omega), H7⟩ ⟨rfl, rfl, (congrArg (fun x => some (vU32 x)) (gF_drop (takeR (Rd.mk S 0 E (Nat.zero_le _)) n).1.1 m (by omega)).symm), rfl, trivial⟩ (by omega)
        ·
          have hc8 := of_decide_eq_false hb8
          refine WC.exit ?_
          refine WQ.thenExit ?_
          refine WQ.thenExit ?_
          refine WQ.inHere ?_
          refine WQ.next ?_
          refine WC.seq ?_
          refine WC.region ?_
          refine WL.op rfl rfl (op_move rfl ?_)
          refine WL.op rfl rfl (op_move rfl ?_)
          refine WL.op rfl rfl (op_assign rfl ?_)
          refine WL.op rfl rfl (op_assign rfl ?_)
          refine WL.nil ?_
          refine WQ.next ?_
          refine WC.ret ?_
          refine WQ.out (.tmp rfl (.tmp rfl .nil)) ?_
          have hj : j = 0 := (by omega)
          subst hj
          rw [numR_take (r := (Rd.mk S 0 E (Nat.zero_le _))) (fun h0 hx => by omega)]
          exact ⟨rfl, H7⟩
  ·
    have hc1 := of_decide_eq_false hb1
    refine WL.no rfl rfl rfl hb1 rfl ?_
    refine WL.no rfl rfl rfl hb1 rfl ?_
    refine WL.no rfl rfl rfl hb1 rfl ?_
    refine WL.non rfl rfl rfl rfl ?_
    refine WL.non rfl rfl rfl rfl ?_
    refine WL.no rfl rfl rfl hb1 rfl ?_
    refine WL.op rfl rfl (op_pickF rfl hb1 rfl ?_)
    refine WL.nil ?_
    refine WQ.next ?_
    refine WC.no rfl rfl ?_
    refine WC.skip ?_
    refine WQ.next ?_
    refine WC.seq ?_
    refine WC.region ?_
    refine WL.op rfl rfl (op_move rfl ?_)
    refine WL.op rfl rfl (op_move rfl ?_)
    refine WL.op rfl rfl (op_callF Fa.C31 rfl ((ftake_ok q S E (n) _ _ (H.part [0] rfl rfl) (by first | assumption | omega)).mono (fun e w9 hq => ?_)))
    obtain ⟨rfl, hq9⟩ := hq
    refine ⟨_, rfl, ?_⟩
    have H9 : Own T w w9 [.blk q [(str (takeR (Rd.mk S 0 E (Nat.zero_le _)) n).2.rest), (vN (takeR (Rd.mk S 0 E (Nat.zero_le _)) n).2.f)] 47] := H.splice [0] [.blk q [(str (takeR (Rd.mk S 0 E (Nat.zero_le _)) n).2.rest), (vN (takeR (Rd.mk S 0 E (Nat.zero_le _)) n).2.f)] 47] [] rfl rfl hq9 (Fits.solid True.intro Fits.nil)
    refine WL.op rfl rfl (op_move rfl ?_)
    refine WL.op rfl rfl (op_extract rfl rfl ?_)
    refine WL.op rfl rfl (op_extract rfl rfl ?_)
    refine WL.op rfl rfl (op_assign rfl ?_)
    refine WL.op rfl rfl (op_assign rfl ?_)
    refine WL.nil ?_
    refine WQ.next ?_
    refine WC.seq ?_
    refine WC.region ?_
    refine WL.op rfl rfl (op_assign rfl ?_)
    refine WL.nil ?_
    refine WQ.next ?_
    refine WC.seq ?_
    refine WC.seq ?_
    refine WC.region ?_
    refine WL.op rfl rfl (op_move rfl ?_)
    refine WL.op rfl rfl (op_lenStr Try.underlying9 rfl ?_)
    refine WL.op rfl rfl (op_subI (a := (((takeR (Rd.mk S 0 E (Nat.zero_le _)) n).1.1.length : Nat) : Int)) (b := ((1 : Nat) : Int)) rfl rfl (by omega) ?_)
    refine WL.op rfl rfl (op_assign rfl ?_)
    refine WL.nil ?_
    refine WQ.next ?_
    refine WC.block ?_
    refine WC.loop (α := Nat) (fun j => [(6, (str (takeR (Rd.mk S 0 E (Nat.zero_le _)) n).1.1)), (7, (vN (takeR (Rd.mk S 0 E (Nat.zero_le _)) n).1.2)), (8, (vU32 (gF ((takeR (Rd.mk S 0 E (Nat.zero_le _)) n).1.1.drop j)))), (9, (vI ((j : Int) - (1 : Int))))]) (fun j w' => (j ≤ (takeR (Rd.mk S 0 E (Nat.zero_le _)) n).1.1.length) ∧ Own T w w' [.blk q [(str (takeR (Rd.mk S 0 E (Nat.zero_le _)) n).2.rest), (vN (takeR (Rd.mk S 0 E (Nat.zero_le _)) n).2.f)] 47]) (fun j => j) (takeR (Rd.mk S 0 E (Nat.zero_le _)) n).1.1.length ⟨(by omega), H9⟩ ⟨rfl, rfl, (by rw [List.drop_length]; rfl), rfl, trivial⟩ ?_
    rintro j w10 ⟨hinv, H10⟩
    show WC _ _ _ _ _ [(6, (str (takeR (Rd.mk S 0 E (Nat.zero_le _)) n).1.1)), (7, (vN (takeR (Rd.mk S 0 E (Nat.zero_le _)) n).1.2)), (8, (vU32 (gF ((takeR (Rd.mk S 0 E (Nat.zero_le _)) n).1.1.drop j)))), (9, (vI ((j : Int) - (1 : Int))))] _
    refine WC.seq ?_
    refine WC.seq ?_
    refine WC.region ?_
    refine WL.op rfl rfl (op_move rfl ?_)
    refine WL.op rfl rfl (op_geqI (b := (0 : Int)) rfl rfl ?_)
    refine WL.nil ?_
    refine WQ.next ?_
    refine WC.cond rfl (fun (hb11 : (decide (((j : Int) - (1 : Int)) ≥ (0 : Int))) = true) => ?_) (fun (hb11 : (decide (((j : Int) - (1 : Int)) ≥ (0 : Int))) = false) => ?_)
    ·
      have hc11 := of_decide_eq_true hb11
      obtain ⟨m, hm⟩ : ∃ m, j = m + 1 := ⟨j - 1, by omega⟩
      subst hm
      rw [show (((m + 1 : Nat) : Int) - (1 : Int)) = (m : Int) from by omega]
      refine WC.skip ?_
      refine WQ.next ?_
      refine WC.seq ?_
      refine WC.block ?_
      refine WC.region ?_
      refine WL.op rfl rfl (op_move rfl ?_)
      refine WL.op rfl rfl (op_mulU32 (a := 256) rfl rfl ?_)
      refine WL.op rfl rfl (op_move rfl ?_)
      refine WL.op rfl rfl (op_move rfl ?_)
      refine WL.op rfl rfl (op_indexStrD Try.underlying9 rfl rfl (by omega) ?_)
      refine WL.op rfl rfl (op_convU8U32 (hs := Try.underlying5) (hd := Try.underlying22) rfl ?_)
      refine WL.op rfl rfl (op_addU32 rfl rfl ?_)
      refine WL.op rfl rfl (op_assign rfl ?_)
      refine WL.nil ?_
      refine WQ.inNormal ?_
      refine WQ.next ?_
      refine WC.region ?_
      refine WL.op rfl rfl (op_move rfl ?_)
      refine WL.op rfl rfl (op_subI (a := ((m : Nat) : Int)) (b := ((1 : Nat) : Int)) rfl rfl (by omega) ?_)
      refine WL.op rfl rfl (op_assign rfl ?_)
      refine WL.nil ?_
      exact WQ.round m ⟨(by omega), H10⟩ ⟨rfl, rfl, (congrArg (fun x => some (vU32 x)) (gF_drop (takeR (Rd.mk S 0 E (Nat.zero_le _)) n).1.1 m (by omega)).symm), rfl, trivial⟩ (by omega)
    ·
      have hc11 := of_decide_eq_false hb11
      refine WC.exit ?_
      refine WQ.thenExit ?_
      refine WQ.thenExit ?_
      refine WQ.inHere ?_
      refine WQ.next ?_
      refine WC.seq ?_
      refine WC.region ?_
      refine WL.op rfl rfl (op_move rfl ?_)
      refine WL.op rfl rfl (op_move rfl ?_)
      refine WL.op rfl rfl (op_assign rfl ?_)
      refine WL.op rfl rfl (op_assign rfl ?_)
      refine WL.nil ?_
      refine WQ.next ?_
      refine WC.ret ?_
      refine WQ.out (.tmp rfl (.tmp rfl .nil)) ?_
      have hj : j = 0 := (by omega)
      subst hj
      rw [numR_take (r := (Rd.mk S 0 E (Nat.zero_le _))) (fun h0 _ => absurd h0 hc1)]
      exact ⟨rfl, H10⟩
set_option maxRecDepth 100000 in
theorem ftext_ok (q : Nat) (S : List UInt8) (E : Nat) (T : List Nat) (w : World) (H : Own T w w [.blk q [(str S), (vN E)] 47]) (hr : S.length < 2 ^ 47) :
    Calls Try.prog 33 #[(ptr q 0)] w (fun e w' => e = .returned (.tuple #[str (textR (Rd.mk S 0 E (Nat.zero_le _))).1.1, vN (textR (Rd.mk S 0 E (Nat.zero_le _))).1.2]) ∧ Own T w w' [.blk q [str (textR (Rd.mk S 0 E (Nat.zero_le _))).2.rest, vN (textR (Rd.mk S 0 E (Nat.zero_le _))).2.f] 47]) := by
  refine enter (args := [(ptr q 0)]) Try.func33 rfl rfl ?_
  refine WC.seq ?_
  refine WC.region ?_
  refine WL.op rfl rfl (op_assign rfl ?_)
  refine WL.op rfl rfl (op_assign rfl ?_)
  refine WL.nil ?_
  refine WQ.next ?_
  refine WC.seq ?_
  refine WC.region ?_
  refine WL.op rfl rfl (op_move rfl ?_)
  refine WL.op rfl rfl (op_nilCheck rfl ?_)
  refine WL.op rfl rfl (op_fieldAddr rfl Fa.F47_0 ?_)
  refine WL.op rfl rfl (op_load rfl (H.cell (i := 0) rfl rfl) Try.underlying9 rfl ?_)
  refine WL.op rfl rfl (op_assign rfl ?_)
  refine WL.nil ?_
  refine WQ.next ?_
  refine WC.seq ?_
  refine WC.region ?_
  refine WL.op rfl rfl (op_move rfl ?_)
  refine WL.op rfl rfl (op_callF Fa.C32 rfl ((fnum_ok q S E (2) _ _ (H.part [0] rfl rfl) (by first | exact hr | exact rest_lt (by rw [numR_s]; exact hr))).mono (fun e w1 hq => ?_)))
  obtain ⟨rfl, hq1⟩ := hq
  refine ⟨_, rfl, ?_⟩
  have H1 : Own T w w1 [.blk q [(str (numR (Rd.mk S 0 E (Nat.zero_le _)) 2).2.rest), (vN (numR (Rd.mk S 0 E (Nat.zero_le _)) 2).2.f)] 47] := H.splice [0] [.blk q [(str (numR (Rd.mk S 0 E (Nat.zero_le _)) 2).2.rest), (vN (numR (Rd.mk S 0 E (Nat.zero_le _)) 2).2.f)] 47] [] rfl rfl hq1 (Fits.solid True.intro Fits.nil)
  refine WL.op rfl rfl (op_move rfl ?_)
  refine WL.op rfl rfl (op_extract rfl rfl ?_)
  refine WL.op rfl rfl (op_extract rfl rfl ?_)
  refine WL.op rfl rfl (op_assign rfl ?_)
  refine WL.op rfl rfl (op_assign rfl ?_)
  refine WL.nil ?_
  refine WQ.next ?_
  refine WC.seq ?_
  refine WC.seq ?_
  refine WC.region ?_
  refine WL.op rfl rfl (op_move rfl ?_)
  refine WL.op rfl rfl (op_neqN (b := 0) rfl rfl ?_)
  refine WL.nil ?_
  refine WQ.next ?_
  refine WC.cond rfl (fun (hb2 : (decide ((numR (Rd.mk S 0 E (Nat.zero_le _)) 2).1.2 ≠ 0)) = true) => ?_) (fun (hb2 : (decide ((numR (Rd.mk S 0 E (Nat.zero_le _)) 2).1.2 ≠ 0)) = false) => ?_)
  ·
    have hc2 := of_decide_eq_true hb2
    refine WC.seq ?_
    refine WC.region ?_
    refine WL.op rfl rfl (op_move rfl ?_)
    refine WL.op rfl rfl (op_assign rfl ?_)
    refine WL.op rfl rfl (op_assign rfl ?_)
    refine WL.nil ?_
    refine WQ.next ?_
    refine WC.ret ?_
    refine WQ.thenRet ?_
    refine WQ.out (.tmp rfl (.tmp rfl .nil)) ?_
    rw [textR, if_pos hc2]
    exact ⟨rfl, H1⟩
  ·
    have hc2 := of_decide_eq_false hb2
    refine WC.skip ?_
    refine WQ.next ?_
    refine WC.seq ?_
    refine WC.region ?_
    have htk : (takeR (Rd.mk (numR (Rd.mk S 0 E (Nat.zero_le _)) 2).2.rest 0 (numR (Rd.mk S 0 E (Nat.zero_le _)) 2).2.f (Nat.zero_le _)) (numR (Rd.mk S 0 E (Nat.zero_le _)) 2).1.1.toNat).1 = (rawR (numR (Rd.mk S 0 E (Nat.zero_le _)) 2).2 (numR (Rd.mk S 0 E (Nat.zero_le _)) 2).1.1.toNat).1 ∧ Like (takeR (Rd.mk (numR (Rd.mk S 0 E (Nat.zero_le _)) 2).2.rest 0 (numR (Rd.mk S 0 E (Nat.zero_le _)) 2).2.f (Nat.zero_le _)) (numR (Rd.mk S 0 E (Nat.zero_le _)) 2).1.1.toNat).2 (rawR (numR (Rd.mk S 0 E (Nat.zero_le _)) 2).2 (numR (Rd.mk S 0 E (Nat.zero_le _)) 2).1.1.toNat).2 := by
      have h := (Like.re (numR (Rd.mk S 0 E (Nat.zero_le _)) 2).2).take (numR (Rd.mk S 0 E (Nat.zero_le _)) 2).1.1.toNat
      rwa [takeR_3 (numR_f0 (Decidable.not_not.mp hc2))] at h
    refine WL.op rfl rfl (op_move rfl ?_)
    refine WL.op rfl rfl (op_move rfl ?_)
    refine WL.op rfl rfl (op_convU32N (hs := Try.underlying22) (hd := Try.underlying3) rfl ?_)
    refine WL.op rfl rfl (op_callF Fa.C31 rfl ((ftake_ok q ((numR (Rd.mk S 0 E (Nat.zero_le _)) 2).2.rest) ((numR (Rd.mk S 0 E (Nat.zero_le _)) 2).2.f) (((numR (Rd.mk S 0 E (Nat.zero_le _)) 2).1.1.toNat : Nat)) _ _ (H1.part [0] rfl rfl) (by first | exact hr | exact rest_lt (by rw [numR_s]; exact hr))).mono (fun e w3 hq => ?_)))
    obtain ⟨rfl, hq3⟩ := hq
    refine ⟨_, rfl, ?_⟩
    have H3 : Own T w w3 [.blk q [(str (takeR (Rd.mk ((numR (Rd.mk S 0 E (Nat.zero_le _)) 2).2.rest) 0 ((numR (Rd.mk S 0 E (Nat.zero_le _)) 2).2.f) (Nat.zero_le _)) ((numR (Rd.mk S 0 E (Nat.zero_le _)) 2).1.1.toNat : Nat)).2.rest), (vN (takeR (Rd.mk ((numR (Rd.mk S 0 E (Nat.zero_le _)) 2).2.rest) 0 ((numR (Rd.mk S 0 E (Nat.zero_le _)) 2).2.f) (Nat.zero_le _)) ((numR (Rd.mk S 0 E (Nat.zero_le _)) 2).1.1.toNat : Nat)).2.f)] 47] := H1.splice [0] [.blk q [(str (takeR (Rd.mk ((numR (Rd.mk S 0 E (Nat.zero_le _)) 2).2.rest) 0 ((numR (Rd.mk S 0 E (Nat.zero_le _)) 2).2.f) (Nat.zero_le _)) ((numR (Rd.mk S 0 E (Nat.zero_le _)) 2).1.1.toNat : Nat)).2.rest), (vN (takeR (Rd.mk ((numR (Rd.mk S 0 E (Nat.zero_le _)) 2).2.rest) 0 ((numR (Rd.mk S 0 E (Nat.zero_le _)) 2).2.f) (Nat.zero_le _)) ((numR (Rd.mk S 0 E (Nat.zero_le _)) 2).1.1.toNat : Nat)).2.f)] 47] [] rfl rfl hq3 (Fits.solid True.intro Fits.nil)
    refine WL.op rfl rfl (op_move rfl ?_)
    refine WL.op rfl rfl (op_extract rfl rfl ?_)
    refine WL.op rfl rfl (op_extract rfl rfl ?_)
    refine WL.op rfl rfl (op_assign rfl ?_)
    refine WL.op rfl rfl (op_assign rfl ?_)
    refine WL.nil ?_
    refine WQ.next ?_
    refine WC.seq ?_
    refine WC.seq ?_
    refine WC.region ?_
    refine WL.op rfl rfl (op_move rfl ?_)
    refine WL.op rfl rfl (op_neqN (b := 0) rfl rfl ?_)
    refine WL.nil ?_
    refine WQ.next ?_
    refine WC.cond rfl (fun (hb4 : (decide ((takeR (Rd.mk ((numR (Rd.mk S 0 E (Nat.zero_le _)) 2).2.rest) 0 ((numR (Rd.mk S 0 E (Nat.zero_le _)) 2).2.f) (Nat.zero_le _)) ((numR (Rd.mk S 0 E (Nat.zero_le _)) 2).1.1.toNat : Nat)).1.2 ≠ 0)) = true) => ?_) (fun (hb4 : (decide ((takeR (Rd.mk ((numR (Rd.mk S 0 E (Nat.zero_le _)) 2).2.rest) 0 ((numR (Rd.mk S 0 E (Nat.zero_le _)) 2).2.f) (Nat.zero_le _)) ((numR (Rd.mk S 0 E (Nat.zero_le _)) 2).1.1.toNat : Nat)).1.2 ≠ 0)) = false) => ?_)
    ·
      have hc4 := of_decide_eq_true hb4
      refine WC.region ?_
      refine WL.op rfl rfl (op_move rfl ?_)
      refine WL.op rfl rfl (op_move rfl ?_)
      refine WL.op rfl rfl (op_nilCheck rfl ?_)
      refine WL.op rfl rfl (op_fieldAddr rfl Fa.F47_0 ?_)
      refine WL.op rfl rfl (op_storeB (i := 0) H3 rfl rfl rfl rfl rfl Fa.I9 (fun w5 H5 => ?_))
      refine WL.nil ?_
      refine WQ.next ?_
      refine WC.seq ?_
      refine WC.region ?_
      refine WL.op rfl rfl (op_move rfl ?_)
      refine WL.op rfl rfl (op_move rfl ?_)
      refine WL.op rfl rfl (op_assign rfl ?_)
      refine WL.op rfl rfl (op_assign rfl ?_)
      refine WL.nil ?_
      refine WQ.next ?_
      refine WC.ret ?_
      refine WQ.out (.tmp rfl (.tmp rfl .nil)) ?_
      rw [htk.1] at hc4
      rw [textR, if_neg hc2, if_pos hc4]
      exact ⟨by rw [htk.1]; rfl, (by have h := (show Own T w w5 [.blk q [(str S), (vN (takeR (Rd.mk ((numR (Rd.mk S 0 E (Nat.zero_le _)) 2).2.rest) 0 ((numR (Rd.mk S 0 E (Nat.zero_le _)) 2).2.f) (Nat.zero_le _)) ((numR (Rd.mk S 0 E (Nat.zero_le _)) 2).1.1.toNat : Nat)).2.f)] 47] from H5); rw [htk.2.2] at h; simpa only [Rd.rest, List.drop_zero] using h)⟩
    ·
      have hc4 := of_decide_eq_false hb4
      refine WC.skip ?_
      refine WQ.next ?_
      refine WC.seq ?_
      refine WC.region ?_
      refine WL.op rfl rfl (op_move rfl ?_)
      refine WL.op rfl rfl (op_move rfl ?_)
      refine WL.op rfl rfl (op_assign rfl ?_)
      refine WL.op rfl rfl (op_assign rfl ?_)
      refine WL.nil ?_
      refine WQ.next ?_
      refine WC.ret ?_
      refine WQ.out (.tmp rfl (.tmp rfl .nil)) ?_
      rw [htk.1] at hc4
      rw [textR, if_neg hc2, if_neg hc4]
      exact ⟨by rw [htk.1]; rfl, (by have h := (show Own T w w3 [.blk q [(str (takeR (Rd.mk ((numR (Rd.mk S 0 E (Nat.zero_le _)) 2).2.rest) 0 ((numR (Rd.mk S 0 E (Nat.zero_le _)) 2).2.f) (Nat.zero_le _)) ((numR (Rd.mk S 0 E (Nat.zero_le _)) 2).1.1.toNat : Nat)).2.rest), (vN (takeR (Rd.mk ((numR (Rd.mk S 0 E (Nat.zero_le _)) 2).2.rest) 0 ((numR (Rd.mk S 0 E (Nat.zero_le _)) 2).2.f) (Nat.zero_le _)) ((numR (Rd.mk S 0 E (Nat.zero_le _)) 2).1.1.toNat : Nat)).2.f)] 47] from H3); rw [htk.2.1, htk.2.2] at h; exact h)⟩
set_option maxRecDepth 100000 in
theorem fend_ok (q : Nat) (S : List UInt8) (E : Nat) (T : List Nat) (w : World) (H : Own T w w [.blk q [(str S), (vN E)] 47]) (hr : S.length < 2 ^ 47) :
    Calls Try.prog 35 #[(ptr q 0)] w (fun e w' => e = .returned (vN (endR (Rd.mk S 0 E (Nat.zero_le _))).1) ∧ Own T w w' [.blk q [str (endR (Rd.mk S 0 E (Nat.zero_le _))).2.rest, vN (endR (Rd.mk S 0 E (Nat.zero_le _))).2.f] 47]) := by
  refine enter (args := [(ptr q 0)]) Try.func35 rfl rfl ?_
  refine WC.seq ?_
  refine WC.region ?_
  refine WL.op rfl rfl (op_assign rfl ?_)
  refine WL.nil ?_
  refine WQ.next ?_
  refine WC.seq ?_
  refine WC.seq ?_
  refine WC.region ?_
  refine WL.op rfl rfl (op_move rfl ?_)
  refine WL.op rfl rfl (op_nilCheck rfl ?_)
  refine WL.op rfl rfl (op_fieldAddr rfl Fa.F47_1 ?_)
  refine WL.op rfl rfl (op_load rfl (H.cell (i := 0) rfl rfl) Try.underlying26 rfl ?_)
  refine WL.op rfl rfl (op_neqN (b := 0) rfl rfl ?_)
  refine WL.nil ?_
  refine WQ.next ?_
  refine WC.cond rfl (fun (hb1 : (decide (E ≠ 0)) = true) => ?_) (fun (hb1 : (decide (E ≠ 0)) = false) => ?_)
  ·
    have hc1 := of_decide_eq_true hb1
    refine WC.seq ?_
    refine WC.region ?_
    refine WL.op rfl rfl (op_move rfl ?_)
    refine WL.op rfl rfl (op_nilCheck rfl ?_)
    refine WL.op rfl rfl (op_fieldAddr rfl Fa.F47_1 ?_)
    refine WL.op rfl rfl (op_load rfl (H.cell (i := 0) rfl rfl) Try.underlying26 rfl ?_)
    refine WL.op rfl rfl (op_assign rfl ?_)
    refine WL.nil ?_
    refine WQ.next ?_
    refine WC.ret ?_
    refine WQ.thenRet ?_
    refine WQ.out (.tmp rfl .nil) ?_
    rw [endR, if_pos (show (Rd.mk S 0 E (Nat.zero_le _)).f ≠ 0 from hc1)]
    exact ⟨rfl, (by have h := (show Own T w w [.blk q [(str S), (vN E)] 47] from H); simpa only [Rd.rest, Rd.bad, Rd.on, List.drop_zero, Nat.zero_add] using h)⟩
  ·
    have hc1 := of_decide_eq_false hb1
    refine WC.skip ?_
    refine WQ.next ?_
    refine WC.seq ?_
    refine WC.seq ?_
    refine WC.region ?_
    refine WL.op rfl rfl (op_move rfl ?_)
    refine WL.op rfl rfl (op_nilCheck rfl ?_)
    refine WL.op rfl rfl (op_fieldAddr rfl Fa.F47_0 ?_)
    refine WL.op rfl rfl (op_load rfl (H.cell (i := 0) rfl rfl) Try.underlying9 rfl ?_)
    refine WL.op rfl rfl (op_neqStr rfl rfl ?_)
    refine WL.nil ?_
    refine WQ.next ?_
    refine WC.cond rfl (fun (hb2 : (decide (S ≠ [])) = true) => ?_) (fun (hb2 : (decide (S ≠ [])) = false) => ?_)
    ·
      have hc2 := of_decide_eq_true hb2
      refine WC.seq ?_
      refine WC.region ?_
      refine WL.op rfl rfl (op_move rfl ?_)
      refine WL.op rfl rfl (op_callF Fa.C78 rfl ((fails_ok q S E 7 _ _ (H.part [0] rfl rfl)).mono (fun e w3 hq => ?_)))
      obtain ⟨rfl, hq3⟩ := hq
      refine ⟨_, rfl, ?_⟩
      have H3 : Own T w w3 [.blk q [(str S), (vN 7)] 47] := H.splice [0] [.blk q [(str S), (vN 7)] 47] [] rfl rfl hq3 (Fits.solid True.intro Fits.nil)
      refine WL.op rfl rfl (op_assign rfl ?_)
      refine WL.nil ?_
      refine WQ.next ?_
      refine WC.ret ?_
      refine WQ.thenRet ?_
      refine WQ.out (.tmp rfl .nil) ?_
      rw [endR, if_neg (show ¬ ((Rd.mk S 0 E (Nat.zero_le _)).f ≠ 0) from hc1), if_pos (show S.length - 0 > 0 from List.length_pos_iff.2 hc2)]
      exact ⟨rfl, (by have h := (show Own T w w3 [.blk q [(str S), (vN 7)] 47] from H3); simpa only [Rd.rest, Rd.bad, Rd.on, List.drop_zero, Nat.zero_add] using h)⟩
    ·
      have hc2 := of_decide_eq_false hb2
      refine WC.skip ?_
      refine WQ.next ?_
      refine WC.seq ?_
      refine WC.region ?_
      refine WL.op rfl rfl (op_assign rfl ?_)
      refine WL.nil ?_
      refine WQ.next ?_
      refine WC.ret ?_
      refine WQ.out (.tmp rfl .nil) ?_
      rw [endR, if_neg (show ¬ ((Rd.mk S 0 E (Nat.zero_le _)).f ≠ 0) from hc1), if_neg (show ¬ (S.length - 0 > 0) from fun h => hc2 (List.length_pos_iff.1 h))]
      exact ⟨rfl, (by have h := (show Own T w w [.blk q [(str S), (vN E)] 47] from H); simpa only [Rd.rest, Rd.bad, Rd.on, List.drop_zero, Nat.zero_add] using h)⟩
set_option maxRecDepth 100000 in
theorem ftexts_ok (q : Nat) (S : List UInt8) (E : Nat) (T : List Nat) (w : World) (H : Own T w w [.blk q [(str S), (vN E)] 47]) (hr : S.length < 2 ^ 47) :
    Calls Try.prog 34 #[(ptr q 0)] w (fun e w' => ∃ v, e = .returned (.tuple #[v, vN (textsR (Rd.mk S 0 E (Nat.zero_le _))).1.2]) ∧ Own T w w' [.blk q [str (textsR (Rd.mk S 0 E (Nat.zero_le _))).2.rest, vN (textsR (Rd.mk S 0 E (Nat.zero_le _))).2.f] 47, .row v 9 1 (textsR (Rd.mk S 0 E (Nat.zero_le _))).1.1.length (List.map str (textsR (Rd.mk S 0 E (Nat.zero_le _))).1.1)]) := by
  refine enter (args := [(ptr q 0)]) Try.func34 rfl rfl ?_
  refine WC.seq ?_
  refine WC.region ?_
  refine WL.op rfl rfl (op_assign rfl ?_)
  refine WL.op rfl rfl (op_assign rfl ?_)
  refine WL.nil ?_
  refine WQ.next ?_
  refine WC.seq ?_
  refine WC.region ?_
  refine WL.op rfl rfl (op_move rfl ?_)
  refine WL.op rfl rfl (op_nilCheck rfl ?_)
  refine WL.op rfl rfl (op_fieldAddr rfl Fa.F47_0 ?_)
  refine WL.op rfl rfl (op_load rfl (H.cell (i := 0) rfl rfl) Try.underlying9 rfl ?_)
  refine WL.op rfl rfl (op_assign rfl ?_)
  refine WL.nil ?_
  refine WQ.next ?_
  refine WC.seq ?_
  refine WC.region ?_
  refine WL.op rfl rfl (op_move rfl ?_)
  refine WL.op rfl rfl (op_callF Fa.C32 rfl ((fnum_ok q S E (2) _ _ (H.part [0] rfl rfl) (by first | exact hr | exact rest_lt (by first | (rw [numR_s]; exact hr) | (rw [txR_s, numR_s]; exact hr)))).mono (fun e w1 hq => ?_)))
  obtain ⟨rfl, hq1⟩ := hq
  refine ⟨_, rfl, ?_⟩
  have H1 : Own T w w1 [.blk q [(str (numR (Rd.mk S 0 E (Nat.zero_le _)) 2).2.rest), (vN (numR (Rd.mk S 0 E (Nat.zero_le _)) 2).2.f)] 47] := H.splice [0] [.blk q [(str (numR (Rd.mk S 0 E (Nat.zero_le _)) 2).2.rest), (vN (numR (Rd.mk S 0 E (Nat.zero_le _)) 2).2.f)] 47] [] rfl rfl hq1 (Fits.solid True.intro Fits.nil)
  refine WL.op rfl rfl (op_move rfl ?_)
  refine WL.op rfl rfl (op_extract rfl rfl ?_)
  refine WL.op rfl rfl (op_extract rfl rfl ?_)
  refine WL.op rfl rfl (op_assign rfl ?_)
  refine WL.op rfl rfl (op_assign rfl ?_)
  refine WL.nil ?_
  refine WQ.next ?_
  refine WC.seq ?_
  refine WC.seq ?_
  refine WC.region ?_
  refine WL.op rfl rfl (op_move rfl ?_)
  refine WL.op rfl rfl (op_neqN (b := 0) rfl rfl ?_)
  refine WL.nil ?_
  refine WQ.next ?_
  refine WC.cond rfl (fun (hb2 : (decide ((numR (Rd.mk S 0 E (Nat.zero_le _)) 2).1.2 ≠ 0)) = true) => ?_) (fun (hb2 : (decide ((numR (Rd.mk S 0 E (Nat.zero_le _)) 2).1.2 ≠ 0)) = false) => ?_)
  ·
    have hc2 := of_decide_eq_true hb2
    refine WC.seq ?_
    refine WC.region ?_
    refine WL.op rfl rfl (op_move rfl ?_)
    refine WL.op rfl rfl (op_assign rfl ?_)
    refine WL.op rfl rfl (op_assign rfl ?_)
    refine WL.nil ?_
    refine WQ.next ?_
    refine WC.ret ?_
    refine WQ.thenRet ?_
    refine WQ.out (.tmp rfl (.tmp rfl .nil)) ?_
    rw [textsR, if_pos hc2]
    exact ⟨_, rfl, H1.nilRow _ _⟩
  ·
    have hc2 := of_decide_eq_false hb2
    refine WC.skip ?_
    refine WQ.next ?_
    refine WC.seq ?_
    refine WC.seq ?_
    refine WC.region ?_
    refine WL.op rfl rfl (op_move rfl ?_)
    refine WL.op rfl rfl (op_gtrU32 (b := 4096) rfl rfl ?_)
    refine WL.nil ?_
    refine WQ.next ?_
    refine WC.cond rfl (fun (hb3 : (decide ((numR (Rd.mk S 0 E (Nat.zero_le _)) 2).1.1 > (4096 : UInt32))) = true) => ?_) (fun (hb3 : (decide ((numR (Rd.mk S 0 E (Nat.zero_le _)) 2).1.1 > (4096 : UInt32))) = false) => ?_)
    ·
      have hc3 := of_decide_eq_true hb3
      refine WC.seq ?_
      refine WC.region ?_
      refine WL.op rfl rfl (op_move rfl ?_)
      refine WL.op rfl rfl (op_move rfl ?_)
      refine WL.op rfl rfl (op_nilCheck rfl ?_)
      refine WL.op rfl rfl (op_fieldAddr rfl Fa.F47_0 ?_)
      refine WL.op rfl rfl (op_storeB (i := 0) H1 rfl rfl rfl rfl rfl Fa.I9 (fun w4 H4 => ?_))
      refine WL.nil ?_
      refine WQ.next ?_
      refine WC.seq ?_
      refine WC.region ?_
      refine WL.op rfl rfl (op_move rfl ?_)
      refine WL.op rfl rfl (op_callF Fa.C78 rfl ((fails_ok q S ((numR (Rd.mk S 0 E (Nat.zero_le _)) 2).2.f) 7 _ _ (H4.part [0] rfl rfl)).mono (fun e w6 hq => ?_)))
      obtain ⟨rfl, hq6⟩ := hq
      refine ⟨_, rfl, ?_⟩
      have H6 : Own T w w6 [.blk q [(str S), (vN 7)] 47] := H4.splice [0] [.blk q [(str S), (vN 7)] 47] [] rfl rfl hq6 (Fits.solid True.intro Fits.nil)
      refine WL.op rfl rfl (op_assign rfl ?_)
      refine WL.op rfl rfl (op_assign rfl ?_)
      refine WL.nil ?_
      refine WQ.next ?_
      refine WC.ret ?_
      refine WQ.thenRet ?_
      refine WQ.out (.tmp rfl (.tmp rfl .nil)) ?_
      rw [textsR, if_neg hc2, if_pos hc3]
      have h := (show Own T w w6 [.blk q [(str S), (vN 7)] 47] from H6)
      have h2 : Own T w w6 [.blk q [str (Rd.mk S 0 7 (Nat.zero_le _)).rest, vN 7] 47] := (by simpa only [Rd.rest, List.drop_zero] using h)
      exact ⟨_, rfl, h2.nilRow _ _⟩
    ·
      have hc3 := of_decide_eq_false hb3
      refine WC.skip ?_
      refine WQ.next ?_
      refine WC.seq ?_
      refine WC.region ?_
      refine WL.op rfl rfl (op_assign rfl ?_)
      have H7 := H1.nilRow 9 1
      refine WL.nil ?_
      refine WQ.next ?_
      refine WC.seq ?_
      refine WC.seq ?_
      refine WC.region ?_
      refine WL.op rfl rfl (op_assign rfl ?_)
      refine WL.nil ?_
      refine WQ.next ?_
      refine WC.block ?_
      refine WC.loop (α := Nat × Value) (fun (k, v) => [(0, (ptr q 0)), (4, (str S)), (5, (vU32 (numR (Rd.mk S 0 E (Nat.zero_le _)) 2).1.1)), (7, v), (8, (vN k))]) (fun (k, v) w' => (k ≤ (numR (Rd.mk S 0 E (Nat.zero_le _)) 2).1.1.toNat ∧ (∀ j, j < k → (textR (txR (numR (Rd.mk S 0 E (Nat.zero_le _)) 2).2 j)).1.2 = 0)) ∧ Own T w w' [.blk q [(str (txR (numR (Rd.mk S 0 E (Nat.zero_le _)) 2).2 k).rest), (vN (txR (numR (Rd.mk S 0 E (Nat.zero_le _)) 2).2 k).f)] 47, .row v 9 1 k (List.map str (txL (numR (Rd.mk S 0 E (Nat.zero_le _)) 2).2 k))]) (fun (k, v) => (numR (Rd.mk S 0 E (Nat.zero_le _)) 2).1.1.toNat - k) (0, (.slice none 0 0)) ⟨⟨Nat.zero_le _, fun j h => by omega⟩, H7⟩ ⟨rfl, rfl, rfl, rfl, rfl, trivial⟩ ?_
      rintro ⟨k, v⟩ w8 ⟨⟨hk1, hok⟩, H8⟩
      show WC _ _ _ _ _ [(0, (ptr q 0)), (4, (str S)), (5, (vU32 (numR (Rd.mk S 0 E (Nat.zero_le _)) 2).1.1)), (7, v), (8, (vN k))] _
      have hn4 : (numR (Rd.mk S 0 E (Nat.zero_le _)) 2).1.1.toNat ≤ 4096 := by have := hc3; rw [gt_iff_lt, UInt32.lt_iff_toNat_lt] at this; exact Nat.le_of_not_lt this
      have hlk := (Like.re (txR (numR (Rd.mk S 0 E (Nat.zero_le _)) 2).2 k)).text
      refine WC.seq ?_
      refine WC.seq ?_
      refine WC.region ?_
      refine WL.op rfl rfl (op_move rfl ?_)
      refine WL.op rfl rfl (op_move rfl ?_)
      refine WL.op rfl rfl (op_convU32N (hs := Try.underlying22) (hd := Try.underlying3) rfl ?_)
      refine WL.op rfl rfl (op_lssN rfl rfl ?_)
      refine WL.nil ?_
      refine WQ.next ?_
      refine WC.cond rfl (fun (hb9 : (decide (k < (numR (Rd.mk S 0 E (Nat.zero_le _)) 2).1.1.toNat)) = true) => ?_) (fun (hb9 : (decide (k < (numR (Rd.mk S 0 E (Nat.zero_le _)) 2).1.1.toNat)) = false) => ?_)
      ·
        have hc9 := of_decide_eq_true hb9
        refine WC.skip ?_
        refine WQ.next ?_
        refine WC.seq ?_
        refine WC.block ?_
        refine WC.seq ?_
        refine WC.region ?_
        refine WL.op rfl rfl (op_move rfl ?_)
        refine WL.op rfl rfl (op_callF Fa.C33 rfl ((ftext_ok q ((txR (numR (Rd.mk S 0 E (Nat.zero_le _)) 2).2 k).rest) ((txR (numR (Rd.mk S 0 E (Nat.zero_le _)) 2).2 k).f)  _ _ (H8.part [0] rfl rfl) (by first | exact hr | exact rest_lt (by first | (rw [numR_s]; exact hr) | (rw [txR_s, numR_s]; exact hr)))).mono (fun e w10 hq => ?_)))
        obtain ⟨rfl, hq10⟩ := hq
        refine ⟨_, rfl, ?_⟩
        have H10 : Own T w w10 [.blk q [(str (textR (Rd.mk ((txR (numR (Rd.mk S 0 E (Nat.zero_le _)) 2).2 k).rest) 0 ((txR (numR (Rd.mk S 0 E (Nat.zero_le _)) 2).2 k).f) (Nat.zero_le _))).2.rest), (vN (textR (Rd.mk ((txR (numR (Rd.mk S 0 E (Nat.zero_le _)) 2).2 k).rest) 0 ((txR (numR (Rd.mk S 0 E (Nat.zero_le _)) 2).2 k).f) (Nat.zero_le _))).2.f)] 47, .row v 9 1 k (List.map str (txL (numR (Rd.mk S 0 E (Nat.zero_le _)) 2).2 k))] := H8.splice [0] [.blk q [(str (textR (Rd.mk ((txR (numR (Rd.mk S 0 E (Nat.zero_le _)) 2).2 k).rest) 0 ((txR (numR (Rd.mk S 0 E (Nat.zero_le _)) 2).2 k).f) (Nat.zero_le _))).2.rest), (vN (textR (Rd.mk ((txR (numR (Rd.mk S 0 E (Nat.zero_le _)) 2).2 k).rest) 0 ((txR (numR (Rd.mk S 0 E (Nat.zero_le _)) 2).2 k).f) (Nat.zero_le _))).2.f)] 47] [] rfl rfl hq10 (Fits.solid True.intro Fits.nil)
        refine WL.op rfl rfl (op_move rfl ?_)
        refine WL.op rfl rfl (op_extract rfl rfl ?_)
        refine WL.op rfl rfl (op_extract rfl rfl ?_)
        refine WL.op rfl rfl (op_assign rfl ?_)
        refine WL.op rfl rfl (op_assign rfl ?_)
        refine WL.nil ?_
        refine WQ.next ?_
        refine WC.seq ?_
        refine WC.seq ?_
        refine WC.region ?_
        refine WL.op rfl rfl (op_move rfl ?_)
        refine WL.op rfl rfl (op_neqN (b := 0) rfl rfl ?_)
        refine WL.nil ?_
        refine WQ.next ?_
        refine WC.cond rfl (fun (hb11 : (decide ((textR (Rd.mk ((txR (numR (Rd.mk S 0 E (Nat.zero_le _)) 2).2 k).rest) 0 ((txR (numR (Rd.mk S 0 E (Nat.zero_le _)) 2).2 k).f) (Nat.zero_le _))).1.2 ≠ 0)) = true) => ?_) (fun (hb11 : (decide ((textR (Rd.mk ((txR (numR (Rd.mk S 0 E (Nat.zero_le _)) 2).2 k).rest) 0 ((txR (numR (Rd.mk S 0 E (Nat.zero_le _)) 2).2 k).f) (Nat.zero_le _))).1.2 ≠ 0)) = false) => ?_)
        ·
          have hc11 := of_decide_eq_true hb11
          refine WC.seq ?_
          refine WC.region ?_
          refine WL.op rfl rfl (op_move rfl ?_)
          refine WL.op rfl rfl (op_move rfl ?_)
          refine WL.op rfl rfl (op_nilCheck rfl ?_)
          refine WL.op rfl rfl (op_fieldAddr rfl Fa.F47_0 ?_)
          refine WL.op rfl rfl (op_storeB (i := 0) H10 rfl rfl rfl rfl rfl Fa.I9 (fun w12 H12 => ?_))
          refine WL.nil ?_
          refine WQ.next ?_
          refine WC.seq ?_
          refine WC.region ?_
          refine WL.op rfl rfl (op_move rfl ?_)
          refine WL.op rfl rfl (op_assign rfl ?_)
          refine WL.op rfl rfl (op_assign rfl ?_)
          refine WL.nil ?_
          refine WQ.next ?_
          refine WC.ret ?_
          refine WQ.thenRet ?_
          refine WQ.inRet ?_
          refine WQ.thenRet ?_
          refine WQ.thenRet ?_
          refine WQ.inRet ?_
          refine WQ.thenRet ?_
          refine WQ.out (.tmp rfl (.tmp rfl .nil)) ?_
          rw [textsR, if_neg hc2, if_neg hc3, txBad_out hok (k := k) (by rw [← hlk.1]; exact hc11) (by omega)]
          have h : Own T w w12 [.blk q [(str S), (vN (textR (Rd.mk ((txR (numR (Rd.mk S 0 E (Nat.zero_le _)) 2).2 k).rest) 0 ((txR (numR (Rd.mk S 0 E (Nat.zero_le _)) 2).2 k).f) (Nat.zero_le _))).2.f)] 47] := H12.take 1
          rw [show (Rd.mk (txR (numR (Rd.mk S 0 E (Nat.zero_le _)) 2).2 k).rest 0 (txR (numR (Rd.mk S 0 E (Nat.zero_le _)) 2).2 k).f (Nat.zero_le _)) = (txR (numR (Rd.mk S 0 E (Nat.zero_le _)) 2).2 k).re from rfl, hlk.2.2] at h
          exact ⟨_, by rw [show (Rd.mk (txR (numR (Rd.mk S 0 E (Nat.zero_le _)) 2).2 k).rest 0 (txR (numR (Rd.mk S 0 E (Nat.zero_le _)) 2).2 k).f (Nat.zero_le _)) = (txR (numR (Rd.mk S 0 E (Nat.zero_le _)) 2).2 k).re from rfl, hlk.1]; rfl, Own.nilRow (show Own T w w12 [.blk q [str (Rd.mk S 0 (textR (txR (numR (Rd.mk S 0 E (Nat.zero_le _)) 2).2 k)).2.f (Nat.zero_le _)).rest, vN (textR (txR (numR (Rd.mk S 0 E (Nat.zero_le _)) 2).2 k)).2.f] 47] from by simpa only [Rd.rest, List.drop_zero] using h) _ _⟩
        ·
          have hc11 := of_decide_eq_false hb11
          refine WC.skip ?_
          refine WQ.next ?_
          refine WC.region ?_
          refine WL.op rfl rfl (op_move rfl ?_)
          refine WL.op rfl rfl (op_move rfl ?_)
          refine WL.op rfl rfl (op_buildSlice (cs := [_]) H10 Try.underlying23 Fa.I9 rfl rfl rfl rfl (by decide) (by decide) (fun b13 w13 H13 => ?_))
          refine WL.op rfl rfl (op_appendM (f := str) (l := (txL (numR (Rd.mk S 0 E (Nat.zero_le _)) 2).2 k)) (l' := [(textR (Rd.mk ((txR (numR (Rd.mk S 0 E (Nat.zero_le _)) 2).2 k).rest) 0 ((txR (numR (Rd.mk S 0 E (Nat.zero_le _)) 2).2 k).f) (Nat.zero_le _))).1.1]) (i := 1) H13 Try.underlying23 Fa.I9 rfl rfl rfl rfl (Src.ofArr Try.underlying23 (H13.arrR (i := 2) rfl)) (one_mapM (fun _ => rfl)) (by omega) (by omega) (fun v14 w14 H14 => ?_))
          refine WL.op rfl rfl (op_assign rfl ?_)
          refine WL.nil ?_
          refine WQ.inNormal ?_
          refine WQ.next ?_
          refine WC.region ?_
          refine WL.op rfl rfl (op_move rfl ?_)
          refine WL.op rfl rfl (op_addN (b := 1) rfl rfl (by omega) ?_)
          refine WL.op rfl rfl (op_assign rfl ?_)
          refine WL.nil ?_
          exact WQ.round (k + 1, v14) ⟨⟨by omega, nextP hok (by rw [← hlk.1]; exact Decidable.not_not.mp hc11)⟩, (by have h := (show Own T w w14 [.blk q [(str (textR (Rd.mk ((txR (numR (Rd.mk S 0 E (Nat.zero_le _)) 2).2 k).rest) 0 ((txR (numR (Rd.mk S 0 E (Nat.zero_le _)) 2).2 k).f) (Nat.zero_le _))).2.rest), (vN (textR (Rd.mk ((txR (numR (Rd.mk S 0 E (Nat.zero_le _)) 2).2 k).rest) 0 ((txR (numR (Rd.mk S 0 E (Nat.zero_le _)) 2).2 k).f) (Nat.zero_le _))).2.f)] 47, .row v14 9 1 (k + 1) (List.map str ((txL (numR (Rd.mk S 0 E (Nat.zero_le _)) 2).2 k) ++ [(textR (Rd.mk ((txR (numR (Rd.mk S 0 E (Nat.zero_le _)) 2).2 k).rest) 0 ((txR (numR (Rd.mk S 0 E (Nat.zero_le _)) 2).2 k).f) (Nat.zero_le _))).1.1]))] from (H14.take 2)); rw [show (Rd.mk (txR (numR (Rd.mk S 0 E (Nat.zero_le _)) 2).2 k).rest 0 (txR (numR (Rd.mk S 0 E (Nat.zero_le _)) 2).2 k).f (Nat.zero_le _)) = (txR (numR (Rd.mk S 0 E (Nat.zero_le _)) 2).2 k).re from rfl, hlk.1, hlk.2.1, hlk.2.2] at h; exact h)⟩ ⟨rfl, rfl, rfl, rfl, rfl, trivial⟩ (by show (numR (Rd.mk S 0 E (Nat.zero_le _)) 2).1.1.toNat - (k + 1) < (numR (Rd.mk S 0 E (Nat.zero_le _)) 2).1.1.toNat - k; omega)
      ·
        have hc9 := of_decide_eq_false hb9
        refine WC.exit ?_
        refine WQ.thenExit ?_
        refine WQ.thenExit ?_
        refine WQ.inHere ?_
        refine WQ.next ?_
        refine WC.seq ?_
        refine WC.region ?_
        refine WL.op rfl rfl (op_move rfl ?_)
        refine WL.op rfl rfl (op_assign rfl ?_)
        refine WL.op rfl rfl (op_assign rfl ?_)
        refine WL.nil ?_
        refine WQ.next ?_
        refine WC.ret ?_
        refine WQ.out (.tmp rfl (.tmp rfl .nil)) ?_
        have hk : k = (numR (Rd.mk S 0 E (Nat.zero_le _)) 2).1.1.toNat := (by omega)
        rw [textsR, if_neg hc2, if_neg hc3, txBad_no (n := (numR (Rd.mk S 0 E (Nat.zero_le _)) 2).1.1.toNat) (hk ▸ hok)]
        subst hk
        exact ⟨_, rfl, Own.rowEqN (i := 1) (f := str) H8 rfl rfl (txL_len _ _).symm⟩
set_option maxRecDepth 100000 in
theorem same07_ok (va vb : Value) (a b : List (List UInt8)) (na nb : Nat) (w : World) (hA : Arr w va 1 na (List.map str a)) (hB : Arr w vb 1 nb (List.map str b)) (hn : na < 2 ^ 40) :
    Calls Try.prog 23 #[va, vb] w (fun e w' => e = .returned (.bool (decide (a = b))) ∧ Fr [] w w') := by
  refine enter (args := [va, vb]) Try.func23 rfl rfl ?_
  have H0 : Own [] w w [] := Own.start w []
  obtain rfl := hA.mapLen
  obtain rfl := hB.mapLen
  refine WC.seq ?_
  refine WC.region ?_
  refine WL.op rfl rfl (op_assign rfl ?_)
  refine WL.nil ?_
  refine WQ.next ?_
  refine WC.seq ?_
  refine WC.seq ?_
  refine WC.region ?_
  refine WL.op rfl rfl (op_move rfl ?_)
  refine WL.op rfl rfl (op_lenA Try.underlying23 rfl (H0.arr hA) ?_)
  refine WL.op rfl rfl (op_move rfl ?_)
  refine WL.op rfl rfl (op_lenA Try.underlying23 rfl (H0.arr hB) ?_)
  refine WL.op rfl rfl (op_neqN rfl rfl ?_)
  refine WL.nil ?_
  refine WQ.next ?_
  refine WC.cond rfl (fun (hb1 : (decide (a.length ≠ b.length)) = true) => ?_) (fun (hb1 : (decide (a.length ≠ b.length)) = false) => ?_)
  ·
    have hc1 := of_decide_eq_true hb1
    refine WC.seq ?_
    refine WC.region ?_
    refine WL.op rfl rfl (op_assign rfl ?_)
    refine WL.nil ?_
    refine WQ.next ?_
    refine WC.ret ?_
    refine WQ.thenRet ?_
    refine WQ.out (.tmp rfl .nil) ?_
    exact ⟨by rw [decide_eq_false (fun h : a = b => hc1 (by rw [h]))]; rfl, H0.fr⟩
  ·
    have hc1 := of_decide_eq_false hb1
    refine WC.skip ?_
    refine WQ.next ?_
    refine WC.seq ?_
    refine WC.seq ?_
    refine WC.region ?_
    refine WL.op rfl rfl (op_assign rfl ?_)
    refine WL.nil ?_
    refine WQ.next ?_
    refine WC.block ?_
    refine WC.loop (α := Nat) (fun k => [(0, va), (1, vb), (5, (vN k))]) (fun k w' => (k ≤ a.length ∧ (∀ j, j < k → a.getD j [] = b.getD j [])) ∧ Own [] w w' []) (fun k => a.length - k) 0 ⟨⟨Nat.zero_le _, fun j h => by omega⟩, H0⟩ ⟨rfl, rfl, rfl, trivial⟩ ?_
    rintro k w2 ⟨⟨hk1, hok⟩, H2⟩
    show WC _ _ _ _ _ [(0, va), (1, vb), (5, (vN k))] _
    refine WC.seq ?_
    refine WC.seq ?_
    refine WC.region ?_
    refine WL.op rfl rfl (op_move rfl ?_)
    refine WL.op rfl rfl (op_move rfl ?_)
    refine WL.op rfl rfl (op_lenA Try.underlying23 rfl (H2.arr hA) ?_)
    refine WL.op rfl rfl (op_lssN rfl rfl ?_)
    refine WL.nil ?_
    refine WQ.next ?_
    refine WC.cond rfl (fun (hb3 : (decide (k < a.length)) = true) => ?_) (fun (hb3 : (decide (k < a.length)) = false) => ?_)
    ·
      have hc3 := of_decide_eq_true hb3
      refine WC.skip ?_
      refine WQ.next ?_
      refine WC.seq ?_
      refine WC.block ?_
      refine WC.seq ?_
      refine WC.draw 9 Fa.M H2 (HW.op rfl (fun w1 H1 => op_move rfl ⟨rfl, Fr.refl _ _⟩) (HW.op rfl (fun w1 H1 => op_move rfl ⟨rfl, Fr.refl _ _⟩) (HW.op rfl (fun w1 H1 => op_indexAddr1 Try.underlying23 Fa.I9 rfl (H1.arr hA) rfl (by omega) ⟨rfl, Fr.refl _ _⟩) (HW.op rfl (fun w1 H1 => op_load rfl ((H1.arr hA).at (get_map str [] (Arr.ltM (H1.arr hA) (by omega)))) Try.underlying9 rfl ⟨rfl, Fr.refl _ _⟩) (HW.op rfl (fun w1 H1 => op_move rfl ⟨rfl, Fr.refl _ _⟩) (HW.op rfl (fun w1 H1 => op_move rfl ⟨rfl, Fr.refl _ _⟩) (HW.op rfl (fun w1 H1 => op_indexAddr1 Try.underlying23 Fa.I9 rfl (H1.arr hB) rfl (by omega) ⟨rfl, Fr.refl _ _⟩) (HW.op rfl (fun w1 H1 => op_load rfl ((H1.arr hB).at (get_map str [] (Arr.ltM (H1.arr hB) (by omega)))) Try.underlying9 rfl ⟨rfl, Fr.refl _ _⟩) (HW.op rfl (fun w1 H1 => op_neqStr rfl rfl ⟨rfl, Fr.refl _ _⟩)  HW.nil))))))))) (by kernel_rfl) ?_
      intro β4 w4 H4
      refine WL.nil ?_
      refine WQ.next ?_
      refine WC.cond rfl (fun (hb5 : (decide ((a.getD k []) ≠ (b.getD k []))) = true) => ?_) (fun (hb5 : (decide ((a.getD k []) ≠ (b.getD k []))) = false) => ?_)
      ·
        have hc5 := of_decide_eq_true hb5
        refine WC.seq ?_
        refine WC.region ?_
        refine WL.op rfl rfl (op_assign rfl ?_)
        refine WL.nil ?_
        refine WQ.next ?_
        refine WC.ret ?_
        refine WQ.inRet ?_
        refine WQ.thenRet ?_
        refine WQ.thenRet ?_
        refine WQ.inRet ?_
        refine WQ.thenRet ?_
        refine WQ.out (.tmp rfl .nil) ?_
        exact ⟨by rw [decide_eq_false (fun h : a = b => hc5 (by rw [h]))]; rfl, H4.fr⟩
      ·
        have hc5 := of_decide_eq_false hb5
        refine WC.skip ?_
        refine WQ.inNormal ?_
        refine WQ.next ?_
        refine WC.region ?_
        refine WL.op rfl rfl (op_move rfl ?_)
        refine WL.op rfl rfl (op_addN (b := 1) rfl rfl (by omega) ?_)
        refine WL.op rfl rfl (op_assign rfl ?_)
        refine WL.nil ?_
        exact WQ.round (k + 1) ⟨⟨by omega, nextP hok (Decidable.not_not.mp hc5)⟩, H4⟩ ⟨rfl, rfl, rfl, trivial⟩ (by omega)
    ·
      have hc3 := of_decide_eq_false hb3
      refine WC.exit ?_
      refine WQ.thenExit ?_
      refine WQ.thenExit ?_
      refine WQ.inHere ?_
      refine WQ.next ?_
      refine WC.seq ?_
      refine WC.region ?_
      refine WL.op rfl rfl (op_assign rfl ?_)
      refine WL.nil ?_
      refine WQ.next ?_
      refine WC.ret ?_
      refine WQ.out (.tmp rfl .nil) ?_
      exact ⟨by rw [decide_eq_true (list_eq (by omega) (fun j hj => hok j (by omega)))]; rfl, H2.fr⟩
set_option maxRecDepth 100000 in
theorem large07_ok (lv : Value) (l : List (List UInt8)) (nl : Nat) (w : World) (hA : Arr w lv 1 nl (List.map str l)) (hB : ∀ x ∈ l, x.length ≤ 140737488351232) (hn : nl < 2 ^ 50) :
    Calls Try.prog 15 #[lv] w (fun e w' => e = .returned (.bool (large07 l)) ∧ Fr [] w w') := by
  refine enter (args := [lv]) Try.func15 rfl rfl ?_
  have H0 : Own [] w w [] := Own.start w []
  obtain rfl := hA.mapLen
  refine WC.seq ?_
  refine WC.region ?_
  refine WL.op rfl rfl (op_assign rfl ?_)
  refine WL.nil ?_
  refine WQ.next ?_
  refine WC.seq ?_
  refine WC.region ?_
  refine WL.op rfl rfl (op_assign rfl ?_)
  refine WL.nil ?_
  refine WQ.next ?_
  refine WC.cut (α := Nat) (fun k => [(0, lv), (3, (vN (sumTo l k)))]) (fun k w' => (k = min l.length 5000) ∧ Own [] w w' []) ?_ ?_
  ·
    refine WC.seq ?_
    refine WC.region ?_
    refine WL.op rfl rfl (op_assign rfl ?_)
    refine WL.nil ?_
    refine WQ.next ?_
    refine WC.block ?_
    refine WC.loop (α := Nat) (fun k => [(0, lv), (3, (vN (sumTo l k))), (4, (vN k))]) (fun k w' => (k ≤ l.length ∧ k ≤ 5000) ∧ Own [] w w' []) (fun k => l.length - k) 0 ⟨⟨by omega, by omega⟩, H0⟩ ⟨rfl, rfl, rfl, trivial⟩ ?_
    rintro k w1 ⟨hinv, H1⟩
    show WC _ _ _ _ _ [(0, lv), (3, (vN (sumTo l k))), (4, (vN k))] _
    have hs0 := sumTo_le hB k
    have hg0 := getD_mem hB k
    refine WC.seq ?_
    refine WC.seq ?_
    refine WC.region ?_
    refine WL.op rfl rfl (op_move rfl ?_)
    refine WL.op rfl rfl (op_move rfl ?_)
    refine WL.op rfl rfl (op_lenA Try.underlying23 rfl (H1.arr hA) ?_)
    refine WL.op rfl rfl (op_lssN rfl rfl ?_)
    refine WL.op rfl rfl (op_move rfl ?_)
    refine WL.split (t := 9) rfl (fun (hb2 : (decide (k < l.length)) = true) => ?_) (fun (hb2 : (decide (k < l.length)) = false) => ?_)
    ·
      have hc2 := of_decide_eq_true hb2
      refine WL.yes rfl rfl rfl hb2 rfl (op_move rfl ?_)
      refine WL.yes rfl rfl rfl hb2 rfl (op_lssN (b := 5000) rfl rfl ?_)
      refine WL.op rfl rfl (op_pickT rfl hb2 rfl ?_)
      refine WL.nil ?_
      refine WQ.next ?_
      refine WC.cond rfl (fun (hb3 : (decide (k < 5000)) = true) => ?_) (fun (hb3 : (decide (k < 5000)) = false) => ?_)
      ·
        have hc3 := of_decide_eq_true hb3
        refine WC.skip ?_
        refine WQ.next ?_
        refine WC.seq ?_
        refine WC.block ?_
        refine WC.region ?_
        refine WL.op rfl rfl (op_move rfl ?_)
        refine WL.op rfl rfl (op_move rfl ?_)
        refine WL.op rfl rfl (op_move rfl ?_)
        refine WL.op rfl rfl (op_indexAddr1 Try.underlying23 Fa.I9 rfl (H1.arr hA) rfl (by omega) ?_)
        refine WL.op rfl rfl (op_load rfl ((H1.arr hA).at (get_map str [] (Arr.ltM (H1.arr hA) (by omega)))) Try.underlying9 rfl ?_)
        refine WL.op rfl rfl (op_lenStr Try.underlying9 rfl ?_)
        refine WL.op rfl rfl (op_addN rfl rfl (by omega) ?_)
        refine WL.op rfl rfl (op_assign rfl ?_)
        refine WL.nil ?_
        refine WQ.inNormal ?_
        refine WQ.next ?_
        refine WC.region ?_
        refine WL.op rfl rfl (op_move rfl ?_)
        refine WL.op rfl rfl (op_addN (b := 1) rfl rfl (by omega) ?_)
        refine WL.op rfl rfl (op_assign rfl ?_)
        refine WL.nil ?_
        exact WQ.round (k + 1) ⟨(by omega), H1⟩ ⟨rfl, rfl, rfl, trivial⟩ (by omega)
      ·
        have hc3 := of_decide_eq_false hb3
        refine WC.exit ?_
        refine WQ.thenExit ?_
        refine WQ.thenExit ?_
        refine WQ.inHere ?_
        exact WQ.here k ⟨(by omega), H1⟩ ⟨rfl, rfl, trivial⟩
    ·
      have hc2 := of_decide_eq_false hb2
      refine WL.no rfl rfl rfl hb2 rfl ?_
      refine WL.no rfl rfl rfl hb2 rfl ?_
      refine WL.op rfl rfl (op_pickF rfl hb2 rfl ?_)
      refine WL.nil ?_
      refine WQ.next ?_
      refine WC.no rfl rfl ?_
      refine WC.exit ?_
      refine WQ.thenExit ?_
      refine WQ.thenExit ?_
      refine WQ.inHere ?_
      exact WQ.here k ⟨(by omega), H1⟩ ⟨rfl, rfl, trivial⟩
  ·
    rintro k w4 ⟨hinv, H4⟩
    show WC _ _ _ _ _ [(0, lv), (3, (vN (sumTo l k)))] _
    refine WC.seq ?_
    refine WC.region ?_
    refine WL.op rfl rfl (op_move rfl ?_)
    refine WL.op rfl rfl (op_lenA Try.underlying23 rfl (H4.arr hA) ?_)
    refine WL.op rfl rfl (op_gtrN (b := 4200) rfl rfl ?_)
    refine WL.op rfl rfl (op_move rfl ?_)
    refine WL.split (t := 25) rfl (fun (hb5 : (decide (l.length > 4200)) = true) => ?_) (fun (hb5 : (decide (l.length > 4200)) = false) => ?_)
    ·
      have hc5 := of_decide_eq_true hb5
      refine WL.no rfl rfl rfl hb5 rfl ?_
      refine WL.no rfl rfl rfl hb5 rfl ?_
      refine WL.op rfl rfl (op_pickT rfl hb5 rfl ?_)
      refine WL.op rfl rfl (op_assign rfl ?_)
      refine WL.nil ?_
      refine WQ.next ?_
      refine WC.ret ?_
      refine WQ.out (.tmp rfl .nil) ?_
      exact ⟨by rw [large07, decide_eq_true hc5, Bool.true_or]; rfl, H4.fr⟩
    ·
      have hc5 := of_decide_eq_false hb5
      refine WL.yes rfl rfl rfl hb5 rfl (op_move rfl ?_)
      refine WL.yes rfl rfl rfl hb5 rfl (op_gtrN (b := 262144) rfl rfl ?_)
      refine WL.op rfl rfl (op_pickF rfl hb5 rfl ?_)
      refine WL.op rfl rfl (op_assign rfl ?_)
      refine WL.nil ?_
      refine WQ.next ?_
      refine WC.ret ?_
      refine WQ.out (.tmp rfl .nil) ?_
      exact ⟨by subst hinv; rw [large07, decide_eq_false hc5, Bool.false_or, ← sumTo_min]; rfl, H4.fr⟩
set_option maxRecDepth 100000 in
theorem alive07_ok  (w : World) :
    Calls Try.prog 16 #[] w (fun e w' => e = .returned (.bool true) ∧ Fr [] w w') := by
  refine enter (args := []) Try.func16 rfl rfl ?_
  have H0 : Own [] w w [] := Own.start w []
  refine WC.seq ?_
  refine WC.region ?_
  refine WL.op rfl rfl (op_assign rfl ?_)
  refine WL.nil ?_
  refine WQ.next ?_
  refine WC.seq ?_
  refine WC.region ?_
  refine WL.op rfl rfl (op_callF Fa.C17 rfl ((num_ok 258 (2) _).mono (fun e w1 hq => ?_)))
  obtain ⟨rfl, hf1⟩ := hq
  refine ⟨_, rfl, ?_⟩
  have H1 := H0.fr' hf1
  refine WL.op rfl rfl (op_move rfl ?_)
  refine WL.op rfl rfl (op_extract rfl rfl ?_)
  refine WL.op rfl rfl (op_extract rfl rfl ?_)
  refine WL.op rfl rfl (op_assign rfl ?_)
  refine WL.op rfl rfl (op_assign rfl ?_)
  refine WL.nil ?_
  refine WQ.next ?_
  refine WC.seq ?_
  refine WC.region ?_
  refine WL.op rfl rfl (op_callF Fa.C19 rfl ((ptext_ok ([97, 98]) _ (by decide)).mono (fun e w2 hq => ?_)))
  obtain ⟨rfl, hf2⟩ := hq
  refine ⟨_, rfl, ?_⟩
  have H2 := H1.fr' hf2
  refine WL.op rfl rfl (op_move rfl ?_)
  refine WL.op rfl rfl (op_extract rfl rfl ?_)
  refine WL.op rfl rfl (op_extract rfl rfl ?_)
  refine WL.op rfl rfl (op_assign rfl ?_)
  refine WL.op rfl rfl (op_assign rfl ?_)
  refine WL.nil ?_
  refine WQ.next ?_
  refine WC.seq ?_
  refine WC.region ?_
  refine WL.op rfl rfl (op_callF Fa.C21 rfl ((ptexts_ok _ ([]) _ _ (Arr.nil _ 1) (by decide)).mono (fun e w3 hq => ?_)))
  obtain ⟨rfl, hf3⟩ := hq
  refine ⟨_, rfl, ?_⟩
  have H3 := H2.fr' hf3
  refine WL.op rfl rfl (op_move rfl ?_)
  refine WL.op rfl rfl (op_extract rfl rfl ?_)
  refine WL.op rfl rfl (op_extract rfl rfl ?_)
  refine WL.op rfl rfl (op_assign rfl ?_)
  refine WL.op rfl rfl (op_assign rfl ?_)
  refine WL.nil ?_
  refine WQ.next ?_
  refine WC.seq ?_
  refine WC.region ?_
  refine WL.op rfl rfl (op_move rfl ?_)
  refine WL.op rfl rfl (op_move rfl ?_)
  refine WL.op rfl rfl (op_addStr rfl rfl (by decide +kernel) ?_)
  refine WL.op rfl rfl (op_move rfl ?_)
  refine WL.op rfl rfl (op_addStr rfl rfl (by decide +kernel) ?_)
  refine WL.op rfl rfl (op_addStr rfl rfl (by decide +kernel) ?_)
  refine WL.op rfl rfl (op_callF Fa.C24 rfl ((rdnew_ok ((((numS 258 2) ++ (txS ([97, 98]))) ++ (tsS ([]))) ++ [120]) _).mono (fun e w4 hq => ?_)))
  obtain ⟨q4, rfl, hq4⟩ := hq
  refine ⟨_, rfl, ?_⟩
  have H4 : Own [] w w4 [.blk q4 [(str ((((numS 258 2) ++ (txS ([97, 98]))) ++ (tsS ([]))) ++ [120])), (vN 0), (vN 0)] 107] := H3.splice [] [] [.blk q4 [(str ((((numS 258 2) ++ (txS ([97, 98]))) ++ (tsS ([]))) ++ [120])), (vN 0), (vN 0)] 107] rfl rfl hq4 (Fits.solid True.intro Fits.nil)
  refine WL.op rfl rfl (op_assign rfl ?_)
  refine WL.nil ?_
  refine WQ.next ?_
  refine WC.seq ?_
  refine WC.region ?_
  refine WL.op rfl rfl (op_move rfl ?_)
  refine WL.op rfl rfl (op_callF Fa.C25 rfl ((rdnum_ok q4 (Rd.mk ((((numS 258 2) ++ (txS ([97, 98]))) ++ (tsS ([]))) ++ [120]) 0 0 (Nat.zero_le _)) (2) 107 _ _ (H4.part [0] rfl rfl) (by decide +kernel)).mono (fun e w5 hq => ?_)))
  obtain ⟨rfl, hq5⟩ := hq
  refine ⟨_, rfl, ?_⟩
  have H5 : Own [] w w5 [.blk q4 [(str ((numR (Rd.mk ((((numS 258 2) ++ (txS ([97, 98]))) ++ (tsS ([]))) ++ [120]) 0 0 (Nat.zero_le _)) 2).2).s), (vN ((numR (Rd.mk ((((numS 258 2) ++ (txS ([97, 98]))) ++ (tsS ([]))) ++ [120]) 0 0 (Nat.zero_le _)) 2).2).at_), (vN ((numR (Rd.mk ((((numS 258 2) ++ (txS ([97, 98]))) ++ (tsS ([]))) ++ [120]) 0 0 (Nat.zero_le _)) 2).2).f)] 107] := H4.splice [0] [.blk q4 [(str ((numR (Rd.mk ((((numS 258 2) ++ (txS ([97, 98]))) ++ (tsS ([]))) ++ [120]) 0 0 (Nat.zero_le _)) 2).2).s), (vN ((numR (Rd.mk ((((numS 258 2) ++ (txS ([97, 98]))) ++ (tsS ([]))) ++ [120]) 0 0 (Nat.zero_le _)) 2).2).at_), (vN ((numR (Rd.mk ((((numS 258 2) ++ (txS ([97, 98]))) ++ (tsS ([]))) ++ [120]) 0 0 (Nat.zero_le _)) 2).2).f)] 107] [] rfl rfl hq5 (Fits.solid True.intro Fits.nil)
  refine WL.op rfl rfl (op_move rfl ?_)
  refine WL.op rfl rfl (op_extract rfl rfl ?_)
  refine WL.op rfl rfl (op_extract rfl rfl ?_)
  refine WL.op rfl rfl (op_assign rfl ?_)
  refine WL.op rfl rfl (op_assign rfl ?_)
  refine WL.nil ?_
  refine WQ.next ?_
  refine WC.seq ?_
  refine WC.region ?_
  refine WL.op rfl rfl (op_move rfl ?_)
  refine WL.op rfl rfl (op_callF Fa.C26 rfl ((rdtext_ok q4 ((numR (Rd.mk ((((numS 258 2) ++ (txS ([97, 98]))) ++ (tsS ([]))) ++ [120]) 0 0 (Nat.zero_le _)) 2).2)  107 _ _ (H5.part [0] rfl rfl) (by decide +kernel)).mono (fun e w6 hq => ?_)))
  obtain ⟨rfl, hq6⟩ := hq
  refine ⟨_, rfl, ?_⟩
  have H6 : Own [] w w6 [.blk q4 [(str ((textR ((numR (Rd.mk ((((numS 258 2) ++ (txS ([97, 98]))) ++ (tsS ([]))) ++ [120]) 0 0 (Nat.zero_le _)) 2).2)).2).s), (vN ((textR ((numR (Rd.mk ((((numS 258 2) ++ (txS ([97, 98]))) ++ (tsS ([]))) ++ [120]) 0 0 (Nat.zero_le _)) 2).2)).2).at_), (vN ((textR ((numR (Rd.mk ((((numS 258 2) ++ (txS ([97, 98]))) ++ (tsS ([]))) ++ [120]) 0 0 (Nat.zero_le _)) 2).2)).2).f)] 107] := H5.splice [0] [.blk q4 [(str ((textR ((numR (Rd.mk ((((numS 258 2) ++ (txS ([97, 98]))) ++ (tsS ([]))) ++ [120]) 0 0 (Nat.zero_le _)) 2).2)).2).s), (vN ((textR ((numR (Rd.mk ((((numS 258 2) ++ (txS ([97, 98]))) ++ (tsS ([]))) ++ [120]) 0 0 (Nat.zero_le _)) 2).2)).2).at_), (vN ((textR ((numR (Rd.mk ((((numS 258 2) ++ (txS ([97, 98]))) ++ (tsS ([]))) ++ [120]) 0 0 (Nat.zero_le _)) 2).2)).2).f)] 107] [] rfl rfl hq6 (Fits.solid True.intro Fits.nil)
  refine WL.op rfl rfl (op_move rfl ?_)
  refine WL.op rfl rfl (op_extract rfl rfl ?_)
  refine WL.op rfl rfl (op_extract rfl rfl ?_)
  refine WL.op rfl rfl (op_assign rfl ?_)
  refine WL.op rfl rfl (op_assign rfl ?_)
  refine WL.nil ?_
  refine WQ.next ?_
  refine WC.seq ?_
  refine WC.region ?_
  refine WL.op rfl rfl (op_move rfl ?_)
  refine WL.op rfl rfl (op_callF Fa.C27 rfl ((rdtexts_ok q4 ((textR ((numR (Rd.mk ((((numS 258 2) ++ (txS ([97, 98]))) ++ (tsS ([]))) ++ [120]) 0 0 (Nat.zero_le _)) 2).2)).2) 107 _ _ (H6.part [0] rfl rfl) (by decide +kernel)).mono (fun e w7 hq => ?_)))
  obtain ⟨v7, rfl, hq7⟩ := hq
  refine ⟨_, rfl, ?_⟩
  have H7 : Own [] w w7 [.blk q4 [(str ((textsR ((textR ((numR (Rd.mk ((((numS 258 2) ++ (txS ([97, 98]))) ++ (tsS ([]))) ++ [120]) 0 0 (Nat.zero_le _)) 2).2)).2)).2).s), (vN ((textsR ((textR ((numR (Rd.mk ((((numS 258 2) ++ (txS ([97, 98]))) ++ (tsS ([]))) ++ [120]) 0 0 (Nat.zero_le _)) 2).2)).2)).2).at_), (vN ((textsR ((textR ((numR (Rd.mk ((((numS 258 2) ++ (txS ([97, 98]))) ++ (tsS ([]))) ++ [120]) 0 0 (Nat.zero_le _)) 2).2)).2)).2).f)] 107, .row v7 9 1 (textsR ((textR ((numR (Rd.mk ((((numS 258 2) ++ (txS ([97, 98]))) ++ (tsS ([]))) ++ [120]) 0 0 (Nat.zero_le _)) 2).2)).2)).1.1.length (List.map str (textsR ((textR ((numR (Rd.mk ((((numS 258 2) ++ (txS ([97, 98]))) ++ (tsS ([]))) ++ [120]) 0 0 (Nat.zero_le _)) 2).2)).2)).1.1)] := H6.splice [0] [.blk q4 [(str ((textsR ((textR ((numR (Rd.mk ((((numS 258 2) ++ (txS ([97, 98]))) ++ (tsS ([]))) ++ [120]) 0 0 (Nat.zero_le _)) 2).2)).2)).2).s), (vN ((textsR ((textR ((numR (Rd.mk ((((numS 258 2) ++ (txS ([97, 98]))) ++ (tsS ([]))) ++ [120]) 0 0 (Nat.zero_le _)) 2).2)).2)).2).at_), (vN ((textsR ((textR ((numR (Rd.mk ((((numS 258 2) ++ (txS ([97, 98]))) ++ (tsS ([]))) ++ [120]) 0 0 (Nat.zero_le _)) 2).2)).2)).2).f)] 107] [.row v7 9 1 (textsR ((textR ((numR (Rd.mk ((((numS 258 2) ++ (txS ([97, 98]))) ++ (tsS ([]))) ++ [120]) 0 0 (Nat.zero_le _)) 2).2)).2)).1.1.length (List.map str (textsR ((textR ((numR (Rd.mk ((((numS 258 2) ++ (txS ([97, 98]))) ++ (tsS ([]))) ++ [120]) 0 0 (Nat.zero_le _)) 2).2)).2)).1.1)] rfl rfl hq7 (Fits.solid True.intro (Fits.solid True.intro Fits.nil))
  refine WL.op rfl rfl (op_move rfl ?_)
  refine WL.op rfl rfl (op_extract rfl rfl ?_)
  refine WL.op rfl rfl (op_extract rfl rfl ?_)
  refine WL.op rfl rfl (op_assign rfl ?_)
  refine WL.op rfl rfl (op_assign rfl ?_)
  refine WL.nil ?_
  refine WQ.next ?_
  refine WC.seq ?_
  refine WC.region ?_
  refine WL.op rfl rfl (op_move rfl ?_)
  refine WL.op rfl rfl (op_eqlStr rfl rfl ?_)
  refine WL.op rfl rfl (op_move rfl ?_)
  refine WL.yes rfl rfl rfl (by kernel_rfl) rfl (op_move rfl ?_)
  refine WL.yes rfl rfl rfl (by kernel_rfl) rfl (op_eqlN (b := 0) rfl rfl ?_)
  refine WL.op rfl rfl (op_pickT rfl (by kernel_rfl) rfl ?_)
  refine WL.op rfl rfl (op_move rfl ?_)
  refine WL.yes rfl rfl rfl (by kernel_rfl) rfl (op_move rfl ?_)
  refine WL.yes rfl rfl rfl (by kernel_rfl) rfl (op_eqlStr rfl rfl ?_)
  refine WL.op rfl rfl (op_pickT rfl (by kernel_rfl) rfl ?_)
  refine WL.op rfl rfl (op_move rfl ?_)
  refine WL.yes rfl rfl rfl (by kernel_rfl) rfl (op_move rfl ?_)
  refine WL.yes rfl rfl rfl (by kernel_rfl) rfl (op_eqlN (b := 0) rfl rfl ?_)
  refine WL.op rfl rfl (op_pickT rfl (by kernel_rfl) rfl ?_)
  refine WL.op rfl rfl (op_move rfl ?_)
  refine WL.yes rfl rfl rfl (by kernel_rfl) rfl (op_move rfl ?_)
  refine WL.yes rfl rfl rfl (by kernel_rfl) rfl (op_eqlStr rfl rfl ?_)
  refine WL.op rfl rfl (op_pickT rfl (by kernel_rfl) rfl ?_)
  refine WL.op rfl rfl (op_move rfl ?_)
  refine WL.yes rfl rfl rfl (by kernel_rfl) rfl (op_move rfl ?_)
  refine WL.yes rfl rfl rfl (by kernel_rfl) rfl (op_eqlN (b := 0) rfl rfl ?_)
  refine WL.op rfl rfl (op_pickT rfl (by kernel_rfl) rfl ?_)
  refine WL.op rfl rfl (op_move rfl ?_)
  refine WL.yes rfl rfl rfl (by kernel_rfl) rfl (op_move rfl ?_)
  refine WL.yes rfl rfl rfl (by kernel_rfl) rfl (op_eqlU32 (b := 258) rfl rfl ?_)
  refine WL.op rfl rfl (op_pickT rfl (by kernel_rfl) rfl ?_)
  refine WL.op rfl rfl (op_move rfl ?_)
  refine WL.yes rfl rfl rfl (by kernel_rfl) rfl (op_move rfl ?_)
  refine WL.yes rfl rfl rfl (by kernel_rfl) rfl (op_eqlN (b := 0) rfl rfl ?_)
  refine WL.op rfl rfl (op_pickT rfl (by kernel_rfl) rfl ?_)
  refine WL.op rfl rfl (op_move rfl ?_)
  refine WL.yes rfl rfl rfl (by kernel_rfl) rfl (op_move rfl ?_)
  refine WL.yes rfl rfl rfl (by kernel_rfl) rfl (op_eqlStr rfl rfl ?_)
  refine WL.op rfl rfl (op_pickT rfl (by kernel_rfl) rfl ?_)
  refine WL.op rfl rfl (op_move rfl ?_)
  refine WL.yes rfl rfl rfl (by kernel_rfl) rfl (op_move rfl ?_)
  refine WL.yes rfl rfl rfl (by kernel_rfl) rfl (op_eqlN (b := 0) rfl rfl ?_)
  refine WL.op rfl rfl (op_pickT rfl (by kernel_rfl) rfl ?_)
  refine WL.op rfl rfl (op_move rfl ?_)
  refine WL.yes rfl rfl rfl (by kernel_rfl) rfl (op_move rfl ?_)
  refine WL.yes rfl rfl rfl (by kernel_rfl) rfl (op_lenA Try.underlying23 rfl (H7.arrR (i := 1) rfl) ?_)
  refine WL.yes rfl rfl rfl (by kernel_rfl) rfl (op_eqlN (b := 0) rfl rfl ?_)
  refine WL.op rfl rfl (op_pickT rfl (by kernel_rfl) rfl ?_)
  refine WL.op rfl rfl (op_move rfl ?_)
  refine WL.yes rfl rfl rfl (by kernel_rfl) rfl (op_move rfl ?_)
  refine WL.yes rfl rfl rfl (by kernel_rfl) rfl (op_eqlN (b := 0) rfl rfl ?_)
  refine WL.op rfl rfl (op_pickT rfl (by kernel_rfl) rfl ?_)
  refine WL.op rfl rfl (op_move rfl ?_)
  refine WL.yes rfl rfl rfl (by kernel_rfl) rfl (op_move rfl ?_)
  refine WL.yes rfl rfl rfl (by kernel_rfl) rfl (op_callF Fa.C28 rfl ((rleft_ok q4 ((textsR ((textR ((numR (Rd.mk ((((numS 258 2) ++ (txS ([97, 98]))) ++ (tsS ([]))) ++ [120]) 0 0 (Nat.zero_le _)) 2).2)).2)).2) _ (H7.cellsAt (i := 0) rfl) (by decide +kernel)).mono (fun e w8 hq => ?_)))
  obtain ⟨rfl, hf8⟩ := hq
  refine ⟨_, rfl, ?_⟩
  have H8 := H7.fr' hf8
  refine WL.yes rfl rfl rfl (by kernel_rfl) rfl (op_eqlN (b := 1) rfl rfl ?_)
  refine WL.op rfl rfl (op_pickT rfl (by kernel_rfl) rfl ?_)
  refine WL.op rfl rfl (op_move rfl ?_)
  refine WL.yes rfl rfl rfl (by kernel_rfl) rfl (op_move rfl ?_)
  refine WL.yes rfl rfl rfl (by kernel_rfl) rfl (op_callF Fa.C29 rfl ((rdend_ok q4 ((textsR ((textR ((numR (Rd.mk ((((numS 258 2) ++ (txS ([97, 98]))) ++ (tsS ([]))) ++ [120]) 0 0 (Nat.zero_le _)) 2).2)).2)).2)  107 _ _ (H8.part [0] rfl rfl) (by decide +kernel)).mono (fun e w9 hq => ?_)))
  obtain ⟨rfl, hq9⟩ := hq
  refine ⟨_, rfl, ?_⟩
  have H9 : Own [] w w9 [.blk q4 [(str ((endR ((textsR ((textR ((numR (Rd.mk ((((numS 258 2) ++ (txS ([97, 98]))) ++ (tsS ([]))) ++ [120]) 0 0 (Nat.zero_le _)) 2).2)).2)).2)).2).s), (vN ((endR ((textsR ((textR ((numR (Rd.mk ((((numS 258 2) ++ (txS ([97, 98]))) ++ (tsS ([]))) ++ [120]) 0 0 (Nat.zero_le _)) 2).2)).2)).2)).2).at_), (vN ((endR ((textsR ((textR ((numR (Rd.mk ((((numS 258 2) ++ (txS ([97, 98]))) ++ (tsS ([]))) ++ [120]) 0 0 (Nat.zero_le _)) 2).2)).2)).2)).2).f)] 107, .row v7 9 1 (textsR ((textR ((numR (Rd.mk ((((numS 258 2) ++ (txS ([97, 98]))) ++ (tsS ([]))) ++ [120]) 0 0 (Nat.zero_le _)) 2).2)).2)).1.1.length (List.map str (textsR ((textR ((numR (Rd.mk ((((numS 258 2) ++ (txS ([97, 98]))) ++ (tsS ([]))) ++ [120]) 0 0 (Nat.zero_le _)) 2).2)).2)).1.1)] := H8.splice [0] [.blk q4 [(str ((endR ((textsR ((textR ((numR (Rd.mk ((((numS 258 2) ++ (txS ([97, 98]))) ++ (tsS ([]))) ++ [120]) 0 0 (Nat.zero_le _)) 2).2)).2)).2)).2).s), (vN ((endR ((textsR ((textR ((numR (Rd.mk ((((numS 258 2) ++ (txS ([97, 98]))) ++ (tsS ([]))) ++ [120]) 0 0 (Nat.zero_le _)) 2).2)).2)).2)).2).at_), (vN ((endR ((textsR ((textR ((numR (Rd.mk ((((numS 258 2) ++ (txS ([97, 98]))) ++ (tsS ([]))) ++ [120]) 0 0 (Nat.zero_le _)) 2).2)).2)).2)).2).f)] 107] [] rfl rfl hq9 (Fits.solid True.intro Fits.nil)
  refine WL.yes rfl rfl rfl (by kernel_rfl) rfl (op_eqlN (b := 7) rfl rfl ?_)
  refine WL.op rfl rfl (op_pickT rfl (by kernel_rfl) rfl ?_)
  refine WL.op rfl rfl (op_move rfl ?_)
  refine WL.yes rfl rfl rfl (by kernel_rfl) rfl (op_move rfl ?_)
  refine WL.yes rfl rfl rfl (by kernel_rfl) rfl (op_callF Fa.C36 rfl ((fault_ok q4 ((endR ((textsR ((textR ((numR (Rd.mk ((((numS 258 2) ++ (txS ([97, 98]))) ++ (tsS ([]))) ++ [120]) 0 0 (Nat.zero_le _)) 2).2)).2)).2)).2) _ (H9.cellsAt (i := 0) rfl)).mono (fun e w10 hq => ?_)))
  obtain ⟨rfl, hf10⟩ := hq
  refine ⟨_, rfl, ?_⟩
  have H10 := H9.fr' hf10
  refine WL.yes rfl rfl rfl (by kernel_rfl) rfl (op_eqlN (b := 7) rfl rfl ?_)
  refine WL.op rfl rfl (op_pickT rfl (by kernel_rfl) rfl ?_)
  refine WL.op rfl rfl (op_assign rfl ?_)
  refine WL.nil ?_
  refine WQ.next ?_
  refine WC.ret ?_
  refine WQ.out (.tmp rfl .nil) ?_
  exact ⟨rfl, H10.fr⟩
end Go.Proofs.Ytpnghdalnghpcaa
