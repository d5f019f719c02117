/- General lemmas and walks: FDObj, FDObj2, FDRel, FDRel2, FDRel3, FDRel4, FDRel5, FDRel6, FDRel7, FDSort, FDSort2, FDSort3, FDSort4, FDOb, FDOb2, FDOb3, FDOb4, FDOb5, FDOb6, DObj, DObj2, DRel, DRel2, DRel3. No condition but what each theorem names. -/
import Derived.Test.YtnngbnenekjffaaDoorQc6230d96
import Derived.Test.YtnngbnenekjffaaDoorQ66c3e74a
import Derived.Test.YtnngbnenekjffaaDoorQ2ad7965d
import Derived.Test.YtnngbnenekjffaaDoorChecked
import Derived.Test.YtnngbnenekjffaaDoorQ7f878364
/-! from FDObj -/
/- Closed facts, off the tables of the program. -/
namespace Go.Proofs.YtnngbnenekjffaaDoor
open Go.Owl
namespace Fa
theorem C107 : callB Tryd.prog 107 = true := by kernel_rfl
theorem C108 : callB Tryd.prog 108 = true := by kernel_rfl
theorem C109 : callB Tryd.prog 109 = true := by kernel_rfl
theorem C118 : callB Tryd.prog 118 = true := by kernel_rfl
theorem C32 : callB Tryd.prog 32 = true := by kernel_rfl
theorem C60 : callB Tryd.prog 60 = true := by kernel_rfl
theorem C92 : callB Tryd.prog 92 = true := by kernel_rfl
theorem F68_0 : faB Tryd.prog 68 0 = some (0, 1, true) := by kernel_rfl
theorem F68_1 : faB Tryd.prog 68 1 = some (1, 1, true) := by kernel_rfl
theorem F68_2 : faB Tryd.prog 68 2 = some (2, 1, true) := by kernel_rfl
theorem I157 : tiB Tryd.prog 157 = some ((List.replicate 256 (.bool false)), 256, 256) := by kernel_rfl
theorem I4 : tiB Tryd.prog 4 = some ([(.bool false)], 1, 1) := by kernel_rfl
theorem I68 : tiB Tryd.prog 68 = some ([(vU8 0), (vU32 0), (vU32 0)], 3, 12) := by kernel_rfl
end Fa
end Go.Proofs.YtnngbnenekjffaaDoor
/-! from FDObj2 -/
/- Closed facts, off the tables of the program. -/
namespace Go.Proofs.YtnngbnenekjffaaDoor
open Go.Owl
namespace Fa
theorem C34 : callB Tryd.prog 34 = true := by kernel_rfl
theorem C43 : callB Tryd.prog 43 = true := by kernel_rfl
theorem C58 : callB Tryd.prog 58 = true := by kernel_rfl
theorem C59 : callB Tryd.prog 59 = true := by kernel_rfl
theorem C61 : callB Tryd.prog 61 = true := by kernel_rfl
theorem C80 : callB Tryd.prog 80 = true := by kernel_rfl
theorem C81 : callB Tryd.prog 81 = true := by kernel_rfl
theorem C82 : callB Tryd.prog 82 = true := by kernel_rfl
theorem C83 : callB Tryd.prog 83 = true := by kernel_rfl
theorem C84 : callB Tryd.prog 84 = true := by kernel_rfl
theorem C93 : callB Tryd.prog 93 = true := by kernel_rfl
theorem F111_0 : faB Tryd.prog 111 0 = some (0, 7, false) := by kernel_rfl
theorem F26_0 : faB Tryd.prog 26 0 = some (0, 1, true) := by kernel_rfl
theorem F26_1 : faB Tryd.prog 26 1 = some (1, 1, true) := by kernel_rfl
theorem F26_2 : faB Tryd.prog 26 2 = some (2, 1, true) := by kernel_rfl
theorem F26_3 : faB Tryd.prog 26 3 = some (3, 1, true) := by kernel_rfl
theorem F26_4 : faB Tryd.prog 26 4 = some (4, 1, true) := by kernel_rfl
theorem F26_5 : faB Tryd.prog 26 5 = some (5, 1, true) := by kernel_rfl
theorem F26_6 : faB Tryd.prog 26 6 = some (6, 1, true) := by kernel_rfl
theorem F44_0 : faB Tryd.prog 44 0 = some (0, 1, true) := by kernel_rfl
theorem F44_1 : faB Tryd.prog 44 1 = some (1, 1, true) := by kernel_rfl
theorem F44_2 : faB Tryd.prog 44 2 = some (2, 1, true) := by kernel_rfl
theorem I111 : tiB Tryd.prog 111 = some ([(str []), (vU8 0), (vU8 0), (vU32 0), (str []), (.slice none 0 0), (.slice none 0 0)], 7, 88) := by kernel_rfl
theorem I26 : tiB Tryd.prog 26 = some ([(str []), (vU8 0), (vU8 0), (vU32 0), (str []), (.slice none 0 0), (.slice none 0 0)], 7, 88) := by kernel_rfl
theorem I44 : tiB Tryd.prog 44 = some ([(vU32 0), (vU8 0), (str []), (vU32 0)], 4, 32) := by kernel_rfl
theorem PL111 : plB Tryd.prog 111 = some [(0, 7)] := by kernel_rfl
end Fa
end Go.Proofs.YtnngbnenekjffaaDoor
/-! from FDRel -/
/- Closed facts, off the tables of the program. -/
namespace Go.Proofs.YtnngbnenekjffaaDoor
open Go.Owl
namespace Fa
theorem C27 : callB Tryd.prog 27 = true := by kernel_rfl
theorem M : Tryd.prog.follows .mixedOrders = true := by kernel_rfl
end Fa
end Go.Proofs.YtnngbnenekjffaaDoor
/-! from FDRel2 -/
/- Closed facts, off the tables of the program. -/
namespace Go.Proofs.YtnngbnenekjffaaDoor
open Go.Owl
namespace Fa
end Fa
end Go.Proofs.YtnngbnenekjffaaDoor
/-! from FDRel3 -/
/- Closed facts, off the tables of the program. -/
namespace Go.Proofs.YtnngbnenekjffaaDoor
open Go.Owl
namespace Fa
theorem C26 : callB Tryd.prog 26 = true := by kernel_rfl
end Fa
end Go.Proofs.YtnngbnenekjffaaDoor
/-! from FDRel4 -/
/- Closed facts, off the tables of the program. -/
namespace Go.Proofs.YtnngbnenekjffaaDoor
open Go.Owl
namespace Fa
theorem F32_1 : faB Tryd.prog 32 1 = some (1, 1, true) := by kernel_rfl
theorem FL44 : flatB Tryd.prog 44 = some [.int .u32, .int .u8, .string, .int .u32] := by kernel_rfl
theorem FL68 : flatB Tryd.prog 68 = some [.int .u8, .int .u32, .int .u32] := by kernel_rfl
theorem I23 : tiB Tryd.prog 23 = some ([(.slice none 0 0)], 1, 24) := by kernel_rfl
theorem I24 : tiB Tryd.prog 24 = some ([(.slice none 0 0)], 1, 24) := by kernel_rfl
theorem I30 : tiB Tryd.prog 30 = some ([(.slice none 0 0)], 1, 24) := by kernel_rfl
theorem I32 : tiB Tryd.prog 32 = some ([(str []), (.slice none 0 0)], 2, 40) := by kernel_rfl
end Fa
end Go.Proofs.YtnngbnenekjffaaDoor
/-! from FDRel5 -/
/- Closed facts, off the tables of the program. -/
namespace Go.Proofs.YtnngbnenekjffaaDoor
open Go.Owl
namespace Fa
theorem C29 : callB Tryd.prog 29 = true := by kernel_rfl
theorem PL26 : plB Tryd.prog 26 = some [(0, 1), (1, 1), (2, 1), (3, 1), (4, 1), (5, 1), (6, 1)] := by kernel_rfl
theorem PL32 : plB Tryd.prog 32 = some [(0, 1), (1, 1)] := by kernel_rfl
theorem PL44 : plB Tryd.prog 44 = some [(0, 1), (1, 1), (2, 1), (3, 1)] := by kernel_rfl
end Fa
end Go.Proofs.YtnngbnenekjffaaDoor
/-! from FDRel6 -/
/- Closed facts, off the tables of the program. -/
namespace Go.Proofs.YtnngbnenekjffaaDoor
open Go.Owl
namespace Fa
theorem C13 : callB Tryd.prog 13 = true := by kernel_rfl
theorem C19 : callB Tryd.prog 19 = true := by kernel_rfl
end Fa
end Go.Proofs.YtnngbnenekjffaaDoor
/-! from FDRel7 -/
/- Closed facts, off the tables of the program. -/
namespace Go.Proofs.YtnngbnenekjffaaDoor
open Go.Owl
namespace Fa
end Fa
end Go.Proofs.YtnngbnenekjffaaDoor
/-! from FDSort -/
/- Closed facts, off the tables of the program. -/
namespace Go.Proofs.YtnngbnenekjffaaDoor
open Go.Owl
namespace Fa
theorem C100 : callB Tryd.prog 100 = true := by kernel_rfl
theorem C117 : callB Tryd.prog 117 = true := by kernel_rfl
theorem I9 : tiB Tryd.prog 9 = some ([(str [])], 1, 16) := by kernel_rfl
end Fa
end Go.Proofs.YtnngbnenekjffaaDoor
/-! from FDSort2 -/
/- Closed facts, off the tables of the program. -/
namespace Go.Proofs.YtnngbnenekjffaaDoor
open Go.Owl
namespace Fa
theorem C112 : callB Tryd.prog 112 = true := by kernel_rfl
theorem C115 : callB Tryd.prog 115 = true := by kernel_rfl
theorem C116 : callB Tryd.prog 116 = true := by kernel_rfl
theorem C122 : callB Tryd.prog 122 = true := by kernel_rfl
theorem I3 : tiB Tryd.prog 3 = some ([(vN 0)], 1, 8) := by kernel_rfl
end Fa
end Go.Proofs.YtnngbnenekjffaaDoor
/-! from FDSort3 -/
/- Closed facts, off the tables of the program. -/
namespace Go.Proofs.YtnngbnenekjffaaDoor
open Go.Owl
namespace Fa
theorem C104 : callB Tryd.prog 104 = true := by kernel_rfl
theorem C113 : callB Tryd.prog 113 = true := by kernel_rfl
theorem C114 : callB Tryd.prog 114 = true := by kernel_rfl
theorem C88 : callB Tryd.prog 88 = true := by kernel_rfl
theorem I162 : tiB Tryd.prog 162 = some ([(vU64 0)], 1, 8) := by kernel_rfl
end Fa
end Go.Proofs.YtnngbnenekjffaaDoor
/-! from FDSort4 -/
/- Closed facts, off the tables of the program. -/
namespace Go.Proofs.YtnngbnenekjffaaDoor
open Go.Owl
namespace Fa
theorem C101 : callB Tryd.prog 101 = true := by kernel_rfl
theorem C102 : callB Tryd.prog 102 = true := by kernel_rfl
theorem C87 : callB Tryd.prog 87 = true := by kernel_rfl
theorem C94 : callB Tryd.prog 94 = true := by kernel_rfl
theorem C95 : callB Tryd.prog 95 = true := by kernel_rfl
theorem C96 : callB Tryd.prog 96 = true := by kernel_rfl
theorem C97 : callB Tryd.prog 97 = true := by kernel_rfl
theorem C98 : callB Tryd.prog 98 = true := by kernel_rfl
theorem C99 : callB Tryd.prog 99 = true := by kernel_rfl
end Fa
end Go.Proofs.YtnngbnenekjffaaDoor
/-! from FDOb -/
/- Closed facts, off the tables of the program. -/
namespace Go.Proofs.YtnngbnenekjffaaDoor
open Go.Owl
namespace Fa
theorem C31 : callB Tryd.prog 31 = true := by kernel_rfl
theorem C64 : callB Tryd.prog 64 = true := by kernel_rfl
theorem C65 : callB Tryd.prog 65 = true := by kernel_rfl
theorem C66 : callB Tryd.prog 66 = true := by kernel_rfl
theorem F115_0 : faB Tryd.prog 115 0 = some (0, 2, false) := by kernel_rfl
theorem F32_0 : faB Tryd.prog 32 0 = some (0, 1, true) := by kernel_rfl
theorem I115 : tiB Tryd.prog 115 = some ([(str []), (.slice none 0 0)], 2, 40) := by kernel_rfl
theorem PL115 : plB Tryd.prog 115 = some [(0, 2)] := by kernel_rfl
theorem Z3 : zvB Tryd.prog 3 = some (vN 0) := by kernel_rfl
end Fa
end Go.Proofs.YtnngbnenekjffaaDoor
/-! from FDOb2 -/
/- Closed facts, off the tables of the program. -/
namespace Go.Proofs.YtnngbnenekjffaaDoor
open Go.Owl
namespace Fa
theorem Z9 : zvB Tryd.prog 9 = some (str []) := by kernel_rfl
end Fa
end Go.Proofs.YtnngbnenekjffaaDoor
/-! from FDOb3 -/
/- Closed facts, off the tables of the program. -/
namespace Go.Proofs.YtnngbnenekjffaaDoor
open Go.Owl
namespace Fa
theorem C67 : callB Tryd.prog 67 = true := by kernel_rfl
theorem C68 : callB Tryd.prog 68 = true := by kernel_rfl
end Fa
end Go.Proofs.YtnngbnenekjffaaDoor
/-! from FDOb4 -/
/- Closed facts, off the tables of the program. -/
namespace Go.Proofs.YtnngbnenekjffaaDoor
open Go.Owl
namespace Fa
theorem C33 : callB Tryd.prog 33 = true := by kernel_rfl
end Fa
end Go.Proofs.YtnngbnenekjffaaDoor
/-! from FDOb5 -/
/- Closed facts, off the tables of the program. -/
namespace Go.Proofs.YtnngbnenekjffaaDoor
open Go.Owl
namespace Fa
theorem C35 : callB Tryd.prog 35 = true := by kernel_rfl
theorem C38 : callB Tryd.prog 38 = true := by kernel_rfl
theorem C39 : callB Tryd.prog 39 = true := by kernel_rfl
theorem C63 : callB Tryd.prog 63 = true := by kernel_rfl
theorem PL68 : plB Tryd.prog 68 = some [(0, 1), (1, 1), (2, 1)] := by kernel_rfl
end Fa
end Go.Proofs.YtnngbnenekjffaaDoor
/-! from FDOb6 -/
/- Closed facts, off the tables of the program. -/
namespace Go.Proofs.YtnngbnenekjffaaDoor
open Go.Owl
namespace Fa
theorem C30 : callB Tryd.prog 30 = true := by kernel_rfl
theorem C36 : callB Tryd.prog 36 = true := by kernel_rfl
theorem C37 : callB Tryd.prog 37 = true := by kernel_rfl
end Fa
end Go.Proofs.YtnngbnenekjffaaDoor
/-! from DObj -/
namespace Go.Proofs.YtnngbnenekjffaaDoor
open Go.Owl Go.Spec
set_option maxRecDepth 100000 in
theorem told_ok (b : Bool) (w : World) :
    Calls Tryd.prog 60 #[(.bool b)] w (fun e w' => e = .returned (vN (toldN b)) ∧ Fr [] w w') := by
  refine enter (args := [(.bool b)]) Tryd.func60 rfl rfl ?_
  have H0 : Own [] w w [] := Own.start w []
  refine WC.seq ?_
  refine WC.region ?_
  refine WL.op rfl rfl (op_assign rfl ?_)
  refine WL.nil ?_
  refine WQ.next ?_
  refine WC.seq ?_
  refine WC.seq ?_
  refine WC.region ?_
  refine WL.op rfl rfl (op_move rfl ?_)
  refine WL.op rfl rfl (op_not rfl ?_)
  refine WL.nil ?_
  refine WQ.next ?_
  refine WC.cond rfl (fun (hb1 : (!b) = true) => ?_) (fun (hb1 : (!b) = false) => ?_)
  ·
    have hn1 := (Bool.not_eq_true' _).mp hb1
    refine WC.seq ?_
    refine WC.region ?_
    refine WL.op rfl rfl (op_assign rfl ?_)
    refine WL.nil ?_
    refine WQ.next ?_
    refine WC.ret ?_
    refine WQ.thenRet ?_
    refine WQ.out (.tmp rfl .nil) ?_
    exact ⟨by (rw [toldN, hn1]) <;> rfl, H0.fr⟩
  ·
    have hn1 := (Bool.not_eq_false' _).mp hb1
    refine WC.skip ?_
    refine WQ.next ?_
    refine WC.seq ?_
    refine WC.region ?_
    refine WL.op rfl rfl (op_assign rfl ?_)
    refine WL.nil ?_
    refine WQ.next ?_
    refine WC.ret ?_
    refine WQ.out (.tmp rfl .nil) ?_
    exact ⟨by (rw [toldN, hn1]) <;> rfl, H0.fr⟩
set_option maxRecDepth 100000 in
theorem mkset_ok (cs : List UInt8) (w : World) (hcs : ∀ k, k < cs.length → ¬ (cs.getD k 0) ≥ (128 : UInt8)) (hl : cs.length < 2 ^ 40) :
    Calls Tryd.prog 107 #[(str cs)] w (fun e w' => e = .returned (.tuple #[.agg (tabB cs cs.length).toArray, .bool true]) ∧ Fr [] w w') := by
  refine enter (args := [(str cs)]) Tryd.func107 rfl rfl ?_
  have H0 : Own [] w w [] := Own.start w []
  refine WC.seq ?_
  refine WC.region ?_
  refine WL.op rfl rfl (op_alloc H0 Fa.I157 (fun b1 w1 H1 => ?_))
  refine WL.op rfl rfl (op_assign rfl ?_)
  refine WL.nil ?_
  refine WQ.next ?_
  refine WC.seq ?_
  refine WC.seq ?_
  refine WC.region ?_
  refine WL.op rfl rfl (op_assign rfl ?_)
  refine WL.nil ?_
  refine WQ.next ?_
  refine WC.block ?_
  refine WC.loop (α := Nat) (fun k => [(0, (str cs)), (2, (ptr b1 0)), (3, (.bool false)), (4, (vN k))]) (fun k w' => (k ≤ cs.length) ∧ Own [] w w' [.blk b1 (tabB cs k) 157]) (fun k => cs.length - k) 0 ⟨(by omega), (by rw [tabB_0]; exact (show Own [] w w1 [.blk b1 (List.replicate 256 (.bool false)) 157] from H1))⟩ ⟨rfl, rfl, rfl, rfl, trivial⟩ ?_
  rintro k w2 ⟨hinv, H2⟩
  show WC _ _ _ _ _ [(0, (str cs)), (2, (ptr b1 0)), (3, (.bool false)), (4, (vN k))] _
  refine WC.seq ?_
  refine WC.seq ?_
  refine WC.region ?_
  refine WL.op rfl rfl (op_move rfl ?_)
  refine WL.op rfl rfl (op_move rfl ?_)
  refine WL.op rfl rfl (op_lenStr Tryd.underlying9 rfl ?_)
  refine WL.op rfl rfl (op_lssN rfl rfl ?_)
  refine WL.nil ?_
  refine WQ.next ?_
  refine WC.cond rfl (fun (hb3 : (decide (k < cs.length)) = true) => ?_) (fun (hb3 : (decide (k < cs.length)) = false) => ?_)
  ·
    have hc3 := of_decide_eq_true hb3
    refine WC.skip ?_
    refine WQ.next ?_
    refine WC.seq ?_
    refine WC.block ?_
    refine WC.seq ?_
    refine WC.region ?_
    refine WL.op rfl rfl (op_move rfl ?_)
    refine WL.op rfl rfl (op_move rfl ?_)
    refine WL.op rfl rfl (op_indexStrD Tryd.underlying9 rfl rfl (by omega) ?_)
    refine WL.op rfl rfl (op_assign rfl ?_)
    refine WL.nil ?_
    refine WQ.next ?_
    refine WC.seq ?_
    refine WC.seq ?_
    refine WC.region ?_
    refine WL.op rfl rfl (op_move rfl ?_)
    refine WL.op rfl rfl (op_geqU8 (b := 128) rfl rfl ?_)
    refine WL.nil ?_
    refine WQ.next ?_
    refine WC.no rfl (decide_eq_false (hcs k (by omega))) ?_
    refine WC.skip ?_
    refine WQ.next ?_
    refine WC.region ?_
    refine WL.op rfl rfl (op_move rfl ?_)
    refine WL.op rfl rfl (op_indexAddrA1 Tryd.underlying157 Fa.I4 rfl rfl (UInt8.toNat_lt _) ?_)
    refine WL.op rfl rfl (op_storeB (i := 0) H2 rfl rfl rfl (by rw [Nat.blt_eq, tabB_len, Nat.zero_add]; exact UInt8.toNat_lt _) rfl Fa.I4 (fun w4 H4 => ?_))
    refine WL.nil ?_
    refine WQ.inNormal ?_
    refine WQ.next ?_
    refine WC.region ?_
    refine WL.op rfl rfl (op_move rfl ?_)
    refine WL.op rfl rfl (op_addN (b := 1) rfl rfl (by omega) ?_)
    refine WL.op rfl rfl (op_assign rfl ?_)
    refine WL.nil ?_
    exact WQ.round (k + 1) ⟨(by omega), (by have h := (show Own [] w w4 [.blk b1 ((tabB cs k).set (0 + (cs.getD k 0).toNat) (.bool true)) 157] from H4); rw [Nat.zero_add, tabB_succ (by omega)] at h; exact h)⟩ ⟨rfl, rfl, rfl, rfl, trivial⟩ (by omega)
  ·
    have hc3 := of_decide_eq_false hb3
    refine WC.exit ?_
    refine WQ.thenExit ?_
    refine WQ.thenExit ?_
    refine WQ.inHere ?_
    refine WQ.next ?_
    refine WC.seq ?_
    refine WC.region ?_
    refine WL.op rfl rfl (op_loadS rfl (H2.cellsW (i := 0) rfl) Tryd.underlying157 rfl Fa.I157 (by rw [tabB_len]) ?_)
    refine WL.op rfl rfl (op_storeBV (i := 0) H2 rfl rfl rfl (by rw [tabB_len]; rfl) (tabB_one _ _) (by rw [tabB_len]) Fa.I157 (fun w5 H5 => ?_))
    refine WL.op rfl rfl (op_assign rfl ?_)
    refine WL.nil ?_
    refine WQ.next ?_
    refine WC.ret ?_
    refine WQ.out (.cell rfl (run_loadVarS (H5.cellsW (i := 0) rfl) Tryd.underlying157 rfl Fa.I157 (by rw [tabB_len])) (.tmp rfl .nil)) ?_
    exact ⟨by have hk : k = cs.length := (by omega); subst hk; rfl, H5.fr⟩
set_option maxRecDepth 100000 in
theorem ashas_ok (q : Nat) (cs : List UInt8) (x : UInt8) (w : World) (hQ : cellsAt w q (tabB cs cs.length)) :
    Calls Tryd.prog 118 #[(ptr q 0), (vU8 x)] w (fun e w' => e = .returned (.bool (inB cs x)) ∧ Fr [] w w') := by
  refine enter (args := [(ptr q 0), (vU8 x)]) Tryd.func118 rfl rfl ?_
  have H0 : Own [] w w [Ent.bo q (tabB cs cs.length)] := ((Own.start w []).oldB hQ)
  refine WC.seq ?_
  refine WC.region ?_
  refine WL.op rfl rfl (op_assign rfl ?_)
  refine WL.nil ?_
  refine WQ.next ?_
  refine WC.seq ?_
  refine WC.region ?_
  refine WL.op rfl rfl (op_move rfl ?_)
  refine WL.op rfl rfl (op_move rfl ?_)
  refine WL.op rfl rfl (op_nilCheck rfl ?_)
  refine WL.op rfl rfl (op_indexAddrA1 Tryd.underlying157 Fa.I4 rfl rfl (UInt8.toNat_lt _) ?_)
  refine WL.op rfl rfl (op_load rfl (H0.cellO (i := 0) rfl (by rw [Nat.zero_add]; exact tabB_get cs x)) Tryd.underlying4 rfl ?_)
  refine WL.op rfl rfl (op_assign rfl ?_)
  refine WL.nil ?_
  refine WQ.next ?_
  refine WC.ret ?_
  refine WQ.out (.tmp rfl .nil) ?_
  exact ⟨rfl, H0.fr⟩
set_option maxRecDepth 100000 in
theorem trimR_ok (s : List UInt8) (q : Nat) (cs : List UInt8) (w : World) (hQ : cellsAt w q (tabB cs cs.length)) (hs : s.length < 2 ^ 62) :
    Calls Tryd.prog 109 #[(str s), (ptr q 0)] w (fun e w' => e = .returned (str (trR (inB cs) s)) ∧ Fr [] w w') := by
  refine enter (args := [(str s), (ptr q 0)]) Tryd.func109 rfl rfl ?_
  have H0 : Own [] w w [Ent.bo q (tabB cs cs.length)] := ((Own.start w []).oldB hQ)
  refine WC.seq ?_
  refine WC.region ?_
  refine WL.op rfl rfl (op_assign rfl ?_)
  refine WL.nil ?_
  refine WQ.next ?_
  refine WC.seq ?_
  refine WC.block ?_
  refine WC.loop (α := List UInt8) (fun t => [(0, (str t)), (1, (ptr q 0)), (4, (str []))]) (fun t w' => (trR (inB cs) t = trR (inB cs) s ∧ t.length ≤ s.length) ∧ Own [] w w' [Ent.bo q (tabB cs cs.length)]) (fun t => t.length) s ⟨⟨rfl, Nat.le_refl _⟩, H0⟩ ⟨rfl, rfl, rfl, trivial⟩ ?_
  rintro t w1 ⟨⟨ht, hlt⟩, H1⟩
  show WC _ _ _ _ _ [(0, (str t)), (1, (ptr q 0)), (4, (str []))] _
  refine WC.seq ?_
  refine WC.seq ?_
  refine WC.region ?_
  refine WL.op rfl rfl (op_move rfl ?_)
  refine WL.op rfl rfl (op_lenStr Tryd.underlying9 rfl ?_)
  refine WL.op rfl rfl (op_gtrN (b := 0) rfl rfl ?_)
  refine WL.nil ?_
  refine WQ.next ?_
  refine WC.cond rfl (fun (hb2 : (decide (t.length > 0)) = true) => ?_) (fun (hb2 : (decide (t.length > 0)) = false) => ?_)
  ·
    have hc2 := of_decide_eq_true hb2
    refine WC.skip ?_
    refine WQ.next ?_
    refine WC.block ?_
    refine WC.seq ?_
    refine WC.seq ?_
    refine WC.region ?_
    refine WL.op rfl rfl (op_move rfl ?_)
    refine WL.op rfl rfl (op_move rfl ?_)
    refine WL.op rfl rfl (op_move rfl ?_)
    refine WL.op rfl rfl (op_lenStr Tryd.underlying9 rfl ?_)
    refine WL.op rfl rfl (op_subN (b := 1) rfl rfl (by omega) (by omega) ?_)
    refine WL.op rfl rfl (op_indexStrD Tryd.underlying9 rfl rfl (by omega) ?_)
    refine WL.op rfl rfl (op_callF Fa.C118 rfl ((ashas_ok q cs (t.getD (t.length - 1) 0) _ (H1.cellsAtO (i := 0) rfl)).mono (fun e w3 hq => ?_)))
    obtain ⟨rfl, hf3⟩ := hq
    refine ⟨_, rfl, ?_⟩
    have H3 := H1.fr' hf3
    refine WL.op rfl rfl (op_not rfl ?_)
    refine WL.nil ?_
    refine WQ.next ?_
    refine WC.cond rfl (fun (hb4 : (!(inB cs (t.getD (t.length - 1) 0))) = true) => ?_) (fun (hb4 : (!(inB cs (t.getD (t.length - 1) 0))) = false) => ?_)
    ·
      have hn4 := (Bool.not_eq_true' _).mp hb4
      refine WC.exit ?_
      refine WQ.thenExit ?_
      refine WQ.inPass rfl ?_
      refine WQ.thenExit ?_
      refine WQ.inHere ?_
      refine WQ.next ?_
      refine WC.seq ?_
      refine WC.region ?_
      refine WL.op rfl rfl (op_move rfl ?_)
      refine WL.op rfl rfl (op_assign rfl ?_)
      refine WL.nil ?_
      refine WQ.next ?_
      refine WC.ret ?_
      refine WQ.out (.tmp rfl .nil) ?_
      exact ⟨by (rw [← ht, trR_stop (by omega) hn4]) <;> rfl, H3.fr⟩
    ·
      have hn4 := (Bool.not_eq_false' _).mp hb4
      refine WC.skip ?_
      refine WQ.next ?_
      refine WC.region ?_
      refine WL.op rfl rfl (op_move rfl ?_)
      refine WL.op rfl rfl (op_move rfl ?_)
      refine WL.op rfl rfl (op_lenStr Tryd.underlying9 rfl ?_)
      refine WL.op rfl rfl (op_subN (b := 1) rfl rfl (by omega) (by omega) ?_)
      refine WL.op rfl rfl (op_sliceStrHi Tryd.underlying9 rfl rfl (by omega) ?_)
      refine WL.op rfl rfl (op_assign rfl ?_)
      refine WL.nil ?_
      refine WQ.inNormal ?_
      exact WQ.round (t.take (t.length - 1)) ⟨⟨by rw [trR_step (by omega) hn4]; exact ht, by simp only [List.length_take, List.length_drop]; omega⟩, H3⟩ ⟨rfl, rfl, rfl, trivial⟩ (by simp only [List.length_take, List.length_drop]; omega)
  ·
    have hc2 := of_decide_eq_false hb2
    refine WC.exit ?_
    refine WQ.thenExit ?_
    refine WQ.thenExit ?_
    refine WQ.inHere ?_
    refine WQ.next ?_
    refine WC.seq ?_
    refine WC.region ?_
    refine WL.op rfl rfl (op_move rfl ?_)
    refine WL.op rfl rfl (op_assign rfl ?_)
    refine WL.nil ?_
    refine WQ.next ?_
    refine WC.ret ?_
    refine WQ.out (.tmp rfl .nil) ?_
    exact ⟨by rw [← ht, List.eq_nil_of_length_eq_zero (show t.length = 0 by omega)]; rfl, H1.fr⟩
set_option maxRecDepth 100000 in
theorem trimL_ok (s : List UInt8) (q : Nat) (cs : List UInt8) (w : World) (hQ : cellsAt w q (tabB cs cs.length)) (hs : s.length < 2 ^ 62) :
    Calls Tryd.prog 108 #[(str s), (ptr q 0)] w (fun e w' => e = .returned (str (trL (inB cs) s)) ∧ Fr [] w w') := by
  refine enter (args := [(str s), (ptr q 0)]) Tryd.func108 rfl rfl ?_
  have H0 : Own [] w w [Ent.bo q (tabB cs cs.length)] := ((Own.start w []).oldB hQ)
  refine WC.seq ?_
  refine WC.region ?_
  refine WL.op rfl rfl (op_assign rfl ?_)
  refine WL.nil ?_
  refine WQ.next ?_
  refine WC.seq ?_
  refine WC.block ?_
  refine WC.loop (α := List UInt8) (fun t => [(0, (str t)), (1, (ptr q 0)), (4, (str []))]) (fun t w' => (trL (inB cs) t = trL (inB cs) s ∧ t.length ≤ s.length) ∧ Own [] w w' [Ent.bo q (tabB cs cs.length)]) (fun t => t.length) s ⟨⟨rfl, Nat.le_refl _⟩, H0⟩ ⟨rfl, rfl, rfl, trivial⟩ ?_
  rintro t w1 ⟨⟨ht, hlt⟩, H1⟩
  show WC _ _ _ _ _ [(0, (str t)), (1, (ptr q 0)), (4, (str []))] _
  refine WC.seq ?_
  refine WC.seq ?_
  refine WC.region ?_
  refine WL.op rfl rfl (op_move rfl ?_)
  refine WL.op rfl rfl (op_lenStr Tryd.underlying9 rfl ?_)
  refine WL.op rfl rfl (op_gtrN (b := 0) rfl rfl ?_)
  refine WL.nil ?_
  refine WQ.next ?_
  refine WC.cond rfl (fun (hb2 : (decide (t.length > 0)) = true) => ?_) (fun (hb2 : (decide (t.length > 0)) = false) => ?_)
  ·
    have hc2 := of_decide_eq_true hb2
    refine WC.skip ?_
    refine WQ.next ?_
    refine WC.block ?_
    refine WC.seq ?_
    refine WC.seq ?_
    refine WC.region ?_
    refine WL.op rfl rfl (op_move rfl ?_)
    refine WL.op rfl rfl (op_move rfl ?_)
    refine WL.op rfl rfl (op_indexStrD (m := 0) Tryd.underlying9 rfl rfl (by omega) ?_)
    refine WL.op rfl rfl (op_callF Fa.C118 rfl ((ashas_ok q cs (t.getD 0 0) _ (H1.cellsAtO (i := 0) rfl)).mono (fun e w3 hq => ?_)))
    obtain ⟨rfl, hf3⟩ := hq
    refine ⟨_, rfl, ?_⟩
    have H3 := H1.fr' hf3
    refine WL.op rfl rfl (op_not rfl ?_)
    refine WL.nil ?_
    refine WQ.next ?_
    refine WC.cond rfl (fun (hb4 : (!(inB cs (t.getD 0 0))) = true) => ?_) (fun (hb4 : (!(inB cs (t.getD 0 0))) = false) => ?_)
    ·
      have hn4 := (Bool.not_eq_true' _).mp hb4
      refine WC.exit ?_
      refine WQ.thenExit ?_
      refine WQ.inPass rfl ?_
      refine WQ.thenExit ?_
      refine WQ.inHere ?_
      refine WQ.next ?_
      refine WC.seq ?_
      refine WC.region ?_
      refine WL.op rfl rfl (op_move rfl ?_)
      refine WL.op rfl rfl (op_assign rfl ?_)
      refine WL.nil ?_
      refine WQ.next ?_
      refine WC.ret ?_
      refine WQ.out (.tmp rfl .nil) ?_
      exact ⟨by (rw [← ht, trL_stop (by omega) hn4]) <;> rfl, H3.fr⟩
    ·
      have hn4 := (Bool.not_eq_false' _).mp hb4
      refine WC.skip ?_
      refine WQ.next ?_
      refine WC.region ?_
      refine WL.op rfl rfl (op_move rfl ?_)
      refine WL.op rfl rfl (op_sliceStrLo (a := 1) Tryd.underlying9 rfl rfl (by omega) ?_)
      refine WL.op rfl rfl (op_assign rfl ?_)
      refine WL.nil ?_
      refine WQ.inNormal ?_
      exact WQ.round (t.drop 1) ⟨⟨by rw [trL_step (by omega) hn4]; exact ht, by simp only [List.length_take, List.length_drop]; omega⟩, H3⟩ ⟨rfl, rfl, rfl, trivial⟩ (by simp only [List.length_take, List.length_drop]; omega)
  ·
    have hc2 := of_decide_eq_false hb2
    refine WC.exit ?_
    refine WQ.thenExit ?_
    refine WQ.thenExit ?_
    refine WQ.inHere ?_
    refine WQ.next ?_
    refine WC.seq ?_
    refine WC.region ?_
    refine WL.op rfl rfl (op_move rfl ?_)
    refine WL.op rfl rfl (op_assign rfl ?_)
    refine WL.nil ?_
    refine WQ.next ?_
    refine WC.ret ?_
    refine WQ.out (.tmp rfl .nil) ?_
    exact ⟨by rw [← ht, List.eq_nil_of_length_eq_zero (show t.length = 0 by omega)]; rfl, H1.fr⟩
set_option maxRecDepth 100000 in
theorem trim_ok (s cs : List UInt8) (w : World) (hl : 1 < cs.length) (hl4 : cs.length < 2 ^ 40) (hcs : ∀ k, k < cs.length → ¬ (cs.getD k 0) ≥ (128 : UInt8)) (hs : s.length < 2 ^ 62) :
    Calls Tryd.prog 92 #[(str s), (str cs)] w (fun e w' => e = .returned (str (trL (inB cs) (trR (inB cs) s))) ∧ Fr [] w w') := by
  refine enter (args := [(str s), (str cs)]) Tryd.func92 rfl rfl ?_
  have H0 : Own [] w w [] := Own.start w []
  refine WC.seq ?_
  refine WC.region ?_
  refine WL.op rfl rfl (op_assign rfl ?_)
  refine WL.nil ?_
  refine WQ.next ?_
  refine WC.seq ?_
  refine WC.seq ?_
  refine WC.region ?_
  refine WL.op rfl rfl (op_move rfl ?_)
  refine WL.op rfl rfl (op_eqlStr rfl rfl ?_)
  refine WL.op rfl rfl (op_move rfl ?_)
  refine WL.split (t := 9) rfl (fun (hb1 : (decide (s = [])) = true) => ?_) (fun (hb1 : (decide (s = [])) = false) => ?_)
  ·
    have hc1 := of_decide_eq_true hb1
    refine WL.no rfl rfl rfl hb1 rfl ?_
    refine WL.no rfl rfl rfl hb1 rfl ?_
    refine WL.op rfl rfl (op_pickT rfl hb1 rfl ?_)
    refine WL.nil ?_
    refine WQ.next ?_
    refine WC.yes rfl rfl ?_
    refine WC.seq ?_
    refine WC.region ?_
    refine WL.op rfl rfl (op_move rfl ?_)
    refine WL.op rfl rfl (op_assign rfl ?_)
    refine WL.nil ?_
    refine WQ.next ?_
    refine WC.ret ?_
    refine WQ.thenRet ?_
    refine WQ.out (.tmp rfl .nil) ?_
    exact ⟨by (rw [of_decide_eq_true hb1]) <;> rfl, H0.fr⟩
  ·
    have hc1 := of_decide_eq_false hb1
    refine WL.yes rfl rfl rfl hb1 rfl (op_move rfl ?_)
    refine WL.yes rfl rfl rfl hb1 rfl (op_eqlStr rfl rfl ?_)
    refine WL.op rfl rfl (op_pickF rfl hb1 rfl ?_)
    refine WL.nil ?_
    refine WQ.next ?_
    refine WC.no rfl (decide_eq_false (fun h => by rw [h] at hl; simp at hl)) ?_
    refine WC.skip ?_
    refine WQ.next ?_
    refine WC.seq ?_
    refine WC.seq ?_
    refine WC.region ?_
    refine WL.op rfl rfl (op_move rfl ?_)
    refine WL.op rfl rfl (op_lenStr Tryd.underlying9 rfl ?_)
    refine WL.op rfl rfl (op_eqlN (b := 1) rfl rfl ?_)
    refine WL.op rfl rfl (op_move rfl ?_)
    refine WL.no rfl rfl rfl (decide_eq_false (by omega)) rfl ?_
    refine WL.no rfl rfl rfl (decide_eq_false (by omega)) rfl ?_
    refine WL.no rfl rfl rfl (decide_eq_false (by omega)) rfl ?_
    refine WL.op rfl rfl (op_pickF rfl (decide_eq_false (by omega)) rfl ?_)
    refine WL.nil ?_
    refine WQ.next ?_
    refine WC.no rfl rfl ?_
    refine WC.skip ?_
    refine WQ.next ?_
    refine WC.seq ?_
    refine WC.seq ?_
    refine WC.region ?_
    refine WL.op rfl rfl (op_move rfl ?_)
    refine WL.op rfl rfl (op_callF Fa.C107 rfl ((mkset_ok cs _ hcs (by first | assumption | omega)).mono (fun e w2 hq => ?_)))
    obtain ⟨rfl, hf2⟩ := hq
    refine ⟨_, rfl, ?_⟩
    have H2 := H0.fr' hf2
    refine WL.op rfl rfl (op_move rfl ?_)
    refine WL.op rfl rfl (op_extract rfl rfl ?_)
    refine WL.op rfl rfl (op_extract rfl rfl ?_)
    refine WL.op rfl rfl (op_alloc H2 Fa.I157 (fun b3 w3 H3 => ?_))
    refine WL.op rfl rfl (op_storeBV (i := 0) H3 rfl rfl rfl (by rw [tabB_len]; rfl) (tabB_one _ _) (by rw [tabB_len]) Fa.I157 (fun w4 H4 => ?_))
    refine WL.op rfl rfl (op_assign rfl ?_)
    refine WL.nil ?_
    refine WQ.next ?_
    refine WC.seq ?_
    refine WC.region ?_
    refine WL.op rfl rfl (op_move rfl ?_)
    refine WL.nil ?_
    refine WQ.next ?_
    refine WC.yes rfl rfl ?_
    refine WC.seq ?_
    refine WC.region ?_
    refine WL.op rfl rfl (op_move rfl ?_)
    refine WL.op rfl rfl (op_callF Fa.C109 rfl ((trimR_ok s b3 cs _ (H4.cellsAt (i := 0) rfl) (by first | omega | exact Nat.lt_of_le_of_lt (trR_len _ _) hs)).mono (fun e w5 hq => ?_)))
    obtain ⟨rfl, hf5⟩ := hq
    refine ⟨_, rfl, ?_⟩
    have H5 := H4.fr' hf5
    refine WL.op rfl rfl (op_callF Fa.C108 rfl ((trimL_ok (trR (inB cs) s) b3 cs _ (H5.cellsAt (i := 0) rfl) (by first | omega | exact Nat.lt_of_le_of_lt (trR_len _ _) hs)).mono (fun e w6 hq => ?_)))
    obtain ⟨rfl, hf6⟩ := hq
    refine ⟨_, rfl, ?_⟩
    have H6 := H5.fr' hf6
    refine WL.op rfl rfl (op_assign rfl ?_)
    refine WL.nil ?_
    refine WQ.next ?_
    refine WC.ret ?_
    refine WQ.thenRet ?_
    refine WQ.out (.tmp rfl .nil) ?_
    exact ⟨rfl, H6.fr⟩
set_option maxRecDepth 100000 in
theorem oname_ok (s : List UInt8) (w : World) (hs : s.length < 2 ^ 47) :
    Calls Tryd.prog 80 #[(str s)] w (fun e w' => e = .returned (.bool (nameB s)) ∧ Fr [] w w') := by
  refine enter (args := [(str s)]) Tryd.func80 rfl rfl ?_
  have H0 : Own [] w w [] := Own.start w []
  refine WC.seq ?_
  refine WC.region ?_
  refine WL.op rfl rfl (op_assign rfl ?_)
  refine WL.nil ?_
  refine WQ.next ?_
  refine WC.seq ?_
  refine WC.region ?_
  refine WL.op rfl rfl (op_move rfl ?_)
  refine WL.op rfl rfl (op_neqStr rfl rfl ?_)
  refine WL.op rfl rfl (op_move rfl ?_)
  refine WL.split (t := 5) rfl (fun (hb1 : (decide (s ≠ [])) = true) => ?_) (fun (hb1 : (decide (s ≠ [])) = false) => ?_)
  ·
    have hc1 := of_decide_eq_true hb1
    refine WL.yes rfl rfl rfl hb1 rfl (op_move rfl ?_)
    refine WL.yes rfl rfl rfl hb1 rfl (op_lenStr Tryd.underlying9 rfl ?_)
    refine WL.yes rfl rfl rfl hb1 rfl (op_leqN (b := 32) rfl rfl ?_)
    refine WL.op rfl rfl (op_pickT rfl hb1 rfl ?_)
    refine WL.op rfl rfl (op_move rfl ?_)
    refine WL.split (t := 10) rfl (fun (hb2 : (decide (s.length ≤ 32)) = true) => ?_) (fun (hb2 : (decide (s.length ≤ 32)) = false) => ?_)
    ·
      have hc2 := of_decide_eq_true hb2
      refine WL.yes rfl rfl rfl hb2 rfl (op_move rfl ?_)
      refine WL.yes rfl rfl rfl hb2 rfl (op_callF Fa.C92 rfl ((trim_ok s ([97, 98, 99, 100, 101, 102, 103, 104, 105, 106, 107, 108, 109, 110, 111, 112, 113, 114, 115, 116, 117, 118, 119, 120, 121, 122, 48, 49, 50, 51, 52, 53, 54, 55, 56, 57, 46, 95]) _ (by decide) (by decide) nameCs_low (by omega)).mono (fun e w3 hq => ?_)))
      obtain ⟨rfl, hf3⟩ := hq
      refine ⟨_, rfl, ?_⟩
      have H3 := H0.fr' hf3
      refine WL.yes rfl rfl rfl hb2 rfl (op_eqlStr rfl rfl ?_)
      refine WL.op rfl rfl (op_pickT rfl hb2 rfl ?_)
      refine WL.op rfl rfl (op_assign rfl ?_)
      refine WL.nil ?_
      refine WQ.next ?_
      refine WC.ret ?_
      refine WQ.out (.tmp rfl .nil) ?_
      exact ⟨by rw [← name_trim (of_decide_eq_true hb1) (of_decide_eq_true hb2)]; rfl, H3.fr⟩
    ·
      have hc2 := of_decide_eq_false hb2
      refine WL.no rfl rfl rfl hb2 rfl ?_
      refine WL.no rfl rfl rfl hb2 rfl ?_
      refine WL.no rfl rfl rfl hb2 rfl ?_
      refine WL.op rfl rfl (op_pickF rfl hb2 rfl ?_)
      refine WL.op rfl rfl (op_assign rfl ?_)
      refine WL.nil ?_
      refine WQ.next ?_
      refine WC.ret ?_
      refine WQ.out (.tmp rfl .nil) ?_
      exact ⟨by (rw [name_long (of_decide_eq_false hb2)]) <;> rfl, H0.fr⟩
  ·
    have hc1 := of_decide_eq_false hb1
    refine WL.no rfl rfl rfl hb1 rfl ?_
    refine WL.no rfl rfl rfl hb1 rfl ?_
    refine WL.no rfl rfl rfl hb1 rfl ?_
    refine WL.op rfl rfl (op_pickF rfl hb1 rfl ?_)
    refine WL.op rfl rfl (op_move rfl ?_)
    refine WL.no rfl rfl rfl rfl rfl ?_
    refine WL.no rfl rfl rfl rfl rfl ?_
    refine WL.no rfl rfl rfl rfl rfl ?_
    refine WL.op rfl rfl (op_pickF rfl rfl rfl ?_)
    refine WL.op rfl rfl (op_assign rfl ?_)
    refine WL.nil ?_
    refine WQ.next ?_
    refine WC.ret ?_
    refine WQ.out (.tmp rfl .nil) ?_
    exact ⟨by rw [Decidable.not_not.mp (of_decide_eq_false hb1)]; rfl, H0.fr⟩
set_option maxRecDepth 100000 in
theorem rname_ok (s : List UInt8) (w : World) (hs : s.length < 2 ^ 47) :
    Calls Tryd.prog 58 #[(str s)] w (fun e w' => e = .returned (.bool (nameB s)) ∧ Fr [] w w') := by
  refine enter (args := [(str s)]) Tryd.func58 rfl rfl ?_
  have H0 : Own [] w w [] := Own.start w []
  refine WC.seq ?_
  refine WC.region ?_
  refine WL.op rfl rfl (op_assign rfl ?_)
  refine WL.nil ?_
  refine WQ.next ?_
  refine WC.seq ?_
  refine WC.seq ?_
  refine WC.region ?_
  refine WL.op rfl rfl (op_assign rfl ?_)
  refine WL.nil ?_
  refine WQ.next ?_
  refine WC.block ?_
  refine WC.loop (α := Nat) (fun k => [(0, (str s)), (2, (.bool false)), (3, (vN k))]) (fun k w' => (k ≤ s.length ∧ (∀ j, j < k → nameC (s.getD j 0) = true)) ∧ Own [] w w' []) (fun k => s.length - k) 0 ⟨⟨Nat.zero_le _, fun j h => by omega⟩, H0⟩ ⟨rfl, rfl, rfl, trivial⟩ ?_
  rintro k w1 ⟨⟨hk1, hok⟩, H1⟩
  show WC _ _ _ _ _ [(0, (str s)), (2, (.bool false)), (3, (vN k))] _
  refine WC.seq ?_
  refine WC.seq ?_
  refine WC.region ?_
  refine WL.op rfl rfl (op_move rfl ?_)
  refine WL.op rfl rfl (op_move rfl ?_)
  refine WL.op rfl rfl (op_lenStr Tryd.underlying9 rfl ?_)
  refine WL.op rfl rfl (op_lssN rfl rfl ?_)
  refine WL.nil ?_
  refine WQ.next ?_
  refine WC.cond rfl (fun (hb2 : (decide (k < s.length)) = true) => ?_) (fun (hb2 : (decide (k < s.length)) = false) => ?_)
  ·
    have hc2 := of_decide_eq_true hb2
    refine WC.skip ?_
    refine WQ.next ?_
    refine WC.seq ?_
    refine WC.block ?_
    refine WC.seq ?_
    refine WC.region ?_
    refine WL.op rfl rfl (op_move rfl ?_)
    refine WL.op rfl rfl (op_move rfl ?_)
    refine WL.op rfl rfl (op_indexStrD Tryd.underlying9 rfl rfl (by omega) ?_)
    refine WL.op rfl rfl (op_assign rfl ?_)
    refine WL.nil ?_
    refine WQ.next ?_
    refine WC.seq ?_
    refine WC.region ?_
    refine WL.op rfl rfl (op_move rfl ?_)
    refine WL.op rfl rfl (op_geqU8 (b := 97) rfl rfl ?_)
    refine WL.op rfl rfl (op_move rfl ?_)
    refine WL.split (t := 16) rfl (fun (hb3 : (decide ((s.getD k 0) ≥ (97 : UInt8))) = true) => ?_) (fun (hb3 : (decide ((s.getD k 0) ≥ (97 : UInt8))) = false) => ?_)
    ·
      have hc3 := of_decide_eq_true hb3
      refine WL.yes rfl rfl rfl hb3 rfl (op_move rfl ?_)
      refine WL.yes rfl rfl rfl hb3 rfl (op_leqU8 (b := 122) rfl rfl ?_)
      refine WL.op rfl rfl (op_pickT rfl hb3 rfl ?_)
      refine WL.op rfl rfl (op_move rfl ?_)
      refine WL.split (t := 20) rfl (fun (hb4 : (decide ((s.getD k 0) ≤ (122 : UInt8))) = true) => ?_) (fun (hb4 : (decide ((s.getD k 0) ≤ (122 : UInt8))) = false) => ?_)
      ·
        have hc4 := of_decide_eq_true hb4
        refine WL.no rfl rfl rfl hb4 rfl ?_
        refine WL.no rfl rfl rfl hb4 rfl ?_
        refine WL.no rfl rfl rfl hb4 rfl ?_
        refine WL.non rfl rfl rfl rfl ?_
        refine WL.non rfl rfl rfl rfl ?_
        refine WL.no rfl rfl rfl hb4 rfl ?_
        refine WL.op rfl rfl (op_pickT rfl hb4 rfl ?_)
        refine WL.op rfl rfl (op_move rfl ?_)
        refine WL.no rfl rfl rfl rfl rfl ?_
        refine WL.no rfl rfl rfl rfl rfl ?_
        refine WL.op rfl rfl (op_pickT rfl rfl rfl ?_)
        refine WL.op rfl rfl (op_move rfl ?_)
        refine WL.no rfl rfl rfl rfl rfl ?_
        refine WL.no rfl rfl rfl rfl rfl ?_
        refine WL.op rfl rfl (op_pickT rfl rfl rfl ?_)
        refine WL.op rfl rfl (op_not rfl ?_)
        refine WL.nil ?_
        refine WQ.next ?_
        refine WC.no rfl (congrArg Bool.not rfl) ?_
        refine WC.skip ?_
        refine WQ.inNormal ?_
        refine WQ.next ?_
        refine WC.region ?_
        refine WL.op rfl rfl (op_move rfl ?_)
        refine WL.op rfl rfl (op_addN (b := 1) rfl rfl (by omega) ?_)
        refine WL.op rfl rfl (op_assign rfl ?_)
        refine WL.nil ?_
        exact WQ.round (k + 1) ⟨⟨by omega, allPrev hok (by (rw [nameC, hb3, hb4]) <;> rfl)⟩, H1⟩ ⟨rfl, rfl, rfl, trivial⟩ (by omega)
      ·
        have hc4 := of_decide_eq_false hb4
        refine WL.yes rfl rfl rfl hb4 rfl (op_move rfl ?_)
        refine WL.yes rfl rfl rfl hb4 rfl (op_geqU8 (b := 48) rfl rfl ?_)
        refine WL.yes rfl rfl rfl hb4 rfl (op_move rfl ?_)
        refine WL.split (t := 23) rfl (fun (hb5 : (decide ((s.getD k 0) ≥ (48 : UInt8))) = true) => ?_) (fun (hb5 : (decide ((s.getD k 0) ≥ (48 : UInt8))) = false) => ?_)
        ·
          have hc5 := of_decide_eq_true hb5
          refine WL.yes rfl rfl rfl hb5 rfl (op_move rfl ?_)
          refine WL.yes rfl rfl rfl hb5 rfl (op_leqU8 (b := 57) rfl rfl ?_)
          refine WL.yes rfl rfl rfl hb4 rfl (op_pickT rfl hb5 rfl ?_)
          refine WL.op rfl rfl (op_pickF rfl hb4 rfl ?_)
          refine WL.op rfl rfl (op_move rfl ?_)
          refine WL.split (t := 28) rfl (fun (hb6 : (decide ((s.getD k 0) ≤ (57 : UInt8))) = true) => ?_) (fun (hb6 : (decide ((s.getD k 0) ≤ (57 : UInt8))) = false) => ?_)
          ·
            have hc6 := of_decide_eq_true hb6
            refine WL.no rfl rfl rfl hb6 rfl ?_
            refine WL.no rfl rfl rfl hb6 rfl ?_
            refine WL.op rfl rfl (op_pickT rfl hb6 rfl ?_)
            refine WL.op rfl rfl (op_move rfl ?_)
            refine WL.no rfl rfl rfl rfl rfl ?_
            refine WL.no rfl rfl rfl rfl rfl ?_
            refine WL.op rfl rfl (op_pickT rfl rfl rfl ?_)
            refine WL.op rfl rfl (op_not rfl ?_)
            refine WL.nil ?_
            refine WQ.next ?_
            refine WC.no rfl (congrArg Bool.not rfl) ?_
            refine WC.skip ?_
            refine WQ.inNormal ?_
            refine WQ.next ?_
            refine WC.region ?_
            refine WL.op rfl rfl (op_move rfl ?_)
            refine WL.op rfl rfl (op_addN (b := 1) rfl rfl (by omega) ?_)
            refine WL.op rfl rfl (op_assign rfl ?_)
            refine WL.nil ?_
            exact WQ.round (k + 1) ⟨⟨by omega, allPrev hok (by (rw [nameC, hb3, hb4, hb5, hb6]) <;> rfl)⟩, H1⟩ ⟨rfl, rfl, rfl, trivial⟩ (by omega)
          ·
            have hc6 := of_decide_eq_false hb6
            refine WL.yes rfl rfl rfl hb6 rfl (op_move rfl ?_)
            refine WL.yes rfl rfl rfl hb6 rfl (op_eqlU8 (b := 46) rfl rfl ?_)
            refine WL.op rfl rfl (op_pickF rfl hb6 rfl ?_)
            refine WL.op rfl rfl (op_move rfl ?_)
            refine WL.split (t := 32) rfl (fun (hb7 : (decide ((s.getD k 0) = (46 : UInt8))) = true) => ?_) (fun (hb7 : (decide ((s.getD k 0) = (46 : UInt8))) = false) => ?_)
            ·
              have hc7 := of_decide_eq_true hb7
              refine WL.no rfl rfl rfl hb7 rfl ?_
              refine WL.no rfl rfl rfl hb7 rfl ?_
              refine WL.op rfl rfl (op_pickT rfl hb7 rfl ?_)
              refine WL.op rfl rfl (op_not rfl ?_)
              refine WL.nil ?_
              refine WQ.next ?_
              refine WC.no rfl (congrArg Bool.not rfl) ?_
              refine WC.skip ?_
              refine WQ.inNormal ?_
              refine WQ.next ?_
              refine WC.region ?_
              refine WL.op rfl rfl (op_move rfl ?_)
              refine WL.op rfl rfl (op_addN (b := 1) rfl rfl (by omega) ?_)
              refine WL.op rfl rfl (op_assign rfl ?_)
              refine WL.nil ?_
              exact WQ.round (k + 1) ⟨⟨by omega, allPrev hok (by (rw [nameC, hb3, hb4, hb5, hb6, hb7]) <;> rfl)⟩, H1⟩ ⟨rfl, rfl, rfl, trivial⟩ (by omega)
            ·
              have hc7 := of_decide_eq_false hb7
              refine WL.yes rfl rfl rfl hb7 rfl (op_move rfl ?_)
              refine WL.yes rfl rfl rfl hb7 rfl (op_eqlU8 (b := 95) rfl rfl ?_)
              refine WL.op rfl rfl (op_pickF rfl hb7 rfl ?_)
              refine WL.op rfl rfl (op_not rfl ?_)
              refine WL.nil ?_
              refine WQ.next ?_
              refine WC.cond rfl (fun (hb8 : (!(decide ((s.getD k 0) = (95 : UInt8)))) = true) => ?_) (fun (hb8 : (!(decide ((s.getD k 0) = (95 : UInt8)))) = false) => ?_)
              ·
                have hn8 := (Bool.not_eq_true' _).mp hb8
                refine WC.seq ?_
                refine WC.region ?_
                refine WL.op rfl rfl (op_assign rfl ?_)
                refine WL.nil ?_
                refine WQ.next ?_
                refine WC.ret ?_
                refine WQ.inRet ?_
                refine WQ.thenRet ?_
                refine WQ.thenRet ?_
                refine WQ.inRet ?_
                refine WQ.thenRet ?_
                refine WQ.out (.tmp rfl .nil) ?_
                exact ⟨by rw [name_no (k := k) (by omega) (by (rw [nameC, hb3, hb4, hb5, hb6, hb7, hn8]) <;> rfl)]; rfl, H1.fr⟩
              ·
                have hn8 := (Bool.not_eq_false' _).mp hb8
                refine WC.skip ?_
                refine WQ.inNormal ?_
                refine WQ.next ?_
                refine WC.region ?_
                refine WL.op rfl rfl (op_move rfl ?_)
                refine WL.op rfl rfl (op_addN (b := 1) rfl rfl (by omega) ?_)
                refine WL.op rfl rfl (op_assign rfl ?_)
                refine WL.nil ?_
                exact WQ.round (k + 1) ⟨⟨by omega, allPrev hok (by (rw [nameC, hb3, hb4, hb5, hb6, hb7, hn8]) <;> rfl)⟩, H1⟩ ⟨rfl, rfl, rfl, trivial⟩ (by omega)
        ·
          have hc5 := of_decide_eq_false hb5
          refine WL.no rfl rfl rfl hb5 rfl ?_
          refine WL.no rfl rfl rfl hb5 rfl ?_
          refine WL.yes rfl rfl rfl hb4 rfl (op_pickF rfl hb5 rfl ?_)
          refine WL.op rfl rfl (op_pickF rfl hb4 rfl ?_)
          refine WL.op rfl rfl (op_move rfl ?_)
          refine WL.yes rfl rfl rfl rfl rfl (op_move rfl ?_)
          refine WL.yes rfl rfl rfl rfl rfl (op_eqlU8 (b := 46) rfl rfl ?_)
          refine WL.op rfl rfl (op_pickF rfl rfl rfl ?_)
          refine WL.op rfl rfl (op_move rfl ?_)
          refine WL.split (t := 32) rfl (fun (hb9 : (decide ((s.getD k 0) = (46 : UInt8))) = true) => ?_) (fun (hb9 : (decide ((s.getD k 0) = (46 : UInt8))) = false) => ?_)
          ·
            have hc9 := of_decide_eq_true hb9
            refine WL.no rfl rfl rfl hb9 rfl ?_
            refine WL.no rfl rfl rfl hb9 rfl ?_
            refine WL.op rfl rfl (op_pickT rfl hb9 rfl ?_)
            refine WL.op rfl rfl (op_not rfl ?_)
            refine WL.nil ?_
            refine WQ.next ?_
            refine WC.no rfl (congrArg Bool.not rfl) ?_
            refine WC.skip ?_
            refine WQ.inNormal ?_
            refine WQ.next ?_
            refine WC.region ?_
            refine WL.op rfl rfl (op_move rfl ?_)
            refine WL.op rfl rfl (op_addN (b := 1) rfl rfl (by omega) ?_)
            refine WL.op rfl rfl (op_assign rfl ?_)
            refine WL.nil ?_
            exact WQ.round (k + 1) ⟨⟨by omega, allPrev hok (by (rw [nameC, hb3, hb4, hb5, hb9]) <;> rfl)⟩, H1⟩ ⟨rfl, rfl, rfl, trivial⟩ (by omega)
          ·
            have hc9 := of_decide_eq_false hb9
            refine WL.yes rfl rfl rfl hb9 rfl (op_move rfl ?_)
            refine WL.yes rfl rfl rfl hb9 rfl (op_eqlU8 (b := 95) rfl rfl ?_)
            refine WL.op rfl rfl (op_pickF rfl hb9 rfl ?_)
            refine WL.op rfl rfl (op_not rfl ?_)
            refine WL.nil ?_
            refine WQ.next ?_
            refine WC.cond rfl (fun (hb10 : (!(decide ((s.getD k 0) = (95 : UInt8)))) = true) => ?_) (fun (hb10 : (!(decide ((s.getD k 0) = (95 : UInt8)))) = false) => ?_)
            ·
              have hn10 := (Bool.not_eq_true' _).mp hb10
              refine WC.seq ?_
              refine WC.region ?_
              refine WL.op rfl rfl (op_assign rfl ?_)
              refine WL.nil ?_
              refine WQ.next ?_
              refine WC.ret ?_
              refine WQ.inRet ?_
              refine WQ.thenRet ?_
              refine WQ.thenRet ?_
              refine WQ.inRet ?_
              refine WQ.thenRet ?_
              refine WQ.out (.tmp rfl .nil) ?_
              exact ⟨by rw [name_no (k := k) (by omega) (by (rw [nameC, hb3, hb4, hb5, hb9, hn10]) <;> rfl)]; rfl, H1.fr⟩
            ·
              have hn10 := (Bool.not_eq_false' _).mp hb10
              refine WC.skip ?_
              refine WQ.inNormal ?_
              refine WQ.next ?_
              refine WC.region ?_
              refine WL.op rfl rfl (op_move rfl ?_)
              refine WL.op rfl rfl (op_addN (b := 1) rfl rfl (by omega) ?_)
              refine WL.op rfl rfl (op_assign rfl ?_)
              refine WL.nil ?_
              exact WQ.round (k + 1) ⟨⟨by omega, allPrev hok (by (rw [nameC, hb3, hb4, hb5, hb9, hn10]) <;> rfl)⟩, H1⟩ ⟨rfl, rfl, rfl, trivial⟩ (by omega)
    ·
      have hc3 := of_decide_eq_false hb3
      refine WL.no rfl rfl rfl hb3 rfl ?_
      refine WL.no rfl rfl rfl hb3 rfl ?_
      refine WL.op rfl rfl (op_pickF rfl hb3 rfl ?_)
      refine WL.op rfl rfl (op_move rfl ?_)
      refine WL.yes rfl rfl rfl rfl rfl (op_move rfl ?_)
      refine WL.yes rfl rfl rfl rfl rfl (op_geqU8 (b := 48) rfl rfl ?_)
      refine WL.yes rfl rfl rfl rfl rfl (op_move rfl ?_)
      refine WL.split (t := 23) rfl (fun (hb11 : (decide ((s.getD k 0) ≥ (48 : UInt8))) = true) => ?_) (fun (hb11 : (decide ((s.getD k 0) ≥ (48 : UInt8))) = false) => ?_)
      ·
        have hc11 := of_decide_eq_true hb11
        refine WL.yes rfl rfl rfl hb11 rfl (op_move rfl ?_)
        refine WL.yes rfl rfl rfl hb11 rfl (op_leqU8 (b := 57) rfl rfl ?_)
        refine WL.yes rfl rfl rfl rfl rfl (op_pickT rfl hb11 rfl ?_)
        refine WL.op rfl rfl (op_pickF rfl rfl rfl ?_)
        refine WL.op rfl rfl (op_move rfl ?_)
        refine WL.split (t := 28) rfl (fun (hb12 : (decide ((s.getD k 0) ≤ (57 : UInt8))) = true) => ?_) (fun (hb12 : (decide ((s.getD k 0) ≤ (57 : UInt8))) = false) => ?_)
        ·
          have hc12 := of_decide_eq_true hb12
          refine WL.no rfl rfl rfl hb12 rfl ?_
          refine WL.no rfl rfl rfl hb12 rfl ?_
          refine WL.op rfl rfl (op_pickT rfl hb12 rfl ?_)
          refine WL.op rfl rfl (op_move rfl ?_)
          refine WL.no rfl rfl rfl rfl rfl ?_
          refine WL.no rfl rfl rfl rfl rfl ?_
          refine WL.op rfl rfl (op_pickT rfl rfl rfl ?_)
          refine WL.op rfl rfl (op_not rfl ?_)
          refine WL.nil ?_
          refine WQ.next ?_
          refine WC.no rfl (congrArg Bool.not rfl) ?_
          refine WC.skip ?_
          refine WQ.inNormal ?_
          refine WQ.next ?_
          refine WC.region ?_
          refine WL.op rfl rfl (op_move rfl ?_)
          refine WL.op rfl rfl (op_addN (b := 1) rfl rfl (by omega) ?_)
          refine WL.op rfl rfl (op_assign rfl ?_)
          refine WL.nil ?_
          exact WQ.round (k + 1) ⟨⟨by omega, allPrev hok (by (rw [nameC, hb3, hb11, hb12]) <;> rfl)⟩, H1⟩ ⟨rfl, rfl, rfl, trivial⟩ (by omega)
        ·
          have hc12 := of_decide_eq_false hb12
          refine WL.yes rfl rfl rfl hb12 rfl (op_move rfl ?_)
          refine WL.yes rfl rfl rfl hb12 rfl (op_eqlU8 (b := 46) rfl rfl ?_)
          refine WL.op rfl rfl (op_pickF rfl hb12 rfl ?_)
          refine WL.op rfl rfl (op_move rfl ?_)
          refine WL.split (t := 32) rfl (fun (hb13 : (decide ((s.getD k 0) = (46 : UInt8))) = true) => ?_) (fun (hb13 : (decide ((s.getD k 0) = (46 : UInt8))) = false) => ?_)
          ·
            have hc13 := of_decide_eq_true hb13
            refine WL.no rfl rfl rfl hb13 rfl ?_
            refine WL.no rfl rfl rfl hb13 rfl ?_
            refine WL.op rfl rfl (op_pickT rfl hb13 rfl ?_)
            refine WL.op rfl rfl (op_not rfl ?_)
            refine WL.nil ?_
            refine WQ.next ?_
            refine WC.no rfl (congrArg Bool.not rfl) ?_
            refine WC.skip ?_
            refine WQ.inNormal ?_
            refine WQ.next ?_
            refine WC.region ?_
            refine WL.op rfl rfl (op_move rfl ?_)
            refine WL.op rfl rfl (op_addN (b := 1) rfl rfl (by omega) ?_)
            refine WL.op rfl rfl (op_assign rfl ?_)
            refine WL.nil ?_
            exact WQ.round (k + 1) ⟨⟨by omega, allPrev hok (by (rw [nameC, hb3, hb11, hb12, hb13]) <;> rfl)⟩, H1⟩ ⟨rfl, rfl, rfl, trivial⟩ (by omega)
          ·
            have hc13 := of_decide_eq_false hb13
            refine WL.yes rfl rfl rfl hb13 rfl (op_move rfl ?_)
            refine WL.yes rfl rfl rfl hb13 rfl (op_eqlU8 (b := 95) rfl rfl ?_)
            refine WL.op rfl rfl (op_pickF rfl hb13 rfl ?_)
            refine WL.op rfl rfl (op_not rfl ?_)
            refine WL.nil ?_
            refine WQ.next ?_
            refine WC.cond rfl (fun (hb14 : (!(decide ((s.getD k 0) = (95 : UInt8)))) = true) => ?_) (fun (hb14 : (!(decide ((s.getD k 0) = (95 : UInt8)))) = false) => ?_)
            ·
              have hn14 := (Bool.not_eq_true' _).mp hb14
              refine WC.seq ?_
              refine WC.region ?_
              refine WL.op rfl rfl (op_assign rfl ?_)
              refine WL.nil ?_
              refine WQ.next ?_
              refine WC.ret ?_
              refine WQ.inRet ?_
              refine WQ.thenRet ?_
              refine WQ.thenRet ?_
              refine WQ.inRet ?_
              refine WQ.thenRet ?_
              refine WQ.out (.tmp rfl .nil) ?_
              exact ⟨by rw [name_no (k := k) (by omega) (by (rw [nameC, hb3, hb11, hb12, hb13, hn14]) <;> rfl)]; rfl, H1.fr⟩
            ·
              have hn14 := (Bool.not_eq_false' _).mp hb14
              refine WC.skip ?_
              refine WQ.inNormal ?_
              refine WQ.next ?_
              refine WC.region ?_
              refine WL.op rfl rfl (op_move rfl ?_)
              refine WL.op rfl rfl (op_addN (b := 1) rfl rfl (by omega) ?_)
              refine WL.op rfl rfl (op_assign rfl ?_)
              refine WL.nil ?_
              exact WQ.round (k + 1) ⟨⟨by omega, allPrev hok (by (rw [nameC, hb3, hb11, hb12, hb13, hn14]) <;> rfl)⟩, H1⟩ ⟨rfl, rfl, rfl, trivial⟩ (by omega)
      ·
        have hc11 := of_decide_eq_false hb11
        refine WL.no rfl rfl rfl hb11 rfl ?_
        refine WL.no rfl rfl rfl hb11 rfl ?_
        refine WL.yes rfl rfl rfl rfl rfl (op_pickF rfl hb11 rfl ?_)
        refine WL.op rfl rfl (op_pickF rfl rfl rfl ?_)
        refine WL.op rfl rfl (op_move rfl ?_)
        refine WL.yes rfl rfl rfl rfl rfl (op_move rfl ?_)
        refine WL.yes rfl rfl rfl rfl rfl (op_eqlU8 (b := 46) rfl rfl ?_)
        refine WL.op rfl rfl (op_pickF rfl rfl rfl ?_)
        refine WL.op rfl rfl (op_move rfl ?_)
        refine WL.split (t := 32) rfl (fun (hb15 : (decide ((s.getD k 0) = (46 : UInt8))) = true) => ?_) (fun (hb15 : (decide ((s.getD k 0) = (46 : UInt8))) = false) => ?_)
        ·
          have hc15 := of_decide_eq_true hb15
          refine WL.no rfl rfl rfl hb15 rfl ?_
          refine WL.no rfl rfl rfl hb15 rfl ?_
          refine WL.op rfl rfl (op_pickT rfl hb15 rfl ?_)
          refine WL.op rfl rfl (op_not rfl ?_)
          refine WL.nil ?_
          refine WQ.next ?_
          refine WC.no rfl (congrArg Bool.not rfl) ?_
          refine WC.skip ?_
          refine WQ.inNormal ?_
          refine WQ.next ?_
          refine WC.region ?_
          refine WL.op rfl rfl (op_move rfl ?_)
          refine WL.op rfl rfl (op_addN (b := 1) rfl rfl (by omega) ?_)
          refine WL.op rfl rfl (op_assign rfl ?_)
          refine WL.nil ?_
          exact WQ.round (k + 1) ⟨⟨by omega, allPrev hok (by (rw [nameC, hb3, hb11, hb15]) <;> rfl)⟩, H1⟩ ⟨rfl, rfl, rfl, trivial⟩ (by omega)
        ·
          have hc15 := of_decide_eq_false hb15
          refine WL.yes rfl rfl rfl hb15 rfl (op_move rfl ?_)
          refine WL.yes rfl rfl rfl hb15 rfl (op_eqlU8 (b := 95) rfl rfl ?_)
          refine WL.op rfl rfl (op_pickF rfl hb15 rfl ?_)
          refine WL.op rfl rfl (op_not rfl ?_)
          refine WL.nil ?_
          refine WQ.next ?_
          refine WC.cond rfl (fun (hb16 : (!(decide ((s.getD k 0) = (95 : UInt8)))) = true) => ?_) (fun (hb16 : (!(decide ((s.getD k 0) = (95 : UInt8)))) = false) => ?_)
          ·
            have hn16 := (Bool.not_eq_true' _).mp hb16
            refine WC.seq ?_
            refine WC.region ?_
            refine WL.op rfl rfl (op_assign rfl ?_)
            refine WL.nil ?_
            refine WQ.next ?_
            refine WC.ret ?_
            refine WQ.inRet ?_
            refine WQ.thenRet ?_
            refine WQ.thenRet ?_
            refine WQ.inRet ?_
            refine WQ.thenRet ?_
            refine WQ.out (.tmp rfl .nil) ?_
            exact ⟨by rw [name_no (k := k) (by omega) (by (rw [nameC, hb3, hb11, hb15, hn16]) <;> rfl)]; rfl, H1.fr⟩
          ·
            have hn16 := (Bool.not_eq_false' _).mp hb16
            refine WC.skip ?_
            refine WQ.inNormal ?_
            refine WQ.next ?_
            refine WC.region ?_
            refine WL.op rfl rfl (op_move rfl ?_)
            refine WL.op rfl rfl (op_addN (b := 1) rfl rfl (by omega) ?_)
            refine WL.op rfl rfl (op_assign rfl ?_)
            refine WL.nil ?_
            exact WQ.round (k + 1) ⟨⟨by omega, allPrev hok (by (rw [nameC, hb3, hb11, hb15, hn16]) <;> rfl)⟩, H1⟩ ⟨rfl, rfl, rfl, trivial⟩ (by omega)
  ·
    have hc2 := of_decide_eq_false hb2
    refine WC.exit ?_
    refine WQ.thenExit ?_
    refine WQ.thenExit ?_
    refine WQ.inHere ?_
    refine WQ.next ?_
    refine WC.seq ?_
    refine WC.region ?_
    refine WL.op rfl rfl (op_move rfl ?_)
    refine WL.op rfl rfl (op_lenStr Tryd.underlying9 rfl ?_)
    refine WL.op rfl rfl (op_geqN (b := 1) rfl rfl ?_)
    refine WL.op rfl rfl (op_move rfl ?_)
    refine WL.split (t := 40) rfl (fun (hb17 : (decide (s.length ≥ 1)) = true) => ?_) (fun (hb17 : (decide (s.length ≥ 1)) = false) => ?_)
    ·
      have hc17 := of_decide_eq_true hb17
      refine WL.yes rfl rfl rfl hb17 rfl (op_move rfl ?_)
      refine WL.yes rfl rfl rfl hb17 rfl (op_lenStr Tryd.underlying9 rfl ?_)
      refine WL.yes rfl rfl rfl hb17 rfl (op_leqN (b := 32) rfl rfl ?_)
      refine WL.op rfl rfl (op_pickT rfl hb17 rfl ?_)
      refine WL.op rfl rfl (op_assign rfl ?_)
      refine WL.nil ?_
      refine WQ.next ?_
      refine WC.ret ?_
      refine WQ.out (.tmp rfl .nil) ?_
      exact ⟨by (rw [name_all (fun j hj => hok j (by omega)), hb17]) <;> rfl, H1.fr⟩
    ·
      have hc17 := of_decide_eq_false hb17
      refine WL.no rfl rfl rfl hb17 rfl ?_
      refine WL.no rfl rfl rfl hb17 rfl ?_
      refine WL.no rfl rfl rfl hb17 rfl ?_
      refine WL.op rfl rfl (op_pickF rfl hb17 rfl ?_)
      refine WL.op rfl rfl (op_assign rfl ?_)
      refine WL.nil ?_
      refine WQ.next ?_
      refine WC.ret ?_
      refine WQ.out (.tmp rfl .nil) ?_
      exact ⟨by (rw [name_all (fun j hj => hok j (by omega)), hb17]) <;> rfl, H1.fr⟩
set_option maxRecDepth 100000 in
theorem onote_ok (x : Nt) (w : World) :
    Calls Tryd.prog 32 #[(.agg #[(vU8 x.kind), (vU32 x.n), (vU32 x.m)])] w (fun e w' => e = .returned (vN (noteE x)) ∧ Fr [] w w') := by
  refine enter (args := [(.agg #[(vU8 x.kind), (vU32 x.n), (vU32 x.m)])]) Tryd.func32 rfl rfl ?_
  have H0 : Own [] w w [] := Own.start w []
  refine WC.seq ?_
  refine WC.region ?_
  refine WL.op rfl rfl (op_box H0 rfl rfl (fun b1 w1 H1 => ?_))
  refine WL.op rfl rfl (op_assign rfl ?_)
  refine WL.nil ?_
  refine WQ.next ?_
  refine WC.seq ?_
  refine WC.seq ?_
  refine WC.region ?_
  refine WL.op rfl rfl (op_fieldAddr rfl Fa.F68_0 ?_)
  refine WL.op rfl rfl (op_load rfl (H1.cell (i := 0) rfl rfl) Tryd.underlying5 rfl ?_)
  refine WL.nil ?_
  refine WQ.next ?_
  refine WC.block ?_
  refine WC.seq ?_
  refine WC.region ?_
  refine WL.op rfl rfl (op_eqlU8 (b := 1) rfl rfl ?_)
  refine WL.op rfl rfl (op_assign rfl ?_)
  refine WL.nil ?_
  refine WQ.next ?_
  refine WC.cond rfl (fun (hb2 : (decide (x.kind = (1 : UInt8))) = true) => ?_) (fun (hb2 : (decide (x.kind = (1 : UInt8))) = false) => ?_)
  ·
    have hc2 := of_decide_eq_true hb2
    refine WC.seq ?_
    refine WC.region ?_
    refine WL.op rfl rfl (op_fieldAddr rfl Fa.F68_1 ?_)
    refine WL.op rfl rfl (op_load rfl (H1.cell (i := 0) rfl rfl) Tryd.underlying22 rfl ?_)
    refine WL.op rfl rfl (op_leqU32 (b := 1024) rfl rfl ?_)
    refine WL.op rfl rfl (op_move rfl ?_)
    refine WL.split (t := 10) rfl (fun (hb3 : (decide (x.n ≤ (1024 : UInt32))) = true) => ?_) (fun (hb3 : (decide (x.n ≤ (1024 : UInt32))) = false) => ?_)
    ·
      have hc3 := of_decide_eq_true hb3
      refine WL.yes rfl rfl rfl hb3 rfl (op_fieldAddr rfl Fa.F68_2 ?_)
      refine WL.yes rfl rfl rfl hb3 rfl (op_load rfl (H1.cell (i := 0) rfl rfl) Tryd.underlying22 rfl ?_)
      refine WL.yes rfl rfl rfl hb3 rfl (op_eqlU32 (b := 0) rfl rfl ?_)
      refine WL.op rfl rfl (op_pickT rfl hb3 rfl ?_)
      refine WL.op rfl rfl (op_callF Fa.C60 rfl ((told_ok (decide (x.m = (0 : UInt32))) _).mono (fun e w4 hq => ?_)))
      obtain ⟨rfl, hf4⟩ := hq
      refine ⟨_, rfl, ?_⟩
      have H4 := H1.fr' hf4
      refine WL.op rfl rfl (op_assign rfl ?_)
      refine WL.nil ?_
      refine WQ.next ?_
      refine WC.ret ?_
      refine WQ.inRet ?_
      refine WQ.thenRet ?_
      refine WQ.out (.tmp rfl .nil) ?_
      exact ⟨by (rw [noteE, noteB, hb2, hb3]) <;> rfl, H4.fr⟩
    ·
      have hc3 := of_decide_eq_false hb3
      refine WL.no rfl rfl rfl hb3 rfl ?_
      refine WL.no rfl rfl rfl hb3 rfl ?_
      refine WL.no rfl rfl rfl hb3 rfl ?_
      refine WL.op rfl rfl (op_pickF rfl hb3 rfl ?_)
      refine WL.op rfl rfl (op_callF Fa.C60 rfl ((told_ok false _).mono (fun e w5 hq => ?_)))
      obtain ⟨rfl, hf5⟩ := hq
      refine ⟨_, rfl, ?_⟩
      have H5 := H1.fr' hf5
      refine WL.op rfl rfl (op_assign rfl ?_)
      refine WL.nil ?_
      refine WQ.next ?_
      refine WC.ret ?_
      refine WQ.inRet ?_
      refine WQ.thenRet ?_
      refine WQ.out (.tmp rfl .nil) ?_
      exact ⟨by (rw [noteE, noteB, hb2, hb3]) <;> rfl, H5.fr⟩
  ·
    have hc2 := of_decide_eq_false hb2
    refine WC.seq ?_
    refine WC.region ?_
    refine WL.op rfl rfl (op_eqlU8 (b := 2) rfl rfl ?_)
    refine WL.op rfl rfl (op_assign rfl ?_)
    refine WL.nil ?_
    refine WQ.next ?_
    refine WC.cond rfl (fun (hb6 : (decide (x.kind = (2 : UInt8))) = true) => ?_) (fun (hb6 : (decide (x.kind = (2 : UInt8))) = false) => ?_)
    ·
      have hc6 := of_decide_eq_true hb6
      refine WC.seq ?_
      refine WC.region ?_
      refine WL.op rfl rfl (op_fieldAddr rfl Fa.F68_1 ?_)
      refine WL.op rfl rfl (op_load rfl (H1.cell (i := 0) rfl rfl) Tryd.underlying22 rfl ?_)
      refine WL.op rfl rfl (op_lssU32 (b := 16) rfl rfl ?_)
      refine WL.op rfl rfl (op_move rfl ?_)
      refine WL.split (t := 21) rfl (fun (hb7 : (decide (x.n < (16 : UInt32))) = true) => ?_) (fun (hb7 : (decide (x.n < (16 : UInt32))) = false) => ?_)
      ·
        have hc7 := of_decide_eq_true hb7
        refine WL.yes rfl rfl rfl hb7 rfl (op_fieldAddr rfl Fa.F68_2 ?_)
        refine WL.yes rfl rfl rfl hb7 rfl (op_load rfl (H1.cell (i := 0) rfl rfl) Tryd.underlying22 rfl ?_)
        refine WL.yes rfl rfl rfl hb7 rfl (op_geqU32 (b := 1) rfl rfl ?_)
        refine WL.op rfl rfl (op_pickT rfl hb7 rfl ?_)
        refine WL.op rfl rfl (op_move rfl ?_)
        refine WL.split (t := 26) rfl (fun (hb8 : (decide (x.m ≥ (1 : UInt32))) = true) => ?_) (fun (hb8 : (decide (x.m ≥ (1 : UInt32))) = false) => ?_)
        ·
          have hc8 := of_decide_eq_true hb8
          refine WL.yes rfl rfl rfl hb8 rfl (op_fieldAddr rfl Fa.F68_2 ?_)
          refine WL.yes rfl rfl rfl hb8 rfl (op_load rfl (H1.cell (i := 0) rfl rfl) Tryd.underlying22 rfl ?_)
          refine WL.yes rfl rfl rfl hb8 rfl (op_leqU32 (b := 1024) rfl rfl ?_)
          refine WL.op rfl rfl (op_pickT rfl hb8 rfl ?_)
          refine WL.op rfl rfl (op_callF Fa.C60 rfl ((told_ok (decide (x.m ≤ (1024 : UInt32))) _).mono (fun e w9 hq => ?_)))
          obtain ⟨rfl, hf9⟩ := hq
          refine ⟨_, rfl, ?_⟩
          have H9 := H1.fr' hf9
          refine WL.op rfl rfl (op_assign rfl ?_)
          refine WL.nil ?_
          refine WQ.next ?_
          refine WC.ret ?_
          refine WQ.inRet ?_
          refine WQ.thenRet ?_
          refine WQ.out (.tmp rfl .nil) ?_
          exact ⟨by (rw [noteE, noteB, hb2, hb6, hb7, hb8]) <;> rfl, H9.fr⟩
        ·
          have hc8 := of_decide_eq_false hb8
          refine WL.no rfl rfl rfl hb8 rfl ?_
          refine WL.no rfl rfl rfl hb8 rfl ?_
          refine WL.no rfl rfl rfl hb8 rfl ?_
          refine WL.op rfl rfl (op_pickF rfl hb8 rfl ?_)
          refine WL.op rfl rfl (op_callF Fa.C60 rfl ((told_ok false _).mono (fun e w10 hq => ?_)))
          obtain ⟨rfl, hf10⟩ := hq
          refine ⟨_, rfl, ?_⟩
          have H10 := H1.fr' hf10
          refine WL.op rfl rfl (op_assign rfl ?_)
          refine WL.nil ?_
          refine WQ.next ?_
          refine WC.ret ?_
          refine WQ.inRet ?_
          refine WQ.thenRet ?_
          refine WQ.out (.tmp rfl .nil) ?_
          exact ⟨by (rw [noteE, noteB, hb2, hb6, hb7, hb8]) <;> rfl, H10.fr⟩
      ·
        have hc7 := of_decide_eq_false hb7
        refine WL.no rfl rfl rfl hb7 rfl ?_
        refine WL.no rfl rfl rfl hb7 rfl ?_
        refine WL.no rfl rfl rfl hb7 rfl ?_
        refine WL.op rfl rfl (op_pickF rfl hb7 rfl ?_)
        refine WL.op rfl rfl (op_move rfl ?_)
        refine WL.no rfl rfl rfl rfl rfl ?_
        refine WL.no rfl rfl rfl rfl rfl ?_
        refine WL.no rfl rfl rfl rfl rfl ?_
        refine WL.op rfl rfl (op_pickF rfl rfl rfl ?_)
        refine WL.op rfl rfl (op_callF Fa.C60 rfl ((told_ok false _).mono (fun e w11 hq => ?_)))
        obtain ⟨rfl, hf11⟩ := hq
        refine ⟨_, rfl, ?_⟩
        have H11 := H1.fr' hf11
        refine WL.op rfl rfl (op_assign rfl ?_)
        refine WL.nil ?_
        refine WQ.next ?_
        refine WC.ret ?_
        refine WQ.inRet ?_
        refine WQ.thenRet ?_
        refine WQ.out (.tmp rfl .nil) ?_
        exact ⟨by (rw [noteE, noteB, hb2, hb6, hb7]) <;> rfl, H11.fr⟩
    ·
      have hc6 := of_decide_eq_false hb6
      refine WC.seq ?_
      refine WC.region ?_
      refine WL.op rfl rfl (op_eqlU8 (b := 3) rfl rfl ?_)
      refine WL.op rfl rfl (op_assign rfl ?_)
      refine WL.nil ?_
      refine WQ.next ?_
      refine WC.cond rfl (fun (hb12 : (decide (x.kind = (3 : UInt8))) = true) => ?_) (fun (hb12 : (decide (x.kind = (3 : UInt8))) = false) => ?_)
      ·
        have hc12 := of_decide_eq_true hb12
        refine WC.seq ?_
        refine WC.region ?_
        refine WL.op rfl rfl (op_fieldAddr rfl Fa.F68_1 ?_)
        refine WL.op rfl rfl (op_load rfl (H1.cell (i := 0) rfl rfl) Tryd.underlying22 rfl ?_)
        refine WL.op rfl rfl (op_geqU32 (b := 1) rfl rfl ?_)
        refine WL.op rfl rfl (op_move rfl ?_)
        refine WL.split (t := 37) rfl (fun (hb13 : (decide (x.n ≥ (1 : UInt32))) = true) => ?_) (fun (hb13 : (decide (x.n ≥ (1 : UInt32))) = false) => ?_)
        ·
          have hc13 := of_decide_eq_true hb13
          refine WL.yes rfl rfl rfl hb13 rfl (op_fieldAddr rfl Fa.F68_1 ?_)
          refine WL.yes rfl rfl rfl hb13 rfl (op_load rfl (H1.cell (i := 0) rfl rfl) Tryd.underlying22 rfl ?_)
          refine WL.yes rfl rfl rfl hb13 rfl (op_leqU32 (b := 65535) rfl rfl ?_)
          refine WL.op rfl rfl (op_pickT rfl hb13 rfl ?_)
          refine WL.op rfl rfl (op_move rfl ?_)
          refine WL.split (t := 42) rfl (fun (hb14 : (decide (x.n ≤ (65535 : UInt32))) = true) => ?_) (fun (hb14 : (decide (x.n ≤ (65535 : UInt32))) = false) => ?_)
          ·
            have hc14 := of_decide_eq_true hb14
            refine WL.yes rfl rfl rfl hb14 rfl (op_fieldAddr rfl Fa.F68_2 ?_)
            refine WL.yes rfl rfl rfl hb14 rfl (op_load rfl (H1.cell (i := 0) rfl rfl) Tryd.underlying22 rfl ?_)
            refine WL.yes rfl rfl rfl hb14 rfl (op_eqlU32 (b := 0) rfl rfl ?_)
            refine WL.op rfl rfl (op_pickT rfl hb14 rfl ?_)
            refine WL.op rfl rfl (op_callF Fa.C60 rfl ((told_ok (decide (x.m = (0 : UInt32))) _).mono (fun e w15 hq => ?_)))
            obtain ⟨rfl, hf15⟩ := hq
            refine ⟨_, rfl, ?_⟩
            have H15 := H1.fr' hf15
            refine WL.op rfl rfl (op_assign rfl ?_)
            refine WL.nil ?_
            refine WQ.next ?_
            refine WC.ret ?_
            refine WQ.inRet ?_
            refine WQ.thenRet ?_
            refine WQ.out (.tmp rfl .nil) ?_
            exact ⟨by (rw [noteE, noteB, hb2, hb6, hb12, hb13, hb14]) <;> rfl, H15.fr⟩
          ·
            have hc14 := of_decide_eq_false hb14
            refine WL.no rfl rfl rfl hb14 rfl ?_
            refine WL.no rfl rfl rfl hb14 rfl ?_
            refine WL.no rfl rfl rfl hb14 rfl ?_
            refine WL.op rfl rfl (op_pickF rfl hb14 rfl ?_)
            refine WL.op rfl rfl (op_callF Fa.C60 rfl ((told_ok false _).mono (fun e w16 hq => ?_)))
            obtain ⟨rfl, hf16⟩ := hq
            refine ⟨_, rfl, ?_⟩
            have H16 := H1.fr' hf16
            refine WL.op rfl rfl (op_assign rfl ?_)
            refine WL.nil ?_
            refine WQ.next ?_
            refine WC.ret ?_
            refine WQ.inRet ?_
            refine WQ.thenRet ?_
            refine WQ.out (.tmp rfl .nil) ?_
            exact ⟨by (rw [noteE, noteB, hb2, hb6, hb12, hb13, hb14]) <;> rfl, H16.fr⟩
        ·
          have hc13 := of_decide_eq_false hb13
          refine WL.no rfl rfl rfl hb13 rfl ?_
          refine WL.no rfl rfl rfl hb13 rfl ?_
          refine WL.no rfl rfl rfl hb13 rfl ?_
          refine WL.op rfl rfl (op_pickF rfl hb13 rfl ?_)
          refine WL.op rfl rfl (op_move rfl ?_)
          refine WL.no rfl rfl rfl rfl rfl ?_
          refine WL.no rfl rfl rfl rfl rfl ?_
          refine WL.no rfl rfl rfl rfl rfl ?_
          refine WL.op rfl rfl (op_pickF rfl rfl rfl ?_)
          refine WL.op rfl rfl (op_callF Fa.C60 rfl ((told_ok false _).mono (fun e w17 hq => ?_)))
          obtain ⟨rfl, hf17⟩ := hq
          refine ⟨_, rfl, ?_⟩
          have H17 := H1.fr' hf17
          refine WL.op rfl rfl (op_assign rfl ?_)
          refine WL.nil ?_
          refine WQ.next ?_
          refine WC.ret ?_
          refine WQ.inRet ?_
          refine WQ.thenRet ?_
          refine WQ.out (.tmp rfl .nil) ?_
          exact ⟨by (rw [noteE, noteB, hb2, hb6, hb12, hb13]) <;> rfl, H17.fr⟩
      ·
        have hc12 := of_decide_eq_false hb12
        refine WC.seq ?_
        refine WC.region ?_
        refine WL.op rfl rfl (op_eqlU8 (b := 4) rfl rfl ?_)
        refine WL.op rfl rfl (op_assign rfl ?_)
        refine WL.nil ?_
        refine WQ.next ?_
        refine WC.cond rfl (fun (hb18 : (decide (x.kind = (4 : UInt8))) = true) => ?_) (fun (hb18 : (decide (x.kind = (4 : UInt8))) = false) => ?_)
        ·
          have hc18 := of_decide_eq_true hb18
          refine WC.seq ?_
          refine WC.region ?_
          refine WL.op rfl rfl (op_fieldAddr rfl Fa.F68_1 ?_)
          refine WL.op rfl rfl (op_load rfl (H1.cell (i := 0) rfl rfl) Tryd.underlying22 rfl ?_)
          refine WL.op rfl rfl (op_fieldAddr rfl Fa.F68_2 ?_)
          refine WL.op rfl rfl (op_load rfl (H1.cell (i := 0) rfl rfl) Tryd.underlying22 rfl ?_)
          refine WL.op rfl rfl (op_orU32 rfl rfl ?_)
          refine WL.op rfl rfl (op_eqlU32 (b := 0) rfl rfl ?_)
          refine WL.op rfl rfl (op_callF Fa.C60 rfl ((told_ok (decide ((x.n ||| x.m) = (0 : UInt32))) _).mono (fun e w19 hq => ?_)))
          obtain ⟨rfl, hf19⟩ := hq
          refine ⟨_, rfl, ?_⟩
          have H19 := H1.fr' hf19
          refine WL.op rfl rfl (op_assign rfl ?_)
          refine WL.nil ?_
          refine WQ.next ?_
          refine WC.ret ?_
          refine WQ.inRet ?_
          refine WQ.thenRet ?_
          refine WQ.out (.tmp rfl .nil) ?_
          exact ⟨by (rw [noteE, noteB, ← or_nil, hb2, hb6, hb12, hb18]) <;> rfl, H19.fr⟩
        ·
          have hc18 := of_decide_eq_false hb18
          refine WC.skip ?_
          refine WQ.inNormal ?_
          refine WQ.next ?_
          refine WC.seq ?_
          refine WC.region ?_
          refine WL.op rfl rfl (op_assign rfl ?_)
          refine WL.nil ?_
          refine WQ.next ?_
          refine WC.ret ?_
          refine WQ.out (.tmp rfl .nil) ?_
          exact ⟨by (rw [noteE, noteB, hb2, hb6, hb12, hb18]) <;> rfl, H1.fr⟩
set_option maxRecDepth 100000 in
theorem rnote_ok (x : Nt) (w : World) :
    Calls Tryd.prog 34 #[(.agg #[(vU8 x.kind), (vU32 x.n), (vU32 x.m)])] w (fun e w' => e = .returned (.bool (noteB x)) ∧ Fr [] w w') := by
  refine enter (args := [(.agg #[(vU8 x.kind), (vU32 x.n), (vU32 x.m)])]) Tryd.func34 rfl rfl ?_
  have H0 : Own [] w w [] := Own.start w []
  refine WC.seq ?_
  refine WC.region ?_
  refine WL.op rfl rfl (op_box H0 rfl rfl (fun b1 w1 H1 => ?_))
  refine WL.op rfl rfl (op_assign rfl ?_)
  refine WL.nil ?_
  refine WQ.next ?_
  refine WC.seq ?_
  refine WC.seq ?_
  refine WC.region ?_
  refine WL.op rfl rfl (op_fieldAddr rfl Fa.F68_0 ?_)
  refine WL.op rfl rfl (op_load rfl (H1.cell (i := 0) rfl rfl) Tryd.underlying5 rfl ?_)
  refine WL.nil ?_
  refine WQ.next ?_
  refine WC.block ?_
  refine WC.seq ?_
  refine WC.region ?_
  refine WL.op rfl rfl (op_eqlU8 (b := 1) rfl rfl ?_)
  refine WL.op rfl rfl (op_assign rfl ?_)
  refine WL.nil ?_
  refine WQ.next ?_
  refine WC.cond rfl (fun (hb2 : (decide (x.kind = (1 : UInt8))) = true) => ?_) (fun (hb2 : (decide (x.kind = (1 : UInt8))) = false) => ?_)
  ·
    have hc2 := of_decide_eq_true hb2
    refine WC.seq ?_
    refine WC.region ?_
    refine WL.op rfl rfl (op_fieldAddr rfl Fa.F68_1 ?_)
    refine WL.op rfl rfl (op_load rfl (H1.cell (i := 0) rfl rfl) Tryd.underlying22 rfl ?_)
    refine WL.op rfl rfl (op_leqU32 (b := 1024) rfl rfl ?_)
    refine WL.op rfl rfl (op_move rfl ?_)
    refine WL.split (t := 10) rfl (fun (hb3 : (decide (x.n ≤ (1024 : UInt32))) = true) => ?_) (fun (hb3 : (decide (x.n ≤ (1024 : UInt32))) = false) => ?_)
    ·
      have hc3 := of_decide_eq_true hb3
      refine WL.yes rfl rfl rfl hb3 rfl (op_fieldAddr rfl Fa.F68_2 ?_)
      refine WL.yes rfl rfl rfl hb3 rfl (op_load rfl (H1.cell (i := 0) rfl rfl) Tryd.underlying22 rfl ?_)
      refine WL.yes rfl rfl rfl hb3 rfl (op_eqlU32 (b := 0) rfl rfl ?_)
      refine WL.op rfl rfl (op_pickT rfl hb3 rfl ?_)
      refine WL.op rfl rfl (op_assign rfl ?_)
      refine WL.nil ?_
      refine WQ.next ?_
      refine WC.ret ?_
      refine WQ.inRet ?_
      refine WQ.thenRet ?_
      refine WQ.out (.tmp rfl .nil) ?_
      exact ⟨by (rw [noteB, hb2, hb3]) <;> rfl, H1.fr⟩
    ·
      have hc3 := of_decide_eq_false hb3
      refine WL.no rfl rfl rfl hb3 rfl ?_
      refine WL.no rfl rfl rfl hb3 rfl ?_
      refine WL.no rfl rfl rfl hb3 rfl ?_
      refine WL.op rfl rfl (op_pickF rfl hb3 rfl ?_)
      refine WL.op rfl rfl (op_assign rfl ?_)
      refine WL.nil ?_
      refine WQ.next ?_
      refine WC.ret ?_
      refine WQ.inRet ?_
      refine WQ.thenRet ?_
      refine WQ.out (.tmp rfl .nil) ?_
      exact ⟨by (rw [noteB, hb2, hb3]) <;> rfl, H1.fr⟩
  ·
    have hc2 := of_decide_eq_false hb2
    refine WC.seq ?_
    refine WC.region ?_
    refine WL.op rfl rfl (op_eqlU8 (b := 2) rfl rfl ?_)
    refine WL.op rfl rfl (op_assign rfl ?_)
    refine WL.nil ?_
    refine WQ.next ?_
    refine WC.cond rfl (fun (hb4 : (decide (x.kind = (2 : UInt8))) = true) => ?_) (fun (hb4 : (decide (x.kind = (2 : UInt8))) = false) => ?_)
    ·
      have hc4 := of_decide_eq_true hb4
      refine WC.seq ?_
      refine WC.region ?_
      refine WL.op rfl rfl (op_fieldAddr rfl Fa.F68_1 ?_)
      refine WL.op rfl rfl (op_load rfl (H1.cell (i := 0) rfl rfl) Tryd.underlying22 rfl ?_)
      refine WL.op rfl rfl (op_lssU32 (b := 16) rfl rfl ?_)
      refine WL.op rfl rfl (op_move rfl ?_)
      refine WL.split (t := 20) rfl (fun (hb5 : (decide (x.n < (16 : UInt32))) = true) => ?_) (fun (hb5 : (decide (x.n < (16 : UInt32))) = false) => ?_)
      ·
        have hc5 := of_decide_eq_true hb5
        refine WL.yes rfl rfl rfl hb5 rfl (op_fieldAddr rfl Fa.F68_2 ?_)
        refine WL.yes rfl rfl rfl hb5 rfl (op_load rfl (H1.cell (i := 0) rfl rfl) Tryd.underlying22 rfl ?_)
        refine WL.yes rfl rfl rfl hb5 rfl (op_geqU32 (b := 1) rfl rfl ?_)
        refine WL.op rfl rfl (op_pickT rfl hb5 rfl ?_)
        refine WL.op rfl rfl (op_move rfl ?_)
        refine WL.split (t := 25) rfl (fun (hb6 : (decide (x.m ≥ (1 : UInt32))) = true) => ?_) (fun (hb6 : (decide (x.m ≥ (1 : UInt32))) = false) => ?_)
        ·
          have hc6 := of_decide_eq_true hb6
          refine WL.yes rfl rfl rfl hb6 rfl (op_fieldAddr rfl Fa.F68_2 ?_)
          refine WL.yes rfl rfl rfl hb6 rfl (op_load rfl (H1.cell (i := 0) rfl rfl) Tryd.underlying22 rfl ?_)
          refine WL.yes rfl rfl rfl hb6 rfl (op_leqU32 (b := 1024) rfl rfl ?_)
          refine WL.op rfl rfl (op_pickT rfl hb6 rfl ?_)
          refine WL.op rfl rfl (op_assign rfl ?_)
          refine WL.nil ?_
          refine WQ.next ?_
          refine WC.ret ?_
          refine WQ.inRet ?_
          refine WQ.thenRet ?_
          refine WQ.out (.tmp rfl .nil) ?_
          exact ⟨by (rw [noteB, hb2, hb4, hb5, hb6]) <;> rfl, H1.fr⟩
        ·
          have hc6 := of_decide_eq_false hb6
          refine WL.no rfl rfl rfl hb6 rfl ?_
          refine WL.no rfl rfl rfl hb6 rfl ?_
          refine WL.no rfl rfl rfl hb6 rfl ?_
          refine WL.op rfl rfl (op_pickF rfl hb6 rfl ?_)
          refine WL.op rfl rfl (op_assign rfl ?_)
          refine WL.nil ?_
          refine WQ.next ?_
          refine WC.ret ?_
          refine WQ.inRet ?_
          refine WQ.thenRet ?_
          refine WQ.out (.tmp rfl .nil) ?_
          exact ⟨by (rw [noteB, hb2, hb4, hb5, hb6]) <;> rfl, H1.fr⟩
      ·
        have hc5 := of_decide_eq_false hb5
        refine WL.no rfl rfl rfl hb5 rfl ?_
        refine WL.no rfl rfl rfl hb5 rfl ?_
        refine WL.no rfl rfl rfl hb5 rfl ?_
        refine WL.op rfl rfl (op_pickF rfl hb5 rfl ?_)
        refine WL.op rfl rfl (op_move rfl ?_)
        refine WL.no rfl rfl rfl rfl rfl ?_
        refine WL.no rfl rfl rfl rfl rfl ?_
        refine WL.no rfl rfl rfl rfl rfl ?_
        refine WL.op rfl rfl (op_pickF rfl rfl rfl ?_)
        refine WL.op rfl rfl (op_assign rfl ?_)
        refine WL.nil ?_
        refine WQ.next ?_
        refine WC.ret ?_
        refine WQ.inRet ?_
        refine WQ.thenRet ?_
        refine WQ.out (.tmp rfl .nil) ?_
        exact ⟨by (rw [noteB, hb2, hb4, hb5]) <;> rfl, H1.fr⟩
    ·
      have hc4 := of_decide_eq_false hb4
      refine WC.seq ?_
      refine WC.region ?_
      refine WL.op rfl rfl (op_eqlU8 (b := 3) rfl rfl ?_)
      refine WL.op rfl rfl (op_assign rfl ?_)
      refine WL.nil ?_
      refine WQ.next ?_
      refine WC.cond rfl (fun (hb7 : (decide (x.kind = (3 : UInt8))) = true) => ?_) (fun (hb7 : (decide (x.kind = (3 : UInt8))) = false) => ?_)
      ·
        have hc7 := of_decide_eq_true hb7
        refine WC.seq ?_
        refine WC.region ?_
        refine WL.op rfl rfl (op_fieldAddr rfl Fa.F68_1 ?_)
        refine WL.op rfl rfl (op_load rfl (H1.cell (i := 0) rfl rfl) Tryd.underlying22 rfl ?_)
        refine WL.op rfl rfl (op_geqU32 (b := 1) rfl rfl ?_)
        refine WL.op rfl rfl (op_move rfl ?_)
        refine WL.split (t := 35) rfl (fun (hb8 : (decide (x.n ≥ (1 : UInt32))) = true) => ?_) (fun (hb8 : (decide (x.n ≥ (1 : UInt32))) = false) => ?_)
        ·
          have hc8 := of_decide_eq_true hb8
          refine WL.yes rfl rfl rfl hb8 rfl (op_fieldAddr rfl Fa.F68_1 ?_)
          refine WL.yes rfl rfl rfl hb8 rfl (op_load rfl (H1.cell (i := 0) rfl rfl) Tryd.underlying22 rfl ?_)
          refine WL.yes rfl rfl rfl hb8 rfl (op_leqU32 (b := 65535) rfl rfl ?_)
          refine WL.op rfl rfl (op_pickT rfl hb8 rfl ?_)
          refine WL.op rfl rfl (op_move rfl ?_)
          refine WL.split (t := 40) rfl (fun (hb9 : (decide (x.n ≤ (65535 : UInt32))) = true) => ?_) (fun (hb9 : (decide (x.n ≤ (65535 : UInt32))) = false) => ?_)
          ·
            have hc9 := of_decide_eq_true hb9
            refine WL.yes rfl rfl rfl hb9 rfl (op_fieldAddr rfl Fa.F68_2 ?_)
            refine WL.yes rfl rfl rfl hb9 rfl (op_load rfl (H1.cell (i := 0) rfl rfl) Tryd.underlying22 rfl ?_)
            refine WL.yes rfl rfl rfl hb9 rfl (op_eqlU32 (b := 0) rfl rfl ?_)
            refine WL.op rfl rfl (op_pickT rfl hb9 rfl ?_)
            refine WL.op rfl rfl (op_assign rfl ?_)
            refine WL.nil ?_
            refine WQ.next ?_
            refine WC.ret ?_
            refine WQ.inRet ?_
            refine WQ.thenRet ?_
            refine WQ.out (.tmp rfl .nil) ?_
            exact ⟨by (rw [noteB, hb2, hb4, hb7, hb8, hb9]) <;> rfl, H1.fr⟩
          ·
            have hc9 := of_decide_eq_false hb9
            refine WL.no rfl rfl rfl hb9 rfl ?_
            refine WL.no rfl rfl rfl hb9 rfl ?_
            refine WL.no rfl rfl rfl hb9 rfl ?_
            refine WL.op rfl rfl (op_pickF rfl hb9 rfl ?_)
            refine WL.op rfl rfl (op_assign rfl ?_)
            refine WL.nil ?_
            refine WQ.next ?_
            refine WC.ret ?_
            refine WQ.inRet ?_
            refine WQ.thenRet ?_
            refine WQ.out (.tmp rfl .nil) ?_
            exact ⟨by (rw [noteB, hb2, hb4, hb7, hb8, hb9]) <;> rfl, H1.fr⟩
        ·
          have hc8 := of_decide_eq_false hb8
          refine WL.no rfl rfl rfl hb8 rfl ?_
          refine WL.no rfl rfl rfl hb8 rfl ?_
          refine WL.no rfl rfl rfl hb8 rfl ?_
          refine WL.op rfl rfl (op_pickF rfl hb8 rfl ?_)
          refine WL.op rfl rfl (op_move rfl ?_)
          refine WL.no rfl rfl rfl rfl rfl ?_
          refine WL.no rfl rfl rfl rfl rfl ?_
          refine WL.no rfl rfl rfl rfl rfl ?_
          refine WL.op rfl rfl (op_pickF rfl rfl rfl ?_)
          refine WL.op rfl rfl (op_assign rfl ?_)
          refine WL.nil ?_
          refine WQ.next ?_
          refine WC.ret ?_
          refine WQ.inRet ?_
          refine WQ.thenRet ?_
          refine WQ.out (.tmp rfl .nil) ?_
          exact ⟨by (rw [noteB, hb2, hb4, hb7, hb8]) <;> rfl, H1.fr⟩
      ·
        have hc7 := of_decide_eq_false hb7
        refine WC.seq ?_
        refine WC.region ?_
        refine WL.op rfl rfl (op_eqlU8 (b := 4) rfl rfl ?_)
        refine WL.op rfl rfl (op_assign rfl ?_)
        refine WL.nil ?_
        refine WQ.next ?_
        refine WC.cond rfl (fun (hb10 : (decide (x.kind = (4 : UInt8))) = true) => ?_) (fun (hb10 : (decide (x.kind = (4 : UInt8))) = false) => ?_)
        ·
          have hc10 := of_decide_eq_true hb10
          refine WC.seq ?_
          refine WC.region ?_
          refine WL.op rfl rfl (op_fieldAddr rfl Fa.F68_1 ?_)
          refine WL.op rfl rfl (op_load rfl (H1.cell (i := 0) rfl rfl) Tryd.underlying22 rfl ?_)
          refine WL.op rfl rfl (op_eqlU32 (b := 0) rfl rfl ?_)
          refine WL.op rfl rfl (op_move rfl ?_)
          refine WL.split (t := 50) rfl (fun (hb11 : (decide (x.n = (0 : UInt32))) = true) => ?_) (fun (hb11 : (decide (x.n = (0 : UInt32))) = false) => ?_)
          ·
            have hc11 := of_decide_eq_true hb11
            refine WL.yes rfl rfl rfl hb11 rfl (op_fieldAddr rfl Fa.F68_2 ?_)
            refine WL.yes rfl rfl rfl hb11 rfl (op_load rfl (H1.cell (i := 0) rfl rfl) Tryd.underlying22 rfl ?_)
            refine WL.yes rfl rfl rfl hb11 rfl (op_eqlU32 (b := 0) rfl rfl ?_)
            refine WL.op rfl rfl (op_pickT rfl hb11 rfl ?_)
            refine WL.op rfl rfl (op_assign rfl ?_)
            refine WL.nil ?_
            refine WQ.next ?_
            refine WC.ret ?_
            refine WQ.inRet ?_
            refine WQ.thenRet ?_
            refine WQ.out (.tmp rfl .nil) ?_
            exact ⟨by (rw [noteB, hb2, hb4, hb7, hb10, hb11]) <;> rfl, H1.fr⟩
          ·
            have hc11 := of_decide_eq_false hb11
            refine WL.no rfl rfl rfl hb11 rfl ?_
            refine WL.no rfl rfl rfl hb11 rfl ?_
            refine WL.no rfl rfl rfl hb11 rfl ?_
            refine WL.op rfl rfl (op_pickF rfl hb11 rfl ?_)
            refine WL.op rfl rfl (op_assign rfl ?_)
            refine WL.nil ?_
            refine WQ.next ?_
            refine WC.ret ?_
            refine WQ.inRet ?_
            refine WQ.thenRet ?_
            refine WQ.out (.tmp rfl .nil) ?_
            exact ⟨by (rw [noteB, hb2, hb4, hb7, hb10, hb11]) <;> rfl, H1.fr⟩
        ·
          have hc10 := of_decide_eq_false hb10
          refine WC.skip ?_
          refine WQ.inNormal ?_
          refine WQ.next ?_
          refine WC.seq ?_
          refine WC.region ?_
          refine WL.op rfl rfl (op_assign rfl ?_)
          refine WL.nil ?_
          refine WQ.next ?_
          refine WC.ret ?_
          refine WQ.out (.tmp rfl .nil) ?_
          exact ⟨by (rw [noteB, hb2, hb4, hb7, hb10]) <;> rfl, H1.fr⟩
set_option maxRecDepth 100000 in
theorem ntbad_ok (x : Nt) (w : World) :
    Calls Tryd.prog 84 #[(.agg #[(vU8 x.kind), (vU32 x.n), (vU32 x.m)])] w (fun e w' => e = .returned (.bool (!noteB x)) ∧ Fr [] w w') := by
  refine enter (args := [(.agg #[(vU8 x.kind), (vU32 x.n), (vU32 x.m)])]) Tryd.func84 rfl rfl ?_
  have H0 : Own [] w w [] := Own.start w []
  refine WC.seq ?_
  refine WC.region ?_
  refine WL.op rfl rfl (op_box H0 rfl rfl (fun b1 w1 H1 => ?_))
  refine WL.op rfl rfl (op_assign rfl ?_)
  refine WL.nil ?_
  refine WQ.next ?_
  refine WC.seq ?_
  refine WC.region ?_
  refine WL.op rfl rfl (op_loadS (vs := [_, _, _]) rfl (H1.cells (i := 0) rfl rfl) Tryd.underlying68 rfl Fa.I68 rfl ?_)
  refine WL.op rfl rfl (op_callF Fa.C32 rfl ((onote_ok x _).mono (fun e w2 hq => ?_)))
  obtain ⟨rfl, hf2⟩ := hq
  refine ⟨_, rfl, ?_⟩
  have H2 := H1.fr' hf2
  refine WL.op rfl rfl (op_neqN (b := 0) rfl rfl ?_)
  refine WL.op rfl rfl (op_assign rfl ?_)
  refine WL.nil ?_
  refine WQ.next ?_
  refine WC.ret ?_
  refine WQ.out (.tmp rfl .nil) ?_
  exact ⟨by rw [noteE]; cases noteB x <;> rfl, H2.fr⟩
set_option maxRecDepth 100000 in
theorem width_ok (k : UInt8) (w : World) :
    Calls Tryd.prog 43 #[(vU8 k)] w (fun e w' => e = .returned (vN (widthN k)) ∧ Fr [] w w') := by
  refine enter (args := [(vU8 k)]) Tryd.func43 rfl rfl ?_
  have H0 : Own [] w w [] := Own.start w []
  refine WC.seq ?_
  refine WC.region ?_
  refine WL.op rfl rfl (op_assign rfl ?_)
  refine WL.nil ?_
  refine WQ.next ?_
  refine WC.seq ?_
  refine WC.seq ?_
  refine WC.region ?_
  refine WL.op rfl rfl (op_move rfl ?_)
  refine WL.op rfl rfl (op_eqlU8 (b := 1) rfl rfl ?_)
  refine WL.nil ?_
  refine WQ.next ?_
  refine WC.cond rfl (fun (hb1 : (decide (k = (1 : UInt8))) = true) => ?_) (fun (hb1 : (decide (k = (1 : UInt8))) = false) => ?_)
  ·
    have hc1 := of_decide_eq_true hb1
    refine WC.seq ?_
    refine WC.region ?_
    refine WL.op rfl rfl (op_assign rfl ?_)
    refine WL.nil ?_
    refine WQ.next ?_
    refine WC.ret ?_
    refine WQ.thenRet ?_
    refine WQ.out (.tmp rfl .nil) ?_
    exact ⟨by (rw [widthN, hb1]) <;> rfl, H0.fr⟩
  ·
    have hc1 := of_decide_eq_false hb1
    refine WC.skip ?_
    refine WQ.next ?_
    refine WC.seq ?_
    refine WC.seq ?_
    refine WC.region ?_
    refine WL.op rfl rfl (op_move rfl ?_)
    refine WL.op rfl rfl (op_eqlU8 (b := 2) rfl rfl ?_)
    refine WL.nil ?_
    refine WQ.next ?_
    refine WC.cond rfl (fun (hb2 : (decide (k = (2 : UInt8))) = true) => ?_) (fun (hb2 : (decide (k = (2 : UInt8))) = false) => ?_)
    ·
      have hc2 := of_decide_eq_true hb2
      refine WC.seq ?_
      refine WC.region ?_
      refine WL.op rfl rfl (op_assign rfl ?_)
      refine WL.nil ?_
      refine WQ.next ?_
      refine WC.ret ?_
      refine WQ.thenRet ?_
      refine WQ.out (.tmp rfl .nil) ?_
      exact ⟨by (rw [widthN, hb1, hb2]) <;> rfl, H0.fr⟩
    ·
      have hc2 := of_decide_eq_false hb2
      refine WC.skip ?_
      refine WQ.next ?_
      refine WC.seq ?_
      refine WC.region ?_
      refine WL.op rfl rfl (op_assign rfl ?_)
      refine WL.nil ?_
      refine WQ.next ?_
      refine WC.ret ?_
      refine WQ.out (.tmp rfl .nil) ?_
      exact ⟨by (rw [widthN, hb1, hb2]) <;> rfl, H0.fr⟩
end Go.Proofs.YtnngbnenekjffaaDoor
/-! from DObj2 -/
namespace Go.Proofs.YtnngbnenekjffaaDoor
open Go.Owl Go.Spec
set_option maxRecDepth 100000 in
theorem idxN_ok (lv : Value) (l : List Nt) (w : World) (hA : Arr w lv 3 l.length (List.flatMap ntc l)) (hn : l.length < 2 ^ 47) :
    Calls Tryd.prog 93 #[lv, (.func (.func 84) #[] #[])] w (fun e w' => e = .returned (vI (fidx (fun n => !noteB n) l)) ∧ Fr [] w w') := by
  refine enter (args := [lv, (.func (.func 84) #[] #[])]) Tryd.func93 rfl rfl ?_
  have H0 : Own [] w w [] := Own.start w []
  refine WC.seq ?_
  refine WC.region ?_
  refine WL.op rfl rfl (op_assign rfl ?_)
  refine WL.nil ?_
  refine WQ.next ?_
  refine WC.seq ?_
  refine WC.seq ?_
  refine WC.region ?_
  refine WL.op rfl rfl (op_move rfl ?_)
  refine WL.op rfl rfl (op_lenA Tryd.underlying24 rfl (H0.arr hA) ?_)
  refine WL.op rfl rfl (op_move rfl ?_)
  refine WL.nil ?_
  refine WQ.next ?_
  refine WC.block ?_
  refine WC.loop (α := Nat) (fun k => [(0, lv), (1, (.func (.func 84) #[] #[])), (7, (vN l.length)), (8, (vN k))]) (fun k w' => (k ≤ l.length ∧ (∀ j, j < k → (fun n => !noteB n) (l.getD j Nt.zero) = false)) ∧ Own [] w w' []) (fun k => l.length - k) 0 ⟨⟨Nat.zero_le _, fun j h => by omega⟩, H0⟩ ⟨rfl, rfl, rfl, rfl, trivial⟩ ?_
  rintro k w1 ⟨⟨hk1, hok⟩, H1⟩
  show WC _ _ _ _ _ [(0, lv), (1, (.func (.func 84) #[] #[])), (7, (vN l.length)), (8, (vN k))] _
  refine WC.seq ?_
  refine WC.region ?_
  refine WL.op rfl rfl (op_lssN rfl rfl ?_)
  refine WL.nil ?_
  refine WQ.next ?_
  refine WC.seq ?_
  refine WC.cond rfl (fun (hb2 : (decide (k < l.length)) = true) => ?_) (fun (hb2 : (decide (k < l.length)) = false) => ?_)
  ·
    have hc2 := of_decide_eq_true hb2
    refine WC.skip ?_
    refine WQ.next ?_
    refine WC.seq ?_
    refine WC.block ?_
    refine WC.seq ?_
    refine WC.region ?_
    refine WL.op rfl rfl (op_move rfl ?_)
    refine WL.op rfl rfl (op_assign rfl ?_)
    refine WL.nil ?_
    refine WQ.next ?_
    refine WC.seq ?_
    refine WC.region ?_
    refine WL.op rfl rfl (op_move rfl ?_)
    refine WL.op rfl rfl (op_move rfl ?_)
    refine WL.op rfl rfl (op_move rfl ?_)
    refine WL.op rfl rfl (op_indexAddr Tryd.underlying24 Fa.I68 rfl (H1.arr hA) rfl (by omega) ?_)
    refine WL.op rfl rfl (op_loadSP (vs := ntc (l.getD k Nt.zero)) rfl (Arr.atsF (H1.arr hA) (fun _ => rfl) (by decide) Nt.zero (by omega)) Tryd.underlying68 rfl Fa.I68 rfl ?_)
    refine WL.op rfl rfl (op_call (f := 84) rfl Fa.C84 rfl ((ntbad_ok (l.getD k Nt.zero) _).mono (fun e w3 hq => ?_)))
    obtain ⟨rfl, hf3⟩ := hq
    refine ⟨_, rfl, ?_⟩
    have H3 := H1.fr' hf3
    refine WL.nil ?_
    refine WQ.next ?_
    refine WC.cond rfl (fun (hb4 : (!noteB (l.getD k Nt.zero)) = true) => ?_) (fun (hb4 : (!noteB (l.getD k Nt.zero)) = false) => ?_)
    ·
      have hn4 := (Bool.not_eq_true' _).mp hb4
      refine WC.seq ?_
      refine WC.region ?_
      refine WL.op rfl rfl (op_move rfl ?_)
      refine WL.op rfl rfl (op_assign rfl ?_)
      refine WL.nil ?_
      refine WQ.next ?_
      refine WC.ret ?_
      refine WQ.inRet ?_
      refine WQ.thenRet ?_
      refine WQ.thenRet ?_
      refine WQ.inRet ?_
      refine WQ.thenRet ?_
      refine WQ.out (.tmp rfl .nil) ?_
      exact ⟨by rw [fidx_yes (d := Nt.zero) (by omega) hok hb4]; rfl, H3.fr⟩
    ·
      have hn4 := (Bool.not_eq_false' _).mp hb4
      refine WC.skip ?_
      refine WQ.inNormal ?_
      refine WQ.next ?_
      refine WC.region ?_
      refine WL.op rfl rfl (op_addN (b := 1) rfl rfl (by omega) ?_)
      refine WL.op rfl rfl (op_move rfl ?_)
      refine WL.nil ?_
      exact WQ.round (k + 1) ⟨⟨by omega, allPrev hok hb4⟩, H3⟩ ⟨rfl, rfl, rfl, rfl, trivial⟩ (by omega)
  ·
    have hc2 := of_decide_eq_false hb2
    refine WC.exit ?_
    refine WQ.thenExit ?_
    refine WQ.thenExit ?_
    refine WQ.inHere ?_
    refine WQ.next ?_
    refine WC.seq ?_
    refine WC.region ?_
    refine WL.op rfl rfl (op_assign rfl ?_)
    refine WL.nil ?_
    refine WQ.next ?_
    refine WC.ret ?_
    refine WQ.out (.tmp rfl .nil) ?_
    exact ⟨by rw [fidx_no (d := Nt.zero) (fun j hj => hok j (by omega))]; rfl, H1.fr⟩
set_option maxRecDepth 100000 in
theorem conN_ok (lv : Value) (l : List Nt) (w : World) (hA : Arr w lv 3 l.length (List.flatMap ntc l)) (hn : l.length < 2 ^ 47) :
    Calls Tryd.prog 83 #[lv, (.func (.func 84) #[] #[])] w (fun e w' => e = .returned (.bool (l.any (fun n => !noteB n))) ∧ Fr [] w w') := by
  refine enter (args := [lv, (.func (.func 84) #[] #[])]) Tryd.func83 rfl rfl ?_
  have H0 : Own [] w w [] := Own.start w []
  refine WC.seq ?_
  refine WC.region ?_
  refine WL.op rfl rfl (op_assign rfl ?_)
  refine WL.nil ?_
  refine WQ.next ?_
  refine WC.seq ?_
  refine WC.region ?_
  refine WL.op rfl rfl (op_move rfl ?_)
  refine WL.op rfl rfl (op_move rfl ?_)
  refine WL.op rfl rfl (op_callF Fa.C93 rfl ((idxN_ok _ l _ (H0.arr hA) (by omega)).mono (fun e w1 hq => ?_)))
  obtain ⟨rfl, hf1⟩ := hq
  refine ⟨_, rfl, ?_⟩
  have H1 := H0.fr' hf1
  refine WL.op rfl rfl (op_geqI (b := (0 : Int)) rfl rfl ?_)
  refine WL.op rfl rfl (op_assign rfl ?_)
  refine WL.nil ?_
  refine WQ.next ?_
  refine WC.ret ?_
  refine WQ.out (.tmp rfl .nil) ?_
  exact ⟨by rw [← fidx_any]; rfl, H1.fr⟩
set_option maxRecDepth 100000 in
theorem sized_ok (x : Sy) (w : World) (hI : SyD.ok w x) (hn : x.nm.length < 2 ^ 47) (hb : x.b.length < 2 ^ 32) (hr : ∀ y ∈ x.rl, y.nm.length < 2 ^ 47) (hm : x.rl.length < 2 ^ 40) (hq : x.nt.length < 2 ^ 40) :
    Calls Tryd.prog 81 #[(.agg #[(str x.nm), (vU8 x.bind), (vU8 x.kind), (vU32 x.size), (str x.b), x.rv, x.nv])] w (fun e w' => e = .returned (.bool (sizedB x)) ∧ Fr [] w w') := by
  refine enter (args := [(.agg #[(str x.nm), (vU8 x.bind), (vU8 x.kind), (vU32 x.size), (str x.b), x.rv, x.nv])]) Tryd.func81 rfl rfl ?_
  have H0 : Own [] w w [] := Own.start w []
  refine WC.seq ?_
  refine WC.region ?_
  refine WL.op rfl rfl (op_box H0 rfl rfl (fun b1 w1 H1 => ?_))
  refine WL.op rfl rfl (op_assign rfl ?_)
  refine WL.nil ?_
  refine WQ.next ?_
  refine WC.seq ?_
  refine WC.region ?_
  refine WL.op rfl rfl (op_fieldAddr rfl Fa.F111_0 ?_)
  refine WL.op rfl rfl (op_fieldAddr rfl Fa.F26_4 ?_)
  refine WL.op rfl rfl (op_load rfl (H1.cell (i := 0) rfl rfl) Tryd.underlying9 rfl ?_)
  refine WL.op rfl rfl (op_lenStr Tryd.underlying9 rfl ?_)
  refine WL.op rfl rfl (op_convNU32 (hs := Tryd.underlying3) (hd := Tryd.underlying22) rfl ?_)
  refine WL.op rfl rfl (op_assign rfl ?_)
  refine WL.nil ?_
  refine WQ.next ?_
  refine WC.seq ?_
  refine WC.seq ?_
  refine WC.region ?_
  refine WL.op rfl rfl (op_fieldAddr rfl Fa.F111_0 ?_)
  refine WL.op rfl rfl (op_fieldAddr rfl Fa.F26_3 ?_)
  refine WL.op rfl rfl (op_load rfl (H1.cell (i := 0) rfl rfl) Tryd.underlying22 rfl ?_)
  refine WL.op rfl rfl (op_lssU32 (b := 1) rfl rfl ?_)
  refine WL.op rfl rfl (op_move rfl ?_)
  refine WL.split (t := 13) rfl (fun (hb2 : (decide (x.size < (1 : UInt32))) = true) => ?_) (fun (hb2 : (decide (x.size < (1 : UInt32))) = false) => ?_)
  ·
    have hc2 := of_decide_eq_true hb2
    refine WL.no rfl rfl rfl hb2 rfl ?_
    refine WL.no rfl rfl rfl hb2 rfl ?_
    refine WL.no rfl rfl rfl hb2 rfl ?_
    refine WL.no rfl rfl rfl hb2 rfl ?_
    refine WL.op rfl rfl (op_pickT rfl hb2 rfl ?_)
    refine WL.op rfl rfl (op_move rfl ?_)
    refine WL.no rfl rfl rfl rfl rfl ?_
    refine WL.no rfl rfl rfl rfl rfl ?_
    refine WL.no rfl rfl rfl rfl rfl ?_
    refine WL.no rfl rfl rfl rfl rfl ?_
    refine WL.no rfl rfl rfl rfl rfl ?_
    refine WL.op rfl rfl (op_pickT rfl rfl rfl ?_)
    refine WL.nil ?_
    refine WQ.next ?_
    refine WC.yes rfl rfl ?_
    refine WC.seq ?_
    refine WC.region ?_
    refine WL.op rfl rfl (op_assign rfl ?_)
    refine WL.nil ?_
    refine WQ.next ?_
    refine WC.ret ?_
    refine WQ.thenRet ?_
    refine WQ.out (.tmp rfl .nil) ?_
    exact ⟨by (rw [sized_eq hb, sizedU, hb2]) <;> rfl, H1.fr⟩
  ·
    have hc2 := of_decide_eq_false hb2
    refine WL.yes rfl rfl rfl hb2 rfl (op_fieldAddr rfl Fa.F111_0 ?_)
    refine WL.yes rfl rfl rfl hb2 rfl (op_fieldAddr rfl Fa.F26_3 ?_)
    refine WL.yes rfl rfl rfl hb2 rfl (op_load rfl (H1.cell (i := 0) rfl rfl) Tryd.underlying22 rfl ?_)
    refine WL.yes rfl rfl rfl hb2 rfl (op_gtrU32 (b := 8192) rfl rfl ?_)
    refine WL.op rfl rfl (op_pickF rfl hb2 rfl ?_)
    refine WL.op rfl rfl (op_move rfl ?_)
    refine WL.split (t := 19) rfl (fun (hb3 : (decide (x.size > (8192 : UInt32))) = true) => ?_) (fun (hb3 : (decide (x.size > (8192 : UInt32))) = false) => ?_)
    ·
      have hc3 := of_decide_eq_true hb3
      refine WL.no rfl rfl rfl hb3 rfl ?_
      refine WL.no rfl rfl rfl hb3 rfl ?_
      refine WL.no rfl rfl rfl hb3 rfl ?_
      refine WL.no rfl rfl rfl hb3 rfl ?_
      refine WL.no rfl rfl rfl hb3 rfl ?_
      refine WL.op rfl rfl (op_pickT rfl hb3 rfl ?_)
      refine WL.nil ?_
      refine WQ.next ?_
      refine WC.yes rfl rfl ?_
      refine WC.seq ?_
      refine WC.region ?_
      refine WL.op rfl rfl (op_assign rfl ?_)
      refine WL.nil ?_
      refine WQ.next ?_
      refine WC.ret ?_
      refine WQ.thenRet ?_
      refine WQ.out (.tmp rfl .nil) ?_
      exact ⟨by (rw [sized_eq hb, sizedU, hb2, hb3]) <;> rfl, H1.fr⟩
    ·
      have hc3 := of_decide_eq_false hb3
      refine WL.yes rfl rfl rfl hb3 rfl (op_move rfl ?_)
      refine WL.yes rfl rfl rfl hb3 rfl (op_fieldAddr rfl Fa.F111_0 ?_)
      refine WL.yes rfl rfl rfl hb3 rfl (op_fieldAddr rfl Fa.F26_3 ?_)
      refine WL.yes rfl rfl rfl hb3 rfl (op_load rfl (H1.cell (i := 0) rfl rfl) Tryd.underlying22 rfl ?_)
      refine WL.yes rfl rfl rfl hb3 rfl (op_gtrU32 rfl rfl ?_)
      refine WL.op rfl rfl (op_pickF rfl hb3 rfl ?_)
      refine WL.nil ?_
      refine WQ.next ?_
      refine WC.cond rfl (fun (hb4 : (decide ((UInt32.ofNat x.b.length) > x.size)) = true) => ?_) (fun (hb4 : (decide ((UInt32.ofNat x.b.length) > x.size)) = false) => ?_)
      ·
        have hc4 := of_decide_eq_true hb4
        refine WC.seq ?_
        refine WC.region ?_
        refine WL.op rfl rfl (op_assign rfl ?_)
        refine WL.nil ?_
        refine WQ.next ?_
        refine WC.ret ?_
        refine WQ.thenRet ?_
        refine WQ.out (.tmp rfl .nil) ?_
        exact ⟨by (rw [sized_eq hb, sizedU, hb2, hb3, hb4]) <;> rfl, H1.fr⟩
      ·
        have hc4 := of_decide_eq_false hb4
        refine WC.skip ?_
        refine WQ.next ?_
        refine WC.seq ?_
        refine WC.region ?_
        refine WL.op rfl rfl (op_fieldAddr rfl Fa.F111_0 ?_)
        refine WL.op rfl rfl (op_fieldAddr rfl Fa.F26_2 ?_)
        refine WL.op rfl rfl (op_load rfl (H1.cell (i := 0) rfl rfl) Tryd.underlying5 rfl ?_)
        refine WL.op rfl rfl (op_neqU8 (b := 1) rfl rfl ?_)
        refine WL.op rfl rfl (op_move rfl ?_)
        refine WL.split (t := 30) rfl (fun (hb5 : (decide (x.kind ≠ (1 : UInt8))) = true) => ?_) (fun (hb5 : (decide (x.kind ≠ (1 : UInt8))) = false) => ?_)
        ·
          have hc5 := of_decide_eq_true hb5
          refine WL.no rfl rfl rfl hb5 rfl ?_
          refine WL.no rfl rfl rfl hb5 rfl ?_
          refine WL.no rfl rfl rfl hb5 rfl ?_
          refine WL.no rfl rfl rfl hb5 rfl ?_
          refine WL.no rfl rfl rfl hb5 rfl ?_
          refine WL.no rfl rfl rfl hb5 rfl ?_
          refine WL.non rfl rfl rfl rfl ?_
          refine WL.non rfl rfl rfl rfl ?_
          refine WL.non rfl rfl rfl rfl ?_
          refine WL.no rfl rfl rfl hb5 rfl ?_
          refine WL.op rfl rfl (op_pickT rfl hb5 rfl ?_)
          refine WL.op rfl rfl (op_assign rfl ?_)
          refine WL.nil ?_
          refine WQ.next ?_
          refine WC.ret ?_
          refine WQ.out (.tmp rfl .nil) ?_
          exact ⟨by (rw [sized_eq hb, sizedU, hb2, hb3, hb4, hb5]) <;> rfl, H1.fr⟩
        ·
          have hc5 := of_decide_eq_false hb5
          refine WL.yes rfl rfl rfl hb5 rfl (op_move rfl ?_)
          refine WL.yes rfl rfl rfl hb5 rfl (op_fieldAddr rfl Fa.F111_0 ?_)
          refine WL.yes rfl rfl rfl hb5 rfl (op_fieldAddr rfl Fa.F26_3 ?_)
          refine WL.yes rfl rfl rfl hb5 rfl (op_load rfl (H1.cell (i := 0) rfl rfl) Tryd.underlying22 rfl ?_)
          refine WL.yes rfl rfl rfl hb5 rfl (op_eqlU32 rfl rfl ?_)
          refine WL.yes rfl rfl rfl hb5 rfl (op_move rfl ?_)
          refine WL.split (t := 36) rfl (fun (hb6 : (decide ((UInt32.ofNat x.b.length) = x.size)) = true) => ?_) (fun (hb6 : (decide ((UInt32.ofNat x.b.length) = x.size)) = false) => ?_)
          ·
            have hc6 := of_decide_eq_true hb6
            refine WL.yes rfl rfl rfl hb6 rfl (op_move rfl ?_)
            refine WL.yes rfl rfl rfl hb6 rfl (op_remU32 (b := 8) rfl rfl (by decide) ?_)
            refine WL.yes rfl rfl rfl hb6 rfl (op_eqlU32 (b := 0) rfl rfl ?_)
            refine WL.yes rfl rfl rfl hb5 rfl (op_pickT rfl hb6 rfl ?_)
            refine WL.op rfl rfl (op_pickF rfl hb5 rfl ?_)
            refine WL.op rfl rfl (op_assign rfl ?_)
            refine WL.nil ?_
            refine WQ.next ?_
            refine WC.ret ?_
            refine WQ.out (.tmp rfl .nil) ?_
            exact ⟨by (rw [sized_eq hb, sizedU, hb2, hb3, hb4, hb5, hb6]) <;> rfl, H1.fr⟩
          ·
            have hc6 := of_decide_eq_false hb6
            refine WL.no rfl rfl rfl hb6 rfl ?_
            refine WL.no rfl rfl rfl hb6 rfl ?_
            refine WL.no rfl rfl rfl hb6 rfl ?_
            refine WL.yes rfl rfl rfl hb5 rfl (op_pickF rfl hb6 rfl ?_)
            refine WL.op rfl rfl (op_pickF rfl hb5 rfl ?_)
            refine WL.op rfl rfl (op_assign rfl ?_)
            refine WL.nil ?_
            refine WQ.next ?_
            refine WC.ret ?_
            refine WQ.out (.tmp rfl .nil) ?_
            exact ⟨by (rw [sized_eq hb, sizedU, hb2, hb3, hb4, hb5, hb6]) <;> rfl, H1.fr⟩
set_option maxRecDepth 100000 in
theorem places_ok (x : Sy) (w : World) (hI : SyD.ok w x) (hn : x.nm.length < 2 ^ 47) (hb : x.b.length < 2 ^ 32) (hr : ∀ y ∈ x.rl, y.nm.length < 2 ^ 47) (hm : x.rl.length < 2 ^ 40) (hq : x.nt.length < 2 ^ 40) :
    Calls Tryd.prog 82 #[(.agg #[(str x.nm), (vU8 x.bind), (vU8 x.kind), (vU32 x.size), (str x.b), x.rv, x.nv])] w (fun e w' => e = .returned (.bool (relsB x.b.length x.rl)) ∧ Fr [] w w') := by
  refine enter (args := [(.agg #[(str x.nm), (vU8 x.bind), (vU8 x.kind), (vU32 x.size), (str x.b), x.rv, x.nv])]) Tryd.func82 rfl rfl ?_
  have H0 : Own [] w w [] := Own.start w []
  refine WC.seq ?_
  refine WC.region ?_
  refine WL.op rfl rfl (op_box H0 rfl rfl (fun b1 w1 H1 => ?_))
  refine WL.op rfl rfl (op_assign rfl ?_)
  refine WL.nil ?_
  refine WQ.next ?_
  refine WC.seq ?_
  refine WC.region ?_
  refine WL.op rfl rfl (op_assign rfl ?_)
  refine WL.nil ?_
  refine WQ.next ?_
  refine WC.seq ?_
  refine WC.seq ?_
  refine WC.region ?_
  refine WL.op rfl rfl (op_fieldAddr rfl Fa.F111_0 ?_)
  refine WL.op rfl rfl (op_fieldAddr rfl Fa.F26_5 ?_)
  refine WL.op rfl rfl (op_load rfl (H1.cell (i := 0) rfl rfl) Tryd.underlying23 rfl ?_)
  refine WL.op rfl rfl (op_lenA Tryd.underlying23 rfl ((SyD_rl (SyD.fr0 hI H1.fr))) ?_)
  refine WL.op rfl rfl (op_move rfl ?_)
  refine WL.nil ?_
  refine WQ.next ?_
  refine WC.block ?_
  refine WC.loop (α := Nat) (fun k => [(1, (ptr b1 0)), (2, (.bool false)), (3, (vU32 (UInt32.ofNat (endAt x.rl k)))), (9, x.rv), (10, (vN x.rl.length)), (11, (vN k))]) (fun k w' => (k ≤ x.rl.length ∧ (∀ j, j < k → relOk x.b.length (endAt x.rl j) (x.rl.getD j Rl.zero) = true)) ∧ Own [] w w' [.blk b1 [(str x.nm), (vU8 x.bind), (vU8 x.kind), (vU32 x.size), (str x.b), x.rv, x.nv] 111]) (fun k => x.rl.length - k) 0 ⟨⟨Nat.zero_le _, fun j h => by omega⟩, H1⟩ ⟨rfl, rfl, rfl, rfl, rfl, rfl, trivial⟩ ?_
  rintro k w2 ⟨⟨hk1, hok⟩, H2⟩
  show WC _ _ _ _ _ [(1, (ptr b1 0)), (2, (.bool false)), (3, (vU32 (UInt32.ofNat (endAt x.rl k)))), (9, x.rv), (10, (vN x.rl.length)), (11, (vN k))] _
  have he := endAt_lt hok
  have hle := endAt_le hok
  have hrk := getD_name hr k
  refine WC.seq ?_
  refine WC.region ?_
  refine WL.op rfl rfl (op_lssN rfl rfl ?_)
  refine WL.nil ?_
  refine WQ.next ?_
  refine WC.seq ?_
  refine WC.cond rfl (fun (hb3 : (decide (k < x.rl.length)) = true) => ?_) (fun (hb3 : (decide (k < x.rl.length)) = false) => ?_)
  ·
    have hc3 := of_decide_eq_true hb3
    refine WC.skip ?_
    refine WQ.next ?_
    refine WC.seq ?_
    refine WC.block ?_
    refine WC.seq ?_
    refine WC.region ?_
    refine WL.op rfl rfl (op_indexAddr Tryd.underlying23 Fa.I44 rfl ((SyD_rl (SyD.fr0 hI H2.fr))) rfl (by omega) ?_)
    refine WL.op rfl rfl (op_loadSP (vs := rlc (x.rl.getD k Rl.zero)) rfl (Arr.atsF ((SyD_rl (SyD.fr0 hI H2.fr))) (fun _ => rfl) (by decide) Rl.zero (by omega)) Tryd.underlying44 rfl Fa.I44 rfl ?_)
    refine WL.op rfl rfl (op_alloc H2 Fa.I44 (fun b4 w4 H4 => ?_))
    refine WL.op rfl rfl (op_storeBW (i := 1) H4 rfl rfl rfl rfl rfl Fa.I44 (fun w5 H5 => ?_))
    refine WL.nil ?_
    refine WQ.next ?_
    refine WC.seq ?_
    refine WC.region ?_
    refine WL.op rfl rfl (op_assign rfl ?_)
    refine WL.nil ?_
    refine WQ.next ?_
    refine WC.seq ?_
    refine WC.seq ?_
    refine WC.region ?_
    refine WL.op rfl rfl (op_fieldAddr rfl Fa.F44_1 ?_)
    refine WL.op rfl rfl (op_load rfl (H5.cell (i := 1) rfl rfl) Tryd.underlying5 rfl ?_)
    refine WL.nil ?_
    refine WQ.next ?_
    refine WC.block ?_
    refine WC.seq ?_
    refine WC.region ?_
    refine WL.op rfl rfl (op_eqlU8 (b := 1) rfl rfl ?_)
    refine WL.op rfl rfl (op_assign rfl ?_)
    refine WL.nil ?_
    refine WQ.next ?_
    refine WC.cond rfl (fun (hb6 : (decide ((x.rl.getD k Rl.zero).kind = (1 : UInt8))) = true) => ?_) (fun (hb6 : (decide ((x.rl.getD k Rl.zero).kind = (1 : UInt8))) = false) => ?_)
    ·
      have hc6 := of_decide_eq_true hb6
      have hw : widthN (x.rl.getD k Rl.zero).kind = (4 : UInt32).toNat := by (rw [widthN, hb6]) <;> rfl
      refine WC.skip ?_
      refine WQ.inNormal ?_
      refine WQ.next ?_
      refine WC.seq ?_
      refine WC.seq ?_
      refine WC.region ?_
      refine WL.op rfl rfl (op_fieldAddr rfl Fa.F44_2 ?_)
      refine WL.op rfl rfl (op_load rfl (H5.cell (i := 1) rfl rfl) Tryd.underlying9 rfl ?_)
      refine WL.op rfl rfl (op_callF Fa.C80 rfl ((oname_ok ((x.rl.getD k Rl.zero).nm) _ (by exact hrk)).mono (fun e w7 hq => ?_)))
      obtain ⟨rfl, hf7⟩ := hq
      refine ⟨_, rfl, ?_⟩
      have H7 := H5.fr' hf7
      refine WL.op rfl rfl (op_not rfl ?_)
      refine WL.op rfl rfl (op_move rfl ?_)
      refine WL.split (t := 25) rfl (fun (hb8 : (!(nameB ((x.rl.getD k Rl.zero).nm))) = true) => ?_) (fun (hb8 : (!(nameB ((x.rl.getD k Rl.zero).nm))) = false) => ?_)
      ·
        have hn8 := (Bool.not_eq_true' _).mp hb8
        refine WL.no rfl rfl rfl hb8 rfl ?_
        refine WL.no rfl rfl rfl hb8 rfl ?_
        refine WL.no rfl rfl rfl hb8 rfl ?_
        refine WL.no rfl rfl rfl hb8 rfl ?_
        refine WL.op rfl rfl (op_pickT rfl hb8 rfl ?_)
        refine WL.op rfl rfl (op_move rfl ?_)
        refine WL.no rfl rfl rfl rfl rfl ?_
        refine WL.no rfl rfl rfl rfl rfl ?_
        refine WL.no rfl rfl rfl rfl rfl ?_
        refine WL.op rfl rfl (op_pickT rfl rfl rfl ?_)
        refine WL.op rfl rfl (op_move rfl ?_)
        refine WL.no rfl rfl rfl rfl rfl ?_
        refine WL.no rfl rfl rfl rfl rfl ?_
        refine WL.no rfl rfl rfl rfl rfl ?_
        refine WL.no rfl rfl rfl rfl rfl ?_
        refine WL.no rfl rfl rfl rfl rfl ?_
        refine WL.no rfl rfl rfl rfl rfl ?_
        refine WL.no rfl rfl rfl rfl rfl ?_
        refine WL.no rfl rfl rfl rfl rfl ?_
        refine WL.no rfl rfl rfl rfl rfl ?_
        refine WL.no rfl rfl rfl rfl rfl ?_
        refine WL.op rfl rfl (op_pickT rfl rfl rfl ?_)
        refine WL.nil ?_
        refine WQ.next ?_
        refine WC.yes rfl rfl ?_
        refine WC.seq ?_
        refine WC.region ?_
        refine WL.op rfl rfl (op_assign rfl ?_)
        refine WL.nil ?_
        refine WQ.next ?_
        refine WC.ret ?_
        refine WQ.thenRet ?_
        refine WQ.inRet ?_
        refine WQ.thenRet ?_
        refine WQ.thenRet ?_
        refine WQ.inRet ?_
        refine WQ.thenRet ?_
        refine WQ.out (.tmp rfl .nil) ?_
        exact ⟨by rw [rels_no (k := k) (by omega) (relOk_n hn8)]; rfl, H7.fr⟩
      ·
        have hn8 := (Bool.not_eq_false' _).mp hb8
        refine WL.yes rfl rfl rfl hb8 rfl (op_fieldAddr rfl Fa.F44_0 ?_)
        refine WL.yes rfl rfl rfl hb8 rfl (op_load rfl (H7.cell (i := 1) rfl rfl) Tryd.underlying22 rfl ?_)
        refine WL.yes rfl rfl rfl hb8 rfl (op_move rfl ?_)
        refine WL.yes rfl rfl rfl hb8 rfl (op_lssU32 rfl rfl ?_)
        refine WL.op rfl rfl (op_pickF rfl hb8 rfl ?_)
        refine WL.op rfl rfl (op_move rfl ?_)
        refine WL.split (t := 31) rfl (fun (hb9 : (decide ((x.rl.getD k Rl.zero).off < (UInt32.ofNat (endAt x.rl k)))) = true) => ?_) (fun (hb9 : (decide ((x.rl.getD k Rl.zero).off < (UInt32.ofNat (endAt x.rl k)))) = false) => ?_)
        ·
          have hc9 := of_decide_eq_true hb9
          refine WL.no rfl rfl rfl hb9 rfl ?_
          refine WL.no rfl rfl rfl hb9 rfl ?_
          refine WL.no rfl rfl rfl hb9 rfl ?_
          refine WL.op rfl rfl (op_pickT rfl hb9 rfl ?_)
          refine WL.op rfl rfl (op_move rfl ?_)
          refine WL.no rfl rfl rfl rfl rfl ?_
          refine WL.no rfl rfl rfl rfl rfl ?_
          refine WL.no rfl rfl rfl rfl rfl ?_
          refine WL.no rfl rfl rfl rfl rfl ?_
          refine WL.no rfl rfl rfl rfl rfl ?_
          refine WL.no rfl rfl rfl rfl rfl ?_
          refine WL.no rfl rfl rfl rfl rfl ?_
          refine WL.no rfl rfl rfl rfl rfl ?_
          refine WL.no rfl rfl rfl rfl rfl ?_
          refine WL.no rfl rfl rfl rfl rfl ?_
          refine WL.op rfl rfl (op_pickT rfl rfl rfl ?_)
          refine WL.nil ?_
          refine WQ.next ?_
          refine WC.yes rfl rfl ?_
          refine WC.seq ?_
          refine WC.region ?_
          refine WL.op rfl rfl (op_assign rfl ?_)
          refine WL.nil ?_
          refine WQ.next ?_
          refine WC.ret ?_
          refine WQ.thenRet ?_
          refine WQ.inRet ?_
          refine WQ.thenRet ?_
          refine WQ.thenRet ?_
          refine WQ.inRet ?_
          refine WQ.thenRet ?_
          refine WQ.out (.tmp rfl .nil) ?_
          exact ⟨by rw [rels_no (k := k) (by omega) (relOk_e hb9 (by omega))]; rfl, H7.fr⟩
        ·
          have hc9 := of_decide_eq_false hb9
          refine WL.yes rfl rfl rfl hb9 rfl (op_fieldAddr rfl Fa.F44_0 ?_)
          refine WL.yes rfl rfl rfl hb9 rfl (op_load rfl (H7.cell (i := 1) rfl rfl) Tryd.underlying22 rfl ?_)
          refine WL.yes rfl rfl rfl hb9 rfl (op_gtrU32 (b := 8192) rfl rfl ?_)
          refine WL.op rfl rfl (op_pickF rfl hb9 rfl ?_)
          refine WL.op rfl rfl (op_move rfl ?_)
          refine WL.split (t := 36) rfl (fun (hb10 : (decide ((x.rl.getD k Rl.zero).off > (8192 : UInt32))) = true) => ?_) (fun (hb10 : (decide ((x.rl.getD k Rl.zero).off > (8192 : UInt32))) = false) => ?_)
          ·
            have hc10 := of_decide_eq_true hb10
            refine WL.no rfl rfl rfl hb10 rfl ?_
            refine WL.no rfl rfl rfl hb10 rfl ?_
            refine WL.no rfl rfl rfl hb10 rfl ?_
            refine WL.no rfl rfl rfl hb10 rfl ?_
            refine WL.no rfl rfl rfl hb10 rfl ?_
            refine WL.no rfl rfl rfl hb10 rfl ?_
            refine WL.no rfl rfl rfl hb10 rfl ?_
            refine WL.no rfl rfl rfl hb10 rfl ?_
            refine WL.no rfl rfl rfl hb10 rfl ?_
            refine WL.no rfl rfl rfl hb10 rfl ?_
            refine WL.op rfl rfl (op_pickT rfl hb10 rfl ?_)
            refine WL.nil ?_
            refine WQ.next ?_
            refine WC.yes rfl rfl ?_
            refine WC.seq ?_
            refine WC.region ?_
            refine WL.op rfl rfl (op_assign rfl ?_)
            refine WL.nil ?_
            refine WQ.next ?_
            refine WC.ret ?_
            refine WQ.thenRet ?_
            refine WQ.inRet ?_
            refine WQ.thenRet ?_
            refine WQ.thenRet ?_
            refine WQ.inRet ?_
            refine WQ.thenRet ?_
            refine WQ.out (.tmp rfl .nil) ?_
            exact ⟨by rw [rels_no (k := k) (by omega) (relOk_b hb10)]; rfl, H7.fr⟩
          ·
            have hc10 := of_decide_eq_false hb10
            refine WL.yes rfl rfl rfl hb10 rfl (op_fieldAddr rfl Fa.F44_0 ?_)
            refine WL.yes rfl rfl rfl hb10 rfl (op_load rfl (H7.cell (i := 1) rfl rfl) Tryd.underlying22 rfl ?_)
            refine WL.yes rfl rfl rfl hb10 rfl (op_move rfl ?_)
            refine WL.yes rfl rfl rfl hb10 rfl (op_addU32 (b := 4) rfl rfl ?_)
            refine WL.yes rfl rfl rfl hb10 rfl (op_fieldAddr rfl Fa.F111_0 ?_)
            refine WL.yes rfl rfl rfl hb10 rfl (op_fieldAddr rfl Fa.F26_4 ?_)
            refine WL.yes rfl rfl rfl hb10 rfl (op_load rfl (H7.cell (i := 0) rfl rfl) Tryd.underlying9 rfl ?_)
            refine WL.yes rfl rfl rfl hb10 rfl (op_lenStr Tryd.underlying9 rfl ?_)
            refine WL.yes rfl rfl rfl hb10 rfl (op_convNU32 (hs := Tryd.underlying3) (hd := Tryd.underlying22) rfl ?_)
            refine WL.yes rfl rfl rfl hb10 rfl (op_gtrU32 rfl rfl ?_)
            refine WL.op rfl rfl (op_pickF rfl hb10 rfl ?_)
            refine WL.nil ?_
            refine WQ.next ?_
            refine WC.cond rfl (fun (hb11 : (decide (((x.rl.getD k Rl.zero).off + 4) > (UInt32.ofNat x.b.length))) = true) => ?_) (fun (hb11 : (decide (((x.rl.getD k Rl.zero).off + 4) > (UInt32.ofNat x.b.length))) = false) => ?_)
            ·
              have hc11 := of_decide_eq_true hb11
              refine WC.seq ?_
              refine WC.region ?_
              refine WL.op rfl rfl (op_assign rfl ?_)
              refine WL.nil ?_
              refine WQ.next ?_
              refine WC.ret ?_
              refine WQ.thenRet ?_
              refine WQ.inRet ?_
              refine WQ.thenRet ?_
              refine WQ.thenRet ?_
              refine WQ.inRet ?_
              refine WQ.thenRet ?_
              refine WQ.out (.tmp rfl .nil) ?_
              exact ⟨by rw [rels_no (k := k) (by omega) (relOk_o hw hb10 hb11 hb)]; rfl, H7.fr⟩
            ·
              have hc11 := of_decide_eq_false hb11
              refine WC.skip ?_
              refine WQ.next ?_
              refine WC.region ?_
              refine WL.op rfl rfl (op_fieldAddr rfl Fa.F44_0 ?_)
              refine WL.op rfl rfl (op_load rfl (H7.cell (i := 1) rfl rfl) Tryd.underlying22 rfl ?_)
              refine WL.op rfl rfl (op_move rfl ?_)
              refine WL.op rfl rfl (op_addU32 (b := 4) rfl rfl ?_)
              refine WL.op rfl rfl (op_assign rfl ?_)
              refine WL.nil ?_
              refine WQ.inNormal ?_
              refine WQ.next ?_
              refine WC.region ?_
              refine WL.op rfl rfl (op_addN (b := 1) rfl rfl (by omega) ?_)
              refine WL.op rfl rfl (op_move rfl ?_)
              refine WL.nil ?_
              exact WQ.round (k + 1) ⟨⟨by omega, allPrev hok (relOk_yes hw hn8 hb9 hb10 hb11 (by omega) hb)⟩, (H7.take 1)⟩ ⟨rfl, rfl, (congrArg (fun v => some (vU32 v)) (end_U hw hb10)), rfl, rfl, rfl, trivial⟩ (by omega)
    ·
      have hc6 := of_decide_eq_false hb6
      refine WC.seq ?_
      refine WC.region ?_
      refine WL.op rfl rfl (op_eqlU8 (b := 2) rfl rfl ?_)
      refine WL.op rfl rfl (op_assign rfl ?_)
      refine WL.nil ?_
      refine WQ.next ?_
      refine WC.cond rfl (fun (hb12 : (decide ((x.rl.getD k Rl.zero).kind = (2 : UInt8))) = true) => ?_) (fun (hb12 : (decide ((x.rl.getD k Rl.zero).kind = (2 : UInt8))) = false) => ?_)
      ·
        have hc12 := of_decide_eq_true hb12
        have hw : widthN (x.rl.getD k Rl.zero).kind = (2 : UInt32).toNat := by (rw [widthN, hb6, hb12]) <;> rfl
        refine WC.region ?_
        refine WL.op rfl rfl (op_assign rfl ?_)
        refine WL.nil ?_
        refine WQ.inNormal ?_
        refine WQ.next ?_
        refine WC.seq ?_
        refine WC.seq ?_
        refine WC.region ?_
        refine WL.op rfl rfl (op_fieldAddr rfl Fa.F44_2 ?_)
        refine WL.op rfl rfl (op_load rfl (H5.cell (i := 1) rfl rfl) Tryd.underlying9 rfl ?_)
        refine WL.op rfl rfl (op_callF Fa.C80 rfl ((oname_ok ((x.rl.getD k Rl.zero).nm) _ (by exact hrk)).mono (fun e w13 hq => ?_)))
        obtain ⟨rfl, hf13⟩ := hq
        refine ⟨_, rfl, ?_⟩
        have H13 := H5.fr' hf13
        refine WL.op rfl rfl (op_not rfl ?_)
        refine WL.op rfl rfl (op_move rfl ?_)
        refine WL.split (t := 25) rfl (fun (hb14 : (!(nameB ((x.rl.getD k Rl.zero).nm))) = true) => ?_) (fun (hb14 : (!(nameB ((x.rl.getD k Rl.zero).nm))) = false) => ?_)
        ·
          have hn14 := (Bool.not_eq_true' _).mp hb14
          refine WL.no rfl rfl rfl hb14 rfl ?_
          refine WL.no rfl rfl rfl hb14 rfl ?_
          refine WL.no rfl rfl rfl hb14 rfl ?_
          refine WL.no rfl rfl rfl hb14 rfl ?_
          refine WL.op rfl rfl (op_pickT rfl hb14 rfl ?_)
          refine WL.op rfl rfl (op_move rfl ?_)
          refine WL.no rfl rfl rfl rfl rfl ?_
          refine WL.no rfl rfl rfl rfl rfl ?_
          refine WL.no rfl rfl rfl rfl rfl ?_
          refine WL.op rfl rfl (op_pickT rfl rfl rfl ?_)
          refine WL.op rfl rfl (op_move rfl ?_)
          refine WL.no rfl rfl rfl rfl rfl ?_
          refine WL.no rfl rfl rfl rfl rfl ?_
          refine WL.no rfl rfl rfl rfl rfl ?_
          refine WL.no rfl rfl rfl rfl rfl ?_
          refine WL.no rfl rfl rfl rfl rfl ?_
          refine WL.no rfl rfl rfl rfl rfl ?_
          refine WL.no rfl rfl rfl rfl rfl ?_
          refine WL.no rfl rfl rfl rfl rfl ?_
          refine WL.no rfl rfl rfl rfl rfl ?_
          refine WL.no rfl rfl rfl rfl rfl ?_
          refine WL.op rfl rfl (op_pickT rfl rfl rfl ?_)
          refine WL.nil ?_
          refine WQ.next ?_
          refine WC.yes rfl rfl ?_
          refine WC.seq ?_
          refine WC.region ?_
          refine WL.op rfl rfl (op_assign rfl ?_)
          refine WL.nil ?_
          refine WQ.next ?_
          refine WC.ret ?_
          refine WQ.thenRet ?_
          refine WQ.inRet ?_
          refine WQ.thenRet ?_
          refine WQ.thenRet ?_
          refine WQ.inRet ?_
          refine WQ.thenRet ?_
          refine WQ.out (.tmp rfl .nil) ?_
          exact ⟨by rw [rels_no (k := k) (by omega) (relOk_n hn14)]; rfl, H13.fr⟩
        ·
          have hn14 := (Bool.not_eq_false' _).mp hb14
          refine WL.yes rfl rfl rfl hb14 rfl (op_fieldAddr rfl Fa.F44_0 ?_)
          refine WL.yes rfl rfl rfl hb14 rfl (op_load rfl (H13.cell (i := 1) rfl rfl) Tryd.underlying22 rfl ?_)
          refine WL.yes rfl rfl rfl hb14 rfl (op_move rfl ?_)
          refine WL.yes rfl rfl rfl hb14 rfl (op_lssU32 rfl rfl ?_)
          refine WL.op rfl rfl (op_pickF rfl hb14 rfl ?_)
          refine WL.op rfl rfl (op_move rfl ?_)
          refine WL.split (t := 31) rfl (fun (hb15 : (decide ((x.rl.getD k Rl.zero).off < (UInt32.ofNat (endAt x.rl k)))) = true) => ?_) (fun (hb15 : (decide ((x.rl.getD k Rl.zero).off < (UInt32.ofNat (endAt x.rl k)))) = false) => ?_)
          ·
            have hc15 := of_decide_eq_true hb15
            refine WL.no rfl rfl rfl hb15 rfl ?_
            refine WL.no rfl rfl rfl hb15 rfl ?_
            refine WL.no rfl rfl rfl hb15 rfl ?_
            refine WL.op rfl rfl (op_pickT rfl hb15 rfl ?_)
            refine WL.op rfl rfl (op_move rfl ?_)
            refine WL.no rfl rfl rfl rfl rfl ?_
            refine WL.no rfl rfl rfl rfl rfl ?_
            refine WL.no rfl rfl rfl rfl rfl ?_
            refine WL.no rfl rfl rfl rfl rfl ?_
            refine WL.no rfl rfl rfl rfl rfl ?_
            refine WL.no rfl rfl rfl rfl rfl ?_
            refine WL.no rfl rfl rfl rfl rfl ?_
            refine WL.no rfl rfl rfl rfl rfl ?_
            refine WL.no rfl rfl rfl rfl rfl ?_
            refine WL.no rfl rfl rfl rfl rfl ?_
            refine WL.op rfl rfl (op_pickT rfl rfl rfl ?_)
            refine WL.nil ?_
            refine WQ.next ?_
            refine WC.yes rfl rfl ?_
            refine WC.seq ?_
            refine WC.region ?_
            refine WL.op rfl rfl (op_assign rfl ?_)
            refine WL.nil ?_
            refine WQ.next ?_
            refine WC.ret ?_
            refine WQ.thenRet ?_
            refine WQ.inRet ?_
            refine WQ.thenRet ?_
            refine WQ.thenRet ?_
            refine WQ.inRet ?_
            refine WQ.thenRet ?_
            refine WQ.out (.tmp rfl .nil) ?_
            exact ⟨by rw [rels_no (k := k) (by omega) (relOk_e hb15 (by omega))]; rfl, H13.fr⟩
          ·
            have hc15 := of_decide_eq_false hb15
            refine WL.yes rfl rfl rfl hb15 rfl (op_fieldAddr rfl Fa.F44_0 ?_)
            refine WL.yes rfl rfl rfl hb15 rfl (op_load rfl (H13.cell (i := 1) rfl rfl) Tryd.underlying22 rfl ?_)
            refine WL.yes rfl rfl rfl hb15 rfl (op_gtrU32 (b := 8192) rfl rfl ?_)
            refine WL.op rfl rfl (op_pickF rfl hb15 rfl ?_)
            refine WL.op rfl rfl (op_move rfl ?_)
            refine WL.split (t := 36) rfl (fun (hb16 : (decide ((x.rl.getD k Rl.zero).off > (8192 : UInt32))) = true) => ?_) (fun (hb16 : (decide ((x.rl.getD k Rl.zero).off > (8192 : UInt32))) = false) => ?_)
            ·
              have hc16 := of_decide_eq_true hb16
              refine WL.no rfl rfl rfl hb16 rfl ?_
              refine WL.no rfl rfl rfl hb16 rfl ?_
              refine WL.no rfl rfl rfl hb16 rfl ?_
              refine WL.no rfl rfl rfl hb16 rfl ?_
              refine WL.no rfl rfl rfl hb16 rfl ?_
              refine WL.no rfl rfl rfl hb16 rfl ?_
              refine WL.no rfl rfl rfl hb16 rfl ?_
              refine WL.no rfl rfl rfl hb16 rfl ?_
              refine WL.no rfl rfl rfl hb16 rfl ?_
              refine WL.no rfl rfl rfl hb16 rfl ?_
              refine WL.op rfl rfl (op_pickT rfl hb16 rfl ?_)
              refine WL.nil ?_
              refine WQ.next ?_
              refine WC.yes rfl rfl ?_
              refine WC.seq ?_
              refine WC.region ?_
              refine WL.op rfl rfl (op_assign rfl ?_)
              refine WL.nil ?_
              refine WQ.next ?_
              refine WC.ret ?_
              refine WQ.thenRet ?_
              refine WQ.inRet ?_
              refine WQ.thenRet ?_
              refine WQ.thenRet ?_
              refine WQ.inRet ?_
              refine WQ.thenRet ?_
              refine WQ.out (.tmp rfl .nil) ?_
              exact ⟨by rw [rels_no (k := k) (by omega) (relOk_b hb16)]; rfl, H13.fr⟩
            ·
              have hc16 := of_decide_eq_false hb16
              refine WL.yes rfl rfl rfl hb16 rfl (op_fieldAddr rfl Fa.F44_0 ?_)
              refine WL.yes rfl rfl rfl hb16 rfl (op_load rfl (H13.cell (i := 1) rfl rfl) Tryd.underlying22 rfl ?_)
              refine WL.yes rfl rfl rfl hb16 rfl (op_move rfl ?_)
              refine WL.yes rfl rfl rfl hb16 rfl (op_addU32 (b := 2) rfl rfl ?_)
              refine WL.yes rfl rfl rfl hb16 rfl (op_fieldAddr rfl Fa.F111_0 ?_)
              refine WL.yes rfl rfl rfl hb16 rfl (op_fieldAddr rfl Fa.F26_4 ?_)
              refine WL.yes rfl rfl rfl hb16 rfl (op_load rfl (H13.cell (i := 0) rfl rfl) Tryd.underlying9 rfl ?_)
              refine WL.yes rfl rfl rfl hb16 rfl (op_lenStr Tryd.underlying9 rfl ?_)
              refine WL.yes rfl rfl rfl hb16 rfl (op_convNU32 (hs := Tryd.underlying3) (hd := Tryd.underlying22) rfl ?_)
              refine WL.yes rfl rfl rfl hb16 rfl (op_gtrU32 rfl rfl ?_)
              refine WL.op rfl rfl (op_pickF rfl hb16 rfl ?_)
              refine WL.nil ?_
              refine WQ.next ?_
              refine WC.cond rfl (fun (hb17 : (decide (((x.rl.getD k Rl.zero).off + 2) > (UInt32.ofNat x.b.length))) = true) => ?_) (fun (hb17 : (decide (((x.rl.getD k Rl.zero).off + 2) > (UInt32.ofNat x.b.length))) = false) => ?_)
              ·
                have hc17 := of_decide_eq_true hb17
                refine WC.seq ?_
                refine WC.region ?_
                refine WL.op rfl rfl (op_assign rfl ?_)
                refine WL.nil ?_
                refine WQ.next ?_
                refine WC.ret ?_
                refine WQ.thenRet ?_
                refine WQ.inRet ?_
                refine WQ.thenRet ?_
                refine WQ.thenRet ?_
                refine WQ.inRet ?_
                refine WQ.thenRet ?_
                refine WQ.out (.tmp rfl .nil) ?_
                exact ⟨by rw [rels_no (k := k) (by omega) (relOk_o hw hb16 hb17 hb)]; rfl, H13.fr⟩
              ·
                have hc17 := of_decide_eq_false hb17
                refine WC.skip ?_
                refine WQ.next ?_
                refine WC.region ?_
                refine WL.op rfl rfl (op_fieldAddr rfl Fa.F44_0 ?_)
                refine WL.op rfl rfl (op_load rfl (H13.cell (i := 1) rfl rfl) Tryd.underlying22 rfl ?_)
                refine WL.op rfl rfl (op_move rfl ?_)
                refine WL.op rfl rfl (op_addU32 (b := 2) rfl rfl ?_)
                refine WL.op rfl rfl (op_assign rfl ?_)
                refine WL.nil ?_
                refine WQ.inNormal ?_
                refine WQ.next ?_
                refine WC.region ?_
                refine WL.op rfl rfl (op_addN (b := 1) rfl rfl (by omega) ?_)
                refine WL.op rfl rfl (op_move rfl ?_)
                refine WL.nil ?_
                exact WQ.round (k + 1) ⟨⟨by omega, allPrev hok (relOk_yes hw hn14 hb15 hb16 hb17 (by omega) hb)⟩, (H13.take 1)⟩ ⟨rfl, rfl, (congrArg (fun v => some (vU32 v)) (end_U hw hb16)), rfl, rfl, rfl, trivial⟩ (by omega)
      ·
        have hc12 := of_decide_eq_false hb12
        refine WC.seq ?_
        refine WC.region ?_
        refine WL.op rfl rfl (op_assign rfl ?_)
        refine WL.nil ?_
        refine WQ.next ?_
        refine WC.ret ?_
        refine WQ.inRet ?_
        refine WQ.thenRet ?_
        refine WQ.inRet ?_
        refine WQ.thenRet ?_
        refine WQ.thenRet ?_
        refine WQ.inRet ?_
        refine WQ.thenRet ?_
        refine WQ.out (.tmp rfl .nil) ?_
        exact ⟨by rw [rels_no (k := k) (by omega) (relOk_k (by (rw [widthN, hb6, hb12]) <;> rfl))]; rfl, H5.fr⟩
  ·
    have hc3 := of_decide_eq_false hb3
    refine WC.exit ?_
    refine WQ.thenExit ?_
    refine WQ.thenExit ?_
    refine WQ.inHere ?_
    refine WQ.next ?_
    refine WC.seq ?_
    refine WC.region ?_
    refine WL.op rfl rfl (op_fieldAddr rfl Fa.F111_0 ?_)
    refine WL.op rfl rfl (op_fieldAddr rfl Fa.F26_5 ?_)
    refine WL.op rfl rfl (op_load rfl (H2.cell (i := 0) rfl rfl) Tryd.underlying23 rfl ?_)
    refine WL.op rfl rfl (op_lenA Tryd.underlying23 rfl ((SyD_rl (SyD.fr0 hI H2.fr))) ?_)
    refine WL.op rfl rfl (op_leqN (b := 1024) rfl rfl ?_)
    refine WL.op rfl rfl (op_assign rfl ?_)
    refine WL.nil ?_
    refine WQ.next ?_
    refine WC.ret ?_
    refine WQ.out (.tmp rfl .nil) ?_
    exact ⟨by rw [rels_all (fun j hj => hok j (by omega))]; rfl, H2.fr⟩
set_option maxRecDepth 100000 in
theorem omay_ok (x : Sy) (w : World) (hI : SyD.ok w x) (hn : x.nm.length < 2 ^ 47) (hb : x.b.length < 2 ^ 32) (hr : ∀ y ∈ x.rl, y.nm.length < 2 ^ 47) (hm : x.rl.length < 2 ^ 40) (hq : x.nt.length < 2 ^ 40) :
    Calls Tryd.prog 61 #[(.agg #[(str x.nm), (vU8 x.bind), (vU8 x.kind), (vU32 x.size), (str x.b), x.rv, x.nv])] w (fun e w' => e = .returned (.bool (symB x)) ∧ Fr [] w w') := by
  refine enter (args := [(.agg #[(str x.nm), (vU8 x.bind), (vU8 x.kind), (vU32 x.size), (str x.b), x.rv, x.nv])]) Tryd.func61 rfl rfl ?_
  have H0 : Own [] w w [] := Own.start w []
  refine WC.seq ?_
  refine WC.region ?_
  refine WL.op rfl rfl (op_box H0 rfl rfl (fun b1 w1 H1 => ?_))
  refine WL.op rfl rfl (op_assign rfl ?_)
  refine WL.nil ?_
  refine WQ.next ?_
  refine WC.seq ?_
  refine WC.region ?_
  refine WL.op rfl rfl (op_fieldAddr rfl Fa.F111_0 ?_)
  refine WL.op rfl rfl (op_fieldAddr rfl Fa.F26_0 ?_)
  refine WL.op rfl rfl (op_load rfl (H1.cell (i := 0) rfl rfl) Tryd.underlying9 rfl ?_)
  refine WL.op rfl rfl (op_callF Fa.C80 rfl ((oname_ok x.nm _ hn).mono (fun e w2 hq => ?_)))
  obtain ⟨rfl, hf2⟩ := hq
  refine ⟨_, rfl, ?_⟩
  have H2 := H1.fr' hf2
  refine WL.op rfl rfl (op_move rfl ?_)
  refine WL.split (t := 7) rfl (fun (hb3 : (nameB x.nm) = true) => ?_) (fun (hb3 : (nameB x.nm) = false) => ?_)
  ·
    refine WL.yes rfl rfl rfl hb3 rfl (op_fieldAddr rfl Fa.F111_0 ?_)
    refine WL.yes rfl rfl rfl hb3 rfl (op_fieldAddr rfl Fa.F26_1 ?_)
    refine WL.yes rfl rfl rfl hb3 rfl (op_load rfl (H2.cell (i := 0) rfl rfl) Tryd.underlying5 rfl ?_)
    refine WL.yes rfl rfl rfl hb3 rfl (op_leqU8 (b := 2) rfl rfl ?_)
    refine WL.op rfl rfl (op_pickT rfl hb3 rfl ?_)
    refine WL.op rfl rfl (op_move rfl ?_)
    refine WL.split (t := 13) rfl (fun (hb4 : (decide (x.bind ≤ (2 : UInt8))) = true) => ?_) (fun (hb4 : (decide (x.bind ≤ (2 : UInt8))) = false) => ?_)
    ·
      have hc4 := of_decide_eq_true hb4
      refine WL.yes rfl rfl rfl hb4 rfl (op_fieldAddr rfl Fa.F111_0 ?_)
      refine WL.yes rfl rfl rfl hb4 rfl (op_fieldAddr rfl Fa.F26_2 ?_)
      refine WL.yes rfl rfl rfl hb4 rfl (op_load rfl (H2.cell (i := 0) rfl rfl) Tryd.underlying5 rfl ?_)
      refine WL.yes rfl rfl rfl hb4 rfl (op_geqU8 (b := 1) rfl rfl ?_)
      refine WL.op rfl rfl (op_pickT rfl hb4 rfl ?_)
      refine WL.op rfl rfl (op_move rfl ?_)
      refine WL.split (t := 19) rfl (fun (hb5 : (decide (x.kind ≥ (1 : UInt8))) = true) => ?_) (fun (hb5 : (decide (x.kind ≥ (1 : UInt8))) = false) => ?_)
      ·
        have hc5 := of_decide_eq_true hb5
        refine WL.yes rfl rfl rfl hb5 rfl (op_fieldAddr rfl Fa.F111_0 ?_)
        refine WL.yes rfl rfl rfl hb5 rfl (op_fieldAddr rfl Fa.F26_2 ?_)
        refine WL.yes rfl rfl rfl hb5 rfl (op_load rfl (H2.cell (i := 0) rfl rfl) Tryd.underlying5 rfl ?_)
        refine WL.yes rfl rfl rfl hb5 rfl (op_leqU8 (b := 3) rfl rfl ?_)
        refine WL.op rfl rfl (op_pickT rfl hb5 rfl ?_)
        refine WL.op rfl rfl (op_move rfl ?_)
        refine WL.split (t := 25) rfl (fun (hb6 : (decide (x.kind ≤ (3 : UInt8))) = true) => ?_) (fun (hb6 : (decide (x.kind ≤ (3 : UInt8))) = false) => ?_)
        ·
          have hc6 := of_decide_eq_true hb6
          refine WL.yes rfl rfl rfl hb6 rfl (op_loadS (vs := [_, _, _, _, _, _, _]) rfl (H2.cells (i := 0) rfl rfl) Tryd.underlying111 rfl Fa.I111 rfl ?_)
          refine WL.yes rfl rfl rfl hb6 rfl (op_callF Fa.C81 rfl ((sized_ok x _ (SyD_mk (x := x) ((SyD_rl (SyD.fr0 hI H2.fr))) ((SyD_nt (SyD.fr0 hI H2.fr)))) hn hb hr hm hq).mono (fun e w7 hq => ?_)))
          obtain ⟨rfl, hf7⟩ := hq
          refine ⟨_, rfl, ?_⟩
          have H7 := H2.fr' hf7
          refine WL.op rfl rfl (op_pickT rfl hb6 rfl ?_)
          refine WL.op rfl rfl (op_move rfl ?_)
          refine WL.split (t := 29) rfl (fun (hb8 : (sizedB x) = true) => ?_) (fun (hb8 : (sizedB x) = false) => ?_)
          ·
            refine WL.yes rfl rfl rfl hb8 rfl (op_loadS (vs := [_, _, _, _, _, _, _]) rfl (H7.cells (i := 0) rfl rfl) Tryd.underlying111 rfl Fa.I111 rfl ?_)
            refine WL.yes rfl rfl rfl hb8 rfl (op_callF Fa.C82 rfl ((places_ok x _ (SyD_mk (x := x) ((SyD_rl (SyD.fr0 hI H7.fr))) ((SyD_nt (SyD.fr0 hI H7.fr)))) hn hb hr hm hq).mono (fun e w9 hq => ?_)))
            obtain ⟨rfl, hf9⟩ := hq
            refine ⟨_, rfl, ?_⟩
            have H9 := H7.fr' hf9
            refine WL.op rfl rfl (op_pickT rfl hb8 rfl ?_)
            refine WL.op rfl rfl (op_move rfl ?_)
            refine WL.split (t := 33) rfl (fun (hb10 : (relsB x.b.length x.rl) = true) => ?_) (fun (hb10 : (relsB x.b.length x.rl) = false) => ?_)
            ·
              refine WL.yes rfl rfl rfl hb10 rfl (op_fieldAddr rfl Fa.F111_0 ?_)
              refine WL.yes rfl rfl rfl hb10 rfl (op_fieldAddr rfl Fa.F26_6 ?_)
              refine WL.yes rfl rfl rfl hb10 rfl (op_load rfl (H9.cell (i := 0) rfl rfl) Tryd.underlying24 rfl ?_)
              refine WL.yes rfl rfl rfl hb10 rfl (op_lenA Tryd.underlying24 rfl ((SyD_nt (SyD.fr0 hI H9.fr))) ?_)
              refine WL.yes rfl rfl rfl hb10 rfl (op_leqN (b := 8) rfl rfl ?_)
              refine WL.op rfl rfl (op_pickT rfl hb10 rfl ?_)
              refine WL.op rfl rfl (op_move rfl ?_)
              refine WL.split (t := 40) rfl (fun (hb11 : (decide (x.nt.length ≤ 8)) = true) => ?_) (fun (hb11 : (decide (x.nt.length ≤ 8)) = false) => ?_)
              ·
                have hc11 := of_decide_eq_true hb11
                refine WL.yes rfl rfl rfl hb11 rfl (op_fieldAddr rfl Fa.F111_0 ?_)
                refine WL.yes rfl rfl rfl hb11 rfl (op_fieldAddr rfl Fa.F26_6 ?_)
                refine WL.yes rfl rfl rfl hb11 rfl (op_load rfl (H9.cell (i := 0) rfl rfl) Tryd.underlying24 rfl ?_)
                refine WL.yes rfl rfl rfl hb11 rfl (op_callF Fa.C83 rfl ((conN_ok _ x.nt _ ((SyD_nt (SyD.fr0 hI H9.fr))) (by omega)).mono (fun e w12 hq => ?_)))
                obtain ⟨rfl, hf12⟩ := hq
                refine ⟨_, rfl, ?_⟩
                have H12 := H9.fr' hf12
                refine WL.yes rfl rfl rfl hb11 rfl (op_not rfl ?_)
                refine WL.op rfl rfl (op_pickT rfl hb11 rfl ?_)
                refine WL.op rfl rfl (op_assign rfl ?_)
                refine WL.nil ?_
                refine WQ.next ?_
                refine WC.ret ?_
                refine WQ.out (.tmp rfl .nil) ?_
                exact ⟨by (rw [sym_eq, symU, hb3, hb4, hb5, hb6, hb8, hb10, hb11]) <;> rfl, H12.fr⟩
              ·
                have hc11 := of_decide_eq_false hb11
                refine WL.no rfl rfl rfl hb11 rfl ?_
                refine WL.no rfl rfl rfl hb11 rfl ?_
                refine WL.no rfl rfl rfl hb11 rfl ?_
                refine WL.no rfl rfl rfl hb11 rfl ?_
                refine WL.no rfl rfl rfl hb11 rfl ?_
                refine WL.op rfl rfl (op_pickF rfl hb11 rfl ?_)
                refine WL.op rfl rfl (op_assign rfl ?_)
                refine WL.nil ?_
                refine WQ.next ?_
                refine WC.ret ?_
                refine WQ.out (.tmp rfl .nil) ?_
                exact ⟨by (rw [sym_eq, symU, hb3, hb4, hb5, hb6, hb8, hb10, hb11]) <;> rfl, H9.fr⟩
            ·
              refine WL.no rfl rfl rfl hb10 rfl ?_
              refine WL.no rfl rfl rfl hb10 rfl ?_
              refine WL.no rfl rfl rfl hb10 rfl ?_
              refine WL.no rfl rfl rfl hb10 rfl ?_
              refine WL.no rfl rfl rfl hb10 rfl ?_
              refine WL.op rfl rfl (op_pickF rfl hb10 rfl ?_)
              refine WL.op rfl rfl (op_move rfl ?_)
              refine WL.no rfl rfl rfl rfl rfl ?_
              refine WL.no rfl rfl rfl rfl rfl ?_
              refine WL.no rfl rfl rfl rfl rfl ?_
              refine WL.no rfl rfl rfl rfl rfl ?_
              refine WL.no rfl rfl rfl rfl rfl ?_
              refine WL.op rfl rfl (op_pickF rfl rfl rfl ?_)
              refine WL.op rfl rfl (op_assign rfl ?_)
              refine WL.nil ?_
              refine WQ.next ?_
              refine WC.ret ?_
              refine WQ.out (.tmp rfl .nil) ?_
              exact ⟨by (rw [sym_eq, symU, hb3, hb4, hb5, hb6, hb8, hb10]) <;> rfl, H9.fr⟩
          ·
            refine WL.no rfl rfl rfl hb8 rfl ?_
            refine WL.no rfl rfl rfl hb8 rfl ?_
            refine WL.op rfl rfl (op_pickF rfl hb8 rfl ?_)
            refine WL.op rfl rfl (op_move rfl ?_)
            refine WL.no rfl rfl rfl rfl rfl ?_
            refine WL.no rfl rfl rfl rfl rfl ?_
            refine WL.no rfl rfl rfl rfl rfl ?_
            refine WL.no rfl rfl rfl rfl rfl ?_
            refine WL.no rfl rfl rfl rfl rfl ?_
            refine WL.op rfl rfl (op_pickF rfl rfl rfl ?_)
            refine WL.op rfl rfl (op_move rfl ?_)
            refine WL.no rfl rfl rfl rfl rfl ?_
            refine WL.no rfl rfl rfl rfl rfl ?_
            refine WL.no rfl rfl rfl rfl rfl ?_
            refine WL.no rfl rfl rfl rfl rfl ?_
            refine WL.no rfl rfl rfl rfl rfl ?_
            refine WL.op rfl rfl (op_pickF rfl rfl rfl ?_)
            refine WL.op rfl rfl (op_assign rfl ?_)
            refine WL.nil ?_
            refine WQ.next ?_
            refine WC.ret ?_
            refine WQ.out (.tmp rfl .nil) ?_
            exact ⟨by (rw [sym_eq, symU, hb3, hb4, hb5, hb6, hb8]) <;> rfl, H7.fr⟩
        ·
          have hc6 := of_decide_eq_false hb6
          refine WL.no rfl rfl rfl hb6 rfl ?_
          refine WL.no rfl rfl rfl hb6 rfl ?_
          refine WL.op rfl rfl (op_pickF rfl hb6 rfl ?_)
          refine WL.op rfl rfl (op_move rfl ?_)
          refine WL.no rfl rfl rfl rfl rfl ?_
          refine WL.no rfl rfl rfl rfl rfl ?_
          refine WL.op rfl rfl (op_pickF rfl rfl rfl ?_)
          refine WL.op rfl rfl (op_move rfl ?_)
          refine WL.no rfl rfl rfl rfl rfl ?_
          refine WL.no rfl rfl rfl rfl rfl ?_
          refine WL.no rfl rfl rfl rfl rfl ?_
          refine WL.no rfl rfl rfl rfl rfl ?_
          refine WL.no rfl rfl rfl rfl rfl ?_
          refine WL.op rfl rfl (op_pickF rfl rfl rfl ?_)
          refine WL.op rfl rfl (op_move rfl ?_)
          refine WL.no rfl rfl rfl rfl rfl ?_
          refine WL.no rfl rfl rfl rfl rfl ?_
          refine WL.no rfl rfl rfl rfl rfl ?_
          refine WL.no rfl rfl rfl rfl rfl ?_
          refine WL.no rfl rfl rfl rfl rfl ?_
          refine WL.op rfl rfl (op_pickF rfl rfl rfl ?_)
          refine WL.op rfl rfl (op_assign rfl ?_)
          refine WL.nil ?_
          refine WQ.next ?_
          refine WC.ret ?_
          refine WQ.out (.tmp rfl .nil) ?_
          exact ⟨by (rw [sym_eq, symU, hb3, hb4, hb5, hb6]) <;> rfl, H2.fr⟩
      ·
        have hc5 := of_decide_eq_false hb5
        refine WL.no rfl rfl rfl hb5 rfl ?_
        refine WL.no rfl rfl rfl hb5 rfl ?_
        refine WL.no rfl rfl rfl hb5 rfl ?_
        refine WL.no rfl rfl rfl hb5 rfl ?_
        refine WL.op rfl rfl (op_pickF rfl hb5 rfl ?_)
        refine WL.op rfl rfl (op_move rfl ?_)
        refine WL.no rfl rfl rfl rfl rfl ?_
        refine WL.no rfl rfl rfl rfl rfl ?_
        refine WL.op rfl rfl (op_pickF rfl rfl rfl ?_)
        refine WL.op rfl rfl (op_move rfl ?_)
        refine WL.no rfl rfl rfl rfl rfl ?_
        refine WL.no rfl rfl rfl rfl rfl ?_
        refine WL.op rfl rfl (op_pickF rfl rfl rfl ?_)
        refine WL.op rfl rfl (op_move rfl ?_)
        refine WL.no rfl rfl rfl rfl rfl ?_
        refine WL.no rfl rfl rfl rfl rfl ?_
        refine WL.no rfl rfl rfl rfl rfl ?_
        refine WL.no rfl rfl rfl rfl rfl ?_
        refine WL.no rfl rfl rfl rfl rfl ?_
        refine WL.op rfl rfl (op_pickF rfl rfl rfl ?_)
        refine WL.op rfl rfl (op_move rfl ?_)
        refine WL.no rfl rfl rfl rfl rfl ?_
        refine WL.no rfl rfl rfl rfl rfl ?_
        refine WL.no rfl rfl rfl rfl rfl ?_
        refine WL.no rfl rfl rfl rfl rfl ?_
        refine WL.no rfl rfl rfl rfl rfl ?_
        refine WL.op rfl rfl (op_pickF rfl rfl rfl ?_)
        refine WL.op rfl rfl (op_assign rfl ?_)
        refine WL.nil ?_
        refine WQ.next ?_
        refine WC.ret ?_
        refine WQ.out (.tmp rfl .nil) ?_
        exact ⟨by (rw [sym_eq, symU, hb3, hb4, hb5]) <;> rfl, H2.fr⟩
    ·
      have hc4 := of_decide_eq_false hb4
      refine WL.no rfl rfl rfl hb4 rfl ?_
      refine WL.no rfl rfl rfl hb4 rfl ?_
      refine WL.no rfl rfl rfl hb4 rfl ?_
      refine WL.no rfl rfl rfl hb4 rfl ?_
      refine WL.op rfl rfl (op_pickF rfl hb4 rfl ?_)
      refine WL.op rfl rfl (op_move rfl ?_)
      refine WL.no rfl rfl rfl rfl rfl ?_
      refine WL.no rfl rfl rfl rfl rfl ?_
      refine WL.no rfl rfl rfl rfl rfl ?_
      refine WL.no rfl rfl rfl rfl rfl ?_
      refine WL.op rfl rfl (op_pickF rfl rfl rfl ?_)
      refine WL.op rfl rfl (op_move rfl ?_)
      refine WL.no rfl rfl rfl rfl rfl ?_
      refine WL.no rfl rfl rfl rfl rfl ?_
      refine WL.op rfl rfl (op_pickF rfl rfl rfl ?_)
      refine WL.op rfl rfl (op_move rfl ?_)
      refine WL.no rfl rfl rfl rfl rfl ?_
      refine WL.no rfl rfl rfl rfl rfl ?_
      refine WL.op rfl rfl (op_pickF rfl rfl rfl ?_)
      refine WL.op rfl rfl (op_move rfl ?_)
      refine WL.no rfl rfl rfl rfl rfl ?_
      refine WL.no rfl rfl rfl rfl rfl ?_
      refine WL.no rfl rfl rfl rfl rfl ?_
      refine WL.no rfl rfl rfl rfl rfl ?_
      refine WL.no rfl rfl rfl rfl rfl ?_
      refine WL.op rfl rfl (op_pickF rfl rfl rfl ?_)
      refine WL.op rfl rfl (op_move rfl ?_)
      refine WL.no rfl rfl rfl rfl rfl ?_
      refine WL.no rfl rfl rfl rfl rfl ?_
      refine WL.no rfl rfl rfl rfl rfl ?_
      refine WL.no rfl rfl rfl rfl rfl ?_
      refine WL.no rfl rfl rfl rfl rfl ?_
      refine WL.op rfl rfl (op_pickF rfl rfl rfl ?_)
      refine WL.op rfl rfl (op_assign rfl ?_)
      refine WL.nil ?_
      refine WQ.next ?_
      refine WC.ret ?_
      refine WQ.out (.tmp rfl .nil) ?_
      exact ⟨by (rw [sym_eq, symU, hb3, hb4]) <;> rfl, H2.fr⟩
  ·
    refine WL.no rfl rfl rfl hb3 rfl ?_
    refine WL.no rfl rfl rfl hb3 rfl ?_
    refine WL.no rfl rfl rfl hb3 rfl ?_
    refine WL.no rfl rfl rfl hb3 rfl ?_
    refine WL.op rfl rfl (op_pickF rfl hb3 rfl ?_)
    refine WL.op rfl rfl (op_move rfl ?_)
    refine WL.no rfl rfl rfl rfl rfl ?_
    refine WL.no rfl rfl rfl rfl rfl ?_
    refine WL.no rfl rfl rfl rfl rfl ?_
    refine WL.no rfl rfl rfl rfl rfl ?_
    refine WL.op rfl rfl (op_pickF rfl rfl rfl ?_)
    refine WL.op rfl rfl (op_move rfl ?_)
    refine WL.no rfl rfl rfl rfl rfl ?_
    refine WL.no rfl rfl rfl rfl rfl ?_
    refine WL.no rfl rfl rfl rfl rfl ?_
    refine WL.no rfl rfl rfl rfl rfl ?_
    refine WL.op rfl rfl (op_pickF rfl rfl rfl ?_)
    refine WL.op rfl rfl (op_move rfl ?_)
    refine WL.no rfl rfl rfl rfl rfl ?_
    refine WL.no rfl rfl rfl rfl rfl ?_
    refine WL.op rfl rfl (op_pickF rfl rfl rfl ?_)
    refine WL.op rfl rfl (op_move rfl ?_)
    refine WL.no rfl rfl rfl rfl rfl ?_
    refine WL.no rfl rfl rfl rfl rfl ?_
    refine WL.op rfl rfl (op_pickF rfl rfl rfl ?_)
    refine WL.op rfl rfl (op_move rfl ?_)
    refine WL.no rfl rfl rfl rfl rfl ?_
    refine WL.no rfl rfl rfl rfl rfl ?_
    refine WL.no rfl rfl rfl rfl rfl ?_
    refine WL.no rfl rfl rfl rfl rfl ?_
    refine WL.no rfl rfl rfl rfl rfl ?_
    refine WL.op rfl rfl (op_pickF rfl rfl rfl ?_)
    refine WL.op rfl rfl (op_move rfl ?_)
    refine WL.no rfl rfl rfl rfl rfl ?_
    refine WL.no rfl rfl rfl rfl rfl ?_
    refine WL.no rfl rfl rfl rfl rfl ?_
    refine WL.no rfl rfl rfl rfl rfl ?_
    refine WL.no rfl rfl rfl rfl rfl ?_
    refine WL.op rfl rfl (op_pickF rfl rfl rfl ?_)
    refine WL.op rfl rfl (op_assign rfl ?_)
    refine WL.nil ?_
    refine WQ.next ?_
    refine WC.ret ?_
    refine WQ.out (.tmp rfl .nil) ?_
    exact ⟨by (rw [sym_eq, symU, hb3]) <;> rfl, H2.fr⟩
set_option maxRecDepth 100000 in
theorem osym_ok (x : Sy) (w : World) (hI : SyD.ok w x) (hn : x.nm.length < 2 ^ 47) (hb : x.b.length < 2 ^ 32) (hr : ∀ y ∈ x.rl, y.nm.length < 2 ^ 47) (hm : x.rl.length < 2 ^ 40) (hq : x.nt.length < 2 ^ 40) :
    Calls Tryd.prog 27 #[(.agg #[(str x.nm), (vU8 x.bind), (vU8 x.kind), (vU32 x.size), (str x.b), x.rv, x.nv])] w (fun e w' => e = .returned (vN (symE x)) ∧ Fr [] w w') := by
  refine enter (args := [(.agg #[(str x.nm), (vU8 x.bind), (vU8 x.kind), (vU32 x.size), (str x.b), x.rv, x.nv])]) Tryd.func27 rfl rfl ?_
  have H0 : Own [] w w [] := Own.start w []
  refine WC.seq ?_
  refine WC.region ?_
  refine WL.op rfl rfl (op_box H0 rfl rfl (fun b1 w1 H1 => ?_))
  refine WL.op rfl rfl (op_assign rfl ?_)
  refine WL.nil ?_
  refine WQ.next ?_
  refine WC.seq ?_
  refine WC.region ?_
  refine WL.op rfl rfl (op_loadS (vs := [_, _, _, _, _, _, _]) rfl (H1.cells (i := 0) rfl rfl) Tryd.underlying26 rfl Fa.I26 rfl ?_)
  refine WL.op rfl rfl (op_build (cs := [_, _, _, _, _, _, _]) Fa.I111 Fa.PL111 rfl rfl ?_)
  refine WL.op rfl rfl (op_callF Fa.C61 rfl ((omay_ok x _ (SyD_mk (x := x) ((SyD_rl (SyD.fr0 hI H1.fr))) ((SyD_nt (SyD.fr0 hI H1.fr)))) hn hb hr hm hq).mono (fun e w2 hq => ?_)))
  obtain ⟨rfl, hf2⟩ := hq
  refine ⟨_, rfl, ?_⟩
  have H2 := H1.fr' hf2
  refine WL.op rfl rfl (op_callF Fa.C60 rfl ((told_ok (symB x) _).mono (fun e w3 hq => ?_)))
  obtain ⟨rfl, hf3⟩ := hq
  refine ⟨_, rfl, ?_⟩
  have H3 := H2.fr' hf3
  refine WL.op rfl rfl (op_assign rfl ?_)
  refine WL.nil ?_
  refine WQ.next ?_
  refine WC.ret ?_
  refine WQ.out (.tmp rfl .nil) ?_
  exact ⟨rfl, H3.fr⟩
set_option maxRecDepth 100000 in
theorem rrels_ok (x : Sy) (w : World) (hI : SyD.ok w x) (hn : x.nm.length < 2 ^ 47) (hb : x.b.length < 2 ^ 32) (hr : ∀ y ∈ x.rl, y.nm.length < 2 ^ 47) (hm : x.rl.length < 2 ^ 40) (hq : x.nt.length < 2 ^ 40) :
    Calls Tryd.prog 59 #[(.agg #[(str x.nm), (vU8 x.bind), (vU8 x.kind), (vU32 x.size), (str x.b), x.rv, x.nv])] w (fun e w' => e = .returned (.bool (relsB x.b.length x.rl)) ∧ Fr [] w w') := by
  refine enter (args := [(.agg #[(str x.nm), (vU8 x.bind), (vU8 x.kind), (vU32 x.size), (str x.b), x.rv, x.nv])]) Tryd.func59 rfl rfl ?_
  have H0 : Own [] w w [] := Own.start w []
  refine WC.seq ?_
  refine WC.region ?_
  refine WL.op rfl rfl (op_box H0 rfl rfl (fun b1 w1 H1 => ?_))
  refine WL.op rfl rfl (op_assign rfl ?_)
  refine WL.nil ?_
  refine WQ.next ?_
  refine WC.seq ?_
  refine WC.region ?_
  refine WL.op rfl rfl (op_assign rfl ?_)
  refine WL.nil ?_
  refine WQ.next ?_
  refine WC.seq ?_
  refine WC.seq ?_
  refine WC.region ?_
  refine WL.op rfl rfl (op_assign rfl ?_)
  refine WL.nil ?_
  refine WQ.next ?_
  refine WC.block ?_
  refine WC.loop (α := Nat) (fun k => [(1, (ptr b1 0)), (2, (.bool false)), (3, (vN (endAt x.rl k))), (4, (vN k))]) (fun k w' => (k ≤ x.rl.length ∧ (∀ j, j < k → relOk x.b.length (endAt x.rl j) (x.rl.getD j Rl.zero) = true)) ∧ Own [] w w' [.blk b1 [(str x.nm), (vU8 x.bind), (vU8 x.kind), (vU32 x.size), (str x.b), x.rv, x.nv] 26]) (fun k => x.rl.length - k) 0 ⟨⟨Nat.zero_le _, fun j h => by omega⟩, H1⟩ ⟨rfl, rfl, rfl, rfl, trivial⟩ ?_
  rintro k w2 ⟨⟨hk1, hok⟩, H2⟩
  show WC _ _ _ _ _ [(1, (ptr b1 0)), (2, (.bool false)), (3, (vN (endAt x.rl k))), (4, (vN k))] _
  have hrk := getD_name hr k
  have hof := (x.rl.getD k Rl.zero).off.toNat_lt
  have hwd := width_le (x.rl.getD k Rl.zero).kind
  refine WC.seq ?_
  refine WC.seq ?_
  refine WC.region ?_
  refine WL.op rfl rfl (op_move rfl ?_)
  refine WL.op rfl rfl (op_fieldAddr rfl Fa.F26_5 ?_)
  refine WL.op rfl rfl (op_load rfl (H2.cell (i := 0) rfl rfl) Tryd.underlying23 rfl ?_)
  refine WL.op rfl rfl (op_lenA Tryd.underlying23 rfl ((SyD_rl (SyD.fr0 hI H2.fr))) ?_)
  refine WL.op rfl rfl (op_lssN rfl rfl ?_)
  refine WL.nil ?_
  refine WQ.next ?_
  refine WC.cond rfl (fun (hb3 : (decide (k < x.rl.length)) = true) => ?_) (fun (hb3 : (decide (k < x.rl.length)) = false) => ?_)
  ·
    have hc3 := of_decide_eq_true hb3
    refine WC.skip ?_
    refine WQ.next ?_
    refine WC.seq ?_
    refine WC.block ?_
    refine WC.seq ?_
    refine WC.region ?_
    refine WL.op rfl rfl (op_fieldAddr rfl Fa.F26_5 ?_)
    refine WL.op rfl rfl (op_load rfl (H2.cell (i := 0) rfl rfl) Tryd.underlying23 rfl ?_)
    refine WL.op rfl rfl (op_move rfl ?_)
    refine WL.op rfl rfl (op_indexAddr Tryd.underlying23 Fa.I44 rfl ((SyD_rl (SyD.fr0 hI H2.fr))) rfl (by omega) ?_)
    refine WL.op rfl rfl (op_loadSP (vs := rlc (x.rl.getD k Rl.zero)) rfl (Arr.atsF ((SyD_rl (SyD.fr0 hI H2.fr))) (fun _ => rfl) (by decide) Rl.zero (by omega)) Tryd.underlying44 rfl Fa.I44 rfl ?_)
    refine WL.op rfl rfl (op_alloc H2 Fa.I44 (fun b4 w4 H4 => ?_))
    refine WL.op rfl rfl (op_storeBW (i := 1) H4 rfl rfl rfl rfl rfl Fa.I44 (fun w5 H5 => ?_))
    refine WL.nil ?_
    refine WQ.next ?_
    refine WC.seq ?_
    refine WC.region ?_
    refine WL.op rfl rfl (op_fieldAddr rfl Fa.F44_1 ?_)
    refine WL.op rfl rfl (op_load rfl (H5.cell (i := 1) rfl rfl) Tryd.underlying5 rfl ?_)
    refine WL.op rfl rfl (op_callF Fa.C43 rfl ((width_ok ((x.rl.getD k Rl.zero).kind) _).mono (fun e w6 hq => ?_)))
    obtain ⟨rfl, hf6⟩ := hq
    refine ⟨_, rfl, ?_⟩
    have H6 := H5.fr' hf6
    refine WL.op rfl rfl (op_assign rfl ?_)
    refine WL.nil ?_
    refine WQ.next ?_
    refine WC.seq ?_
    refine WC.seq ?_
    refine WC.region ?_
    refine WL.op rfl rfl (op_move rfl ?_)
    refine WL.op rfl rfl (op_eqlN (b := 0) rfl rfl ?_)
    refine WL.op rfl rfl (op_move rfl ?_)
    refine WL.split (t := 24) rfl (fun (hb7 : (decide ((widthN ((x.rl.getD k Rl.zero).kind)) = 0)) = true) => ?_) (fun (hb7 : (decide ((widthN ((x.rl.getD k Rl.zero).kind)) = 0)) = false) => ?_)
    ·
      have hc7 := of_decide_eq_true hb7
      refine WL.no rfl rfl rfl hb7 rfl ?_
      refine WL.no rfl rfl rfl hb7 rfl ?_
      refine WL.no rfl rfl rfl hb7 rfl ?_
      refine WL.no rfl rfl rfl hb7 rfl ?_
      refine WL.op rfl rfl (op_pickT rfl hb7 rfl ?_)
      refine WL.op rfl rfl (op_move rfl ?_)
      refine WL.no rfl rfl rfl rfl rfl ?_
      refine WL.no rfl rfl rfl rfl rfl ?_
      refine WL.no rfl rfl rfl rfl rfl ?_
      refine WL.op rfl rfl (op_pickT rfl rfl rfl ?_)
      refine WL.op rfl rfl (op_move rfl ?_)
      refine WL.no rfl rfl rfl rfl rfl ?_
      refine WL.no rfl rfl rfl rfl rfl ?_
      refine WL.no rfl rfl rfl rfl rfl ?_
      refine WL.no rfl rfl rfl rfl rfl ?_
      refine WL.no rfl rfl rfl rfl rfl ?_
      refine WL.op rfl rfl (op_pickT rfl rfl rfl ?_)
      refine WL.op rfl rfl (op_move rfl ?_)
      refine WL.no rfl rfl rfl rfl rfl ?_
      refine WL.no rfl rfl rfl rfl rfl ?_
      refine WL.no rfl rfl rfl rfl rfl ?_
      refine WL.no rfl rfl rfl rfl rfl ?_
      refine WL.no rfl rfl rfl rfl rfl ?_
      refine WL.no rfl rfl rfl rfl rfl ?_
      refine WL.no rfl rfl rfl rfl rfl ?_
      refine WL.no rfl rfl rfl rfl rfl ?_
      refine WL.no rfl rfl rfl rfl rfl ?_
      refine WL.op rfl rfl (op_pickT rfl rfl rfl ?_)
      refine WL.nil ?_
      refine WQ.next ?_
      refine WC.yes rfl rfl ?_
      refine WC.seq ?_
      refine WC.region ?_
      refine WL.op rfl rfl (op_assign rfl ?_)
      refine WL.nil ?_
      refine WQ.next ?_
      refine WC.ret ?_
      refine WQ.thenRet ?_
      refine WQ.inRet ?_
      refine WQ.thenRet ?_
      refine WQ.thenRet ?_
      refine WQ.inRet ?_
      refine WQ.thenRet ?_
      refine WQ.out (.tmp rfl .nil) ?_
      exact ⟨by rw [rels_no (k := k) (by omega) (relOk_k (of_decide_eq_true hb7))]; rfl, H6.fr⟩
    ·
      have hc7 := of_decide_eq_false hb7
      refine WL.yes rfl rfl rfl hb7 rfl (op_fieldAddr rfl Fa.F44_2 ?_)
      refine WL.yes rfl rfl rfl hb7 rfl (op_load rfl (H6.cell (i := 1) rfl rfl) Tryd.underlying9 rfl ?_)
      refine WL.yes rfl rfl rfl hb7 rfl (op_callF Fa.C58 rfl ((rname_ok ((x.rl.getD k Rl.zero).nm) _ (by exact hrk)).mono (fun e w8 hq => ?_)))
      obtain ⟨rfl, hf8⟩ := hq
      refine ⟨_, rfl, ?_⟩
      have H8 := H6.fr' hf8
      refine WL.yes rfl rfl rfl hb7 rfl (op_not rfl ?_)
      refine WL.op rfl rfl (op_pickF rfl hb7 rfl ?_)
      refine WL.op rfl rfl (op_move rfl ?_)
      refine WL.split (t := 30) rfl (fun (hb9 : (!(nameB ((x.rl.getD k Rl.zero).nm))) = true) => ?_) (fun (hb9 : (!(nameB ((x.rl.getD k Rl.zero).nm))) = false) => ?_)
      ·
        have hn9 := (Bool.not_eq_true' _).mp hb9
        refine WL.no rfl rfl rfl hb9 rfl ?_
        refine WL.no rfl rfl rfl hb9 rfl ?_
        refine WL.no rfl rfl rfl hb9 rfl ?_
        refine WL.op rfl rfl (op_pickT rfl hb9 rfl ?_)
        refine WL.op rfl rfl (op_move rfl ?_)
        refine WL.no rfl rfl rfl rfl rfl ?_
        refine WL.no rfl rfl rfl rfl rfl ?_
        refine WL.no rfl rfl rfl rfl rfl ?_
        refine WL.no rfl rfl rfl rfl rfl ?_
        refine WL.no rfl rfl rfl rfl rfl ?_
        refine WL.op rfl rfl (op_pickT rfl rfl rfl ?_)
        refine WL.op rfl rfl (op_move rfl ?_)
        refine WL.no rfl rfl rfl rfl rfl ?_
        refine WL.no rfl rfl rfl rfl rfl ?_
        refine WL.no rfl rfl rfl rfl rfl ?_
        refine WL.no rfl rfl rfl rfl rfl ?_
        refine WL.no rfl rfl rfl rfl rfl ?_
        refine WL.no rfl rfl rfl rfl rfl ?_
        refine WL.no rfl rfl rfl rfl rfl ?_
        refine WL.no rfl rfl rfl rfl rfl ?_
        refine WL.no rfl rfl rfl rfl rfl ?_
        refine WL.op rfl rfl (op_pickT rfl rfl rfl ?_)
        refine WL.nil ?_
        refine WQ.next ?_
        refine WC.yes rfl rfl ?_
        refine WC.seq ?_
        refine WC.region ?_
        refine WL.op rfl rfl (op_assign rfl ?_)
        refine WL.nil ?_
        refine WQ.next ?_
        refine WC.ret ?_
        refine WQ.thenRet ?_
        refine WQ.inRet ?_
        refine WQ.thenRet ?_
        refine WQ.thenRet ?_
        refine WQ.inRet ?_
        refine WQ.thenRet ?_
        refine WQ.out (.tmp rfl .nil) ?_
        exact ⟨by rw [rels_no (k := k) (by omega) (relOk_n hn9)]; rfl, H8.fr⟩
      ·
        have hn9 := (Bool.not_eq_false' _).mp hb9
        refine WL.yes rfl rfl rfl hb9 rfl (op_fieldAddr rfl Fa.F44_0 ?_)
        refine WL.yes rfl rfl rfl hb9 rfl (op_load rfl (H8.cell (i := 1) rfl rfl) Tryd.underlying22 rfl ?_)
        refine WL.yes rfl rfl rfl hb9 rfl (op_gtrU32 (b := 8192) rfl rfl ?_)
        refine WL.op rfl rfl (op_pickF rfl hb9 rfl ?_)
        refine WL.op rfl rfl (op_move rfl ?_)
        refine WL.split (t := 35) rfl (fun (hb10 : (decide ((x.rl.getD k Rl.zero).off > (8192 : UInt32))) = true) => ?_) (fun (hb10 : (decide ((x.rl.getD k Rl.zero).off > (8192 : UInt32))) = false) => ?_)
        ·
          have hc10 := of_decide_eq_true hb10
          refine WL.no rfl rfl rfl hb10 rfl ?_
          refine WL.no rfl rfl rfl hb10 rfl ?_
          refine WL.no rfl rfl rfl hb10 rfl ?_
          refine WL.no rfl rfl rfl hb10 rfl ?_
          refine WL.no rfl rfl rfl hb10 rfl ?_
          refine WL.op rfl rfl (op_pickT rfl hb10 rfl ?_)
          refine WL.op rfl rfl (op_move rfl ?_)
          refine WL.no rfl rfl rfl rfl rfl ?_
          refine WL.no rfl rfl rfl rfl rfl ?_
          refine WL.no rfl rfl rfl rfl rfl ?_
          refine WL.no rfl rfl rfl rfl rfl ?_
          refine WL.no rfl rfl rfl rfl rfl ?_
          refine WL.no rfl rfl rfl rfl rfl ?_
          refine WL.no rfl rfl rfl rfl rfl ?_
          refine WL.no rfl rfl rfl rfl rfl ?_
          refine WL.no rfl rfl rfl rfl rfl ?_
          refine WL.op rfl rfl (op_pickT rfl rfl rfl ?_)
          refine WL.nil ?_
          refine WQ.next ?_
          refine WC.yes rfl rfl ?_
          refine WC.seq ?_
          refine WC.region ?_
          refine WL.op rfl rfl (op_assign rfl ?_)
          refine WL.nil ?_
          refine WQ.next ?_
          refine WC.ret ?_
          refine WQ.thenRet ?_
          refine WQ.inRet ?_
          refine WQ.thenRet ?_
          refine WQ.thenRet ?_
          refine WQ.inRet ?_
          refine WQ.thenRet ?_
          refine WQ.out (.tmp rfl .nil) ?_
          exact ⟨by rw [rels_no (k := k) (by omega) (relOk_b hb10)]; rfl, H8.fr⟩
        ·
          have hc10 := of_decide_eq_false hb10
          refine WL.yes rfl rfl rfl hb10 rfl (op_fieldAddr rfl Fa.F44_0 ?_)
          refine WL.yes rfl rfl rfl hb10 rfl (op_load rfl (H8.cell (i := 1) rfl rfl) Tryd.underlying22 rfl ?_)
          refine WL.yes rfl rfl rfl hb10 rfl (op_convU32N (hs := Tryd.underlying22) (hd := Tryd.underlying3) rfl ?_)
          refine WL.yes rfl rfl rfl hb10 rfl (op_move rfl ?_)
          refine WL.yes rfl rfl rfl hb10 rfl (op_lssN rfl rfl ?_)
          refine WL.op rfl rfl (op_pickF rfl hb10 rfl ?_)
          refine WL.op rfl rfl (op_move rfl ?_)
          refine WL.split (t := 42) rfl (fun (hb11 : (decide ((x.rl.getD k Rl.zero).off.toNat < (endAt x.rl k))) = true) => ?_) (fun (hb11 : (decide ((x.rl.getD k Rl.zero).off.toNat < (endAt x.rl k))) = false) => ?_)
          ·
            have hc11 := of_decide_eq_true hb11
            refine WL.no rfl rfl rfl hb11 rfl ?_
            refine WL.no rfl rfl rfl hb11 rfl ?_
            refine WL.no rfl rfl rfl hb11 rfl ?_
            refine WL.no rfl rfl rfl hb11 rfl ?_
            refine WL.no rfl rfl rfl hb11 rfl ?_
            refine WL.no rfl rfl rfl hb11 rfl ?_
            refine WL.no rfl rfl rfl hb11 rfl ?_
            refine WL.no rfl rfl rfl hb11 rfl ?_
            refine WL.no rfl rfl rfl hb11 rfl ?_
            refine WL.op rfl rfl (op_pickT rfl hb11 rfl ?_)
            refine WL.nil ?_
            refine WQ.next ?_
            refine WC.yes rfl rfl ?_
            refine WC.seq ?_
            refine WC.region ?_
            refine WL.op rfl rfl (op_assign rfl ?_)
            refine WL.nil ?_
            refine WQ.next ?_
            refine WC.ret ?_
            refine WQ.thenRet ?_
            refine WQ.inRet ?_
            refine WQ.thenRet ?_
            refine WQ.thenRet ?_
            refine WQ.inRet ?_
            refine WQ.thenRet ?_
            refine WQ.out (.tmp rfl .nil) ?_
            exact ⟨by rw [rels_no (k := k) (by omega) (relOk_eN hb11)]; rfl, H8.fr⟩
          ·
            have hc11 := of_decide_eq_false hb11
            refine WL.yes rfl rfl rfl hb11 rfl (op_fieldAddr rfl Fa.F44_0 ?_)
            refine WL.yes rfl rfl rfl hb11 rfl (op_load rfl (H8.cell (i := 1) rfl rfl) Tryd.underlying22 rfl ?_)
            refine WL.yes rfl rfl rfl hb11 rfl (op_convU32N (hs := Tryd.underlying22) (hd := Tryd.underlying3) rfl ?_)
            refine WL.yes rfl rfl rfl hb11 rfl (op_move rfl ?_)
            refine WL.yes rfl rfl rfl hb11 rfl (op_addN rfl rfl (by omega) ?_)
            refine WL.yes rfl rfl rfl hb11 rfl (op_fieldAddr rfl Fa.F26_4 ?_)
            refine WL.yes rfl rfl rfl hb11 rfl (op_load rfl (H8.cell (i := 0) rfl rfl) Tryd.underlying9 rfl ?_)
            refine WL.yes rfl rfl rfl hb11 rfl (op_lenStr Tryd.underlying9 rfl ?_)
            refine WL.yes rfl rfl rfl hb11 rfl (op_gtrN rfl rfl ?_)
            refine WL.op rfl rfl (op_pickF rfl hb11 rfl ?_)
            refine WL.nil ?_
            refine WQ.next ?_
            refine WC.cond rfl (fun (hb12 : (decide (((x.rl.getD k Rl.zero).off.toNat + (widthN ((x.rl.getD k Rl.zero).kind))) > x.b.length)) = true) => ?_) (fun (hb12 : (decide (((x.rl.getD k Rl.zero).off.toNat + (widthN ((x.rl.getD k Rl.zero).kind))) > x.b.length)) = false) => ?_)
            ·
              have hc12 := of_decide_eq_true hb12
              refine WC.seq ?_
              refine WC.region ?_
              refine WL.op rfl rfl (op_assign rfl ?_)
              refine WL.nil ?_
              refine WQ.next ?_
              refine WC.ret ?_
              refine WQ.thenRet ?_
              refine WQ.inRet ?_
              refine WQ.thenRet ?_
              refine WQ.thenRet ?_
              refine WQ.inRet ?_
              refine WQ.thenRet ?_
              refine WQ.out (.tmp rfl .nil) ?_
              exact ⟨by rw [rels_no (k := k) (by omega) (relOk_oN hb12)]; rfl, H8.fr⟩
            ·
              have hc12 := of_decide_eq_false hb12
              refine WC.skip ?_
              refine WQ.next ?_
              refine WC.region ?_
              refine WL.op rfl rfl (op_fieldAddr rfl Fa.F44_0 ?_)
              refine WL.op rfl rfl (op_load rfl (H8.cell (i := 1) rfl rfl) Tryd.underlying22 rfl ?_)
              refine WL.op rfl rfl (op_convU32N (hs := Tryd.underlying22) (hd := Tryd.underlying3) rfl ?_)
              refine WL.op rfl rfl (op_move rfl ?_)
              refine WL.op rfl rfl (op_addN rfl rfl (by omega) ?_)
              refine WL.op rfl rfl (op_assign rfl ?_)
              refine WL.nil ?_
              refine WQ.inNormal ?_
              refine WQ.next ?_
              refine WC.region ?_
              refine WL.op rfl rfl (op_move rfl ?_)
              refine WL.op rfl rfl (op_addN (b := 1) rfl rfl (by omega) ?_)
              refine WL.op rfl rfl (op_assign rfl ?_)
              refine WL.nil ?_
              exact WQ.round (k + 1) ⟨⟨by omega, allPrev hok (relOk_r hb7 hn9 hb10 hb11 hb12)⟩, (H8.take 1)⟩ ⟨rfl, rfl, rfl, rfl, trivial⟩ (by omega)
  ·
    have hc3 := of_decide_eq_false hb3
    refine WC.exit ?_
    refine WQ.thenExit ?_
    refine WQ.thenExit ?_
    refine WQ.inHere ?_
    refine WQ.next ?_
    refine WC.seq ?_
    refine WC.region ?_
    refine WL.op rfl rfl (op_fieldAddr rfl Fa.F26_5 ?_)
    refine WL.op rfl rfl (op_load rfl (H2.cell (i := 0) rfl rfl) Tryd.underlying23 rfl ?_)
    refine WL.op rfl rfl (op_lenA Tryd.underlying23 rfl ((SyD_rl (SyD.fr0 hI H2.fr))) ?_)
    refine WL.op rfl rfl (op_leqN (b := 1024) rfl rfl ?_)
    refine WL.op rfl rfl (op_assign rfl ?_)
    refine WL.nil ?_
    refine WQ.next ?_
    refine WC.ret ?_
    refine WQ.out (.tmp rfl .nil) ?_
    exact ⟨by rw [rels_all (fun j hj => hok j (by omega))]; rfl, H2.fr⟩
set_option maxRecDepth 100000 in
theorem rsym_ok (x : Sy) (w : World) (hI : SyD.ok w x) (hn : x.nm.length < 2 ^ 47) (hb : x.b.length < 2 ^ 32) (hr : ∀ y ∈ x.rl, y.nm.length < 2 ^ 47) (hm : x.rl.length < 2 ^ 40) (hq : x.nt.length < 2 ^ 40) :
    Calls Tryd.prog 26 #[(.agg #[(str x.nm), (vU8 x.bind), (vU8 x.kind), (vU32 x.size), (str x.b), x.rv, x.nv])] w (fun e w' => e = .returned (.bool (symB x)) ∧ Fr [] w w') := by
  refine enter (args := [(.agg #[(str x.nm), (vU8 x.bind), (vU8 x.kind), (vU32 x.size), (str x.b), x.rv, x.nv])]) Tryd.func26 rfl rfl ?_
  have H0 : Own [] w w [] := Own.start w []
  refine WC.seq ?_
  refine WC.region ?_
  refine WL.op rfl rfl (op_box H0 rfl rfl (fun b1 w1 H1 => ?_))
  refine WL.op rfl rfl (op_assign rfl ?_)
  refine WL.nil ?_
  refine WQ.next ?_
  refine WC.seq ?_
  refine WC.seq ?_
  refine WC.region ?_
  refine WL.op rfl rfl (op_fieldAddr rfl Fa.F26_0 ?_)
  refine WL.op rfl rfl (op_load rfl (H1.cell (i := 0) rfl rfl) Tryd.underlying9 rfl ?_)
  refine WL.op rfl rfl (op_callF Fa.C58 rfl ((rname_ok x.nm _ hn).mono (fun e w2 hq => ?_)))
  obtain ⟨rfl, hf2⟩ := hq
  refine ⟨_, rfl, ?_⟩
  have H2 := H1.fr' hf2
  refine WL.op rfl rfl (op_not rfl ?_)
  refine WL.op rfl rfl (op_move rfl ?_)
  refine WL.split (t := 8) rfl (fun (hb3 : (!(nameB x.nm)) = true) => ?_) (fun (hb3 : (!(nameB x.nm)) = false) => ?_)
  ·
    have hn3 := (Bool.not_eq_true' _).mp hb3
    refine WL.no rfl rfl rfl hb3 rfl ?_
    refine WL.no rfl rfl rfl hb3 rfl ?_
    refine WL.no rfl rfl rfl hb3 rfl ?_
    refine WL.op rfl rfl (op_pickT rfl hb3 rfl ?_)
    refine WL.op rfl rfl (op_move rfl ?_)
    refine WL.no rfl rfl rfl rfl rfl ?_
    refine WL.no rfl rfl rfl rfl rfl ?_
    refine WL.no rfl rfl rfl rfl rfl ?_
    refine WL.op rfl rfl (op_pickT rfl rfl rfl ?_)
    refine WL.op rfl rfl (op_move rfl ?_)
    refine WL.no rfl rfl rfl rfl rfl ?_
    refine WL.no rfl rfl rfl rfl rfl ?_
    refine WL.no rfl rfl rfl rfl rfl ?_
    refine WL.op rfl rfl (op_pickT rfl rfl rfl ?_)
    refine WL.op rfl rfl (op_move rfl ?_)
    refine WL.no rfl rfl rfl rfl rfl ?_
    refine WL.no rfl rfl rfl rfl rfl ?_
    refine WL.no rfl rfl rfl rfl rfl ?_
    refine WL.op rfl rfl (op_pickT rfl rfl rfl ?_)
    refine WL.op rfl rfl (op_move rfl ?_)
    refine WL.no rfl rfl rfl rfl rfl ?_
    refine WL.no rfl rfl rfl rfl rfl ?_
    refine WL.no rfl rfl rfl rfl rfl ?_
    refine WL.op rfl rfl (op_pickT rfl rfl rfl ?_)
    refine WL.op rfl rfl (op_move rfl ?_)
    refine WL.no rfl rfl rfl rfl rfl ?_
    refine WL.no rfl rfl rfl rfl rfl ?_
    refine WL.no rfl rfl rfl rfl rfl ?_
    refine WL.no rfl rfl rfl rfl rfl ?_
    refine WL.no rfl rfl rfl rfl rfl ?_
    refine WL.no rfl rfl rfl rfl rfl ?_
    refine WL.no rfl rfl rfl rfl rfl ?_
    refine WL.op rfl rfl (op_pickT rfl rfl rfl ?_)
    refine WL.nil ?_
    refine WQ.next ?_
    refine WC.yes rfl rfl ?_
    refine WC.seq ?_
    refine WC.region ?_
    refine WL.op rfl rfl (op_assign rfl ?_)
    refine WL.nil ?_
    refine WQ.next ?_
    refine WC.ret ?_
    refine WQ.thenRet ?_
    refine WQ.out (.tmp rfl .nil) ?_
    exact ⟨by (rw [symR_eq, symR, hn3]) <;> first | rfl | simp, H2.fr⟩
  ·
    have hn3 := (Bool.not_eq_false' _).mp hb3
    refine WL.yes rfl rfl rfl hb3 rfl (op_fieldAddr rfl Fa.F26_1 ?_)
    refine WL.yes rfl rfl rfl hb3 rfl (op_load rfl (H2.cell (i := 0) rfl rfl) Tryd.underlying5 rfl ?_)
    refine WL.yes rfl rfl rfl hb3 rfl (op_gtrU8 (b := 2) rfl rfl ?_)
    refine WL.op rfl rfl (op_pickF rfl hb3 rfl ?_)
    refine WL.op rfl rfl (op_move rfl ?_)
    refine WL.split (t := 13) rfl (fun (hb4 : (decide (x.bind > (2 : UInt8))) = true) => ?_) (fun (hb4 : (decide (x.bind > (2 : UInt8))) = false) => ?_)
    ·
      have hc4 := of_decide_eq_true hb4
      refine WL.no rfl rfl rfl hb4 rfl ?_
      refine WL.no rfl rfl rfl hb4 rfl ?_
      refine WL.no rfl rfl rfl hb4 rfl ?_
      refine WL.op rfl rfl (op_pickT rfl hb4 rfl ?_)
      refine WL.op rfl rfl (op_move rfl ?_)
      refine WL.no rfl rfl rfl rfl rfl ?_
      refine WL.no rfl rfl rfl rfl rfl ?_
      refine WL.no rfl rfl rfl rfl rfl ?_
      refine WL.op rfl rfl (op_pickT rfl rfl rfl ?_)
      refine WL.op rfl rfl (op_move rfl ?_)
      refine WL.no rfl rfl rfl rfl rfl ?_
      refine WL.no rfl rfl rfl rfl rfl ?_
      refine WL.no rfl rfl rfl rfl rfl ?_
      refine WL.op rfl rfl (op_pickT rfl rfl rfl ?_)
      refine WL.op rfl rfl (op_move rfl ?_)
      refine WL.no rfl rfl rfl rfl rfl ?_
      refine WL.no rfl rfl rfl rfl rfl ?_
      refine WL.no rfl rfl rfl rfl rfl ?_
      refine WL.op rfl rfl (op_pickT rfl rfl rfl ?_)
      refine WL.op rfl rfl (op_move rfl ?_)
      refine WL.no rfl rfl rfl rfl rfl ?_
      refine WL.no rfl rfl rfl rfl rfl ?_
      refine WL.no rfl rfl rfl rfl rfl ?_
      refine WL.no rfl rfl rfl rfl rfl ?_
      refine WL.no rfl rfl rfl rfl rfl ?_
      refine WL.no rfl rfl rfl rfl rfl ?_
      refine WL.no rfl rfl rfl rfl rfl ?_
      refine WL.op rfl rfl (op_pickT rfl rfl rfl ?_)
      refine WL.nil ?_
      refine WQ.next ?_
      refine WC.yes rfl rfl ?_
      refine WC.seq ?_
      refine WC.region ?_
      refine WL.op rfl rfl (op_assign rfl ?_)
      refine WL.nil ?_
      refine WQ.next ?_
      refine WC.ret ?_
      refine WQ.thenRet ?_
      refine WQ.out (.tmp rfl .nil) ?_
      exact ⟨by (rw [symR_eq, symR, hn3, hb4]) <;> first | rfl | simp, H2.fr⟩
    ·
      have hc4 := of_decide_eq_false hb4
      refine WL.yes rfl rfl rfl hb4 rfl (op_fieldAddr rfl Fa.F26_2 ?_)
      refine WL.yes rfl rfl rfl hb4 rfl (op_load rfl (H2.cell (i := 0) rfl rfl) Tryd.underlying5 rfl ?_)
      refine WL.yes rfl rfl rfl hb4 rfl (op_lssU8 (b := 1) rfl rfl ?_)
      refine WL.op rfl rfl (op_pickF rfl hb4 rfl ?_)
      refine WL.op rfl rfl (op_move rfl ?_)
      refine WL.split (t := 18) rfl (fun (hb5 : (decide (x.kind < (1 : UInt8))) = true) => ?_) (fun (hb5 : (decide (x.kind < (1 : UInt8))) = false) => ?_)
      ·
        have hc5 := of_decide_eq_true hb5
        refine WL.no rfl rfl rfl hb5 rfl ?_
        refine WL.no rfl rfl rfl hb5 rfl ?_
        refine WL.no rfl rfl rfl hb5 rfl ?_
        refine WL.op rfl rfl (op_pickT rfl hb5 rfl ?_)
        refine WL.op rfl rfl (op_move rfl ?_)
        refine WL.no rfl rfl rfl rfl rfl ?_
        refine WL.no rfl rfl rfl rfl rfl ?_
        refine WL.no rfl rfl rfl rfl rfl ?_
        refine WL.op rfl rfl (op_pickT rfl rfl rfl ?_)
        refine WL.op rfl rfl (op_move rfl ?_)
        refine WL.no rfl rfl rfl rfl rfl ?_
        refine WL.no rfl rfl rfl rfl rfl ?_
        refine WL.no rfl rfl rfl rfl rfl ?_
        refine WL.op rfl rfl (op_pickT rfl rfl rfl ?_)
        refine WL.op rfl rfl (op_move rfl ?_)
        refine WL.no rfl rfl rfl rfl rfl ?_
        refine WL.no rfl rfl rfl rfl rfl ?_
        refine WL.no rfl rfl rfl rfl rfl ?_
        refine WL.no rfl rfl rfl rfl rfl ?_
        refine WL.no rfl rfl rfl rfl rfl ?_
        refine WL.no rfl rfl rfl rfl rfl ?_
        refine WL.no rfl rfl rfl rfl rfl ?_
        refine WL.op rfl rfl (op_pickT rfl rfl rfl ?_)
        refine WL.nil ?_
        refine WQ.next ?_
        refine WC.yes rfl rfl ?_
        refine WC.seq ?_
        refine WC.region ?_
        refine WL.op rfl rfl (op_assign rfl ?_)
        refine WL.nil ?_
        refine WQ.next ?_
        refine WC.ret ?_
        refine WQ.thenRet ?_
        refine WQ.out (.tmp rfl .nil) ?_
        exact ⟨by (rw [symR_eq, symR, hn3, hb4, hb5]) <;> first | rfl | simp, H2.fr⟩
      ·
        have hc5 := of_decide_eq_false hb5
        refine WL.yes rfl rfl rfl hb5 rfl (op_fieldAddr rfl Fa.F26_2 ?_)
        refine WL.yes rfl rfl rfl hb5 rfl (op_load rfl (H2.cell (i := 0) rfl rfl) Tryd.underlying5 rfl ?_)
        refine WL.yes rfl rfl rfl hb5 rfl (op_gtrU8 (b := 3) rfl rfl ?_)
        refine WL.op rfl rfl (op_pickF rfl hb5 rfl ?_)
        refine WL.op rfl rfl (op_move rfl ?_)
        refine WL.split (t := 23) rfl (fun (hb6 : (decide (x.kind > (3 : UInt8))) = true) => ?_) (fun (hb6 : (decide (x.kind > (3 : UInt8))) = false) => ?_)
        ·
          have hc6 := of_decide_eq_true hb6
          refine WL.no rfl rfl rfl hb6 rfl ?_
          refine WL.no rfl rfl rfl hb6 rfl ?_
          refine WL.no rfl rfl rfl hb6 rfl ?_
          refine WL.op rfl rfl (op_pickT rfl hb6 rfl ?_)
          refine WL.op rfl rfl (op_move rfl ?_)
          refine WL.no rfl rfl rfl rfl rfl ?_
          refine WL.no rfl rfl rfl rfl rfl ?_
          refine WL.no rfl rfl rfl rfl rfl ?_
          refine WL.op rfl rfl (op_pickT rfl rfl rfl ?_)
          refine WL.op rfl rfl (op_move rfl ?_)
          refine WL.no rfl rfl rfl rfl rfl ?_
          refine WL.no rfl rfl rfl rfl rfl ?_
          refine WL.no rfl rfl rfl rfl rfl ?_
          refine WL.no rfl rfl rfl rfl rfl ?_
          refine WL.no rfl rfl rfl rfl rfl ?_
          refine WL.no rfl rfl rfl rfl rfl ?_
          refine WL.no rfl rfl rfl rfl rfl ?_
          refine WL.op rfl rfl (op_pickT rfl rfl rfl ?_)
          refine WL.nil ?_
          refine WQ.next ?_
          refine WC.yes rfl rfl ?_
          refine WC.seq ?_
          refine WC.region ?_
          refine WL.op rfl rfl (op_assign rfl ?_)
          refine WL.nil ?_
          refine WQ.next ?_
          refine WC.ret ?_
          refine WQ.thenRet ?_
          refine WQ.out (.tmp rfl .nil) ?_
          exact ⟨by (rw [symR_eq, symR, hn3, hb4, hb5, hb6]) <;> first | rfl | simp, H2.fr⟩
        ·
          have hc6 := of_decide_eq_false hb6
          refine WL.yes rfl rfl rfl hb6 rfl (op_fieldAddr rfl Fa.F26_3 ?_)
          refine WL.yes rfl rfl rfl hb6 rfl (op_load rfl (H2.cell (i := 0) rfl rfl) Tryd.underlying22 rfl ?_)
          refine WL.yes rfl rfl rfl hb6 rfl (op_lssU32 (b := 1) rfl rfl ?_)
          refine WL.op rfl rfl (op_pickF rfl hb6 rfl ?_)
          refine WL.op rfl rfl (op_move rfl ?_)
          refine WL.split (t := 28) rfl (fun (hb7 : (decide (x.size < (1 : UInt32))) = true) => ?_) (fun (hb7 : (decide (x.size < (1 : UInt32))) = false) => ?_)
          ·
            have hc7 := of_decide_eq_true hb7
            refine WL.no rfl rfl rfl hb7 rfl ?_
            refine WL.no rfl rfl rfl hb7 rfl ?_
            refine WL.no rfl rfl rfl hb7 rfl ?_
            refine WL.op rfl rfl (op_pickT rfl hb7 rfl ?_)
            refine WL.op rfl rfl (op_move rfl ?_)
            refine WL.no rfl rfl rfl rfl rfl ?_
            refine WL.no rfl rfl rfl rfl rfl ?_
            refine WL.no rfl rfl rfl rfl rfl ?_
            refine WL.no rfl rfl rfl rfl rfl ?_
            refine WL.no rfl rfl rfl rfl rfl ?_
            refine WL.no rfl rfl rfl rfl rfl ?_
            refine WL.no rfl rfl rfl rfl rfl ?_
            refine WL.op rfl rfl (op_pickT rfl rfl rfl ?_)
            refine WL.nil ?_
            refine WQ.next ?_
            refine WC.yes rfl rfl ?_
            refine WC.seq ?_
            refine WC.region ?_
            refine WL.op rfl rfl (op_assign rfl ?_)
            refine WL.nil ?_
            refine WQ.next ?_
            refine WC.ret ?_
            refine WQ.thenRet ?_
            refine WQ.out (.tmp rfl .nil) ?_
            exact ⟨by (rw [symR_eq, symR, hn3, hb4, hb5, hb6, hb7]) <;> first | rfl | simp, H2.fr⟩
          ·
            have hc7 := of_decide_eq_false hb7
            refine WL.yes rfl rfl rfl hb7 rfl (op_fieldAddr rfl Fa.F26_3 ?_)
            refine WL.yes rfl rfl rfl hb7 rfl (op_load rfl (H2.cell (i := 0) rfl rfl) Tryd.underlying22 rfl ?_)
            refine WL.yes rfl rfl rfl hb7 rfl (op_gtrU32 (b := 8192) rfl rfl ?_)
            refine WL.op rfl rfl (op_pickF rfl hb7 rfl ?_)
            refine WL.op rfl rfl (op_move rfl ?_)
            refine WL.split (t := 33) rfl (fun (hb8 : (decide (x.size > (8192 : UInt32))) = true) => ?_) (fun (hb8 : (decide (x.size > (8192 : UInt32))) = false) => ?_)
            ·
              have hc8 := of_decide_eq_true hb8
              refine WL.no rfl rfl rfl hb8 rfl ?_
              refine WL.no rfl rfl rfl hb8 rfl ?_
              refine WL.no rfl rfl rfl hb8 rfl ?_
              refine WL.no rfl rfl rfl hb8 rfl ?_
              refine WL.no rfl rfl rfl hb8 rfl ?_
              refine WL.no rfl rfl rfl hb8 rfl ?_
              refine WL.no rfl rfl rfl hb8 rfl ?_
              refine WL.op rfl rfl (op_pickT rfl hb8 rfl ?_)
              refine WL.nil ?_
              refine WQ.next ?_
              refine WC.yes rfl rfl ?_
              refine WC.seq ?_
              refine WC.region ?_
              refine WL.op rfl rfl (op_assign rfl ?_)
              refine WL.nil ?_
              refine WQ.next ?_
              refine WC.ret ?_
              refine WQ.thenRet ?_
              refine WQ.out (.tmp rfl .nil) ?_
              exact ⟨by (rw [symR_eq, symR, hn3, hb4, hb5, hb6, hb7, hb8]) <;> first | rfl | simp, H2.fr⟩
            ·
              have hc8 := of_decide_eq_false hb8
              refine WL.yes rfl rfl rfl hb8 rfl (op_fieldAddr rfl Fa.F26_4 ?_)
              refine WL.yes rfl rfl rfl hb8 rfl (op_load rfl (H2.cell (i := 0) rfl rfl) Tryd.underlying9 rfl ?_)
              refine WL.yes rfl rfl rfl hb8 rfl (op_lenStr Tryd.underlying9 rfl ?_)
              refine WL.yes rfl rfl rfl hb8 rfl (op_fieldAddr rfl Fa.F26_3 ?_)
              refine WL.yes rfl rfl rfl hb8 rfl (op_load rfl (H2.cell (i := 0) rfl rfl) Tryd.underlying22 rfl ?_)
              refine WL.yes rfl rfl rfl hb8 rfl (op_convU32N (hs := Tryd.underlying22) (hd := Tryd.underlying3) rfl ?_)
              refine WL.yes rfl rfl rfl hb8 rfl (op_gtrN rfl rfl ?_)
              refine WL.op rfl rfl (op_pickF rfl hb8 rfl ?_)
              refine WL.nil ?_
              refine WQ.next ?_
              refine WC.cond rfl (fun (hb9 : (decide (x.b.length > x.size.toNat)) = true) => ?_) (fun (hb9 : (decide (x.b.length > x.size.toNat)) = false) => ?_)
              ·
                have hc9 := of_decide_eq_true hb9
                refine WC.seq ?_
                refine WC.region ?_
                refine WL.op rfl rfl (op_assign rfl ?_)
                refine WL.nil ?_
                refine WQ.next ?_
                refine WC.ret ?_
                refine WQ.thenRet ?_
                refine WQ.out (.tmp rfl .nil) ?_
                exact ⟨by (rw [symR_eq, symR, hn3, hb4, hb5, hb6, hb7, hb8, hb9]) <;> first | rfl | simp, H2.fr⟩
              ·
                have hc9 := of_decide_eq_false hb9
                refine WC.skip ?_
                refine WQ.next ?_
                refine WC.seq ?_
                refine WC.seq ?_
                refine WC.region ?_
                refine WL.op rfl rfl (op_fieldAddr rfl Fa.F26_2 ?_)
                refine WL.op rfl rfl (op_load rfl (H2.cell (i := 0) rfl rfl) Tryd.underlying5 rfl ?_)
                refine WL.op rfl rfl (op_eqlU8 (b := 1) rfl rfl ?_)
                refine WL.op rfl rfl (op_move rfl ?_)
                refine WL.split (t := 45) rfl (fun (hb10 : (decide (x.kind = (1 : UInt8))) = true) => ?_) (fun (hb10 : (decide (x.kind = (1 : UInt8))) = false) => ?_)
                ·
                  have hc10 := of_decide_eq_true hb10
                  refine WL.yes rfl rfl rfl hb10 rfl (op_fieldAddr rfl Fa.F26_4 ?_)
                  refine WL.yes rfl rfl rfl hb10 rfl (op_load rfl (H2.cell (i := 0) rfl rfl) Tryd.underlying9 rfl ?_)
                  refine WL.yes rfl rfl rfl hb10 rfl (op_lenStr Tryd.underlying9 rfl ?_)
                  refine WL.yes rfl rfl rfl hb10 rfl (op_fieldAddr rfl Fa.F26_3 ?_)
                  refine WL.yes rfl rfl rfl hb10 rfl (op_load rfl (H2.cell (i := 0) rfl rfl) Tryd.underlying22 rfl ?_)
                  refine WL.yes rfl rfl rfl hb10 rfl (op_convU32N (hs := Tryd.underlying22) (hd := Tryd.underlying3) rfl ?_)
                  refine WL.yes rfl rfl rfl hb10 rfl (op_neqN rfl rfl ?_)
                  refine WL.yes rfl rfl rfl hb10 rfl (op_move rfl ?_)
                  refine WL.split (t := 53) rfl (fun (hb11 : (decide (x.b.length ≠ x.size.toNat)) = true) => ?_) (fun (hb11 : (decide (x.b.length ≠ x.size.toNat)) = false) => ?_)
                  ·
                    have hc11 := of_decide_eq_true hb11
                    refine WL.no rfl rfl rfl hb11 rfl ?_
                    refine WL.no rfl rfl rfl hb11 rfl ?_
                    refine WL.no rfl rfl rfl hb11 rfl ?_
                    refine WL.no rfl rfl rfl hb11 rfl ?_
                    refine WL.yes rfl rfl rfl hb10 rfl (op_pickT rfl hb11 rfl ?_)
                    refine WL.op rfl rfl (op_pickT rfl hb10 rfl ?_)
                    refine WL.nil ?_
                    refine WQ.next ?_
                    refine WC.yes rfl rfl ?_
                    refine WC.seq ?_
                    refine WC.region ?_
                    refine WL.op rfl rfl (op_assign rfl ?_)
                    refine WL.nil ?_
                    refine WQ.next ?_
                    refine WC.ret ?_
                    refine WQ.thenRet ?_
                    refine WQ.out (.tmp rfl .nil) ?_
                    exact ⟨by (rw [symR_eq, symR, hn3, hb4, hb5, hb6, hb7, hb8, hb9, hb10, hb11]) <;> first | rfl | simp, H2.fr⟩
                  ·
                    have hc11 := of_decide_eq_false hb11
                    refine WL.yes rfl rfl rfl hb11 rfl (op_fieldAddr rfl Fa.F26_3 ?_)
                    refine WL.yes rfl rfl rfl hb11 rfl (op_load rfl (H2.cell (i := 0) rfl rfl) Tryd.underlying22 rfl ?_)
                    refine WL.yes rfl rfl rfl hb11 rfl (op_remU32 (b := 8) rfl rfl (by decide) ?_)
                    refine WL.yes rfl rfl rfl hb11 rfl (op_neqU32 (b := 0) rfl rfl ?_)
                    refine WL.yes rfl rfl rfl hb10 rfl (op_pickF rfl hb11 rfl ?_)
                    refine WL.op rfl rfl (op_pickT rfl hb10 rfl ?_)
                    refine WL.nil ?_
                    refine WQ.next ?_
                    refine WC.cond rfl (fun (hb12 : (decide ((x.size % (8 : UInt32)) ≠ (0 : UInt32))) = true) => ?_) (fun (hb12 : (decide ((x.size % (8 : UInt32)) ≠ (0 : UInt32))) = false) => ?_)
                    ·
                      have hc12 := of_decide_eq_true hb12
                      refine WC.seq ?_
                      refine WC.region ?_
                      refine WL.op rfl rfl (op_assign rfl ?_)
                      refine WL.nil ?_
                      refine WQ.next ?_
                      refine WC.ret ?_
                      refine WQ.thenRet ?_
                      refine WQ.out (.tmp rfl .nil) ?_
                      exact ⟨by (rw [symR_eq, symR, hn3, hb4, hb5, hb6, hb7, hb8, hb9, hb10, hb11, hb12]) <;> first | rfl | simp, H2.fr⟩
                    ·
                      have hc12 := of_decide_eq_false hb12
                      refine WC.skip ?_
                      refine WQ.next ?_
                      refine WC.seq ?_
                      refine WC.seq ?_
                      refine WC.region ?_
                      refine WL.op rfl rfl (op_assign rfl ?_)
                      refine WL.nil ?_
                      refine WQ.next ?_
                      refine WC.block ?_
                      refine WC.loop (α := Nat) (fun k => [(1, (ptr b1 0)), (2, (.bool false)), (3, (vN k))]) (fun k w' => (k ≤ x.nt.length ∧ (∀ j, j < k → noteB (x.nt.getD j Nt.zero) = true)) ∧ Own [] w w' [.blk b1 [(str x.nm), (vU8 x.bind), (vU8 x.kind), (vU32 x.size), (str x.b), x.rv, x.nv] 26]) (fun k => x.nt.length - k) 0 ⟨⟨Nat.zero_le _, fun j h => by omega⟩, H2⟩ ⟨rfl, rfl, rfl, trivial⟩ ?_
                      rintro k w13 ⟨⟨hk1, hok⟩, H13⟩
                      show WC _ _ _ _ _ [(1, (ptr b1 0)), (2, (.bool false)), (3, (vN k))] _
                      refine WC.seq ?_
                      refine WC.seq ?_
                      refine WC.region ?_
                      refine WL.op rfl rfl (op_move rfl ?_)
                      refine WL.op rfl rfl (op_fieldAddr rfl Fa.F26_6 ?_)
                      refine WL.op rfl rfl (op_load rfl (H13.cell (i := 0) rfl rfl) Tryd.underlying24 rfl ?_)
                      refine WL.op rfl rfl (op_lenA Tryd.underlying24 rfl ((SyD_nt (SyD.fr0 hI H13.fr))) ?_)
                      refine WL.op rfl rfl (op_lssN rfl rfl ?_)
                      refine WL.nil ?_
                      refine WQ.next ?_
                      refine WC.cond rfl (fun (hb14 : (decide (k < x.nt.length)) = true) => ?_) (fun (hb14 : (decide (k < x.nt.length)) = false) => ?_)
                      ·
                        have hc14 := of_decide_eq_true hb14
                        refine WC.skip ?_
                        refine WQ.next ?_
                        refine WC.seq ?_
                        refine WC.block ?_
                        refine WC.seq ?_
                        refine WC.region ?_
                        refine WL.op rfl rfl (op_fieldAddr rfl Fa.F26_6 ?_)
                        refine WL.op rfl rfl (op_load rfl (H13.cell (i := 0) rfl rfl) Tryd.underlying24 rfl ?_)
                        refine WL.op rfl rfl (op_move rfl ?_)
                        refine WL.op rfl rfl (op_indexAddr Tryd.underlying24 Fa.I68 rfl ((SyD_nt (SyD.fr0 hI H13.fr))) rfl (by omega) ?_)
                        refine WL.op rfl rfl (op_loadSP (vs := ntc (x.nt.getD k Nt.zero)) rfl (Arr.atsF ((SyD_nt (SyD.fr0 hI H13.fr))) (fun _ => rfl) (by decide) Nt.zero (by omega)) Tryd.underlying68 rfl Fa.I68 rfl ?_)
                        refine WL.op rfl rfl (op_callF Fa.C34 rfl ((rnote_ok (x.nt.getD k Nt.zero) _).mono (fun e w15 hq => ?_)))
                        obtain ⟨rfl, hf15⟩ := hq
                        refine ⟨_, rfl, ?_⟩
                        have H15 := H13.fr' hf15
                        refine WL.op rfl rfl (op_not rfl ?_)
                        refine WL.nil ?_
                        refine WQ.next ?_
                        refine WC.cond rfl (fun (hb16 : (!(noteB (x.nt.getD k Nt.zero))) = true) => ?_) (fun (hb16 : (!(noteB (x.nt.getD k Nt.zero))) = false) => ?_)
                        ·
                          have hn16 := (Bool.not_eq_true' _).mp hb16
                          refine WC.seq ?_
                          refine WC.region ?_
                          refine WL.op rfl rfl (op_assign rfl ?_)
                          refine WL.nil ?_
                          refine WQ.next ?_
                          refine WC.ret ?_
                          refine WQ.inRet ?_
                          refine WQ.thenRet ?_
                          refine WQ.thenRet ?_
                          refine WQ.inRet ?_
                          refine WQ.thenRet ?_
                          refine WQ.out (.tmp rfl .nil) ?_
                          exact ⟨by rw [symB_note (k := k) (by omega) hn16]; rfl, H15.fr⟩
                        ·
                          have hn16 := (Bool.not_eq_false' _).mp hb16
                          refine WC.skip ?_
                          refine WQ.inNormal ?_
                          refine WQ.next ?_
                          refine WC.region ?_
                          refine WL.op rfl rfl (op_move rfl ?_)
                          refine WL.op rfl rfl (op_addN (b := 1) rfl rfl (by omega) ?_)
                          refine WL.op rfl rfl (op_assign rfl ?_)
                          refine WL.nil ?_
                          exact WQ.round (k + 1) ⟨⟨by omega, allPrev hok hn16⟩, H15⟩ ⟨rfl, rfl, rfl, trivial⟩ (by omega)
                      ·
                        have hc14 := of_decide_eq_false hb14
                        refine WC.exit ?_
                        refine WQ.thenExit ?_
                        refine WQ.thenExit ?_
                        refine WQ.inHere ?_
                        refine WQ.next ?_
                        refine WC.seq ?_
                        refine WC.region ?_
                        refine WL.op rfl rfl (op_loadS (vs := [_, _, _, _, _, _, _]) rfl (H13.cells (i := 0) rfl rfl) Tryd.underlying26 rfl Fa.I26 rfl ?_)
                        refine WL.op rfl rfl (op_callF Fa.C59 rfl ((rrels_ok x _ (SyD_mk (x := x) ((SyD_rl (SyD.fr0 hI H13.fr))) ((SyD_nt (SyD.fr0 hI H13.fr)))) hn hb hr hm hq).mono (fun e w17 hq => ?_)))
                        obtain ⟨rfl, hf17⟩ := hq
                        refine ⟨_, rfl, ?_⟩
                        have H17 := H13.fr' hf17
                        refine WL.op rfl rfl (op_move rfl ?_)
                        refine WL.split (t := 76) rfl (fun (hb18 : (relsB x.b.length x.rl) = true) => ?_) (fun (hb18 : (relsB x.b.length x.rl) = false) => ?_)
                        ·
                          refine WL.yes rfl rfl rfl hb18 rfl (op_fieldAddr rfl Fa.F26_6 ?_)
                          refine WL.yes rfl rfl rfl hb18 rfl (op_load rfl (H17.cell (i := 0) rfl rfl) Tryd.underlying24 rfl ?_)
                          refine WL.yes rfl rfl rfl hb18 rfl (op_lenA Tryd.underlying24 rfl ((SyD_nt (SyD.fr0 hI H17.fr))) ?_)
                          refine WL.yes rfl rfl rfl hb18 rfl (op_leqN (b := 8) rfl rfl ?_)
                          refine WL.op rfl rfl (op_pickT rfl hb18 rfl ?_)
                          refine WL.op rfl rfl (op_assign rfl ?_)
                          refine WL.nil ?_
                          refine WQ.next ?_
                          refine WC.ret ?_
                          refine WQ.out (.tmp rfl .nil) ?_
                          exact ⟨by (rw [symR_eq, symR, all_yes (fun j hj => hok j (by omega)), hn3, hb4, hb5, hb6, hb7, hb8, hb9, hb10, hb11, hb12, hb18]) <;> rfl, H17.fr⟩
                        ·
                          refine WL.no rfl rfl rfl hb18 rfl ?_
                          refine WL.no rfl rfl rfl hb18 rfl ?_
                          refine WL.no rfl rfl rfl hb18 rfl ?_
                          refine WL.no rfl rfl rfl hb18 rfl ?_
                          refine WL.op rfl rfl (op_pickF rfl hb18 rfl ?_)
                          refine WL.op rfl rfl (op_assign rfl ?_)
                          refine WL.nil ?_
                          refine WQ.next ?_
                          refine WC.ret ?_
                          refine WQ.out (.tmp rfl .nil) ?_
                          exact ⟨by (rw [symR_eq, symR, all_yes (fun j hj => hok j (by omega)), hn3, hb4, hb5, hb6, hb7, hb8, hb9, hb10, hb11, hb12, hb18]) <;> rfl, H17.fr⟩
                ·
                  have hc10 := of_decide_eq_false hb10
                  refine WL.no rfl rfl rfl hb10 rfl ?_
                  refine WL.no rfl rfl rfl hb10 rfl ?_
                  refine WL.no rfl rfl rfl hb10 rfl ?_
                  refine WL.no rfl rfl rfl hb10 rfl ?_
                  refine WL.no rfl rfl rfl hb10 rfl ?_
                  refine WL.no rfl rfl rfl hb10 rfl ?_
                  refine WL.no rfl rfl rfl hb10 rfl ?_
                  refine WL.no rfl rfl rfl hb10 rfl ?_
                  refine WL.non rfl rfl rfl rfl ?_
                  refine WL.non rfl rfl rfl rfl ?_
                  refine WL.non rfl rfl rfl rfl ?_
                  refine WL.non rfl rfl rfl rfl ?_
                  refine WL.no rfl rfl rfl hb10 rfl ?_
                  refine WL.op rfl rfl (op_pickF rfl hb10 rfl ?_)
                  refine WL.nil ?_
                  refine WQ.next ?_
                  refine WC.no rfl rfl ?_
                  refine WC.skip ?_
                  refine WQ.next ?_
                  refine WC.seq ?_
                  refine WC.seq ?_
                  refine WC.region ?_
                  refine WL.op rfl rfl (op_assign rfl ?_)
                  refine WL.nil ?_
                  refine WQ.next ?_
                  refine WC.block ?_
                  refine WC.loop (α := Nat) (fun k => [(1, (ptr b1 0)), (2, (.bool false)), (3, (vN k))]) (fun k w' => (k ≤ x.nt.length ∧ (∀ j, j < k → noteB (x.nt.getD j Nt.zero) = true)) ∧ Own [] w w' [.blk b1 [(str x.nm), (vU8 x.bind), (vU8 x.kind), (vU32 x.size), (str x.b), x.rv, x.nv] 26]) (fun k => x.nt.length - k) 0 ⟨⟨Nat.zero_le _, fun j h => by omega⟩, H2⟩ ⟨rfl, rfl, rfl, trivial⟩ ?_
                  rintro k w19 ⟨⟨hk1, hok⟩, H19⟩
                  show WC _ _ _ _ _ [(1, (ptr b1 0)), (2, (.bool false)), (3, (vN k))] _
                  refine WC.seq ?_
                  refine WC.seq ?_
                  refine WC.region ?_
                  refine WL.op rfl rfl (op_move rfl ?_)
                  refine WL.op rfl rfl (op_fieldAddr rfl Fa.F26_6 ?_)
                  refine WL.op rfl rfl (op_load rfl (H19.cell (i := 0) rfl rfl) Tryd.underlying24 rfl ?_)
                  refine WL.op rfl rfl (op_lenA Tryd.underlying24 rfl ((SyD_nt (SyD.fr0 hI H19.fr))) ?_)
                  refine WL.op rfl rfl (op_lssN rfl rfl ?_)
                  refine WL.nil ?_
                  refine WQ.next ?_
                  refine WC.cond rfl (fun (hb20 : (decide (k < x.nt.length)) = true) => ?_) (fun (hb20 : (decide (k < x.nt.length)) = false) => ?_)
                  ·
                    have hc20 := of_decide_eq_true hb20
                    refine WC.skip ?_
                    refine WQ.next ?_
                    refine WC.seq ?_
                    refine WC.block ?_
                    refine WC.seq ?_
                    refine WC.region ?_
                    refine WL.op rfl rfl (op_fieldAddr rfl Fa.F26_6 ?_)
                    refine WL.op rfl rfl (op_load rfl (H19.cell (i := 0) rfl rfl) Tryd.underlying24 rfl ?_)
                    refine WL.op rfl rfl (op_move rfl ?_)
                    refine WL.op rfl rfl (op_indexAddr Tryd.underlying24 Fa.I68 rfl ((SyD_nt (SyD.fr0 hI H19.fr))) rfl (by omega) ?_)
                    refine WL.op rfl rfl (op_loadSP (vs := ntc (x.nt.getD k Nt.zero)) rfl (Arr.atsF ((SyD_nt (SyD.fr0 hI H19.fr))) (fun _ => rfl) (by decide) Nt.zero (by omega)) Tryd.underlying68 rfl Fa.I68 rfl ?_)
                    refine WL.op rfl rfl (op_callF Fa.C34 rfl ((rnote_ok (x.nt.getD k Nt.zero) _).mono (fun e w21 hq => ?_)))
                    obtain ⟨rfl, hf21⟩ := hq
                    refine ⟨_, rfl, ?_⟩
                    have H21 := H19.fr' hf21
                    refine WL.op rfl rfl (op_not rfl ?_)
                    refine WL.nil ?_
                    refine WQ.next ?_
                    refine WC.cond rfl (fun (hb22 : (!(noteB (x.nt.getD k Nt.zero))) = true) => ?_) (fun (hb22 : (!(noteB (x.nt.getD k Nt.zero))) = false) => ?_)
                    ·
                      have hn22 := (Bool.not_eq_true' _).mp hb22
                      refine WC.seq ?_
                      refine WC.region ?_
                      refine WL.op rfl rfl (op_assign rfl ?_)
                      refine WL.nil ?_
                      refine WQ.next ?_
                      refine WC.ret ?_
                      refine WQ.inRet ?_
                      refine WQ.thenRet ?_
                      refine WQ.thenRet ?_
                      refine WQ.inRet ?_
                      refine WQ.thenRet ?_
                      refine WQ.out (.tmp rfl .nil) ?_
                      exact ⟨by rw [symB_note (k := k) (by omega) hn22]; rfl, H21.fr⟩
                    ·
                      have hn22 := (Bool.not_eq_false' _).mp hb22
                      refine WC.skip ?_
                      refine WQ.inNormal ?_
                      refine WQ.next ?_
                      refine WC.region ?_
                      refine WL.op rfl rfl (op_move rfl ?_)
                      refine WL.op rfl rfl (op_addN (b := 1) rfl rfl (by omega) ?_)
                      refine WL.op rfl rfl (op_assign rfl ?_)
                      refine WL.nil ?_
                      exact WQ.round (k + 1) ⟨⟨by omega, allPrev hok hn22⟩, H21⟩ ⟨rfl, rfl, rfl, trivial⟩ (by omega)
                  ·
                    have hc20 := of_decide_eq_false hb20
                    refine WC.exit ?_
                    refine WQ.thenExit ?_
                    refine WQ.thenExit ?_
                    refine WQ.inHere ?_
                    refine WQ.next ?_
                    refine WC.seq ?_
                    refine WC.region ?_
                    refine WL.op rfl rfl (op_loadS (vs := [_, _, _, _, _, _, _]) rfl (H19.cells (i := 0) rfl rfl) Tryd.underlying26 rfl Fa.I26 rfl ?_)
                    refine WL.op rfl rfl (op_callF Fa.C59 rfl ((rrels_ok x _ (SyD_mk (x := x) ((SyD_rl (SyD.fr0 hI H19.fr))) ((SyD_nt (SyD.fr0 hI H19.fr)))) hn hb hr hm hq).mono (fun e w23 hq => ?_)))
                    obtain ⟨rfl, hf23⟩ := hq
                    refine ⟨_, rfl, ?_⟩
                    have H23 := H19.fr' hf23
                    refine WL.op rfl rfl (op_move rfl ?_)
                    refine WL.split (t := 76) rfl (fun (hb24 : (relsB x.b.length x.rl) = true) => ?_) (fun (hb24 : (relsB x.b.length x.rl) = false) => ?_)
                    ·
                      refine WL.yes rfl rfl rfl hb24 rfl (op_fieldAddr rfl Fa.F26_6 ?_)
                      refine WL.yes rfl rfl rfl hb24 rfl (op_load rfl (H23.cell (i := 0) rfl rfl) Tryd.underlying24 rfl ?_)
                      refine WL.yes rfl rfl rfl hb24 rfl (op_lenA Tryd.underlying24 rfl ((SyD_nt (SyD.fr0 hI H23.fr))) ?_)
                      refine WL.yes rfl rfl rfl hb24 rfl (op_leqN (b := 8) rfl rfl ?_)
                      refine WL.op rfl rfl (op_pickT rfl hb24 rfl ?_)
                      refine WL.op rfl rfl (op_assign rfl ?_)
                      refine WL.nil ?_
                      refine WQ.next ?_
                      refine WC.ret ?_
                      refine WQ.out (.tmp rfl .nil) ?_
                      exact ⟨by (rw [symR_eq, symR, all_yes (fun j hj => hok j (by omega)), hn3, hb4, hb5, hb6, hb7, hb8, hb9, hb10, hb24]) <;> rfl, H23.fr⟩
                    ·
                      refine WL.no rfl rfl rfl hb24 rfl ?_
                      refine WL.no rfl rfl rfl hb24 rfl ?_
                      refine WL.no rfl rfl rfl hb24 rfl ?_
                      refine WL.no rfl rfl rfl hb24 rfl ?_
                      refine WL.op rfl rfl (op_pickF rfl hb24 rfl ?_)
                      refine WL.op rfl rfl (op_assign rfl ?_)
                      refine WL.nil ?_
                      refine WQ.next ?_
                      refine WC.ret ?_
                      refine WQ.out (.tmp rfl .nil) ?_
                      exact ⟨by (rw [symR_eq, symR, all_yes (fun j hj => hok j (by omega)), hn3, hb4, hb5, hb6, hb7, hb8, hb9, hb10, hb24]) <;> rfl, H23.fr⟩
end Go.Proofs.YtnngbnenekjffaaDoor
/-! from DRel -/
namespace Go.Proofs.YtnngbnenekjffaaDoor
open Go.Owl Go.Spec
end Go.Proofs.YtnngbnenekjffaaDoor
/-! from DRel2 -/
namespace Go.Proofs.YtnngbnenekjffaaDoor
open Go.Owl Go.Spec
end Go.Proofs.YtnngbnenekjffaaDoor
/-! from DRel3 -/
namespace Go.Proofs.YtnngbnenekjffaaDoor
open Go.Owl Go.Spec
end Go.Proofs.YtnngbnenekjffaaDoor
