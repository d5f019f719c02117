/- General lemmas and walks: FDObj, FDObj2, FDInsn, FDAsm, FDAsm2, FDAsm3, FDAsm4, FDAsm5, FDAsm6, FDAsm10, FDAsm11, DObj, DObj2, DInsn, DAsm, DAsm2. No condition but what each theorem names. -/
import Derived.Test.YtbdghnbfnnamkaaDoorQf53d6c9f
import Derived.Test.YtbdghnbfnnamkaaDoorQ94955992
import Derived.Test.YtbdghnbfnnamkaaDoorChecked
import Derived.Test.YtbdghnbfnnamkaaDoorQ7c8c4c4f
/-! from FDObj -/
/- Closed facts, off the tables of the program. -/
namespace Go.Proofs.YtbdghnbfnnamkaaDoor
open Go.Owl
namespace Fa
theorem C39 : callB Tryd.prog 39 = true := by kernel_rfl
theorem C49 : callB Tryd.prog 49 = true := by kernel_rfl
theorem C51 : callB Tryd.prog 51 = true := by kernel_rfl
theorem C55 : callB Tryd.prog 55 = true := by kernel_rfl
theorem C56 : callB Tryd.prog 56 = true := by kernel_rfl
theorem C57 : callB Tryd.prog 57 = true := by kernel_rfl
theorem C60 : callB Tryd.prog 60 = true := by kernel_rfl
theorem F59_0 : faB Tryd.prog 59 0 = some (0, 1, true) := by kernel_rfl
theorem F59_1 : faB Tryd.prog 59 1 = some (1, 1, true) := by kernel_rfl
theorem F59_2 : faB Tryd.prog 59 2 = some (2, 1, true) := by kernel_rfl
theorem I4 : tiB Tryd.prog 4 = some ([(.bool false)], 1, 1) := by kernel_rfl
theorem I59 : tiB Tryd.prog 59 = some ([(vU8 0), (vU32 0), (vU32 0)], 3, 12) := by kernel_rfl
theorem I93 : tiB Tryd.prog 93 = some ((List.replicate 256 (.bool false)), 256, 256) := by kernel_rfl
end Fa
end Go.Proofs.YtbdghnbfnnamkaaDoor
/-! from FDObj2 -/
/- Closed facts, off the tables of the program. -/
namespace Go.Proofs.YtbdghnbfnnamkaaDoor
open Go.Owl
namespace Fa
theorem C40 : callB Tryd.prog 40 = true := by kernel_rfl
theorem C44 : callB Tryd.prog 44 = true := by kernel_rfl
theorem C45 : callB Tryd.prog 45 = true := by kernel_rfl
theorem C46 : callB Tryd.prog 46 = true := by kernel_rfl
theorem C47 : callB Tryd.prog 47 = true := by kernel_rfl
theorem C48 : callB Tryd.prog 48 = true := by kernel_rfl
theorem C52 : callB Tryd.prog 52 = true := by kernel_rfl
theorem F46_0 : faB Tryd.prog 46 0 = some (0, 1, true) := by kernel_rfl
theorem F46_1 : faB Tryd.prog 46 1 = some (1, 1, true) := by kernel_rfl
theorem F46_2 : faB Tryd.prog 46 2 = some (2, 1, true) := by kernel_rfl
theorem F46_3 : faB Tryd.prog 46 3 = some (3, 1, true) := by kernel_rfl
theorem F46_4 : faB Tryd.prog 46 4 = some (4, 1, true) := by kernel_rfl
theorem F46_5 : faB Tryd.prog 46 5 = some (5, 1, true) := by kernel_rfl
theorem F46_6 : faB Tryd.prog 46 6 = some (6, 1, true) := by kernel_rfl
theorem F52_0 : faB Tryd.prog 52 0 = some (0, 1, true) := by kernel_rfl
theorem F52_1 : faB Tryd.prog 52 1 = some (1, 1, true) := by kernel_rfl
theorem F52_2 : faB Tryd.prog 52 2 = some (2, 1, true) := by kernel_rfl
theorem F78_0 : faB Tryd.prog 78 0 = some (0, 7, false) := by kernel_rfl
theorem I46 : tiB Tryd.prog 46 = some ([(str []), (vU8 0), (vU8 0), (vU32 0), (str []), (.slice none 0 0), (.slice none 0 0)], 7, 88) := by kernel_rfl
theorem I52 : tiB Tryd.prog 52 = some ([(vU32 0), (vU8 0), (str []), (vU32 0)], 4, 32) := by kernel_rfl
theorem I78 : tiB Tryd.prog 78 = some ([(str []), (vU8 0), (vU8 0), (vU32 0), (str []), (.slice none 0 0), (.slice none 0 0)], 7, 88) := by kernel_rfl
theorem PL78 : plB Tryd.prog 78 = some [(0, 7)] := by kernel_rfl
end Fa
end Go.Proofs.YtbdghnbfnnamkaaDoor
/-! from FDInsn -/
/- Closed facts, off the tables of the program. -/
namespace Go.Proofs.YtbdghnbfnnamkaaDoor
open Go.Owl
namespace Fa
theorem C36 : callB Tryd.prog 36 = true := by kernel_rfl
theorem C41 : callB Tryd.prog 41 = true := by kernel_rfl
theorem C42 : callB Tryd.prog 42 = true := by kernel_rfl
theorem C43 : callB Tryd.prog 43 = true := by kernel_rfl
theorem C50 : callB Tryd.prog 50 = true := by kernel_rfl
theorem F24_0 : faB Tryd.prog 24 0 = some (0, 1, true) := by kernel_rfl
theorem F24_1 : faB Tryd.prog 24 1 = some (1, 1, true) := by kernel_rfl
theorem F24_2 : faB Tryd.prog 24 2 = some (2, 1, true) := by kernel_rfl
theorem F24_3 : faB Tryd.prog 24 3 = some (3, 1, true) := by kernel_rfl
theorem F24_4 : faB Tryd.prog 24 4 = some (4, 1, true) := by kernel_rfl
theorem I24 : tiB Tryd.prog 24 = some ([(vU8 0), (vU8 0), (vU8 0), (vU8 0), (vU32 0)], 5, 8) := by kernel_rfl
theorem I5 : tiB Tryd.prog 5 = some ([(vU8 0)], 1, 1) := by kernel_rfl
theorem I79 : tiB Tryd.prog 79 = some ((List.replicate 256 (vU8 0)), 256, 256) := by kernel_rfl
theorem M : Tryd.prog.follows .mixedOrders = true := by kernel_rfl
end Fa
end Go.Proofs.YtbdghnbfnnamkaaDoor
/-! from FDAsm -/
/- Closed facts, off the tables of the program. -/
namespace Go.Proofs.YtbdghnbfnnamkaaDoor
open Go.Owl
namespace Fa
theorem C26 : callB Tryd.prog 26 = true := by kernel_rfl
theorem C27 : callB Tryd.prog 27 = true := by kernel_rfl
theorem C31 : callB Tryd.prog 31 = true := by kernel_rfl
theorem C33 : callB Tryd.prog 33 = true := by kernel_rfl
theorem C34 : callB Tryd.prog 34 = true := by kernel_rfl
theorem C35 : callB Tryd.prog 35 = true := by kernel_rfl
theorem F26_0 : faB Tryd.prog 26 0 = some (0, 1, true) := by kernel_rfl
theorem F26_1 : faB Tryd.prog 26 1 = some (1, 5, false) := by kernel_rfl
theorem F26_2 : faB Tryd.prog 26 2 = some (6, 1, true) := by kernel_rfl
theorem F26_3 : faB Tryd.prog 26 3 = some (7, 1, true) := by kernel_rfl
theorem FL26 : flat2B Tryd.prog 26 = some [.string, .int .u8, .int .u8, .int .u8, .int .u8, .int .u32, .string, .string] := by kernel_rfl
theorem I22 : tiB Tryd.prog 22 = some ([(vU32 0)], 1, 4) := by kernel_rfl
theorem I26 : tiB Tryd.prog 26 = some ([(str []), (vU8 0), (vU8 0), (vU8 0), (vU8 0), (vU32 0), (str []), (str [])], 8, 56) := by kernel_rfl
theorem PL46 : plB Tryd.prog 46 = some [(0, 1), (1, 1), (2, 1), (3, 1), (4, 1), (5, 1), (6, 1)] := by kernel_rfl
end Fa
end Go.Proofs.YtbdghnbfnnamkaaDoor
/-! from FDAsm2 -/
/- Closed facts, off the tables of the program. -/
namespace Go.Proofs.YtbdghnbfnnamkaaDoor
open Go.Owl
namespace Fa
theorem F62_0 : faB Tryd.prog 62 0 = some (0, 7, false) := by kernel_rfl
theorem F62_1 : faB Tryd.prog 62 1 = some (7, 1, true) := by kernel_rfl
theorem I44 : tiB Tryd.prog 44 = some ([(.slice none 0 0)], 1, 24) := by kernel_rfl
theorem PL52 : plB Tryd.prog 52 = some [(0, 1), (1, 1), (2, 1), (3, 1)] := by kernel_rfl
theorem Z22 : zvB Tryd.prog 22 = some (vU32 0) := by kernel_rfl
end Fa
end Go.Proofs.YtbdghnbfnnamkaaDoor
/-! from FDAsm3 -/
/- Closed facts, off the tables of the program. -/
namespace Go.Proofs.YtbdghnbfnnamkaaDoor
open Go.Owl
namespace Fa
theorem C37 : callB Tryd.prog 37 = true := by kernel_rfl
theorem C38 : callB Tryd.prog 38 = true := by kernel_rfl
theorem I9 : tiB Tryd.prog 9 = some ([(str [])], 1, 16) := by kernel_rfl
end Fa
end Go.Proofs.YtbdghnbfnnamkaaDoor
/-! from FDAsm4 -/
/- Closed facts, off the tables of the program. -/
namespace Go.Proofs.YtbdghnbfnnamkaaDoor
open Go.Owl
namespace Fa
theorem C25 : callB Tryd.prog 25 = true := by kernel_rfl
theorem C28 : callB Tryd.prog 28 = true := by kernel_rfl
theorem C29 : callB Tryd.prog 29 = true := by kernel_rfl
theorem C30 : callB Tryd.prog 30 = true := by kernel_rfl
theorem I62 : tiB Tryd.prog 62 = some ([(str []), (vU8 0), (vU8 0), (vU32 0), (str []), (.slice none 0 0), (.slice none 0 0), (.map none)], 8, 96) := by kernel_rfl
theorem PL62 : plB Tryd.prog 62 = some [(0, 7), (7, 1)] := by kernel_rfl
end Fa
end Go.Proofs.YtbdghnbfnnamkaaDoor
/-! from FDAsm5 -/
/- Closed facts, off the tables of the program. -/
namespace Go.Proofs.YtbdghnbfnnamkaaDoor
open Go.Owl
namespace Fa
end Fa
end Go.Proofs.YtbdghnbfnnamkaaDoor
/-! from FDAsm6 -/
/- Closed facts, off the tables of the program. -/
namespace Go.Proofs.YtbdghnbfnnamkaaDoor
open Go.Owl
namespace Fa
theorem C14 : callB Tryd.prog 14 = true := by kernel_rfl
theorem C15 : callB Tryd.prog 15 = true := by kernel_rfl
theorem C20 : callB Tryd.prog 20 = true := by kernel_rfl
theorem C22 : callB Tryd.prog 22 = true := by kernel_rfl
theorem C23 : callB Tryd.prog 23 = true := by kernel_rfl
theorem FL52 : flatB Tryd.prog 52 = some [.int .u32, .int .u8, .string, .int .u32] := by kernel_rfl
theorem PL24 : plB Tryd.prog 24 = some [(0, 1), (1, 1), (2, 1), (3, 1), (4, 1)] := by kernel_rfl
theorem PL26 : plB Tryd.prog 26 = some [(0, 1), (1, 5), (6, 1), (7, 1)] := by kernel_rfl
end Fa
end Go.Proofs.YtbdghnbfnnamkaaDoor
/-! from FDAsm10 -/
/- Closed facts, off the tables of the program. -/
namespace Go.Proofs.YtbdghnbfnnamkaaDoor
open Go.Owl
namespace Fa
theorem C12 : callB Tryd.prog 12 = true := by kernel_rfl
theorem C24 : callB Tryd.prog 24 = true := by kernel_rfl
theorem C32 : callB Tryd.prog 32 = true := by kernel_rfl
theorem C6 : callB Tryd.prog 6 = true := by kernel_rfl
theorem C7 : callB Tryd.prog 7 = true := by kernel_rfl
theorem I27 : tiB Tryd.prog 27 = some ([(.slice none 0 0)], 1, 24) := by kernel_rfl
end Fa
end Go.Proofs.YtbdghnbfnnamkaaDoor
/-! from FDAsm11 -/
/- Closed facts, off the tables of the program. -/
namespace Go.Proofs.YtbdghnbfnnamkaaDoor
open Go.Owl
namespace Fa
theorem C10 : callB Tryd.prog 10 = true := by kernel_rfl
theorem C11 : callB Tryd.prog 11 = true := by kernel_rfl
theorem C13 : callB Tryd.prog 13 = true := by kernel_rfl
theorem C16 : callB Tryd.prog 16 = true := by kernel_rfl
theorem C17 : callB Tryd.prog 17 = true := by kernel_rfl
theorem C18 : callB Tryd.prog 18 = true := by kernel_rfl
theorem C19 : callB Tryd.prog 19 = true := by kernel_rfl
theorem C21 : callB Tryd.prog 21 = true := by kernel_rfl
theorem C4 : callB Tryd.prog 4 = true := by kernel_rfl
theorem C5 : callB Tryd.prog 5 = true := by kernel_rfl
theorem C8 : callB Tryd.prog 8 = true := by kernel_rfl
theorem C9 : callB Tryd.prog 9 = true := by kernel_rfl
end Fa
end Go.Proofs.YtbdghnbfnnamkaaDoor
/-! from DObj -/
namespace Go.Proofs.YtbdghnbfnnamkaaDoor
open Go.Owl Go.Spec
set_option maxRecDepth 100000 in
theorem told_ok (b : Bool) (w : World) :
    Calls Tryd.prog 39 #[(.bool b)] w (fun e w' => e = .returned (vN (toldN b)) ∧ Fr [] w w') := by
  refine enter (args := [(.bool b)]) Tryd.func39 rfl rfl ?_
  have H0 : Own [] w w [] := Own.start w []
  refine WC.seq ?_
  refine WC.region ?_
  refine WL.op rfl rfl (op_assign rfl ?_)
  refine WL.nil ?_
  refine WQ.next ?_
  refine WC.seq ?_
  refine WC.seq ?_
  refine WC.region ?_
  refine WL.op rfl rfl (op_move rfl ?_)
  refine WL.op rfl rfl (op_not rfl ?_)
  refine WL.nil ?_
  refine WQ.next ?_
  refine WC.cond rfl (fun (hb1 : (!b) = true) => ?_) (fun (hb1 : (!b) = false) => ?_)
  ·
    have hn1 := (Bool.not_eq_true' _).mp hb1
    refine WC.seq ?_
    refine WC.region ?_
    refine WL.op rfl rfl (op_assign rfl ?_)
    refine WL.nil ?_
    refine WQ.next ?_
    refine WC.ret ?_
    refine WQ.thenRet ?_
    refine WQ.out (.tmp rfl .nil) ?_
    exact ⟨by (rw [toldN, hn1]) <;> rfl, H0.fr⟩
  ·
    have hn1 := (Bool.not_eq_false' _).mp hb1
    refine WC.skip ?_
    refine WQ.next ?_
    refine WC.seq ?_
    refine WC.region ?_
    refine WL.op rfl rfl (op_assign rfl ?_)
    refine WL.nil ?_
    refine WQ.next ?_
    refine WC.ret ?_
    refine WQ.out (.tmp rfl .nil) ?_
    exact ⟨by (rw [toldN, hn1]) <;> rfl, H0.fr⟩
set_option maxRecDepth 100000 in
theorem mkset_ok (cs : List UInt8) (w : World) (hcs : ∀ k, k < cs.length → ¬ (cs.getD k 0) ≥ (128 : UInt8)) (hl : cs.length < 2 ^ 40) :
    Calls Tryd.prog 55 #[(str cs)] w (fun e w' => e = .returned (.tuple #[.agg (tabB cs cs.length).toArray, .bool true]) ∧ Fr [] w w') := by
  refine enter (args := [(str cs)]) Tryd.func55 rfl rfl ?_
  have H0 : Own [] w w [] := Own.start w []
  refine WC.seq ?_
  refine WC.region ?_
  refine WL.op rfl rfl (op_alloc H0 Fa.I93 (fun b1 w1 H1 => ?_))
  refine WL.op rfl rfl (op_assign rfl ?_)
  refine WL.nil ?_
  refine WQ.next ?_
  refine WC.seq ?_
  refine WC.seq ?_
  refine WC.region ?_
  refine WL.op rfl rfl (op_assign rfl ?_)
  refine WL.nil ?_
  refine WQ.next ?_
  refine WC.block ?_
  refine WC.loop (α := Nat) (fun k => [(0, (str cs)), (2, (ptr b1 0)), (3, (.bool false)), (4, (vN k))]) (fun k w' => (k ≤ cs.length) ∧ Own [] w w' [.blk b1 (tabB cs k) 93]) (fun k => cs.length - k) 0 ⟨(by omega), (by rw [tabB_0]; exact (show Own [] w w1 [.blk b1 (List.replicate 256 (.bool false)) 93] from H1))⟩ ⟨rfl, rfl, rfl, rfl, trivial⟩ ?_
  rintro k w2 ⟨hinv, H2⟩
  show WC _ _ _ _ _ [(0, (str cs)), (2, (ptr b1 0)), (3, (.bool false)), (4, (vN k))] _
  refine WC.seq ?_
  refine WC.seq ?_
  refine WC.region ?_
  refine WL.op rfl rfl (op_move rfl ?_)
  refine WL.op rfl rfl (op_move rfl ?_)
  refine WL.op rfl rfl (op_lenStr Tryd.underlying9 rfl ?_)
  refine WL.op rfl rfl (op_lssN rfl rfl ?_)
  refine WL.nil ?_
  refine WQ.next ?_
  refine WC.cond rfl (fun (hb3 : (decide (k < cs.length)) = true) => ?_) (fun (hb3 : (decide (k < cs.length)) = false) => ?_)
  ·
    have hc3 := of_decide_eq_true hb3
    refine WC.skip ?_
    refine WQ.next ?_
    refine WC.seq ?_
    refine WC.block ?_
    refine WC.seq ?_
    refine WC.region ?_
    refine WL.op rfl rfl (op_move rfl ?_)
    refine WL.op rfl rfl (op_move rfl ?_)
    refine WL.op rfl rfl (op_indexStrD Tryd.underlying9 rfl rfl (by omega) ?_)
    refine WL.op rfl rfl (op_assign rfl ?_)
    refine WL.nil ?_
    refine WQ.next ?_
    refine WC.seq ?_
    refine WC.seq ?_
    refine WC.region ?_
    refine WL.op rfl rfl (op_move rfl ?_)
    refine WL.op rfl rfl (op_geqU8 (b := 128) rfl rfl ?_)
    refine WL.nil ?_
    refine WQ.next ?_
    refine WC.no rfl (decide_eq_false (hcs k (by omega))) ?_
    refine WC.skip ?_
    refine WQ.next ?_
    refine WC.region ?_
    refine WL.op rfl rfl (op_move rfl ?_)
    refine WL.op rfl rfl (op_indexAddrA1 Tryd.underlying93 Fa.I4 rfl rfl (UInt8.toNat_lt _) ?_)
    refine WL.op rfl rfl (op_storeB (i := 0) H2 rfl rfl rfl (by rw [Nat.blt_eq, tabB_len, Nat.zero_add]; exact UInt8.toNat_lt _) rfl Fa.I4 (fun w4 H4 => ?_))
    refine WL.nil ?_
    refine WQ.inNormal ?_
    refine WQ.next ?_
    refine WC.region ?_
    refine WL.op rfl rfl (op_move rfl ?_)
    refine WL.op rfl rfl (op_addN (b := 1) rfl rfl (by omega) ?_)
    refine WL.op rfl rfl (op_assign rfl ?_)
    refine WL.nil ?_
    exact WQ.round (k + 1) ⟨(by omega), (by have h := (show Own [] w w4 [.blk b1 ((tabB cs k).set (0 + (cs.getD k 0).toNat) (.bool true)) 93] from H4); rw [Nat.zero_add, tabB_succ (by omega)] at h; exact h)⟩ ⟨rfl, rfl, rfl, rfl, trivial⟩ (by omega)
  ·
    have hc3 := of_decide_eq_false hb3
    refine WC.exit ?_
    refine WQ.thenExit ?_
    refine WQ.thenExit ?_
    refine WQ.inHere ?_
    refine WQ.next ?_
    refine WC.seq ?_
    refine WC.region ?_
    refine WL.op rfl rfl (op_loadS rfl (H2.cellsW (i := 0) rfl) Tryd.underlying93 rfl Fa.I93 (by rw [tabB_len]) ?_)
    refine WL.op rfl rfl (op_storeBV (i := 0) H2 rfl rfl rfl (by rw [tabB_len]; rfl) (tabB_one _ _) (by rw [tabB_len]) Fa.I93 (fun w5 H5 => ?_))
    refine WL.op rfl rfl (op_assign rfl ?_)
    refine WL.nil ?_
    refine WQ.next ?_
    refine WC.ret ?_
    refine WQ.out (.cell rfl (run_loadVarS (H5.cellsW (i := 0) rfl) Tryd.underlying93 rfl Fa.I93 (by rw [tabB_len])) (.tmp rfl .nil)) ?_
    exact ⟨by have hk : k = cs.length := (by omega); subst hk; rfl, H5.fr⟩
set_option maxRecDepth 100000 in
theorem ashas_ok (q : Nat) (cs : List UInt8) (x : UInt8) (w : World) (hQ : cellsAt w q (tabB cs cs.length)) :
    Calls Tryd.prog 60 #[(ptr q 0), (vU8 x)] w (fun e w' => e = .returned (.bool (inB cs x)) ∧ Fr [] w w') := by
  refine enter (args := [(ptr q 0), (vU8 x)]) Tryd.func60 rfl rfl ?_
  have H0 : Own [] w w [Ent.bo q (tabB cs cs.length)] := ((Own.start w []).oldB hQ)
  refine WC.seq ?_
  refine WC.region ?_
  refine WL.op rfl rfl (op_assign rfl ?_)
  refine WL.nil ?_
  refine WQ.next ?_
  refine WC.seq ?_
  refine WC.region ?_
  refine WL.op rfl rfl (op_move rfl ?_)
  refine WL.op rfl rfl (op_move rfl ?_)
  refine WL.op rfl rfl (op_nilCheck rfl ?_)
  refine WL.op rfl rfl (op_indexAddrA1 Tryd.underlying93 Fa.I4 rfl rfl (UInt8.toNat_lt _) ?_)
  refine WL.op rfl rfl (op_load rfl (H0.cellO (i := 0) rfl (by rw [Nat.zero_add]; exact tabB_get cs x)) Tryd.underlying4 rfl ?_)
  refine WL.op rfl rfl (op_assign rfl ?_)
  refine WL.nil ?_
  refine WQ.next ?_
  refine WC.ret ?_
  refine WQ.out (.tmp rfl .nil) ?_
  exact ⟨rfl, H0.fr⟩
set_option maxRecDepth 100000 in
theorem trimR_ok (s : List UInt8) (q : Nat) (cs : List UInt8) (w : World) (hQ : cellsAt w q (tabB cs cs.length)) (hs : s.length < 2 ^ 62) :
    Calls Tryd.prog 57 #[(str s), (ptr q 0)] w (fun e w' => e = .returned (str (trR (inB cs) s)) ∧ Fr [] w w') := by
  refine enter (args := [(str s), (ptr q 0)]) Tryd.func57 rfl rfl ?_
  have H0 : Own [] w w [Ent.bo q (tabB cs cs.length)] := ((Own.start w []).oldB hQ)
  refine WC.seq ?_
  refine WC.region ?_
  refine WL.op rfl rfl (op_assign rfl ?_)
  refine WL.nil ?_
  refine WQ.next ?_
  refine WC.seq ?_
  refine WC.block ?_
  refine WC.loop (α := List UInt8) (fun t => [(0, (str t)), (1, (ptr q 0)), (4, (str []))]) (fun t w' => (trR (inB cs) t = trR (inB cs) s ∧ t.length ≤ s.length) ∧ Own [] w w' [Ent.bo q (tabB cs cs.length)]) (fun t => t.length) s ⟨⟨rfl, Nat.le_refl _⟩, H0⟩ ⟨rfl, rfl, rfl, trivial⟩ ?_
  rintro t w1 ⟨⟨ht, hlt⟩, H1⟩
  show WC _ _ _ _ _ [(0, (str t)), (1, (ptr q 0)), (4, (str []))] _
  refine WC.seq ?_
  refine WC.seq ?_
  refine WC.region ?_
  refine WL.op rfl rfl (op_move rfl ?_)
  refine WL.op rfl rfl (op_lenStr Tryd.underlying9 rfl ?_)
  refine WL.op rfl rfl (op_gtrN (b := 0) rfl rfl ?_)
  refine WL.nil ?_
  refine WQ.next ?_
  refine WC.cond rfl (fun (hb2 : (decide (t.length > 0)) = true) => ?_) (fun (hb2 : (decide (t.length > 0)) = false) => ?_)
  ·
    have hc2 := of_decide_eq_true hb2
    refine WC.skip ?_
    refine WQ.next ?_
    refine WC.block ?_
    refine WC.seq ?_
    refine WC.seq ?_
    refine WC.region ?_
    refine WL.op rfl rfl (op_move rfl ?_)
    refine WL.op rfl rfl (op_move rfl ?_)
    refine WL.op rfl rfl (op_move rfl ?_)
    refine WL.op rfl rfl (op_lenStr Tryd.underlying9 rfl ?_)
    refine WL.op rfl rfl (op_subN (b := 1) rfl rfl (by omega) (by omega) ?_)
    refine WL.op rfl rfl (op_indexStrD Tryd.underlying9 rfl rfl (by omega) ?_)
    refine WL.op rfl rfl (op_callF Fa.C60 rfl ((ashas_ok q cs (t.getD (t.length - 1) 0) _ (H1.cellsAtO (i := 0) rfl)).mono (fun e w3 hq => ?_)))
    obtain ⟨rfl, hf3⟩ := hq
    refine ⟨_, rfl, ?_⟩
    have H3 := H1.fr' hf3
    refine WL.op rfl rfl (op_not rfl ?_)
    refine WL.nil ?_
    refine WQ.next ?_
    refine WC.cond rfl (fun (hb4 : (!(inB cs (t.getD (t.length - 1) 0))) = true) => ?_) (fun (hb4 : (!(inB cs (t.getD (t.length - 1) 0))) = false) => ?_)
    ·
      have hn4 := (Bool.not_eq_true' _).mp hb4
      refine WC.exit ?_
      refine WQ.thenExit ?_
      refine WQ.inPass rfl ?_
      refine WQ.thenExit ?_
      refine WQ.inHere ?_
      refine WQ.next ?_
      refine WC.seq ?_
      refine WC.region ?_
      refine WL.op rfl rfl (op_move rfl ?_)
      refine WL.op rfl rfl (op_assign rfl ?_)
      refine WL.nil ?_
      refine WQ.next ?_
      refine WC.ret ?_
      refine WQ.out (.tmp rfl .nil) ?_
      exact ⟨by (rw [← ht, trR_stop (by omega) hn4]) <;> rfl, H3.fr⟩
    ·
      have hn4 := (Bool.not_eq_false' _).mp hb4
      refine WC.skip ?_
      refine WQ.next ?_
      refine WC.region ?_
      refine WL.op rfl rfl (op_move rfl ?_)
      refine WL.op rfl rfl (op_move rfl ?_)
      refine WL.op rfl rfl (op_lenStr Tryd.underlying9 rfl ?_)
      refine WL.op rfl rfl (op_subN (b := 1) rfl rfl (by omega) (by omega) ?_)
      refine WL.op rfl rfl (op_sliceStrHi Tryd.underlying9 rfl rfl (by omega) ?_)
      refine WL.op rfl rfl (op_assign rfl ?_)
      refine WL.nil ?_
      refine WQ.inNormal ?_
      exact WQ.round (t.take (t.length - 1)) ⟨⟨by rw [trR_step (by omega) hn4]; exact ht, by simp only [List.length_take, List.length_drop]; omega⟩, H3⟩ ⟨rfl, rfl, rfl, trivial⟩ (by simp only [List.length_take, List.length_drop]; omega)
  ·
    have hc2 := of_decide_eq_false hb2
    refine WC.exit ?_
    refine WQ.thenExit ?_
    refine WQ.thenExit ?_
    refine WQ.inHere ?_
    refine WQ.next ?_
    refine WC.seq ?_
    refine WC.region ?_
    refine WL.op rfl rfl (op_move rfl ?_)
    refine WL.op rfl rfl (op_assign rfl ?_)
    refine WL.nil ?_
    refine WQ.next ?_
    refine WC.ret ?_
    refine WQ.out (.tmp rfl .nil) ?_
    exact ⟨by rw [← ht, List.eq_nil_of_length_eq_zero (show t.length = 0 by omega)]; rfl, H1.fr⟩
set_option maxRecDepth 100000 in
theorem trimL_ok (s : List UInt8) (q : Nat) (cs : List UInt8) (w : World) (hQ : cellsAt w q (tabB cs cs.length)) (hs : s.length < 2 ^ 62) :
    Calls Tryd.prog 56 #[(str s), (ptr q 0)] w (fun e w' => e = .returned (str (trL (inB cs) s)) ∧ Fr [] w w') := by
  refine enter (args := [(str s), (ptr q 0)]) Tryd.func56 rfl rfl ?_
  have H0 : Own [] w w [Ent.bo q (tabB cs cs.length)] := ((Own.start w []).oldB hQ)
  refine WC.seq ?_
  refine WC.region ?_
  refine WL.op rfl rfl (op_assign rfl ?_)
  refine WL.nil ?_
  refine WQ.next ?_
  refine WC.seq ?_
  refine WC.block ?_
  refine WC.loop (α := List UInt8) (fun t => [(0, (str t)), (1, (ptr q 0)), (4, (str []))]) (fun t w' => (trL (inB cs) t = trL (inB cs) s ∧ t.length ≤ s.length) ∧ Own [] w w' [Ent.bo q (tabB cs cs.length)]) (fun t => t.length) s ⟨⟨rfl, Nat.le_refl _⟩, H0⟩ ⟨rfl, rfl, rfl, trivial⟩ ?_
  rintro t w1 ⟨⟨ht, hlt⟩, H1⟩
  show WC _ _ _ _ _ [(0, (str t)), (1, (ptr q 0)), (4, (str []))] _
  refine WC.seq ?_
  refine WC.seq ?_
  refine WC.region ?_
  refine WL.op rfl rfl (op_move rfl ?_)
  refine WL.op rfl rfl (op_lenStr Tryd.underlying9 rfl ?_)
  refine WL.op rfl rfl (op_gtrN (b := 0) rfl rfl ?_)
  refine WL.nil ?_
  refine WQ.next ?_
  refine WC.cond rfl (fun (hb2 : (decide (t.length > 0)) = true) => ?_) (fun (hb2 : (decide (t.length > 0)) = false) => ?_)
  ·
    have hc2 := of_decide_eq_true hb2
    refine WC.skip ?_
    refine WQ.next ?_
    refine WC.block ?_
    refine WC.seq ?_
    refine WC.seq ?_
    refine WC.region ?_
    refine WL.op rfl rfl (op_move rfl ?_)
    refine WL.op rfl rfl (op_move rfl ?_)
    refine WL.op rfl rfl (op_indexStrD (m := 0) Tryd.underlying9 rfl rfl (by omega) ?_)
    refine WL.op rfl rfl (op_callF Fa.C60 rfl ((ashas_ok q cs (t.getD 0 0) _ (H1.cellsAtO (i := 0) rfl)).mono (fun e w3 hq => ?_)))
    obtain ⟨rfl, hf3⟩ := hq
    refine ⟨_, rfl, ?_⟩
    have H3 := H1.fr' hf3
    refine WL.op rfl rfl (op_not rfl ?_)
    refine WL.nil ?_
    refine WQ.next ?_
    refine WC.cond rfl (fun (hb4 : (!(inB cs (t.getD 0 0))) = true) => ?_) (fun (hb4 : (!(inB cs (t.getD 0 0))) = false) => ?_)
    ·
      have hn4 := (Bool.not_eq_true' _).mp hb4
      refine WC.exit ?_
      refine WQ.thenExit ?_
      refine WQ.inPass rfl ?_
      refine WQ.thenExit ?_
      refine WQ.inHere ?_
      refine WQ.next ?_
      refine WC.seq ?_
      refine WC.region ?_
      refine WL.op rfl rfl (op_move rfl ?_)
      refine WL.op rfl rfl (op_assign rfl ?_)
      refine WL.nil ?_
      refine WQ.next ?_
      refine WC.ret ?_
      refine WQ.out (.tmp rfl .nil) ?_
      exact ⟨by (rw [← ht, trL_stop (by omega) hn4]) <;> rfl, H3.fr⟩
    ·
      have hn4 := (Bool.not_eq_false' _).mp hb4
      refine WC.skip ?_
      refine WQ.next ?_
      refine WC.region ?_
      refine WL.op rfl rfl (op_move rfl ?_)
      refine WL.op rfl rfl (op_sliceStrLo (a := 1) Tryd.underlying9 rfl rfl (by omega) ?_)
      refine WL.op rfl rfl (op_assign rfl ?_)
      refine WL.nil ?_
      refine WQ.inNormal ?_
      exact WQ.round (t.drop 1) ⟨⟨by rw [trL_step (by omega) hn4]; exact ht, by simp only [List.length_take, List.length_drop]; omega⟩, H3⟩ ⟨rfl, rfl, rfl, trivial⟩ (by simp only [List.length_take, List.length_drop]; omega)
  ·
    have hc2 := of_decide_eq_false hb2
    refine WC.exit ?_
    refine WQ.thenExit ?_
    refine WQ.thenExit ?_
    refine WQ.inHere ?_
    refine WQ.next ?_
    refine WC.seq ?_
    refine WC.region ?_
    refine WL.op rfl rfl (op_move rfl ?_)
    refine WL.op rfl rfl (op_assign rfl ?_)
    refine WL.nil ?_
    refine WQ.next ?_
    refine WC.ret ?_
    refine WQ.out (.tmp rfl .nil) ?_
    exact ⟨by rw [← ht, List.eq_nil_of_length_eq_zero (show t.length = 0 by omega)]; rfl, H1.fr⟩
set_option maxRecDepth 100000 in
theorem trim_ok (s cs : List UInt8) (w : World) (hl : 1 < cs.length) (hl4 : cs.length < 2 ^ 40) (hcs : ∀ k, k < cs.length → ¬ (cs.getD k 0) ≥ (128 : UInt8)) (hs : s.length < 2 ^ 62) :
    Calls Tryd.prog 51 #[(str s), (str cs)] w (fun e w' => e = .returned (str (trL (inB cs) (trR (inB cs) s))) ∧ Fr [] w w') := by
  refine enter (args := [(str s), (str cs)]) Tryd.func51 rfl rfl ?_
  have H0 : Own [] w w [] := Own.start w []
  refine WC.seq ?_
  refine WC.region ?_
  refine WL.op rfl rfl (op_assign rfl ?_)
  refine WL.nil ?_
  refine WQ.next ?_
  refine WC.seq ?_
  refine WC.seq ?_
  refine WC.region ?_
  refine WL.op rfl rfl (op_move rfl ?_)
  refine WL.op rfl rfl (op_eqlStr rfl rfl ?_)
  refine WL.op rfl rfl (op_move rfl ?_)
  refine WL.split (t := 9) rfl (fun (hb1 : (decide (s = [])) = true) => ?_) (fun (hb1 : (decide (s = [])) = false) => ?_)
  ·
    have hc1 := of_decide_eq_true hb1
    refine WL.no rfl rfl rfl hb1 rfl ?_
    refine WL.no rfl rfl rfl hb1 rfl ?_
    refine WL.op rfl rfl (op_pickT rfl hb1 rfl ?_)
    refine WL.nil ?_
    refine WQ.next ?_
    refine WC.yes rfl rfl ?_
    refine WC.seq ?_
    refine WC.region ?_
    refine WL.op rfl rfl (op_move rfl ?_)
    refine WL.op rfl rfl (op_assign rfl ?_)
    refine WL.nil ?_
    refine WQ.next ?_
    refine WC.ret ?_
    refine WQ.thenRet ?_
    refine WQ.out (.tmp rfl .nil) ?_
    exact ⟨by (rw [of_decide_eq_true hb1]) <;> rfl, H0.fr⟩
  ·
    have hc1 := of_decide_eq_false hb1
    refine WL.yes rfl rfl rfl hb1 rfl (op_move rfl ?_)
    refine WL.yes rfl rfl rfl hb1 rfl (op_eqlStr rfl rfl ?_)
    refine WL.op rfl rfl (op_pickF rfl hb1 rfl ?_)
    refine WL.nil ?_
    refine WQ.next ?_
    refine WC.no rfl (decide_eq_false (fun h => by rw [h] at hl; simp at hl)) ?_
    refine WC.skip ?_
    refine WQ.next ?_
    refine WC.seq ?_
    refine WC.seq ?_
    refine WC.region ?_
    refine WL.op rfl rfl (op_move rfl ?_)
    refine WL.op rfl rfl (op_lenStr Tryd.underlying9 rfl ?_)
    refine WL.op rfl rfl (op_eqlN (b := 1) rfl rfl ?_)
    refine WL.op rfl rfl (op_move rfl ?_)
    refine WL.no rfl rfl rfl (decide_eq_false (by omega)) rfl ?_
    refine WL.no rfl rfl rfl (decide_eq_false (by omega)) rfl ?_
    refine WL.no rfl rfl rfl (decide_eq_false (by omega)) rfl ?_
    refine WL.op rfl rfl (op_pickF rfl (decide_eq_false (by omega)) rfl ?_)
    refine WL.nil ?_
    refine WQ.next ?_
    refine WC.no rfl rfl ?_
    refine WC.skip ?_
    refine WQ.next ?_
    refine WC.seq ?_
    refine WC.seq ?_
    refine WC.region ?_
    refine WL.op rfl rfl (op_move rfl ?_)
    refine WL.op rfl rfl (op_callF Fa.C55 rfl ((mkset_ok cs _ hcs (by first | assumption | omega)).mono (fun e w2 hq => ?_)))
    obtain ⟨rfl, hf2⟩ := hq
    refine ⟨_, rfl, ?_⟩
    have H2 := H0.fr' hf2
    refine WL.op rfl rfl (op_move rfl ?_)
    refine WL.op rfl rfl (op_extract rfl rfl ?_)
    refine WL.op rfl rfl (op_extract rfl rfl ?_)
    refine WL.op rfl rfl (op_alloc H2 Fa.I93 (fun b3 w3 H3 => ?_))
    refine WL.op rfl rfl (op_storeBV (i := 0) H3 rfl rfl rfl (by rw [tabB_len]; rfl) (tabB_one _ _) (by rw [tabB_len]) Fa.I93 (fun w4 H4 => ?_))
    refine WL.op rfl rfl (op_assign rfl ?_)
    refine WL.nil ?_
    refine WQ.next ?_
    refine WC.seq ?_
    refine WC.region ?_
    refine WL.op rfl rfl (op_move rfl ?_)
    refine WL.nil ?_
    refine WQ.next ?_
    refine WC.yes rfl rfl ?_
    refine WC.seq ?_
    refine WC.region ?_
    refine WL.op rfl rfl (op_move rfl ?_)
    refine WL.op rfl rfl (op_callF Fa.C57 rfl ((trimR_ok s b3 cs _ (H4.cellsAt (i := 0) rfl) (by first | omega | exact Nat.lt_of_le_of_lt (trR_len _ _) hs)).mono (fun e w5 hq => ?_)))
    obtain ⟨rfl, hf5⟩ := hq
    refine ⟨_, rfl, ?_⟩
    have H5 := H4.fr' hf5
    refine WL.op rfl rfl (op_callF Fa.C56 rfl ((trimL_ok (trR (inB cs) s) b3 cs _ (H5.cellsAt (i := 0) rfl) (by first | omega | exact Nat.lt_of_le_of_lt (trR_len _ _) hs)).mono (fun e w6 hq => ?_)))
    obtain ⟨rfl, hf6⟩ := hq
    refine ⟨_, rfl, ?_⟩
    have H6 := H5.fr' hf6
    refine WL.op rfl rfl (op_assign rfl ?_)
    refine WL.nil ?_
    refine WQ.next ?_
    refine WC.ret ?_
    refine WQ.thenRet ?_
    refine WQ.out (.tmp rfl .nil) ?_
    exact ⟨rfl, H6.fr⟩
set_option maxRecDepth 100000 in
theorem oname_ok (s : List UInt8) (w : World) (hs : s.length < 2 ^ 47) :
    Calls Tryd.prog 44 #[(str s)] w (fun e w' => e = .returned (.bool (nameB s)) ∧ Fr [] w w') := by
  refine enter (args := [(str s)]) Tryd.func44 rfl rfl ?_
  have H0 : Own [] w w [] := Own.start w []
  refine WC.seq ?_
  refine WC.region ?_
  refine WL.op rfl rfl (op_assign rfl ?_)
  refine WL.nil ?_
  refine WQ.next ?_
  refine WC.seq ?_
  refine WC.region ?_
  refine WL.op rfl rfl (op_move rfl ?_)
  refine WL.op rfl rfl (op_neqStr rfl rfl ?_)
  refine WL.op rfl rfl (op_move rfl ?_)
  refine WL.split (t := 5) rfl (fun (hb1 : (decide (s ≠ [])) = true) => ?_) (fun (hb1 : (decide (s ≠ [])) = false) => ?_)
  ·
    have hc1 := of_decide_eq_true hb1
    refine WL.yes rfl rfl rfl hb1 rfl (op_move rfl ?_)
    refine WL.yes rfl rfl rfl hb1 rfl (op_lenStr Tryd.underlying9 rfl ?_)
    refine WL.yes rfl rfl rfl hb1 rfl (op_leqN (b := 32) rfl rfl ?_)
    refine WL.op rfl rfl (op_pickT rfl hb1 rfl ?_)
    refine WL.op rfl rfl (op_move rfl ?_)
    refine WL.split (t := 10) rfl (fun (hb2 : (decide (s.length ≤ 32)) = true) => ?_) (fun (hb2 : (decide (s.length ≤ 32)) = false) => ?_)
    ·
      have hc2 := of_decide_eq_true hb2
      refine WL.yes rfl rfl rfl hb2 rfl (op_move rfl ?_)
      refine WL.yes rfl rfl rfl hb2 rfl (op_callF Fa.C51 rfl ((trim_ok s ([97, 98, 99, 100, 101, 102, 103, 104, 105, 106, 107, 108, 109, 110, 111, 112, 113, 114, 115, 116, 117, 118, 119, 120, 121, 122, 48, 49, 50, 51, 52, 53, 54, 55, 56, 57, 46, 95]) _ (by decide) (by decide) nameCs_low (by omega)).mono (fun e w3 hq => ?_)))
      obtain ⟨rfl, hf3⟩ := hq
      refine ⟨_, rfl, ?_⟩
      have H3 := H0.fr' hf3
      refine WL.yes rfl rfl rfl hb2 rfl (op_eqlStr rfl rfl ?_)
      refine WL.op rfl rfl (op_pickT rfl hb2 rfl ?_)
      refine WL.op rfl rfl (op_assign rfl ?_)
      refine WL.nil ?_
      refine WQ.next ?_
      refine WC.ret ?_
      refine WQ.out (.tmp rfl .nil) ?_
      exact ⟨by rw [← name_trim (of_decide_eq_true hb1) (of_decide_eq_true hb2)]; rfl, H3.fr⟩
    ·
      have hc2 := of_decide_eq_false hb2
      refine WL.no rfl rfl rfl hb2 rfl ?_
      refine WL.no rfl rfl rfl hb2 rfl ?_
      refine WL.no rfl rfl rfl hb2 rfl ?_
      refine WL.op rfl rfl (op_pickF rfl hb2 rfl ?_)
      refine WL.op rfl rfl (op_assign rfl ?_)
      refine WL.nil ?_
      refine WQ.next ?_
      refine WC.ret ?_
      refine WQ.out (.tmp rfl .nil) ?_
      exact ⟨by (rw [name_long (of_decide_eq_false hb2)]) <;> rfl, H0.fr⟩
  ·
    have hc1 := of_decide_eq_false hb1
    refine WL.no rfl rfl rfl hb1 rfl ?_
    refine WL.no rfl rfl rfl hb1 rfl ?_
    refine WL.no rfl rfl rfl hb1 rfl ?_
    refine WL.op rfl rfl (op_pickF rfl hb1 rfl ?_)
    refine WL.op rfl rfl (op_move rfl ?_)
    refine WL.no rfl rfl rfl rfl rfl ?_
    refine WL.no rfl rfl rfl rfl rfl ?_
    refine WL.no rfl rfl rfl rfl rfl ?_
    refine WL.op rfl rfl (op_pickF rfl rfl rfl ?_)
    refine WL.op rfl rfl (op_assign rfl ?_)
    refine WL.nil ?_
    refine WQ.next ?_
    refine WC.ret ?_
    refine WQ.out (.tmp rfl .nil) ?_
    exact ⟨by rw [Decidable.not_not.mp (of_decide_eq_false hb1)]; rfl, H0.fr⟩
set_option maxRecDepth 100000 in
theorem onote_ok (x : Nt) (w : World) :
    Calls Tryd.prog 49 #[(.agg #[(vU8 x.kind), (vU32 x.n), (vU32 x.m)])] w (fun e w' => e = .returned (vN (noteE x)) ∧ Fr [] w w') := by
  refine enter (args := [(.agg #[(vU8 x.kind), (vU32 x.n), (vU32 x.m)])]) Tryd.func49 rfl rfl ?_
  have H0 : Own [] w w [] := Own.start w []
  refine WC.seq ?_
  refine WC.region ?_
  refine WL.op rfl rfl (op_box H0 rfl rfl (fun b1 w1 H1 => ?_))
  refine WL.op rfl rfl (op_assign rfl ?_)
  refine WL.nil ?_
  refine WQ.next ?_
  refine WC.seq ?_
  refine WC.seq ?_
  refine WC.region ?_
  refine WL.op rfl rfl (op_fieldAddr rfl Fa.F59_0 ?_)
  refine WL.op rfl rfl (op_load rfl (H1.cell (i := 0) rfl rfl) Tryd.underlying5 rfl ?_)
  refine WL.nil ?_
  refine WQ.next ?_
  refine WC.block ?_
  refine WC.seq ?_
  refine WC.region ?_
  refine WL.op rfl rfl (op_eqlU8 (b := 1) rfl rfl ?_)
  refine WL.op rfl rfl (op_assign rfl ?_)
  refine WL.nil ?_
  refine WQ.next ?_
  refine WC.cond rfl (fun (hb2 : (decide (x.kind = (1 : UInt8))) = true) => ?_) (fun (hb2 : (decide (x.kind = (1 : UInt8))) = false) => ?_)
  ·
    have hc2 := of_decide_eq_true hb2
    refine WC.seq ?_
    refine WC.region ?_
    refine WL.op rfl rfl (op_fieldAddr rfl Fa.F59_1 ?_)
    refine WL.op rfl rfl (op_load rfl (H1.cell (i := 0) rfl rfl) Tryd.underlying22 rfl ?_)
    refine WL.op rfl rfl (op_leqU32 (b := 1024) rfl rfl ?_)
    refine WL.op rfl rfl (op_move rfl ?_)
    refine WL.split (t := 10) rfl (fun (hb3 : (decide (x.n ≤ (1024 : UInt32))) = true) => ?_) (fun (hb3 : (decide (x.n ≤ (1024 : UInt32))) = false) => ?_)
    ·
      have hc3 := of_decide_eq_true hb3
      refine WL.yes rfl rfl rfl hb3 rfl (op_fieldAddr rfl Fa.F59_2 ?_)
      refine WL.yes rfl rfl rfl hb3 rfl (op_load rfl (H1.cell (i := 0) rfl rfl) Tryd.underlying22 rfl ?_)
      refine WL.yes rfl rfl rfl hb3 rfl (op_eqlU32 (b := 0) rfl rfl ?_)
      refine WL.op rfl rfl (op_pickT rfl hb3 rfl ?_)
      refine WL.op rfl rfl (op_callF Fa.C39 rfl ((told_ok (decide (x.m = (0 : UInt32))) _).mono (fun e w4 hq => ?_)))
      obtain ⟨rfl, hf4⟩ := hq
      refine ⟨_, rfl, ?_⟩
      have H4 := H1.fr' hf4
      refine WL.op rfl rfl (op_assign rfl ?_)
      refine WL.nil ?_
      refine WQ.next ?_
      refine WC.ret ?_
      refine WQ.inRet ?_
      refine WQ.thenRet ?_
      refine WQ.out (.tmp rfl .nil) ?_
      exact ⟨by (rw [noteE, noteB, hb2, hb3]) <;> rfl, H4.fr⟩
    ·
      have hc3 := of_decide_eq_false hb3
      refine WL.no rfl rfl rfl hb3 rfl ?_
      refine WL.no rfl rfl rfl hb3 rfl ?_
      refine WL.no rfl rfl rfl hb3 rfl ?_
      refine WL.op rfl rfl (op_pickF rfl hb3 rfl ?_)
      refine WL.op rfl rfl (op_callF Fa.C39 rfl ((told_ok false _).mono (fun e w5 hq => ?_)))
      obtain ⟨rfl, hf5⟩ := hq
      refine ⟨_, rfl, ?_⟩
      have H5 := H1.fr' hf5
      refine WL.op rfl rfl (op_assign rfl ?_)
      refine WL.nil ?_
      refine WQ.next ?_
      refine WC.ret ?_
      refine WQ.inRet ?_
      refine WQ.thenRet ?_
      refine WQ.out (.tmp rfl .nil) ?_
      exact ⟨by (rw [noteE, noteB, hb2, hb3]) <;> rfl, H5.fr⟩
  ·
    have hc2 := of_decide_eq_false hb2
    refine WC.seq ?_
    refine WC.region ?_
    refine WL.op rfl rfl (op_eqlU8 (b := 2) rfl rfl ?_)
    refine WL.op rfl rfl (op_assign rfl ?_)
    refine WL.nil ?_
    refine WQ.next ?_
    refine WC.cond rfl (fun (hb6 : (decide (x.kind = (2 : UInt8))) = true) => ?_) (fun (hb6 : (decide (x.kind = (2 : UInt8))) = false) => ?_)
    ·
      have hc6 := of_decide_eq_true hb6
      refine WC.seq ?_
      refine WC.region ?_
      refine WL.op rfl rfl (op_fieldAddr rfl Fa.F59_1 ?_)
      refine WL.op rfl rfl (op_load rfl (H1.cell (i := 0) rfl rfl) Tryd.underlying22 rfl ?_)
      refine WL.op rfl rfl (op_lssU32 (b := 16) rfl rfl ?_)
      refine WL.op rfl rfl (op_move rfl ?_)
      refine WL.split (t := 21) rfl (fun (hb7 : (decide (x.n < (16 : UInt32))) = true) => ?_) (fun (hb7 : (decide (x.n < (16 : UInt32))) = false) => ?_)
      ·
        have hc7 := of_decide_eq_true hb7
        refine WL.yes rfl rfl rfl hb7 rfl (op_fieldAddr rfl Fa.F59_2 ?_)
        refine WL.yes rfl rfl rfl hb7 rfl (op_load rfl (H1.cell (i := 0) rfl rfl) Tryd.underlying22 rfl ?_)
        refine WL.yes rfl rfl rfl hb7 rfl (op_geqU32 (b := 1) rfl rfl ?_)
        refine WL.op rfl rfl (op_pickT rfl hb7 rfl ?_)
        refine WL.op rfl rfl (op_move rfl ?_)
        refine WL.split (t := 26) rfl (fun (hb8 : (decide (x.m ≥ (1 : UInt32))) = true) => ?_) (fun (hb8 : (decide (x.m ≥ (1 : UInt32))) = false) => ?_)
        ·
          have hc8 := of_decide_eq_true hb8
          refine WL.yes rfl rfl rfl hb8 rfl (op_fieldAddr rfl Fa.F59_2 ?_)
          refine WL.yes rfl rfl rfl hb8 rfl (op_load rfl (H1.cell (i := 0) rfl rfl) Tryd.underlying22 rfl ?_)
          refine WL.yes rfl rfl rfl hb8 rfl (op_leqU32 (b := 1024) rfl rfl ?_)
          refine WL.op rfl rfl (op_pickT rfl hb8 rfl ?_)
          refine WL.op rfl rfl (op_callF Fa.C39 rfl ((told_ok (decide (x.m ≤ (1024 : UInt32))) _).mono (fun e w9 hq => ?_)))
          obtain ⟨rfl, hf9⟩ := hq
          refine ⟨_, rfl, ?_⟩
          have H9 := H1.fr' hf9
          refine WL.op rfl rfl (op_assign rfl ?_)
          refine WL.nil ?_
          refine WQ.next ?_
          refine WC.ret ?_
          refine WQ.inRet ?_
          refine WQ.thenRet ?_
          refine WQ.out (.tmp rfl .nil) ?_
          exact ⟨by (rw [noteE, noteB, hb2, hb6, hb7, hb8]) <;> rfl, H9.fr⟩
        ·
          have hc8 := of_decide_eq_false hb8
          refine WL.no rfl rfl rfl hb8 rfl ?_
          refine WL.no rfl rfl rfl hb8 rfl ?_
          refine WL.no rfl rfl rfl hb8 rfl ?_
          refine WL.op rfl rfl (op_pickF rfl hb8 rfl ?_)
          refine WL.op rfl rfl (op_callF Fa.C39 rfl ((told_ok false _).mono (fun e w10 hq => ?_)))
          obtain ⟨rfl, hf10⟩ := hq
          refine ⟨_, rfl, ?_⟩
          have H10 := H1.fr' hf10
          refine WL.op rfl rfl (op_assign rfl ?_)
          refine WL.nil ?_
          refine WQ.next ?_
          refine WC.ret ?_
          refine WQ.inRet ?_
          refine WQ.thenRet ?_
          refine WQ.out (.tmp rfl .nil) ?_
          exact ⟨by (rw [noteE, noteB, hb2, hb6, hb7, hb8]) <;> rfl, H10.fr⟩
      ·
        have hc7 := of_decide_eq_false hb7
        refine WL.no rfl rfl rfl hb7 rfl ?_
        refine WL.no rfl rfl rfl hb7 rfl ?_
        refine WL.no rfl rfl rfl hb7 rfl ?_
        refine WL.op rfl rfl (op_pickF rfl hb7 rfl ?_)
        refine WL.op rfl rfl (op_move rfl ?_)
        refine WL.no rfl rfl rfl rfl rfl ?_
        refine WL.no rfl rfl rfl rfl rfl ?_
        refine WL.no rfl rfl rfl rfl rfl ?_
        refine WL.op rfl rfl (op_pickF rfl rfl rfl ?_)
        refine WL.op rfl rfl (op_callF Fa.C39 rfl ((told_ok false _).mono (fun e w11 hq => ?_)))
        obtain ⟨rfl, hf11⟩ := hq
        refine ⟨_, rfl, ?_⟩
        have H11 := H1.fr' hf11
        refine WL.op rfl rfl (op_assign rfl ?_)
        refine WL.nil ?_
        refine WQ.next ?_
        refine WC.ret ?_
        refine WQ.inRet ?_
        refine WQ.thenRet ?_
        refine WQ.out (.tmp rfl .nil) ?_
        exact ⟨by (rw [noteE, noteB, hb2, hb6, hb7]) <;> rfl, H11.fr⟩
    ·
      have hc6 := of_decide_eq_false hb6
      refine WC.seq ?_
      refine WC.region ?_
      refine WL.op rfl rfl (op_eqlU8 (b := 3) rfl rfl ?_)
      refine WL.op rfl rfl (op_assign rfl ?_)
      refine WL.nil ?_
      refine WQ.next ?_
      refine WC.cond rfl (fun (hb12 : (decide (x.kind = (3 : UInt8))) = true) => ?_) (fun (hb12 : (decide (x.kind = (3 : UInt8))) = false) => ?_)
      ·
        have hc12 := of_decide_eq_true hb12
        refine WC.seq ?_
        refine WC.region ?_
        refine WL.op rfl rfl (op_fieldAddr rfl Fa.F59_1 ?_)
        refine WL.op rfl rfl (op_load rfl (H1.cell (i := 0) rfl rfl) Tryd.underlying22 rfl ?_)
        refine WL.op rfl rfl (op_geqU32 (b := 1) rfl rfl ?_)
        refine WL.op rfl rfl (op_move rfl ?_)
        refine WL.split (t := 37) rfl (fun (hb13 : (decide (x.n ≥ (1 : UInt32))) = true) => ?_) (fun (hb13 : (decide (x.n ≥ (1 : UInt32))) = false) => ?_)
        ·
          have hc13 := of_decide_eq_true hb13
          refine WL.yes rfl rfl rfl hb13 rfl (op_fieldAddr rfl Fa.F59_1 ?_)
          refine WL.yes rfl rfl rfl hb13 rfl (op_load rfl (H1.cell (i := 0) rfl rfl) Tryd.underlying22 rfl ?_)
          refine WL.yes rfl rfl rfl hb13 rfl (op_leqU32 (b := 65535) rfl rfl ?_)
          refine WL.op rfl rfl (op_pickT rfl hb13 rfl ?_)
          refine WL.op rfl rfl (op_move rfl ?_)
          refine WL.split (t := 42) rfl (fun (hb14 : (decide (x.n ≤ (65535 : UInt32))) = true) => ?_) (fun (hb14 : (decide (x.n ≤ (65535 : UInt32))) = false) => ?_)
          ·
            have hc14 := of_decide_eq_true hb14
            refine WL.yes rfl rfl rfl hb14 rfl (op_fieldAddr rfl Fa.F59_2 ?_)
            refine WL.yes rfl rfl rfl hb14 rfl (op_load rfl (H1.cell (i := 0) rfl rfl) Tryd.underlying22 rfl ?_)
            refine WL.yes rfl rfl rfl hb14 rfl (op_eqlU32 (b := 0) rfl rfl ?_)
            refine WL.op rfl rfl (op_pickT rfl hb14 rfl ?_)
            refine WL.op rfl rfl (op_callF Fa.C39 rfl ((told_ok (decide (x.m = (0 : UInt32))) _).mono (fun e w15 hq => ?_)))
            obtain ⟨rfl, hf15⟩ := hq
            refine ⟨_, rfl, ?_⟩
            have H15 := H1.fr' hf15
            refine WL.op rfl rfl (op_assign rfl ?_)
            refine WL.nil ?_
            refine WQ.next ?_
            refine WC.ret ?_
            refine WQ.inRet ?_
            refine WQ.thenRet ?_
            refine WQ.out (.tmp rfl .nil) ?_
            exact ⟨by (rw [noteE, noteB, hb2, hb6, hb12, hb13, hb14]) <;> rfl, H15.fr⟩
          ·
            have hc14 := of_decide_eq_false hb14
            refine WL.no rfl rfl rfl hb14 rfl ?_
            refine WL.no rfl rfl rfl hb14 rfl ?_
            refine WL.no rfl rfl rfl hb14 rfl ?_
            refine WL.op rfl rfl (op_pickF rfl hb14 rfl ?_)
            refine WL.op rfl rfl (op_callF Fa.C39 rfl ((told_ok false _).mono (fun e w16 hq => ?_)))
            obtain ⟨rfl, hf16⟩ := hq
            refine ⟨_, rfl, ?_⟩
            have H16 := H1.fr' hf16
            refine WL.op rfl rfl (op_assign rfl ?_)
            refine WL.nil ?_
            refine WQ.next ?_
            refine WC.ret ?_
            refine WQ.inRet ?_
            refine WQ.thenRet ?_
            refine WQ.out (.tmp rfl .nil) ?_
            exact ⟨by (rw [noteE, noteB, hb2, hb6, hb12, hb13, hb14]) <;> rfl, H16.fr⟩
        ·
          have hc13 := of_decide_eq_false hb13
          refine WL.no rfl rfl rfl hb13 rfl ?_
          refine WL.no rfl rfl rfl hb13 rfl ?_
          refine WL.no rfl rfl rfl hb13 rfl ?_
          refine WL.op rfl rfl (op_pickF rfl hb13 rfl ?_)
          refine WL.op rfl rfl (op_move rfl ?_)
          refine WL.no rfl rfl rfl rfl rfl ?_
          refine WL.no rfl rfl rfl rfl rfl ?_
          refine WL.no rfl rfl rfl rfl rfl ?_
          refine WL.op rfl rfl (op_pickF rfl rfl rfl ?_)
          refine WL.op rfl rfl (op_callF Fa.C39 rfl ((told_ok false _).mono (fun e w17 hq => ?_)))
          obtain ⟨rfl, hf17⟩ := hq
          refine ⟨_, rfl, ?_⟩
          have H17 := H1.fr' hf17
          refine WL.op rfl rfl (op_assign rfl ?_)
          refine WL.nil ?_
          refine WQ.next ?_
          refine WC.ret ?_
          refine WQ.inRet ?_
          refine WQ.thenRet ?_
          refine WQ.out (.tmp rfl .nil) ?_
          exact ⟨by (rw [noteE, noteB, hb2, hb6, hb12, hb13]) <;> rfl, H17.fr⟩
      ·
        have hc12 := of_decide_eq_false hb12
        refine WC.seq ?_
        refine WC.region ?_
        refine WL.op rfl rfl (op_eqlU8 (b := 4) rfl rfl ?_)
        refine WL.op rfl rfl (op_assign rfl ?_)
        refine WL.nil ?_
        refine WQ.next ?_
        refine WC.cond rfl (fun (hb18 : (decide (x.kind = (4 : UInt8))) = true) => ?_) (fun (hb18 : (decide (x.kind = (4 : UInt8))) = false) => ?_)
        ·
          have hc18 := of_decide_eq_true hb18
          refine WC.seq ?_
          refine WC.region ?_
          refine WL.op rfl rfl (op_fieldAddr rfl Fa.F59_1 ?_)
          refine WL.op rfl rfl (op_load rfl (H1.cell (i := 0) rfl rfl) Tryd.underlying22 rfl ?_)
          refine WL.op rfl rfl (op_fieldAddr rfl Fa.F59_2 ?_)
          refine WL.op rfl rfl (op_load rfl (H1.cell (i := 0) rfl rfl) Tryd.underlying22 rfl ?_)
          refine WL.op rfl rfl (op_orU32 rfl rfl ?_)
          refine WL.op rfl rfl (op_eqlU32 (b := 0) rfl rfl ?_)
          refine WL.op rfl rfl (op_callF Fa.C39 rfl ((told_ok (decide ((x.n ||| x.m) = (0 : UInt32))) _).mono (fun e w19 hq => ?_)))
          obtain ⟨rfl, hf19⟩ := hq
          refine ⟨_, rfl, ?_⟩
          have H19 := H1.fr' hf19
          refine WL.op rfl rfl (op_assign rfl ?_)
          refine WL.nil ?_
          refine WQ.next ?_
          refine WC.ret ?_
          refine WQ.inRet ?_
          refine WQ.thenRet ?_
          refine WQ.out (.tmp rfl .nil) ?_
          exact ⟨by (rw [noteE, noteB, ← or_nil, hb2, hb6, hb12, hb18]) <;> rfl, H19.fr⟩
        ·
          have hc18 := of_decide_eq_false hb18
          refine WC.skip ?_
          refine WQ.inNormal ?_
          refine WQ.next ?_
          refine WC.seq ?_
          refine WC.region ?_
          refine WL.op rfl rfl (op_assign rfl ?_)
          refine WL.nil ?_
          refine WQ.next ?_
          refine WC.ret ?_
          refine WQ.out (.tmp rfl .nil) ?_
          exact ⟨by (rw [noteE, noteB, hb2, hb6, hb12, hb18]) <;> rfl, H1.fr⟩
set_option maxRecDepth 100000 in
theorem ntbad_ok (x : Nt) (w : World) :
    Calls Tryd.prog 48 #[(.agg #[(vU8 x.kind), (vU32 x.n), (vU32 x.m)])] w (fun e w' => e = .returned (.bool (!noteB x)) ∧ Fr [] w w') := by
  refine enter (args := [(.agg #[(vU8 x.kind), (vU32 x.n), (vU32 x.m)])]) Tryd.func48 rfl rfl ?_
  have H0 : Own [] w w [] := Own.start w []
  refine WC.seq ?_
  refine WC.region ?_
  refine WL.op rfl rfl (op_box H0 rfl rfl (fun b1 w1 H1 => ?_))
  refine WL.op rfl rfl (op_assign rfl ?_)
  refine WL.nil ?_
  refine WQ.next ?_
  refine WC.seq ?_
  refine WC.region ?_
  refine WL.op rfl rfl (op_loadS (vs := [_, _, _]) rfl (H1.cells (i := 0) rfl rfl) Tryd.underlying59 rfl Fa.I59 rfl ?_)
  refine WL.op rfl rfl (op_callF Fa.C49 rfl ((onote_ok x _).mono (fun e w2 hq => ?_)))
  obtain ⟨rfl, hf2⟩ := hq
  refine ⟨_, rfl, ?_⟩
  have H2 := H1.fr' hf2
  refine WL.op rfl rfl (op_neqN (b := 0) rfl rfl ?_)
  refine WL.op rfl rfl (op_assign rfl ?_)
  refine WL.nil ?_
  refine WQ.next ?_
  refine WC.ret ?_
  refine WQ.out (.tmp rfl .nil) ?_
  exact ⟨by rw [noteE]; cases noteB x <;> rfl, H2.fr⟩
end Go.Proofs.YtbdghnbfnnamkaaDoor
/-! from DObj2 -/
namespace Go.Proofs.YtbdghnbfnnamkaaDoor
open Go.Owl Go.Spec
set_option maxRecDepth 100000 in
theorem idxN_ok (lv : Value) (l : List Nt) (w : World) (hA : Arr w lv 3 l.length (List.flatMap ntc l)) (hn : l.length < 2 ^ 47) :
    Calls Tryd.prog 52 #[lv, (.func (.func 48) #[] #[])] w (fun e w' => e = .returned (vI (fidx (fun n => !noteB n) l)) ∧ Fr [] w w') := by
  refine enter (args := [lv, (.func (.func 48) #[] #[])]) Tryd.func52 rfl rfl ?_
  have H0 : Own [] w w [] := Own.start w []
  refine WC.seq ?_
  refine WC.region ?_
  refine WL.op rfl rfl (op_assign rfl ?_)
  refine WL.nil ?_
  refine WQ.next ?_
  refine WC.seq ?_
  refine WC.seq ?_
  refine WC.region ?_
  refine WL.op rfl rfl (op_move rfl ?_)
  refine WL.op rfl rfl (op_lenA Tryd.underlying43 rfl (H0.arr hA) ?_)
  refine WL.op rfl rfl (op_move rfl ?_)
  refine WL.nil ?_
  refine WQ.next ?_
  refine WC.block ?_
  refine WC.loop (α := Nat) (fun k => [(0, lv), (1, (.func (.func 48) #[] #[])), (7, (vN l.length)), (8, (vN k))]) (fun k w' => (k ≤ l.length ∧ (∀ j, j < k → (fun n => !noteB n) (l.getD j Nt.zero) = false)) ∧ Own [] w w' []) (fun k => l.length - k) 0 ⟨⟨Nat.zero_le _, fun j h => by omega⟩, H0⟩ ⟨rfl, rfl, rfl, rfl, trivial⟩ ?_
  rintro k w1 ⟨⟨hk1, hok⟩, H1⟩
  show WC _ _ _ _ _ [(0, lv), (1, (.func (.func 48) #[] #[])), (7, (vN l.length)), (8, (vN k))] _
  refine WC.seq ?_
  refine WC.region ?_
  refine WL.op rfl rfl (op_lssN rfl rfl ?_)
  refine WL.nil ?_
  refine WQ.next ?_
  refine WC.seq ?_
  refine WC.cond rfl (fun (hb2 : (decide (k < l.length)) = true) => ?_) (fun (hb2 : (decide (k < l.length)) = false) => ?_)
  ·
    have hc2 := of_decide_eq_true hb2
    refine WC.skip ?_
    refine WQ.next ?_
    refine WC.seq ?_
    refine WC.block ?_
    refine WC.seq ?_
    refine WC.region ?_
    refine WL.op rfl rfl (op_move rfl ?_)
    refine WL.op rfl rfl (op_assign rfl ?_)
    refine WL.nil ?_
    refine WQ.next ?_
    refine WC.seq ?_
    refine WC.region ?_
    refine WL.op rfl rfl (op_move rfl ?_)
    refine WL.op rfl rfl (op_move rfl ?_)
    refine WL.op rfl rfl (op_move rfl ?_)
    refine WL.op rfl rfl (op_indexAddr Tryd.underlying43 Fa.I59 rfl (H1.arr hA) rfl (by omega) ?_)
    refine WL.op rfl rfl (op_loadSP (vs := ntc (l.getD k Nt.zero)) rfl (Arr.atsF (H1.arr hA) (fun _ => rfl) (by decide) Nt.zero (by omega)) Tryd.underlying59 rfl Fa.I59 rfl ?_)
    refine WL.op rfl rfl (op_call (f := 48) rfl Fa.C48 rfl ((ntbad_ok (l.getD k Nt.zero) _).mono (fun e w3 hq => ?_)))
    obtain ⟨rfl, hf3⟩ := hq
    refine ⟨_, rfl, ?_⟩
    have H3 := H1.fr' hf3
    refine WL.nil ?_
    refine WQ.next ?_
    refine WC.cond rfl (fun (hb4 : (!noteB (l.getD k Nt.zero)) = true) => ?_) (fun (hb4 : (!noteB (l.getD k Nt.zero)) = false) => ?_)
    ·
      have hn4 := (Bool.not_eq_true' _).mp hb4
      refine WC.seq ?_
      refine WC.region ?_
      refine WL.op rfl rfl (op_move rfl ?_)
      refine WL.op rfl rfl (op_assign rfl ?_)
      refine WL.nil ?_
      refine WQ.next ?_
      refine WC.ret ?_
      refine WQ.inRet ?_
      refine WQ.thenRet ?_
      refine WQ.thenRet ?_
      refine WQ.inRet ?_
      refine WQ.thenRet ?_
      refine WQ.out (.tmp rfl .nil) ?_
      exact ⟨by rw [fidx_yes (d := Nt.zero) (by omega) hok hb4]; rfl, H3.fr⟩
    ·
      have hn4 := (Bool.not_eq_false' _).mp hb4
      refine WC.skip ?_
      refine WQ.inNormal ?_
      refine WQ.next ?_
      refine WC.region ?_
      refine WL.op rfl rfl (op_addN (b := 1) rfl rfl (by omega) ?_)
      refine WL.op rfl rfl (op_move rfl ?_)
      refine WL.nil ?_
      exact WQ.round (k + 1) ⟨⟨by omega, allPrev hok hb4⟩, H3⟩ ⟨rfl, rfl, rfl, rfl, trivial⟩ (by omega)
  ·
    have hc2 := of_decide_eq_false hb2
    refine WC.exit ?_
    refine WQ.thenExit ?_
    refine WQ.thenExit ?_
    refine WQ.inHere ?_
    refine WQ.next ?_
    refine WC.seq ?_
    refine WC.region ?_
    refine WL.op rfl rfl (op_assign rfl ?_)
    refine WL.nil ?_
    refine WQ.next ?_
    refine WC.ret ?_
    refine WQ.out (.tmp rfl .nil) ?_
    exact ⟨by rw [fidx_no (d := Nt.zero) (fun j hj => hok j (by omega))]; rfl, H1.fr⟩
set_option maxRecDepth 100000 in
theorem conN_ok (lv : Value) (l : List Nt) (w : World) (hA : Arr w lv 3 l.length (List.flatMap ntc l)) (hn : l.length < 2 ^ 47) :
    Calls Tryd.prog 47 #[lv, (.func (.func 48) #[] #[])] w (fun e w' => e = .returned (.bool (l.any (fun n => !noteB n))) ∧ Fr [] w w') := by
  refine enter (args := [lv, (.func (.func 48) #[] #[])]) Tryd.func47 rfl rfl ?_
  have H0 : Own [] w w [] := Own.start w []
  refine WC.seq ?_
  refine WC.region ?_
  refine WL.op rfl rfl (op_assign rfl ?_)
  refine WL.nil ?_
  refine WQ.next ?_
  refine WC.seq ?_
  refine WC.region ?_
  refine WL.op rfl rfl (op_move rfl ?_)
  refine WL.op rfl rfl (op_move rfl ?_)
  refine WL.op rfl rfl (op_callF Fa.C52 rfl ((idxN_ok _ l _ (H0.arr hA) (by omega)).mono (fun e w1 hq => ?_)))
  obtain ⟨rfl, hf1⟩ := hq
  refine ⟨_, rfl, ?_⟩
  have H1 := H0.fr' hf1
  refine WL.op rfl rfl (op_geqI (b := (0 : Int)) rfl rfl ?_)
  refine WL.op rfl rfl (op_assign rfl ?_)
  refine WL.nil ?_
  refine WQ.next ?_
  refine WC.ret ?_
  refine WQ.out (.tmp rfl .nil) ?_
  exact ⟨by rw [← fidx_any]; rfl, H1.fr⟩
set_option maxRecDepth 100000 in
theorem sized_ok (x : Sy) (w : World) (hI : SyD.ok w x) (hn : x.nm.length < 2 ^ 47) (hb : x.b.length < 2 ^ 32) (hr : ∀ y ∈ x.rl, y.nm.length < 2 ^ 47) (hm : x.rl.length < 2 ^ 40) (hq : x.nt.length < 2 ^ 40) :
    Calls Tryd.prog 45 #[(.agg #[(str x.nm), (vU8 x.bind), (vU8 x.kind), (vU32 x.size), (str x.b), x.rv, x.nv])] w (fun e w' => e = .returned (.bool (sizedB x)) ∧ Fr [] w w') := by
  refine enter (args := [(.agg #[(str x.nm), (vU8 x.bind), (vU8 x.kind), (vU32 x.size), (str x.b), x.rv, x.nv])]) Tryd.func45 rfl rfl ?_
  have H0 : Own [] w w [] := Own.start w []
  refine WC.seq ?_
  refine WC.region ?_
  refine WL.op rfl rfl (op_box H0 rfl rfl (fun b1 w1 H1 => ?_))
  refine WL.op rfl rfl (op_assign rfl ?_)
  refine WL.nil ?_
  refine WQ.next ?_
  refine WC.seq ?_
  refine WC.region ?_
  refine WL.op rfl rfl (op_fieldAddr rfl Fa.F78_0 ?_)
  refine WL.op rfl rfl (op_fieldAddr rfl Fa.F46_4 ?_)
  refine WL.op rfl rfl (op_load rfl (H1.cell (i := 0) rfl rfl) Tryd.underlying9 rfl ?_)
  refine WL.op rfl rfl (op_lenStr Tryd.underlying9 rfl ?_)
  refine WL.op rfl rfl (op_convNU32 (hs := Tryd.underlying3) (hd := Tryd.underlying22) rfl ?_)
  refine WL.op rfl rfl (op_assign rfl ?_)
  refine WL.nil ?_
  refine WQ.next ?_
  refine WC.seq ?_
  refine WC.seq ?_
  refine WC.region ?_
  refine WL.op rfl rfl (op_fieldAddr rfl Fa.F78_0 ?_)
  refine WL.op rfl rfl (op_fieldAddr rfl Fa.F46_3 ?_)
  refine WL.op rfl rfl (op_load rfl (H1.cell (i := 0) rfl rfl) Tryd.underlying22 rfl ?_)
  refine WL.op rfl rfl (op_lssU32 (b := 1) rfl rfl ?_)
  refine WL.op rfl rfl (op_move rfl ?_)
  refine WL.split (t := 13) rfl (fun (hb2 : (decide (x.size < (1 : UInt32))) = true) => ?_) (fun (hb2 : (decide (x.size < (1 : UInt32))) = false) => ?_)
  ·
    have hc2 := of_decide_eq_true hb2
    refine WL.no rfl rfl rfl hb2 rfl ?_
    refine WL.no rfl rfl rfl hb2 rfl ?_
    refine WL.no rfl rfl rfl hb2 rfl ?_
    refine WL.no rfl rfl rfl hb2 rfl ?_
    refine WL.op rfl rfl (op_pickT rfl hb2 rfl ?_)
    refine WL.op rfl rfl (op_move rfl ?_)
    refine WL.no rfl rfl rfl rfl rfl ?_
    refine WL.no rfl rfl rfl rfl rfl ?_
    refine WL.no rfl rfl rfl rfl rfl ?_
    refine WL.no rfl rfl rfl rfl rfl ?_
    refine WL.no rfl rfl rfl rfl rfl ?_
    refine WL.op rfl rfl (op_pickT rfl rfl rfl ?_)
    refine WL.nil ?_
    refine WQ.next ?_
    refine WC.yes rfl rfl ?_
    refine WC.seq ?_
    refine WC.region ?_
    refine WL.op rfl rfl (op_assign rfl ?_)
    refine WL.nil ?_
    refine WQ.next ?_
    refine WC.ret ?_
    refine WQ.thenRet ?_
    refine WQ.out (.tmp rfl .nil) ?_
    exact ⟨by (rw [sized_eq hb, sizedU, hb2]) <;> rfl, H1.fr⟩
  ·
    have hc2 := of_decide_eq_false hb2
    refine WL.yes rfl rfl rfl hb2 rfl (op_fieldAddr rfl Fa.F78_0 ?_)
    refine WL.yes rfl rfl rfl hb2 rfl (op_fieldAddr rfl Fa.F46_3 ?_)
    refine WL.yes rfl rfl rfl hb2 rfl (op_load rfl (H1.cell (i := 0) rfl rfl) Tryd.underlying22 rfl ?_)
    refine WL.yes rfl rfl rfl hb2 rfl (op_gtrU32 (b := 8192) rfl rfl ?_)
    refine WL.op rfl rfl (op_pickF rfl hb2 rfl ?_)
    refine WL.op rfl rfl (op_move rfl ?_)
    refine WL.split (t := 19) rfl (fun (hb3 : (decide (x.size > (8192 : UInt32))) = true) => ?_) (fun (hb3 : (decide (x.size > (8192 : UInt32))) = false) => ?_)
    ·
      have hc3 := of_decide_eq_true hb3
      refine WL.no rfl rfl rfl hb3 rfl ?_
      refine WL.no rfl rfl rfl hb3 rfl ?_
      refine WL.no rfl rfl rfl hb3 rfl ?_
      refine WL.no rfl rfl rfl hb3 rfl ?_
      refine WL.no rfl rfl rfl hb3 rfl ?_
      refine WL.op rfl rfl (op_pickT rfl hb3 rfl ?_)
      refine WL.nil ?_
      refine WQ.next ?_
      refine WC.yes rfl rfl ?_
      refine WC.seq ?_
      refine WC.region ?_
      refine WL.op rfl rfl (op_assign rfl ?_)
      refine WL.nil ?_
      refine WQ.next ?_
      refine WC.ret ?_
      refine WQ.thenRet ?_
      refine WQ.out (.tmp rfl .nil) ?_
      exact ⟨by (rw [sized_eq hb, sizedU, hb2, hb3]) <;> rfl, H1.fr⟩
    ·
      have hc3 := of_decide_eq_false hb3
      refine WL.yes rfl rfl rfl hb3 rfl (op_move rfl ?_)
      refine WL.yes rfl rfl rfl hb3 rfl (op_fieldAddr rfl Fa.F78_0 ?_)
      refine WL.yes rfl rfl rfl hb3 rfl (op_fieldAddr rfl Fa.F46_3 ?_)
      refine WL.yes rfl rfl rfl hb3 rfl (op_load rfl (H1.cell (i := 0) rfl rfl) Tryd.underlying22 rfl ?_)
      refine WL.yes rfl rfl rfl hb3 rfl (op_gtrU32 rfl rfl ?_)
      refine WL.op rfl rfl (op_pickF rfl hb3 rfl ?_)
      refine WL.nil ?_
      refine WQ.next ?_
      refine WC.cond rfl (fun (hb4 : (decide ((UInt32.ofNat x.b.length) > x.size)) = true) => ?_) (fun (hb4 : (decide ((UInt32.ofNat x.b.length) > x.size)) = false) => ?_)
      ·
        have hc4 := of_decide_eq_true hb4
        refine WC.seq ?_
        refine WC.region ?_
        refine WL.op rfl rfl (op_assign rfl ?_)
        refine WL.nil ?_
        refine WQ.next ?_
        refine WC.ret ?_
        refine WQ.thenRet ?_
        refine WQ.out (.tmp rfl .nil) ?_
        exact ⟨by (rw [sized_eq hb, sizedU, hb2, hb3, hb4]) <;> rfl, H1.fr⟩
      ·
        have hc4 := of_decide_eq_false hb4
        refine WC.skip ?_
        refine WQ.next ?_
        refine WC.seq ?_
        refine WC.region ?_
        refine WL.op rfl rfl (op_fieldAddr rfl Fa.F78_0 ?_)
        refine WL.op rfl rfl (op_fieldAddr rfl Fa.F46_2 ?_)
        refine WL.op rfl rfl (op_load rfl (H1.cell (i := 0) rfl rfl) Tryd.underlying5 rfl ?_)
        refine WL.op rfl rfl (op_neqU8 (b := 1) rfl rfl ?_)
        refine WL.op rfl rfl (op_move rfl ?_)
        refine WL.split (t := 30) rfl (fun (hb5 : (decide (x.kind ≠ (1 : UInt8))) = true) => ?_) (fun (hb5 : (decide (x.kind ≠ (1 : UInt8))) = false) => ?_)
        ·
          have hc5 := of_decide_eq_true hb5
          refine WL.no rfl rfl rfl hb5 rfl ?_
          refine WL.no rfl rfl rfl hb5 rfl ?_
          refine WL.no rfl rfl rfl hb5 rfl ?_
          refine WL.no rfl rfl rfl hb5 rfl ?_
          refine WL.no rfl rfl rfl hb5 rfl ?_
          refine WL.no rfl rfl rfl hb5 rfl ?_
          refine WL.non rfl rfl rfl rfl ?_
          refine WL.non rfl rfl rfl rfl ?_
          refine WL.non rfl rfl rfl rfl ?_
          refine WL.no rfl rfl rfl hb5 rfl ?_
          refine WL.op rfl rfl (op_pickT rfl hb5 rfl ?_)
          refine WL.op rfl rfl (op_assign rfl ?_)
          refine WL.nil ?_
          refine WQ.next ?_
          refine WC.ret ?_
          refine WQ.out (.tmp rfl .nil) ?_
          exact ⟨by (rw [sized_eq hb, sizedU, hb2, hb3, hb4, hb5]) <;> rfl, H1.fr⟩
        ·
          have hc5 := of_decide_eq_false hb5
          refine WL.yes rfl rfl rfl hb5 rfl (op_move rfl ?_)
          refine WL.yes rfl rfl rfl hb5 rfl (op_fieldAddr rfl Fa.F78_0 ?_)
          refine WL.yes rfl rfl rfl hb5 rfl (op_fieldAddr rfl Fa.F46_3 ?_)
          refine WL.yes rfl rfl rfl hb5 rfl (op_load rfl (H1.cell (i := 0) rfl rfl) Tryd.underlying22 rfl ?_)
          refine WL.yes rfl rfl rfl hb5 rfl (op_eqlU32 rfl rfl ?_)
          refine WL.yes rfl rfl rfl hb5 rfl (op_move rfl ?_)
          refine WL.split (t := 36) rfl (fun (hb6 : (decide ((UInt32.ofNat x.b.length) = x.size)) = true) => ?_) (fun (hb6 : (decide ((UInt32.ofNat x.b.length) = x.size)) = false) => ?_)
          ·
            have hc6 := of_decide_eq_true hb6
            refine WL.yes rfl rfl rfl hb6 rfl (op_move rfl ?_)
            refine WL.yes rfl rfl rfl hb6 rfl (op_remU32 (b := 8) rfl rfl (by decide) ?_)
            refine WL.yes rfl rfl rfl hb6 rfl (op_eqlU32 (b := 0) rfl rfl ?_)
            refine WL.yes rfl rfl rfl hb5 rfl (op_pickT rfl hb6 rfl ?_)
            refine WL.op rfl rfl (op_pickF rfl hb5 rfl ?_)
            refine WL.op rfl rfl (op_assign rfl ?_)
            refine WL.nil ?_
            refine WQ.next ?_
            refine WC.ret ?_
            refine WQ.out (.tmp rfl .nil) ?_
            exact ⟨by (rw [sized_eq hb, sizedU, hb2, hb3, hb4, hb5, hb6]) <;> rfl, H1.fr⟩
          ·
            have hc6 := of_decide_eq_false hb6
            refine WL.no rfl rfl rfl hb6 rfl ?_
            refine WL.no rfl rfl rfl hb6 rfl ?_
            refine WL.no rfl rfl rfl hb6 rfl ?_
            refine WL.yes rfl rfl rfl hb5 rfl (op_pickF rfl hb6 rfl ?_)
            refine WL.op rfl rfl (op_pickF rfl hb5 rfl ?_)
            refine WL.op rfl rfl (op_assign rfl ?_)
            refine WL.nil ?_
            refine WQ.next ?_
            refine WC.ret ?_
            refine WQ.out (.tmp rfl .nil) ?_
            exact ⟨by (rw [sized_eq hb, sizedU, hb2, hb3, hb4, hb5, hb6]) <;> rfl, H1.fr⟩
set_option maxRecDepth 100000 in
theorem places_ok (x : Sy) (w : World) (hI : SyD.ok w x) (hn : x.nm.length < 2 ^ 47) (hb : x.b.length < 2 ^ 32) (hr : ∀ y ∈ x.rl, y.nm.length < 2 ^ 47) (hm : x.rl.length < 2 ^ 40) (hq : x.nt.length < 2 ^ 40) :
    Calls Tryd.prog 46 #[(.agg #[(str x.nm), (vU8 x.bind), (vU8 x.kind), (vU32 x.size), (str x.b), x.rv, x.nv])] w (fun e w' => e = .returned (.bool (relsB x.b.length x.rl)) ∧ Fr [] w w') := by
  refine enter (args := [(.agg #[(str x.nm), (vU8 x.bind), (vU8 x.kind), (vU32 x.size), (str x.b), x.rv, x.nv])]) Tryd.func46 rfl rfl ?_
  have H0 : Own [] w w [] := Own.start w []
  refine WC.seq ?_
  refine WC.region ?_
  refine WL.op rfl rfl (op_box H0 rfl rfl (fun b1 w1 H1 => ?_))
  refine WL.op rfl rfl (op_assign rfl ?_)
  refine WL.nil ?_
  refine WQ.next ?_
  refine WC.seq ?_
  refine WC.region ?_
  refine WL.op rfl rfl (op_assign rfl ?_)
  refine WL.nil ?_
  refine WQ.next ?_
  refine WC.seq ?_
  refine WC.seq ?_
  refine WC.region ?_
  refine WL.op rfl rfl (op_fieldAddr rfl Fa.F78_0 ?_)
  refine WL.op rfl rfl (op_fieldAddr rfl Fa.F46_5 ?_)
  refine WL.op rfl rfl (op_load rfl (H1.cell (i := 0) rfl rfl) Tryd.underlying44 rfl ?_)
  refine WL.op rfl rfl (op_lenA Tryd.underlying44 rfl ((SyD_rl (SyD.fr0 hI H1.fr))) ?_)
  refine WL.op rfl rfl (op_move rfl ?_)
  refine WL.nil ?_
  refine WQ.next ?_
  refine WC.block ?_
  refine WC.loop (α := Nat) (fun k => [(1, (ptr b1 0)), (2, (.bool false)), (3, (vU32 (UInt32.ofNat (endAt x.rl k)))), (9, x.rv), (10, (vN x.rl.length)), (11, (vN k))]) (fun k w' => (k ≤ x.rl.length ∧ (∀ j, j < k → relOk x.b.length (endAt x.rl j) (x.rl.getD j Rl.zero) = true)) ∧ Own [] w w' [.blk b1 [(str x.nm), (vU8 x.bind), (vU8 x.kind), (vU32 x.size), (str x.b), x.rv, x.nv] 78]) (fun k => x.rl.length - k) 0 ⟨⟨Nat.zero_le _, fun j h => by omega⟩, H1⟩ ⟨rfl, rfl, rfl, rfl, rfl, rfl, trivial⟩ ?_
  rintro k w2 ⟨⟨hk1, hok⟩, H2⟩
  show WC _ _ _ _ _ [(1, (ptr b1 0)), (2, (.bool false)), (3, (vU32 (UInt32.ofNat (endAt x.rl k)))), (9, x.rv), (10, (vN x.rl.length)), (11, (vN k))] _
  have he := endAt_lt hok
  have hle := endAt_le hok
  have hrk := getD_name hr k
  refine WC.seq ?_
  refine WC.region ?_
  refine WL.op rfl rfl (op_lssN rfl rfl ?_)
  refine WL.nil ?_
  refine WQ.next ?_
  refine WC.seq ?_
  refine WC.cond rfl (fun (hb3 : (decide (k < x.rl.length)) = true) => ?_) (fun (hb3 : (decide (k < x.rl.length)) = false) => ?_)
  ·
    have hc3 := of_decide_eq_true hb3
    refine WC.skip ?_
    refine WQ.next ?_
    refine WC.seq ?_
    refine WC.block ?_
    refine WC.seq ?_
    refine WC.region ?_
    refine WL.op rfl rfl (op_indexAddr Tryd.underlying44 Fa.I52 rfl ((SyD_rl (SyD.fr0 hI H2.fr))) rfl (by omega) ?_)
    refine WL.op rfl rfl (op_loadSP (vs := rlc (x.rl.getD k Rl.zero)) rfl (Arr.atsF ((SyD_rl (SyD.fr0 hI H2.fr))) (fun _ => rfl) (by decide) Rl.zero (by omega)) Tryd.underlying52 rfl Fa.I52 rfl ?_)
    refine WL.op rfl rfl (op_alloc H2 Fa.I52 (fun b4 w4 H4 => ?_))
    refine WL.op rfl rfl (op_storeBW (i := 1) H4 rfl rfl rfl rfl rfl Fa.I52 (fun w5 H5 => ?_))
    refine WL.nil ?_
    refine WQ.next ?_
    refine WC.seq ?_
    refine WC.region ?_
    refine WL.op rfl rfl (op_assign rfl ?_)
    refine WL.nil ?_
    refine WQ.next ?_
    refine WC.seq ?_
    refine WC.seq ?_
    refine WC.region ?_
    refine WL.op rfl rfl (op_fieldAddr rfl Fa.F52_1 ?_)
    refine WL.op rfl rfl (op_load rfl (H5.cell (i := 1) rfl rfl) Tryd.underlying5 rfl ?_)
    refine WL.nil ?_
    refine WQ.next ?_
    refine WC.block ?_
    refine WC.seq ?_
    refine WC.region ?_
    refine WL.op rfl rfl (op_eqlU8 (b := 1) rfl rfl ?_)
    refine WL.op rfl rfl (op_assign rfl ?_)
    refine WL.nil ?_
    refine WQ.next ?_
    refine WC.cond rfl (fun (hb6 : (decide ((x.rl.getD k Rl.zero).kind = (1 : UInt8))) = true) => ?_) (fun (hb6 : (decide ((x.rl.getD k Rl.zero).kind = (1 : UInt8))) = false) => ?_)
    ·
      have hc6 := of_decide_eq_true hb6
      have hw : widthN (x.rl.getD k Rl.zero).kind = (4 : UInt32).toNat := by (rw [widthN, hb6]) <;> rfl
      refine WC.skip ?_
      refine WQ.inNormal ?_
      refine WQ.next ?_
      refine WC.seq ?_
      refine WC.seq ?_
      refine WC.region ?_
      refine WL.op rfl rfl (op_fieldAddr rfl Fa.F52_2 ?_)
      refine WL.op rfl rfl (op_load rfl (H5.cell (i := 1) rfl rfl) Tryd.underlying9 rfl ?_)
      refine WL.op rfl rfl (op_callF Fa.C44 rfl ((oname_ok ((x.rl.getD k Rl.zero).nm) _ (by exact hrk)).mono (fun e w7 hq => ?_)))
      obtain ⟨rfl, hf7⟩ := hq
      refine ⟨_, rfl, ?_⟩
      have H7 := H5.fr' hf7
      refine WL.op rfl rfl (op_not rfl ?_)
      refine WL.op rfl rfl (op_move rfl ?_)
      refine WL.split (t := 25) rfl (fun (hb8 : (!(nameB ((x.rl.getD k Rl.zero).nm))) = true) => ?_) (fun (hb8 : (!(nameB ((x.rl.getD k Rl.zero).nm))) = false) => ?_)
      ·
        have hn8 := (Bool.not_eq_true' _).mp hb8
        refine WL.no rfl rfl rfl hb8 rfl ?_
        refine WL.no rfl rfl rfl hb8 rfl ?_
        refine WL.no rfl rfl rfl hb8 rfl ?_
        refine WL.no rfl rfl rfl hb8 rfl ?_
        refine WL.op rfl rfl (op_pickT rfl hb8 rfl ?_)
        refine WL.op rfl rfl (op_move rfl ?_)
        refine WL.no rfl rfl rfl rfl rfl ?_
        refine WL.no rfl rfl rfl rfl rfl ?_
        refine WL.no rfl rfl rfl rfl rfl ?_
        refine WL.op rfl rfl (op_pickT rfl rfl rfl ?_)
        refine WL.op rfl rfl (op_move rfl ?_)
        refine WL.no rfl rfl rfl rfl rfl ?_
        refine WL.no rfl rfl rfl rfl rfl ?_
        refine WL.no rfl rfl rfl rfl rfl ?_
        refine WL.no rfl rfl rfl rfl rfl ?_
        refine WL.no rfl rfl rfl rfl rfl ?_
        refine WL.no rfl rfl rfl rfl rfl ?_
        refine WL.no rfl rfl rfl rfl rfl ?_
        refine WL.no rfl rfl rfl rfl rfl ?_
        refine WL.no rfl rfl rfl rfl rfl ?_
        refine WL.no rfl rfl rfl rfl rfl ?_
        refine WL.op rfl rfl (op_pickT rfl rfl rfl ?_)
        refine WL.nil ?_
        refine WQ.next ?_
        refine WC.yes rfl rfl ?_
        refine WC.seq ?_
        refine WC.region ?_
        refine WL.op rfl rfl (op_assign rfl ?_)
        refine WL.nil ?_
        refine WQ.next ?_
        refine WC.ret ?_
        refine WQ.thenRet ?_
        refine WQ.inRet ?_
        refine WQ.thenRet ?_
        refine WQ.thenRet ?_
        refine WQ.inRet ?_
        refine WQ.thenRet ?_
        refine WQ.out (.tmp rfl .nil) ?_
        exact ⟨by rw [rels_no (k := k) (by omega) (relOk_n hn8)]; rfl, H7.fr⟩
      ·
        have hn8 := (Bool.not_eq_false' _).mp hb8
        refine WL.yes rfl rfl rfl hb8 rfl (op_fieldAddr rfl Fa.F52_0 ?_)
        refine WL.yes rfl rfl rfl hb8 rfl (op_load rfl (H7.cell (i := 1) rfl rfl) Tryd.underlying22 rfl ?_)
        refine WL.yes rfl rfl rfl hb8 rfl (op_move rfl ?_)
        refine WL.yes rfl rfl rfl hb8 rfl (op_lssU32 rfl rfl ?_)
        refine WL.op rfl rfl (op_pickF rfl hb8 rfl ?_)
        refine WL.op rfl rfl (op_move rfl ?_)
        refine WL.split (t := 31) rfl (fun (hb9 : (decide ((x.rl.getD k Rl.zero).off < (UInt32.ofNat (endAt x.rl k)))) = true) => ?_) (fun (hb9 : (decide ((x.rl.getD k Rl.zero).off < (UInt32.ofNat (endAt x.rl k)))) = false) => ?_)
        ·
          have hc9 := of_decide_eq_true hb9
          refine WL.no rfl rfl rfl hb9 rfl ?_
          refine WL.no rfl rfl rfl hb9 rfl ?_
          refine WL.no rfl rfl rfl hb9 rfl ?_
          refine WL.op rfl rfl (op_pickT rfl hb9 rfl ?_)
          refine WL.op rfl rfl (op_move rfl ?_)
          refine WL.no rfl rfl rfl rfl rfl ?_
          refine WL.no rfl rfl rfl rfl rfl ?_
          refine WL.no rfl rfl rfl rfl rfl ?_
          refine WL.no rfl rfl rfl rfl rfl ?_
          refine WL.no rfl rfl rfl rfl rfl ?_
          refine WL.no rfl rfl rfl rfl rfl ?_
          refine WL.no rfl rfl rfl rfl rfl ?_
          refine WL.no rfl rfl rfl rfl rfl ?_
          refine WL.no rfl rfl rfl rfl rfl ?_
          refine WL.no rfl rfl rfl rfl rfl ?_
          refine WL.op rfl rfl (op_pickT rfl rfl rfl ?_)
          refine WL.nil ?_
          refine WQ.next ?_
          refine WC.yes rfl rfl ?_
          refine WC.seq ?_
          refine WC.region ?_
          refine WL.op rfl rfl (op_assign rfl ?_)
          refine WL.nil ?_
          refine WQ.next ?_
          refine WC.ret ?_
          refine WQ.thenRet ?_
          refine WQ.inRet ?_
          refine WQ.thenRet ?_
          refine WQ.thenRet ?_
          refine WQ.inRet ?_
          refine WQ.thenRet ?_
          refine WQ.out (.tmp rfl .nil) ?_
          exact ⟨by rw [rels_no (k := k) (by omega) (relOk_e hb9 (by omega))]; rfl, H7.fr⟩
        ·
          have hc9 := of_decide_eq_false hb9
          refine WL.yes rfl rfl rfl hb9 rfl (op_fieldAddr rfl Fa.F52_0 ?_)
          refine WL.yes rfl rfl rfl hb9 rfl (op_load rfl (H7.cell (i := 1) rfl rfl) Tryd.underlying22 rfl ?_)
          refine WL.yes rfl rfl rfl hb9 rfl (op_gtrU32 (b := 8192) rfl rfl ?_)
          refine WL.op rfl rfl (op_pickF rfl hb9 rfl ?_)
          refine WL.op rfl rfl (op_move rfl ?_)
          refine WL.split (t := 36) rfl (fun (hb10 : (decide ((x.rl.getD k Rl.zero).off > (8192 : UInt32))) = true) => ?_) (fun (hb10 : (decide ((x.rl.getD k Rl.zero).off > (8192 : UInt32))) = false) => ?_)
          ·
            have hc10 := of_decide_eq_true hb10
            refine WL.no rfl rfl rfl hb10 rfl ?_
            refine WL.no rfl rfl rfl hb10 rfl ?_
            refine WL.no rfl rfl rfl hb10 rfl ?_
            refine WL.no rfl rfl rfl hb10 rfl ?_
            refine WL.no rfl rfl rfl hb10 rfl ?_
            refine WL.no rfl rfl rfl hb10 rfl ?_
            refine WL.no rfl rfl rfl hb10 rfl ?_
            refine WL.no rfl rfl rfl hb10 rfl ?_
            refine WL.no rfl rfl rfl hb10 rfl ?_
            refine WL.no rfl rfl rfl hb10 rfl ?_
            refine WL.op rfl rfl (op_pickT rfl hb10 rfl ?_)
            refine WL.nil ?_
            refine WQ.next ?_
            refine WC.yes rfl rfl ?_
            refine WC.seq ?_
            refine WC.region ?_
            refine WL.op rfl rfl (op_assign rfl ?_)
            refine WL.nil ?_
            refine WQ.next ?_
            refine WC.ret ?_
            refine WQ.thenRet ?_
            refine WQ.inRet ?_
            refine WQ.thenRet ?_
            refine WQ.thenRet ?_
            refine WQ.inRet ?_
            refine WQ.thenRet ?_
            refine WQ.out (.tmp rfl .nil) ?_
            exact ⟨by rw [rels_no (k := k) (by omega) (relOk_b hb10)]; rfl, H7.fr⟩
          ·
            have hc10 := of_decide_eq_false hb10
            refine WL.yes rfl rfl rfl hb10 rfl (op_fieldAddr rfl Fa.F52_0 ?_)
            refine WL.yes rfl rfl rfl hb10 rfl (op_load rfl (H7.cell (i := 1) rfl rfl) Tryd.underlying22 rfl ?_)
            refine WL.yes rfl rfl rfl hb10 rfl (op_move rfl ?_)
            refine WL.yes rfl rfl rfl hb10 rfl (op_addU32 (b := 4) rfl rfl ?_)
            refine WL.yes rfl rfl rfl hb10 rfl (op_fieldAddr rfl Fa.F78_0 ?_)
            refine WL.yes rfl rfl rfl hb10 rfl (op_fieldAddr rfl Fa.F46_4 ?_)
            refine WL.yes rfl rfl rfl hb10 rfl (op_load rfl (H7.cell (i := 0) rfl rfl) Tryd.underlying9 rfl ?_)
            refine WL.yes rfl rfl rfl hb10 rfl (op_lenStr Tryd.underlying9 rfl ?_)
            refine WL.yes rfl rfl rfl hb10 rfl (op_convNU32 (hs := Tryd.underlying3) (hd := Tryd.underlying22) rfl ?_)
            refine WL.yes rfl rfl rfl hb10 rfl (op_gtrU32 rfl rfl ?_)
            refine WL.op rfl rfl (op_pickF rfl hb10 rfl ?_)
            refine WL.nil ?_
            refine WQ.next ?_
            refine WC.cond rfl (fun (hb11 : (decide (((x.rl.getD k Rl.zero).off + 4) > (UInt32.ofNat x.b.length))) = true) => ?_) (fun (hb11 : (decide (((x.rl.getD k Rl.zero).off + 4) > (UInt32.ofNat x.b.length))) = false) => ?_)
            ·
              have hc11 := of_decide_eq_true hb11
              refine WC.seq ?_
              refine WC.region ?_
              refine WL.op rfl rfl (op_assign rfl ?_)
              refine WL.nil ?_
              refine WQ.next ?_
              refine WC.ret ?_
              refine WQ.thenRet ?_
              refine WQ.inRet ?_
              refine WQ.thenRet ?_
              refine WQ.thenRet ?_
              refine WQ.inRet ?_
              refine WQ.thenRet ?_
              refine WQ.out (.tmp rfl .nil) ?_
              exact ⟨by rw [rels_no (k := k) (by omega) (relOk_o hw hb10 hb11 hb)]; rfl, H7.fr⟩
            ·
              have hc11 := of_decide_eq_false hb11
              refine WC.skip ?_
              refine WQ.next ?_
              refine WC.region ?_
              refine WL.op rfl rfl (op_fieldAddr rfl Fa.F52_0 ?_)
              refine WL.op rfl rfl (op_load rfl (H7.cell (i := 1) rfl rfl) Tryd.underlying22 rfl ?_)
              refine WL.op rfl rfl (op_move rfl ?_)
              refine WL.op rfl rfl (op_addU32 (b := 4) rfl rfl ?_)
              refine WL.op rfl rfl (op_assign rfl ?_)
              refine WL.nil ?_
              refine WQ.inNormal ?_
              refine WQ.next ?_
              refine WC.region ?_
              refine WL.op rfl rfl (op_addN (b := 1) rfl rfl (by omega) ?_)
              refine WL.op rfl rfl (op_move rfl ?_)
              refine WL.nil ?_
              exact WQ.round (k + 1) ⟨⟨by omega, allPrev hok (relOk_yes hw hn8 hb9 hb10 hb11 (by omega) hb)⟩, (H7.take 1)⟩ ⟨rfl, rfl, (congrArg (fun v => some (vU32 v)) (end_U hw hb10)), rfl, rfl, rfl, trivial⟩ (by omega)
    ·
      have hc6 := of_decide_eq_false hb6
      refine WC.seq ?_
      refine WC.region ?_
      refine WL.op rfl rfl (op_eqlU8 (b := 2) rfl rfl ?_)
      refine WL.op rfl rfl (op_assign rfl ?_)
      refine WL.nil ?_
      refine WQ.next ?_
      refine WC.cond rfl (fun (hb12 : (decide ((x.rl.getD k Rl.zero).kind = (2 : UInt8))) = true) => ?_) (fun (hb12 : (decide ((x.rl.getD k Rl.zero).kind = (2 : UInt8))) = false) => ?_)
      ·
        have hc12 := of_decide_eq_true hb12
        have hw : widthN (x.rl.getD k Rl.zero).kind = (2 : UInt32).toNat := by (rw [widthN, hb6, hb12]) <;> rfl
        refine WC.region ?_
        refine WL.op rfl rfl (op_assign rfl ?_)
        refine WL.nil ?_
        refine WQ.inNormal ?_
        refine WQ.next ?_
        refine WC.seq ?_
        refine WC.seq ?_
        refine WC.region ?_
        refine WL.op rfl rfl (op_fieldAddr rfl Fa.F52_2 ?_)
        refine WL.op rfl rfl (op_load rfl (H5.cell (i := 1) rfl rfl) Tryd.underlying9 rfl ?_)
        refine WL.op rfl rfl (op_callF Fa.C44 rfl ((oname_ok ((x.rl.getD k Rl.zero).nm) _ (by exact hrk)).mono (fun e w13 hq => ?_)))
        obtain ⟨rfl, hf13⟩ := hq
        refine ⟨_, rfl, ?_⟩
        have H13 := H5.fr' hf13
        refine WL.op rfl rfl (op_not rfl ?_)
        refine WL.op rfl rfl (op_move rfl ?_)
        refine WL.split (t := 25) rfl (fun (hb14 : (!(nameB ((x.rl.getD k Rl.zero).nm))) = true) => ?_) (fun (hb14 : (!(nameB ((x.rl.getD k Rl.zero).nm))) = false) => ?_)
        ·
          have hn14 := (Bool.not_eq_true' _).mp hb14
          refine WL.no rfl rfl rfl hb14 rfl ?_
          refine WL.no rfl rfl rfl hb14 rfl ?_
          refine WL.no rfl rfl rfl hb14 rfl ?_
          refine WL.no rfl rfl rfl hb14 rfl ?_
          refine WL.op rfl rfl (op_pickT rfl hb14 rfl ?_)
          refine WL.op rfl rfl (op_move rfl ?_)
          refine WL.no rfl rfl rfl rfl rfl ?_
          refine WL.no rfl rfl rfl rfl rfl ?_
          refine WL.no rfl rfl rfl rfl rfl ?_
          refine WL.op rfl rfl (op_pickT rfl rfl rfl ?_)
          refine WL.op rfl rfl (op_move rfl ?_)
          refine WL.no rfl rfl rfl rfl rfl ?_
          refine WL.no rfl rfl rfl rfl rfl ?_
          refine WL.no rfl rfl rfl rfl rfl ?_
          refine WL.no rfl rfl rfl rfl rfl ?_
          refine WL.no rfl rfl rfl rfl rfl ?_
          refine WL.no rfl rfl rfl rfl rfl ?_
          refine WL.no rfl rfl rfl rfl rfl ?_
          refine WL.no rfl rfl rfl rfl rfl ?_
          refine WL.no rfl rfl rfl rfl rfl ?_
          refine WL.no rfl rfl rfl rfl rfl ?_
          refine WL.op rfl rfl (op_pickT rfl rfl rfl ?_)
          refine WL.nil ?_
          refine WQ.next ?_
          refine WC.yes rfl rfl ?_
          refine WC.seq ?_
          refine WC.region ?_
          refine WL.op rfl rfl (op_assign rfl ?_)
          refine WL.nil ?_
          refine WQ.next ?_
          refine WC.ret ?_
          refine WQ.thenRet ?_
          refine WQ.inRet ?_
          refine WQ.thenRet ?_
          refine WQ.thenRet ?_
          refine WQ.inRet ?_
          refine WQ.thenRet ?_
          refine WQ.out (.tmp rfl .nil) ?_
          exact ⟨by rw [rels_no (k := k) (by omega) (relOk_n hn14)]; rfl, H13.fr⟩
        ·
          have hn14 := (Bool.not_eq_false' _).mp hb14
          refine WL.yes rfl rfl rfl hb14 rfl (op_fieldAddr rfl Fa.F52_0 ?_)
          refine WL.yes rfl rfl rfl hb14 rfl (op_load rfl (H13.cell (i := 1) rfl rfl) Tryd.underlying22 rfl ?_)
          refine WL.yes rfl rfl rfl hb14 rfl (op_move rfl ?_)
          refine WL.yes rfl rfl rfl hb14 rfl (op_lssU32 rfl rfl ?_)
          refine WL.op rfl rfl (op_pickF rfl hb14 rfl ?_)
          refine WL.op rfl rfl (op_move rfl ?_)
          refine WL.split (t := 31) rfl (fun (hb15 : (decide ((x.rl.getD k Rl.zero).off < (UInt32.ofNat (endAt x.rl k)))) = true) => ?_) (fun (hb15 : (decide ((x.rl.getD k Rl.zero).off < (UInt32.ofNat (endAt x.rl k)))) = false) => ?_)
          ·
            have hc15 := of_decide_eq_true hb15
            refine WL.no rfl rfl rfl hb15 rfl ?_
            refine WL.no rfl rfl rfl hb15 rfl ?_
            refine WL.no rfl rfl rfl hb15 rfl ?_
            refine WL.op rfl rfl (op_pickT rfl hb15 rfl ?_)
            refine WL.op rfl rfl (op_move rfl ?_)
            refine WL.no rfl rfl rfl rfl rfl ?_
            refine WL.no rfl rfl rfl rfl rfl ?_
            refine WL.no rfl rfl rfl rfl rfl ?_
            refine WL.no rfl rfl rfl rfl rfl ?_
            refine WL.no rfl rfl rfl rfl rfl ?_
            refine WL.no rfl rfl rfl rfl rfl ?_
            refine WL.no rfl rfl rfl rfl rfl ?_
            refine WL.no rfl rfl rfl rfl rfl ?_
            refine WL.no rfl rfl rfl rfl rfl ?_
            refine WL.no rfl rfl rfl rfl rfl ?_
            refine WL.op rfl rfl (op_pickT rfl rfl rfl ?_)
            refine WL.nil ?_
            refine WQ.next ?_
            refine WC.yes rfl rfl ?_
            refine WC.seq ?_
            refine WC.region ?_
            refine WL.op rfl rfl (op_assign rfl ?_)
            refine WL.nil ?_
            refine WQ.next ?_
            refine WC.ret ?_
            refine WQ.thenRet ?_
            refine WQ.inRet ?_
            refine WQ.thenRet ?_
            refine WQ.thenRet ?_
            refine WQ.inRet ?_
            refine WQ.thenRet ?_
            refine WQ.out (.tmp rfl .nil) ?_
            exact ⟨by rw [rels_no (k := k) (by omega) (relOk_e hb15 (by omega))]; rfl, H13.fr⟩
          ·
            have hc15 := of_decide_eq_false hb15
            refine WL.yes rfl rfl rfl hb15 rfl (op_fieldAddr rfl Fa.F52_0 ?_)
            refine WL.yes rfl rfl rfl hb15 rfl (op_load rfl (H13.cell (i := 1) rfl rfl) Tryd.underlying22 rfl ?_)
            refine WL.yes rfl rfl rfl hb15 rfl (op_gtrU32 (b := 8192) rfl rfl ?_)
            refine WL.op rfl rfl (op_pickF rfl hb15 rfl ?_)
            refine WL.op rfl rfl (op_move rfl ?_)
            refine WL.split (t := 36) rfl (fun (hb16 : (decide ((x.rl.getD k Rl.zero).off > (8192 : UInt32))) = true) => ?_) (fun (hb16 : (decide ((x.rl.getD k Rl.zero).off > (8192 : UInt32))) = false) => ?_)
            ·
              have hc16 := of_decide_eq_true hb16
              refine WL.no rfl rfl rfl hb16 rfl ?_
              refine WL.no rfl rfl rfl hb16 rfl ?_
              refine WL.no rfl rfl rfl hb16 rfl ?_
              refine WL.no rfl rfl rfl hb16 rfl ?_
              refine WL.no rfl rfl rfl hb16 rfl ?_
              refine WL.no rfl rfl rfl hb16 rfl ?_
              refine WL.no rfl rfl rfl hb16 rfl ?_
              refine WL.no rfl rfl rfl hb16 rfl ?_
              refine WL.no rfl rfl rfl hb16 rfl ?_
              refine WL.no rfl rfl rfl hb16 rfl ?_
              refine WL.op rfl rfl (op_pickT rfl hb16 rfl ?_)
              refine WL.nil ?_
              refine WQ.next ?_
              refine WC.yes rfl rfl ?_
              refine WC.seq ?_
              refine WC.region ?_
              refine WL.op rfl rfl (op_assign rfl ?_)
              refine WL.nil ?_
              refine WQ.next ?_
              refine WC.ret ?_
              refine WQ.thenRet ?_
              refine WQ.inRet ?_
              refine WQ.thenRet ?_
              refine WQ.thenRet ?_
              refine WQ.inRet ?_
              refine WQ.thenRet ?_
              refine WQ.out (.tmp rfl .nil) ?_
              exact ⟨by rw [rels_no (k := k) (by omega) (relOk_b hb16)]; rfl, H13.fr⟩
            ·
              have hc16 := of_decide_eq_false hb16
              refine WL.yes rfl rfl rfl hb16 rfl (op_fieldAddr rfl Fa.F52_0 ?_)
              refine WL.yes rfl rfl rfl hb16 rfl (op_load rfl (H13.cell (i := 1) rfl rfl) Tryd.underlying22 rfl ?_)
              refine WL.yes rfl rfl rfl hb16 rfl (op_move rfl ?_)
              refine WL.yes rfl rfl rfl hb16 rfl (op_addU32 (b := 2) rfl rfl ?_)
              refine WL.yes rfl rfl rfl hb16 rfl (op_fieldAddr rfl Fa.F78_0 ?_)
              refine WL.yes rfl rfl rfl hb16 rfl (op_fieldAddr rfl Fa.F46_4 ?_)
              refine WL.yes rfl rfl rfl hb16 rfl (op_load rfl (H13.cell (i := 0) rfl rfl) Tryd.underlying9 rfl ?_)
              refine WL.yes rfl rfl rfl hb16 rfl (op_lenStr Tryd.underlying9 rfl ?_)
              refine WL.yes rfl rfl rfl hb16 rfl (op_convNU32 (hs := Tryd.underlying3) (hd := Tryd.underlying22) rfl ?_)
              refine WL.yes rfl rfl rfl hb16 rfl (op_gtrU32 rfl rfl ?_)
              refine WL.op rfl rfl (op_pickF rfl hb16 rfl ?_)
              refine WL.nil ?_
              refine WQ.next ?_
              refine WC.cond rfl (fun (hb17 : (decide (((x.rl.getD k Rl.zero).off + 2) > (UInt32.ofNat x.b.length))) = true) => ?_) (fun (hb17 : (decide (((x.rl.getD k Rl.zero).off + 2) > (UInt32.ofNat x.b.length))) = false) => ?_)
              ·
                have hc17 := of_decide_eq_true hb17
                refine WC.seq ?_
                refine WC.region ?_
                refine WL.op rfl rfl (op_assign rfl ?_)
                refine WL.nil ?_
                refine WQ.next ?_
                refine WC.ret ?_
                refine WQ.thenRet ?_
                refine WQ.inRet ?_
                refine WQ.thenRet ?_
                refine WQ.thenRet ?_
                refine WQ.inRet ?_
                refine WQ.thenRet ?_
                refine WQ.out (.tmp rfl .nil) ?_
                exact ⟨by rw [rels_no (k := k) (by omega) (relOk_o hw hb16 hb17 hb)]; rfl, H13.fr⟩
              ·
                have hc17 := of_decide_eq_false hb17
                refine WC.skip ?_
                refine WQ.next ?_
                refine WC.region ?_
                refine WL.op rfl rfl (op_fieldAddr rfl Fa.F52_0 ?_)
                refine WL.op rfl rfl (op_load rfl (H13.cell (i := 1) rfl rfl) Tryd.underlying22 rfl ?_)
                refine WL.op rfl rfl (op_move rfl ?_)
                refine WL.op rfl rfl (op_addU32 (b := 2) rfl rfl ?_)
                refine WL.op rfl rfl (op_assign rfl ?_)
                refine WL.nil ?_
                refine WQ.inNormal ?_
                refine WQ.next ?_
                refine WC.region ?_
                refine WL.op rfl rfl (op_addN (b := 1) rfl rfl (by omega) ?_)
                refine WL.op rfl rfl (op_move rfl ?_)
                refine WL.nil ?_
                exact WQ.round (k + 1) ⟨⟨by omega, allPrev hok (relOk_yes hw hn14 hb15 hb16 hb17 (by omega) hb)⟩, (H13.take 1)⟩ ⟨rfl, rfl, (congrArg (fun v => some (vU32 v)) (end_U hw hb16)), rfl, rfl, rfl, trivial⟩ (by omega)
      ·
        have hc12 := of_decide_eq_false hb12
        refine WC.seq ?_
        refine WC.region ?_
        refine WL.op rfl rfl (op_assign rfl ?_)
        refine WL.nil ?_
        refine WQ.next ?_
        refine WC.ret ?_
        refine WQ.inRet ?_
        refine WQ.thenRet ?_
        refine WQ.inRet ?_
        refine WQ.thenRet ?_
        refine WQ.thenRet ?_
        refine WQ.inRet ?_
        refine WQ.thenRet ?_
        refine WQ.out (.tmp rfl .nil) ?_
        exact ⟨by rw [rels_no (k := k) (by omega) (relOk_k (by (rw [widthN, hb6, hb12]) <;> rfl))]; rfl, H5.fr⟩
  ·
    have hc3 := of_decide_eq_false hb3
    refine WC.exit ?_
    refine WQ.thenExit ?_
    refine WQ.thenExit ?_
    refine WQ.inHere ?_
    refine WQ.next ?_
    refine WC.seq ?_
    refine WC.region ?_
    refine WL.op rfl rfl (op_fieldAddr rfl Fa.F78_0 ?_)
    refine WL.op rfl rfl (op_fieldAddr rfl Fa.F46_5 ?_)
    refine WL.op rfl rfl (op_load rfl (H2.cell (i := 0) rfl rfl) Tryd.underlying44 rfl ?_)
    refine WL.op rfl rfl (op_lenA Tryd.underlying44 rfl ((SyD_rl (SyD.fr0 hI H2.fr))) ?_)
    refine WL.op rfl rfl (op_leqN (b := 1024) rfl rfl ?_)
    refine WL.op rfl rfl (op_assign rfl ?_)
    refine WL.nil ?_
    refine WQ.next ?_
    refine WC.ret ?_
    refine WQ.out (.tmp rfl .nil) ?_
    exact ⟨by rw [rels_all (fun j hj => hok j (by omega))]; rfl, H2.fr⟩
set_option maxRecDepth 100000 in
theorem omay_ok (x : Sy) (w : World) (hI : SyD.ok w x) (hn : x.nm.length < 2 ^ 47) (hb : x.b.length < 2 ^ 32) (hr : ∀ y ∈ x.rl, y.nm.length < 2 ^ 47) (hm : x.rl.length < 2 ^ 40) (hq : x.nt.length < 2 ^ 40) :
    Calls Tryd.prog 40 #[(.agg #[(str x.nm), (vU8 x.bind), (vU8 x.kind), (vU32 x.size), (str x.b), x.rv, x.nv])] w (fun e w' => e = .returned (.bool (symB x)) ∧ Fr [] w w') := by
  refine enter (args := [(.agg #[(str x.nm), (vU8 x.bind), (vU8 x.kind), (vU32 x.size), (str x.b), x.rv, x.nv])]) Tryd.func40 rfl rfl ?_
  have H0 : Own [] w w [] := Own.start w []
  refine WC.seq ?_
  refine WC.region ?_
  refine WL.op rfl rfl (op_box H0 rfl rfl (fun b1 w1 H1 => ?_))
  refine WL.op rfl rfl (op_assign rfl ?_)
  refine WL.nil ?_
  refine WQ.next ?_
  refine WC.seq ?_
  refine WC.region ?_
  refine WL.op rfl rfl (op_fieldAddr rfl Fa.F78_0 ?_)
  refine WL.op rfl rfl (op_fieldAddr rfl Fa.F46_0 ?_)
  refine WL.op rfl rfl (op_load rfl (H1.cell (i := 0) rfl rfl) Tryd.underlying9 rfl ?_)
  refine WL.op rfl rfl (op_callF Fa.C44 rfl ((oname_ok x.nm _ hn).mono (fun e w2 hq => ?_)))
  obtain ⟨rfl, hf2⟩ := hq
  refine ⟨_, rfl, ?_⟩
  have H2 := H1.fr' hf2
  refine WL.op rfl rfl (op_move rfl ?_)
  refine WL.split (t := 7) rfl (fun (hb3 : (nameB x.nm) = true) => ?_) (fun (hb3 : (nameB x.nm) = false) => ?_)
  ·
    refine WL.yes rfl rfl rfl hb3 rfl (op_fieldAddr rfl Fa.F78_0 ?_)
    refine WL.yes rfl rfl rfl hb3 rfl (op_fieldAddr rfl Fa.F46_1 ?_)
    refine WL.yes rfl rfl rfl hb3 rfl (op_load rfl (H2.cell (i := 0) rfl rfl) Tryd.underlying5 rfl ?_)
    refine WL.yes rfl rfl rfl hb3 rfl (op_leqU8 (b := 2) rfl rfl ?_)
    refine WL.op rfl rfl (op_pickT rfl hb3 rfl ?_)
    refine WL.op rfl rfl (op_move rfl ?_)
    refine WL.split (t := 13) rfl (fun (hb4 : (decide (x.bind ≤ (2 : UInt8))) = true) => ?_) (fun (hb4 : (decide (x.bind ≤ (2 : UInt8))) = false) => ?_)
    ·
      have hc4 := of_decide_eq_true hb4
      refine WL.yes rfl rfl rfl hb4 rfl (op_fieldAddr rfl Fa.F78_0 ?_)
      refine WL.yes rfl rfl rfl hb4 rfl (op_fieldAddr rfl Fa.F46_2 ?_)
      refine WL.yes rfl rfl rfl hb4 rfl (op_load rfl (H2.cell (i := 0) rfl rfl) Tryd.underlying5 rfl ?_)
      refine WL.yes rfl rfl rfl hb4 rfl (op_geqU8 (b := 1) rfl rfl ?_)
      refine WL.op rfl rfl (op_pickT rfl hb4 rfl ?_)
      refine WL.op rfl rfl (op_move rfl ?_)
      refine WL.split (t := 19) rfl (fun (hb5 : (decide (x.kind ≥ (1 : UInt8))) = true) => ?_) (fun (hb5 : (decide (x.kind ≥ (1 : UInt8))) = false) => ?_)
      ·
        have hc5 := of_decide_eq_true hb5
        refine WL.yes rfl rfl rfl hb5 rfl (op_fieldAddr rfl Fa.F78_0 ?_)
        refine WL.yes rfl rfl rfl hb5 rfl (op_fieldAddr rfl Fa.F46_2 ?_)
        refine WL.yes rfl rfl rfl hb5 rfl (op_load rfl (H2.cell (i := 0) rfl rfl) Tryd.underlying5 rfl ?_)
        refine WL.yes rfl rfl rfl hb5 rfl (op_leqU8 (b := 3) rfl rfl ?_)
        refine WL.op rfl rfl (op_pickT rfl hb5 rfl ?_)
        refine WL.op rfl rfl (op_move rfl ?_)
        refine WL.split (t := 25) rfl (fun (hb6 : (decide (x.kind ≤ (3 : UInt8))) = true) => ?_) (fun (hb6 : (decide (x.kind ≤ (3 : UInt8))) = false) => ?_)
        ·
          have hc6 := of_decide_eq_true hb6
          refine WL.yes rfl rfl rfl hb6 rfl (op_loadS (vs := [_, _, _, _, _, _, _]) rfl (H2.cells (i := 0) rfl rfl) Tryd.underlying78 rfl Fa.I78 rfl ?_)
          refine WL.yes rfl rfl rfl hb6 rfl (op_callF Fa.C45 rfl ((sized_ok x _ (SyD_mk (x := x) ((SyD_rl (SyD.fr0 hI H2.fr))) ((SyD_nt (SyD.fr0 hI H2.fr)))) hn hb hr hm hq).mono (fun e w7 hq => ?_)))
          obtain ⟨rfl, hf7⟩ := hq
          refine ⟨_, rfl, ?_⟩
          have H7 := H2.fr' hf7
          refine WL.op rfl rfl (op_pickT rfl hb6 rfl ?_)
          refine WL.op rfl rfl (op_move rfl ?_)
          refine WL.split (t := 29) rfl (fun (hb8 : (sizedB x) = true) => ?_) (fun (hb8 : (sizedB x) = false) => ?_)
          ·
            refine WL.yes rfl rfl rfl hb8 rfl (op_loadS (vs := [_, _, _, _, _, _, _]) rfl (H7.cells (i := 0) rfl rfl) Tryd.underlying78 rfl Fa.I78 rfl ?_)
            refine WL.yes rfl rfl rfl hb8 rfl (op_callF Fa.C46 rfl ((places_ok x _ (SyD_mk (x := x) ((SyD_rl (SyD.fr0 hI H7.fr))) ((SyD_nt (SyD.fr0 hI H7.fr)))) hn hb hr hm hq).mono (fun e w9 hq => ?_)))
            obtain ⟨rfl, hf9⟩ := hq
            refine ⟨_, rfl, ?_⟩
            have H9 := H7.fr' hf9
            refine WL.op rfl rfl (op_pickT rfl hb8 rfl ?_)
            refine WL.op rfl rfl (op_move rfl ?_)
            refine WL.split (t := 33) rfl (fun (hb10 : (relsB x.b.length x.rl) = true) => ?_) (fun (hb10 : (relsB x.b.length x.rl) = false) => ?_)
            ·
              refine WL.yes rfl rfl rfl hb10 rfl (op_fieldAddr rfl Fa.F78_0 ?_)
              refine WL.yes rfl rfl rfl hb10 rfl (op_fieldAddr rfl Fa.F46_6 ?_)
              refine WL.yes rfl rfl rfl hb10 rfl (op_load rfl (H9.cell (i := 0) rfl rfl) Tryd.underlying43 rfl ?_)
              refine WL.yes rfl rfl rfl hb10 rfl (op_lenA Tryd.underlying43 rfl ((SyD_nt (SyD.fr0 hI H9.fr))) ?_)
              refine WL.yes rfl rfl rfl hb10 rfl (op_leqN (b := 8) rfl rfl ?_)
              refine WL.op rfl rfl (op_pickT rfl hb10 rfl ?_)
              refine WL.op rfl rfl (op_move rfl ?_)
              refine WL.split (t := 40) rfl (fun (hb11 : (decide (x.nt.length ≤ 8)) = true) => ?_) (fun (hb11 : (decide (x.nt.length ≤ 8)) = false) => ?_)
              ·
                have hc11 := of_decide_eq_true hb11
                refine WL.yes rfl rfl rfl hb11 rfl (op_fieldAddr rfl Fa.F78_0 ?_)
                refine WL.yes rfl rfl rfl hb11 rfl (op_fieldAddr rfl Fa.F46_6 ?_)
                refine WL.yes rfl rfl rfl hb11 rfl (op_load rfl (H9.cell (i := 0) rfl rfl) Tryd.underlying43 rfl ?_)
                refine WL.yes rfl rfl rfl hb11 rfl (op_callF Fa.C47 rfl ((conN_ok _ x.nt _ ((SyD_nt (SyD.fr0 hI H9.fr))) (by omega)).mono (fun e w12 hq => ?_)))
                obtain ⟨rfl, hf12⟩ := hq
                refine ⟨_, rfl, ?_⟩
                have H12 := H9.fr' hf12
                refine WL.yes rfl rfl rfl hb11 rfl (op_not rfl ?_)
                refine WL.op rfl rfl (op_pickT rfl hb11 rfl ?_)
                refine WL.op rfl rfl (op_assign rfl ?_)
                refine WL.nil ?_
                refine WQ.next ?_
                refine WC.ret ?_
                refine WQ.out (.tmp rfl .nil) ?_
                exact ⟨by (rw [sym_eq, symU, hb3, hb4, hb5, hb6, hb8, hb10, hb11]) <;> rfl, H12.fr⟩
              ·
                have hc11 := of_decide_eq_false hb11
                refine WL.no rfl rfl rfl hb11 rfl ?_
                refine WL.no rfl rfl rfl hb11 rfl ?_
                refine WL.no rfl rfl rfl hb11 rfl ?_
                refine WL.no rfl rfl rfl hb11 rfl ?_
                refine WL.no rfl rfl rfl hb11 rfl ?_
                refine WL.op rfl rfl (op_pickF rfl hb11 rfl ?_)
                refine WL.op rfl rfl (op_assign rfl ?_)
                refine WL.nil ?_
                refine WQ.next ?_
                refine WC.ret ?_
                refine WQ.out (.tmp rfl .nil) ?_
                exact ⟨by (rw [sym_eq, symU, hb3, hb4, hb5, hb6, hb8, hb10, hb11]) <;> rfl, H9.fr⟩
            ·
              refine WL.no rfl rfl rfl hb10 rfl ?_
              refine WL.no rfl rfl rfl hb10 rfl ?_
              refine WL.no rfl rfl rfl hb10 rfl ?_
              refine WL.no rfl rfl rfl hb10 rfl ?_
              refine WL.no rfl rfl rfl hb10 rfl ?_
              refine WL.op rfl rfl (op_pickF rfl hb10 rfl ?_)
              refine WL.op rfl rfl (op_move rfl ?_)
              refine WL.no rfl rfl rfl rfl rfl ?_
              refine WL.no rfl rfl rfl rfl rfl ?_
              refine WL.no rfl rfl rfl rfl rfl ?_
              refine WL.no rfl rfl rfl rfl rfl ?_
              refine WL.no rfl rfl rfl rfl rfl ?_
              refine WL.op rfl rfl (op_pickF rfl rfl rfl ?_)
              refine WL.op rfl rfl (op_assign rfl ?_)
              refine WL.nil ?_
              refine WQ.next ?_
              refine WC.ret ?_
              refine WQ.out (.tmp rfl .nil) ?_
              exact ⟨by (rw [sym_eq, symU, hb3, hb4, hb5, hb6, hb8, hb10]) <;> rfl, H9.fr⟩
          ·
            refine WL.no rfl rfl rfl hb8 rfl ?_
            refine WL.no rfl rfl rfl hb8 rfl ?_
            refine WL.op rfl rfl (op_pickF rfl hb8 rfl ?_)
            refine WL.op rfl rfl (op_move rfl ?_)
            refine WL.no rfl rfl rfl rfl rfl ?_
            refine WL.no rfl rfl rfl rfl rfl ?_
            refine WL.no rfl rfl rfl rfl rfl ?_
            refine WL.no rfl rfl rfl rfl rfl ?_
            refine WL.no rfl rfl rfl rfl rfl ?_
            refine WL.op rfl rfl (op_pickF rfl rfl rfl ?_)
            refine WL.op rfl rfl (op_move rfl ?_)
            refine WL.no rfl rfl rfl rfl rfl ?_
            refine WL.no rfl rfl rfl rfl rfl ?_
            refine WL.no rfl rfl rfl rfl rfl ?_
            refine WL.no rfl rfl rfl rfl rfl ?_
            refine WL.no rfl rfl rfl rfl rfl ?_
            refine WL.op rfl rfl (op_pickF rfl rfl rfl ?_)
            refine WL.op rfl rfl (op_assign rfl ?_)
            refine WL.nil ?_
            refine WQ.next ?_
            refine WC.ret ?_
            refine WQ.out (.tmp rfl .nil) ?_
            exact ⟨by (rw [sym_eq, symU, hb3, hb4, hb5, hb6, hb8]) <;> rfl, H7.fr⟩
        ·
          have hc6 := of_decide_eq_false hb6
          refine WL.no rfl rfl rfl hb6 rfl ?_
          refine WL.no rfl rfl rfl hb6 rfl ?_
          refine WL.op rfl rfl (op_pickF rfl hb6 rfl ?_)
          refine WL.op rfl rfl (op_move rfl ?_)
          refine WL.no rfl rfl rfl rfl rfl ?_
          refine WL.no rfl rfl rfl rfl rfl ?_
          refine WL.op rfl rfl (op_pickF rfl rfl rfl ?_)
          refine WL.op rfl rfl (op_move rfl ?_)
          refine WL.no rfl rfl rfl rfl rfl ?_
          refine WL.no rfl rfl rfl rfl rfl ?_
          refine WL.no rfl rfl rfl rfl rfl ?_
          refine WL.no rfl rfl rfl rfl rfl ?_
          refine WL.no rfl rfl rfl rfl rfl ?_
          refine WL.op rfl rfl (op_pickF rfl rfl rfl ?_)
          refine WL.op rfl rfl (op_move rfl ?_)
          refine WL.no rfl rfl rfl rfl rfl ?_
          refine WL.no rfl rfl rfl rfl rfl ?_
          refine WL.no rfl rfl rfl rfl rfl ?_
          refine WL.no rfl rfl rfl rfl rfl ?_
          refine WL.no rfl rfl rfl rfl rfl ?_
          refine WL.op rfl rfl (op_pickF rfl rfl rfl ?_)
          refine WL.op rfl rfl (op_assign rfl ?_)
          refine WL.nil ?_
          refine WQ.next ?_
          refine WC.ret ?_
          refine WQ.out (.tmp rfl .nil) ?_
          exact ⟨by (rw [sym_eq, symU, hb3, hb4, hb5, hb6]) <;> rfl, H2.fr⟩
      ·
        have hc5 := of_decide_eq_false hb5
        refine WL.no rfl rfl rfl hb5 rfl ?_
        refine WL.no rfl rfl rfl hb5 rfl ?_
        refine WL.no rfl rfl rfl hb5 rfl ?_
        refine WL.no rfl rfl rfl hb5 rfl ?_
        refine WL.op rfl rfl (op_pickF rfl hb5 rfl ?_)
        refine WL.op rfl rfl (op_move rfl ?_)
        refine WL.no rfl rfl rfl rfl rfl ?_
        refine WL.no rfl rfl rfl rfl rfl ?_
        refine WL.op rfl rfl (op_pickF rfl rfl rfl ?_)
        refine WL.op rfl rfl (op_move rfl ?_)
        refine WL.no rfl rfl rfl rfl rfl ?_
        refine WL.no rfl rfl rfl rfl rfl ?_
        refine WL.op rfl rfl (op_pickF rfl rfl rfl ?_)
        refine WL.op rfl rfl (op_move rfl ?_)
        refine WL.no rfl rfl rfl rfl rfl ?_
        refine WL.no rfl rfl rfl rfl rfl ?_
        refine WL.no rfl rfl rfl rfl rfl ?_
        refine WL.no rfl rfl rfl rfl rfl ?_
        refine WL.no rfl rfl rfl rfl rfl ?_
        refine WL.op rfl rfl (op_pickF rfl rfl rfl ?_)
        refine WL.op rfl rfl (op_move rfl ?_)
        refine WL.no rfl rfl rfl rfl rfl ?_
        refine WL.no rfl rfl rfl rfl rfl ?_
        refine WL.no rfl rfl rfl rfl rfl ?_
        refine WL.no rfl rfl rfl rfl rfl ?_
        refine WL.no rfl rfl rfl rfl rfl ?_
        refine WL.op rfl rfl (op_pickF rfl rfl rfl ?_)
        refine WL.op rfl rfl (op_assign rfl ?_)
        refine WL.nil ?_
        refine WQ.next ?_
        refine WC.ret ?_
        refine WQ.out (.tmp rfl .nil) ?_
        exact ⟨by (rw [sym_eq, symU, hb3, hb4, hb5]) <;> rfl, H2.fr⟩
    ·
      have hc4 := of_decide_eq_false hb4
      refine WL.no rfl rfl rfl hb4 rfl ?_
      refine WL.no rfl rfl rfl hb4 rfl ?_
      refine WL.no rfl rfl rfl hb4 rfl ?_
      refine WL.no rfl rfl rfl hb4 rfl ?_
      refine WL.op rfl rfl (op_pickF rfl hb4 rfl ?_)
      refine WL.op rfl rfl (op_move rfl ?_)
      refine WL.no rfl rfl rfl rfl rfl ?_
      refine WL.no rfl rfl rfl rfl rfl ?_
      refine WL.no rfl rfl rfl rfl rfl ?_
      refine WL.no rfl rfl rfl rfl rfl ?_
      refine WL.op rfl rfl (op_pickF rfl rfl rfl ?_)
      refine WL.op rfl rfl (op_move rfl ?_)
      refine WL.no rfl rfl rfl rfl rfl ?_
      refine WL.no rfl rfl rfl rfl rfl ?_
      refine WL.op rfl rfl (op_pickF rfl rfl rfl ?_)
      refine WL.op rfl rfl (op_move rfl ?_)
      refine WL.no rfl rfl rfl rfl rfl ?_
      refine WL.no rfl rfl rfl rfl rfl ?_
      refine WL.op rfl rfl (op_pickF rfl rfl rfl ?_)
      refine WL.op rfl rfl (op_move rfl ?_)
      refine WL.no rfl rfl rfl rfl rfl ?_
      refine WL.no rfl rfl rfl rfl rfl ?_
      refine WL.no rfl rfl rfl rfl rfl ?_
      refine WL.no rfl rfl rfl rfl rfl ?_
      refine WL.no rfl rfl rfl rfl rfl ?_
      refine WL.op rfl rfl (op_pickF rfl rfl rfl ?_)
      refine WL.op rfl rfl (op_move rfl ?_)
      refine WL.no rfl rfl rfl rfl rfl ?_
      refine WL.no rfl rfl rfl rfl rfl ?_
      refine WL.no rfl rfl rfl rfl rfl ?_
      refine WL.no rfl rfl rfl rfl rfl ?_
      refine WL.no rfl rfl rfl rfl rfl ?_
      refine WL.op rfl rfl (op_pickF rfl rfl rfl ?_)
      refine WL.op rfl rfl (op_assign rfl ?_)
      refine WL.nil ?_
      refine WQ.next ?_
      refine WC.ret ?_
      refine WQ.out (.tmp rfl .nil) ?_
      exact ⟨by (rw [sym_eq, symU, hb3, hb4]) <;> rfl, H2.fr⟩
  ·
    refine WL.no rfl rfl rfl hb3 rfl ?_
    refine WL.no rfl rfl rfl hb3 rfl ?_
    refine WL.no rfl rfl rfl hb3 rfl ?_
    refine WL.no rfl rfl rfl hb3 rfl ?_
    refine WL.op rfl rfl (op_pickF rfl hb3 rfl ?_)
    refine WL.op rfl rfl (op_move rfl ?_)
    refine WL.no rfl rfl rfl rfl rfl ?_
    refine WL.no rfl rfl rfl rfl rfl ?_
    refine WL.no rfl rfl rfl rfl rfl ?_
    refine WL.no rfl rfl rfl rfl rfl ?_
    refine WL.op rfl rfl (op_pickF rfl rfl rfl ?_)
    refine WL.op rfl rfl (op_move rfl ?_)
    refine WL.no rfl rfl rfl rfl rfl ?_
    refine WL.no rfl rfl rfl rfl rfl ?_
    refine WL.no rfl rfl rfl rfl rfl ?_
    refine WL.no rfl rfl rfl rfl rfl ?_
    refine WL.op rfl rfl (op_pickF rfl rfl rfl ?_)
    refine WL.op rfl rfl (op_move rfl ?_)
    refine WL.no rfl rfl rfl rfl rfl ?_
    refine WL.no rfl rfl rfl rfl rfl ?_
    refine WL.op rfl rfl (op_pickF rfl rfl rfl ?_)
    refine WL.op rfl rfl (op_move rfl ?_)
    refine WL.no rfl rfl rfl rfl rfl ?_
    refine WL.no rfl rfl rfl rfl rfl ?_
    refine WL.op rfl rfl (op_pickF rfl rfl rfl ?_)
    refine WL.op rfl rfl (op_move rfl ?_)
    refine WL.no rfl rfl rfl rfl rfl ?_
    refine WL.no rfl rfl rfl rfl rfl ?_
    refine WL.no rfl rfl rfl rfl rfl ?_
    refine WL.no rfl rfl rfl rfl rfl ?_
    refine WL.no rfl rfl rfl rfl rfl ?_
    refine WL.op rfl rfl (op_pickF rfl rfl rfl ?_)
    refine WL.op rfl rfl (op_move rfl ?_)
    refine WL.no rfl rfl rfl rfl rfl ?_
    refine WL.no rfl rfl rfl rfl rfl ?_
    refine WL.no rfl rfl rfl rfl rfl ?_
    refine WL.no rfl rfl rfl rfl rfl ?_
    refine WL.no rfl rfl rfl rfl rfl ?_
    refine WL.op rfl rfl (op_pickF rfl rfl rfl ?_)
    refine WL.op rfl rfl (op_assign rfl ?_)
    refine WL.nil ?_
    refine WQ.next ?_
    refine WC.ret ?_
    refine WQ.out (.tmp rfl .nil) ?_
    exact ⟨by (rw [sym_eq, symU, hb3]) <;> rfl, H2.fr⟩
set_option maxRecDepth 100000 in
theorem osym_ok (x : Sy) (w : World) (hI : SyD.ok w x) (hn : x.nm.length < 2 ^ 47) (hb : x.b.length < 2 ^ 32) (hr : ∀ y ∈ x.rl, y.nm.length < 2 ^ 47) (hm : x.rl.length < 2 ^ 40) (hq : x.nt.length < 2 ^ 40) :
    Calls Tryd.prog 31 #[(.agg #[(str x.nm), (vU8 x.bind), (vU8 x.kind), (vU32 x.size), (str x.b), x.rv, x.nv])] w (fun e w' => e = .returned (vN (symE x)) ∧ Fr [] w w') := by
  refine enter (args := [(.agg #[(str x.nm), (vU8 x.bind), (vU8 x.kind), (vU32 x.size), (str x.b), x.rv, x.nv])]) Tryd.func31 rfl rfl ?_
  have H0 : Own [] w w [] := Own.start w []
  refine WC.seq ?_
  refine WC.region ?_
  refine WL.op rfl rfl (op_box H0 rfl rfl (fun b1 w1 H1 => ?_))
  refine WL.op rfl rfl (op_assign rfl ?_)
  refine WL.nil ?_
  refine WQ.next ?_
  refine WC.seq ?_
  refine WC.region ?_
  refine WL.op rfl rfl (op_loadS (vs := [_, _, _, _, _, _, _]) rfl (H1.cells (i := 0) rfl rfl) Tryd.underlying46 rfl Fa.I46 rfl ?_)
  refine WL.op rfl rfl (op_build (cs := [_, _, _, _, _, _, _]) Fa.I78 Fa.PL78 rfl rfl ?_)
  refine WL.op rfl rfl (op_callF Fa.C40 rfl ((omay_ok x _ (SyD_mk (x := x) ((SyD_rl (SyD.fr0 hI H1.fr))) ((SyD_nt (SyD.fr0 hI H1.fr)))) hn hb hr hm hq).mono (fun e w2 hq => ?_)))
  obtain ⟨rfl, hf2⟩ := hq
  refine ⟨_, rfl, ?_⟩
  have H2 := H1.fr' hf2
  refine WL.op rfl rfl (op_callF Fa.C39 rfl ((told_ok (symB x) _).mono (fun e w3 hq => ?_)))
  obtain ⟨rfl, hf3⟩ := hq
  refine ⟨_, rfl, ?_⟩
  have H3 := H2.fr' hf3
  refine WL.op rfl rfl (op_assign rfl ?_)
  refine WL.nil ?_
  refine WQ.next ?_
  refine WC.ret ?_
  refine WQ.out (.tmp rfl .nil) ?_
  exact ⟨rfl, H3.fr⟩
end Go.Proofs.YtbdghnbfnnamkaaDoor
/-! from DInsn -/
namespace Go.Proofs.YtbdghnbfnnamkaaDoor
open Go.Owl Go.Spec
set_option maxRecDepth 100000 in
theorem text_ok (v : Value) (m : Nat) (l : List UInt8) (w : World) (hA : Arr w v 1 m (l.map vU8)) :
    Calls Tryd.prog 50 #[v] w (fun e w' => e = .returned (str l) ∧ Fr [] w w') := by
  refine enter (args := [v]) Tryd.func50 rfl rfl ?_
  have H0 : Own [] w w [] := Own.start w []
  refine WC.seq ?_
  refine WC.region ?_
  refine WL.op rfl rfl (op_assign rfl ?_)
  refine WL.nil ?_
  refine WQ.next ?_
  refine WC.seq ?_
  refine WC.region ?_
  refine WL.op rfl rfl (op_move rfl ?_)
  refine WL.op rfl rfl (op_bytesStr (l := l) Tryd.underlying84 Tryd.underlying5 Tryd.underlying9 rfl (H0.arr hA) rfl ?_)
  refine WL.op rfl rfl (op_assign rfl ?_)
  refine WL.nil ?_
  refine WQ.next ?_
  refine WC.ret ?_
  refine WQ.out (.tmp rfl .nil) ?_
  exact ⟨rfl, H0.fr⟩
set_option maxRecDepth 100000 in
theorem put4_ok (v : UInt32) (w : World) :
    Calls Tryd.prog 43 #[(vU32 v), (vN 4)] w (fun e w' => e = .returned (.tuple #[str (le4 v), vN 0]) ∧ Fr [] w w') := by
  refine enter (args := [(vU32 v), (vN 4)]) Tryd.func43 rfl rfl ?_
  have H0 : Own [] w w [] := Own.start w []
  refine WC.seq ?_
  refine WC.region ?_
  refine WL.op rfl rfl (op_assign rfl ?_)
  refine WL.op rfl rfl (op_assign rfl ?_)
  refine WL.nil ?_
  refine WQ.next ?_
  refine WC.seq ?_
  refine WC.block ?_
  refine WC.seq ?_
  refine WC.region ?_
  refine WL.op rfl rfl (op_move rfl ?_)
  refine WL.op rfl rfl (op_lssN (b := 1) rfl rfl ?_)
  refine WL.op rfl rfl (op_move rfl ?_)
  refine WL.yes rfl rfl rfl (by decide) rfl (op_move rfl ?_)
  refine WL.yes rfl rfl rfl (by decide) rfl (op_gtrN (b := 4) rfl rfl ?_)
  refine WL.op rfl rfl (op_pickF rfl (by decide) rfl ?_)
  refine WL.op rfl rfl (op_assign rfl ?_)
  refine WL.nil ?_
  refine WQ.next ?_
  refine WC.no rfl (by decide) ?_
  refine WC.seq ?_
  refine WC.region ?_
  refine WL.op rfl rfl (op_move rfl ?_)
  refine WL.op rfl rfl (op_lssN (b := 4) rfl rfl ?_)
  refine WL.op rfl rfl (op_move rfl ?_)
  refine WL.no rfl rfl rfl (by decide) rfl ?_
  refine WL.no rfl rfl rfl (by decide) rfl ?_
  refine WL.no rfl rfl rfl (by decide) rfl ?_
  refine WL.no rfl rfl rfl (by decide) rfl ?_
  refine WL.no rfl rfl rfl (by decide) rfl ?_
  refine WL.op rfl rfl (op_pickF rfl (by decide) rfl ?_)
  refine WL.op rfl rfl (op_assign rfl ?_)
  refine WL.nil ?_
  refine WQ.next ?_
  refine WC.no rfl rfl ?_
  refine WC.skip ?_
  refine WQ.inNormal ?_
  refine WQ.next ?_
  refine WC.seq ?_
  refine WC.region ?_
  refine WL.op rfl rfl (op_move rfl ?_)
  refine WL.op rfl rfl (op_convU32U8 (hs := Tryd.underlying22) (hd := Tryd.underlying5) rfl ?_)
  refine WL.op rfl rfl (op_move rfl ?_)
  refine WL.op rfl rfl (op_shrU32 (s := 8) rfl rfl ?_)
  refine WL.op rfl rfl (op_convU32U8 (hs := Tryd.underlying22) (hd := Tryd.underlying5) rfl ?_)
  refine WL.op rfl rfl (op_move rfl ?_)
  refine WL.op rfl rfl (op_shrU32 (s := 16) rfl rfl ?_)
  refine WL.op rfl rfl (op_convU32U8 (hs := Tryd.underlying22) (hd := Tryd.underlying5) rfl ?_)
  refine WL.op rfl rfl (op_move rfl ?_)
  refine WL.op rfl rfl (op_shrU32 (s := 24) rfl rfl ?_)
  refine WL.op rfl rfl (op_convU32U8 (hs := Tryd.underlying22) (hd := Tryd.underlying5) rfl ?_)
  refine WL.op rfl rfl (op_buildSlice (cs := [_, _, _, _]) H0 Tryd.underlying84 Fa.I5 rfl rfl rfl rfl (by decide) (by decide) (fun b1 w1 H1 => ?_))
  refine WL.op rfl rfl (op_move rfl ?_)
  refine WL.op rfl rfl (op_cutHi Tryd.underlying84 Fa.I5 rfl (H1.arrR (i := 0) rfl) rfl (by omega) ?_)
  refine WL.op rfl rfl (op_callF Fa.C50 rfl ((text_ok _ _ (([(UInt8.ofNat v.toNat), (UInt8.ofNat (shrU32 v 8).toNat), (UInt8.ofNat (shrU32 v 16).toNat), (UInt8.ofNat (shrU32 v 24).toNat)].take 4)) _ (((H1.arrR (i := 0) rfl)).cutHiM (f := vU8) (l := [(UInt8.ofNat v.toNat), (UInt8.ofNat (shrU32 v 8).toNat), (UInt8.ofNat (shrU32 v 16).toNat), (UInt8.ofNat (shrU32 v 24).toNat)]) (b := 4) (by omega))).mono (fun e w2 hq => ?_)))
  obtain ⟨rfl, hf2⟩ := hq
  refine ⟨_, rfl, ?_⟩
  have H2 := H1.fr' hf2
  refine WL.op rfl rfl (op_assign rfl ?_)
  refine WL.op rfl rfl (op_assign rfl ?_)
  refine WL.nil ?_
  refine WQ.next ?_
  refine WC.ret ?_
  refine WQ.out (.tmp rfl (.tmp rfl .nil)) ?_
  exact ⟨rfl, H2.fr⟩
set_option maxRecDepth 100000 in
theorem table_ok  (w : World) :
    Calls Tryd.prog 41 #[] w (fun e w' => e = .returned (.agg (tabL.map vU8).toArray) ∧ Fr [] w w') := by
  refine enter (args := []) Tryd.func41 rfl rfl ?_
  have H0 : Own [] w w [] := Own.start w []
  refine WC.seq ?_
  refine WC.region ?_
  refine WL.op rfl rfl (op_alloc H0 Fa.I79 (fun b1 w1 H1 => ?_))
  refine WL.nil ?_
  refine WQ.next ?_
  refine WC.seq ?_
  refine WC.region ?_
  refine WL.op rfl rfl (op_buildA (cs := tab0.map vU8) Fa.I79 Tryd.underlying79 Fa.I5 rfl (by kernel_rfl) ?_)
  refine WL.op rfl rfl (op_alloc H1 Fa.I79 (fun b2 w2 H2 => ?_))
  refine WL.op rfl rfl (op_storeBV (i := 1) H2 rfl rfl rfl (by kernel_rfl) (by kernel_rfl) (by kernel_rfl) Fa.I79 (fun w3 H3 => ?_))
  refine WL.nil ?_
  refine WQ.next ?_
  refine WC.seq ?_
  refine WC.seq ?_
  refine WC.region ?_
  refine WL.op rfl rfl (op_assign rfl ?_)
  refine WL.nil ?_
  refine WQ.next ?_
  refine WC.block ?_
  refine WC.loop (α := Nat) (fun k => [(0, (ptr b1 0)), (1, (ptr b2 0)), (2, (vN (k + 1)))]) (fun k w' => (k ≤ 14) ∧ Own [] w w' [.blk b1 (List.replicate 256 (vU8 0)) 79, .blk b2 ((tabTo k).map vU8) 79]) (fun k => 14 - k) 0 ⟨(by omega), H3⟩ ⟨rfl, rfl, rfl, trivial⟩ ?_
  rintro k w4 ⟨hinv, H4⟩
  show WC _ _ _ _ _ [(0, (ptr b1 0)), (1, (ptr b2 0)), (2, (vN (k + 1)))] _
  refine WC.seq ?_
  refine WC.seq ?_
  refine WC.region ?_
  refine WL.op rfl rfl (op_move rfl ?_)
  refine WL.op rfl rfl (op_leqN (b := 14) rfl rfl ?_)
  refine WL.nil ?_
  refine WQ.next ?_
  refine WC.cond rfl (fun (hb5 : (decide ((k + 1) ≤ 14)) = true) => ?_) (fun (hb5 : (decide ((k + 1) ≤ 14)) = false) => ?_)
  ·
    have hc5 := of_decide_eq_true hb5
    refine WC.skip ?_
    refine WQ.next ?_
    refine WC.seq ?_
    refine WC.block ?_
    refine WC.region ?_
    refine WL.op rfl rfl (op_move rfl ?_)
    refine WL.op rfl rfl (op_indexAddrA1 Tryd.underlying79 Fa.I5 rfl rfl (by omega) ?_)
    refine WL.op rfl rfl (op_storeB (i := 1) H4 rfl rfl rfl (by rw [Nat.blt_eq, List.length_map, tabTo_length]; omega) rfl Fa.I5 (fun w6 H6 => ?_))
    refine WL.nil ?_
    refine WQ.inNormal ?_
    refine WQ.next ?_
    refine WC.region ?_
    refine WL.op rfl rfl (op_move rfl ?_)
    refine WL.op rfl rfl (op_addN (b := 1) rfl rfl (by omega) ?_)
    refine WL.op rfl rfl (op_assign rfl ?_)
    refine WL.nil ?_
    exact WQ.round (k + 1) ⟨(by omega), (by rw [show (tabTo (k + 1)).map vU8 = ((tabTo k).map vU8).set (0 + (k + 1)) (vU8 7) from by rw [Nat.zero_add, set_map vU8]; rfl]; exact H6)⟩ ⟨rfl, rfl, rfl, trivial⟩ (by omega)
  ·
    have hc5 := of_decide_eq_false hb5
    refine WC.exit ?_
    refine WQ.thenExit ?_
    refine WQ.thenExit ?_
    refine WQ.inHere ?_
    refine WQ.next ?_
    refine WC.seq ?_
    refine WC.region ?_
    refine WL.op rfl rfl (op_loadS rfl (H4.cellsW (i := 1) rfl) Tryd.underlying79 rfl Fa.I79 (by rw [List.length_map, tabTo_length]) ?_)
    refine WL.op rfl rfl (op_storeBV (i := 0) H4 rfl rfl rfl (by rw [List.length_map, tabTo_length, List.length_replicate]; rfl) (one_U8 _) (by rw [List.length_map, tabTo_length]) Fa.I79 (fun w7 H7 => ?_))
    refine WL.nil ?_
    refine WQ.next ?_
    refine WC.ret ?_
    refine WQ.out (.cell rfl (run_loadVarS (H7.cellsW (i := 0) rfl) Tryd.underlying79 rfl Fa.I79 (by rw [List.length_map, tabTo_length])) .nil) ?_
    exact ⟨by have hk : k = 14 := (by omega); subst hk; rfl, H7.fr⟩
set_option maxRecDepth 100000 in
theorem check1_ok (n bit u : UInt8) (q : Nat) (w : World) (hc : w.cell? ⟨q, 0, none⟩ = some (vU8 u)) :
    Calls Tryd.prog 42 #[(vU8 n), (vU8 bit), (ptr q 0)] w (fun e w' => e = .returned (.bool (fitB u n bit)) ∧ Fr [] w w') := by
  refine enter (args := [(vU8 n), (vU8 bit), (ptr q 0)]) Tryd.func42 rfl rfl ?_
  have H0 : Own [] w w [] := Own.start w []
  refine WC.seq ?_
  refine WC.region ?_
  refine WL.op rfl rfl (op_assign rfl ?_)
  refine WL.nil ?_
  refine WQ.next ?_
  refine WC.seq ?_
  refine WC.region ?_
  refine WL.op rfl rfl (op_move rfl ?_)
  refine WL.op rfl rfl (op_eqlU8 (b := 0) rfl rfl ?_)
  refine WL.op rfl rfl (op_move rfl ?_)
  refine WL.split (t := 8) rfl (fun (hb1 : (decide (n = (0 : UInt8))) = true) => ?_) (fun (hb1 : (decide (n = (0 : UInt8))) = false) => ?_)
  ·
    have hc1 := of_decide_eq_true hb1
    refine WL.no rfl rfl rfl hb1 rfl ?_
    refine WL.no rfl rfl rfl hb1 rfl ?_
    refine WL.no rfl rfl rfl hb1 rfl ?_
    refine WL.no rfl rfl rfl hb1 rfl ?_
    refine WL.no rfl rfl rfl hb1 rfl ?_
    refine WL.non rfl rfl rfl rfl ?_
    refine WL.non rfl rfl rfl rfl ?_
    refine WL.no rfl rfl rfl hb1 rfl ?_
    refine WL.op rfl rfl (op_pickT rfl hb1 rfl ?_)
    refine WL.op rfl rfl (op_assign rfl ?_)
    refine WL.nil ?_
    refine WQ.next ?_
    refine WC.ret ?_
    refine WQ.out (.tmp rfl .nil) ?_
    exact ⟨by simp_all [tup, fitB], H0.fr⟩
  ·
    have hc1 := of_decide_eq_false hb1
    refine WL.yes rfl rfl rfl hb1 rfl (op_load rfl hc Tryd.underlying5 rfl ?_)
    refine WL.yes rfl rfl rfl hb1 rfl (op_move rfl ?_)
    refine WL.yes rfl rfl rfl hb1 rfl (op_andU8 rfl rfl ?_)
    refine WL.yes rfl rfl rfl hb1 rfl (op_neqU8 (b := 0) rfl rfl ?_)
    refine WL.yes rfl rfl rfl hb1 rfl (op_move rfl ?_)
    refine WL.split (t := 13) rfl (fun (hb2 : (decide ((u &&& bit) ≠ (0 : UInt8))) = true) => ?_) (fun (hb2 : (decide ((u &&& bit) ≠ (0 : UInt8))) = false) => ?_)
    ·
      have hc2 := of_decide_eq_true hb2
      refine WL.yes rfl rfl rfl hb2 rfl (op_move rfl ?_)
      refine WL.yes rfl rfl rfl hb2 rfl (op_lssU8 (b := 16) rfl rfl ?_)
      refine WL.yes rfl rfl rfl hb1 rfl (op_pickT rfl hb2 rfl ?_)
      refine WL.op rfl rfl (op_pickF rfl hb1 rfl ?_)
      refine WL.op rfl rfl (op_assign rfl ?_)
      refine WL.nil ?_
      refine WQ.next ?_
      refine WC.ret ?_
      refine WQ.out (.tmp rfl .nil) ?_
      exact ⟨by simp_all [tup, fitB], H0.fr⟩
    ·
      have hc2 := of_decide_eq_false hb2
      refine WL.no rfl rfl rfl hb2 rfl ?_
      refine WL.no rfl rfl rfl hb2 rfl ?_
      refine WL.yes rfl rfl rfl hb1 rfl (op_pickF rfl hb2 rfl ?_)
      refine WL.op rfl rfl (op_pickF rfl hb1 rfl ?_)
      refine WL.op rfl rfl (op_assign rfl ?_)
      refine WL.nil ?_
      refine WQ.next ?_
      refine WC.ret ?_
      refine WQ.out (.tmp rfl .nil) ?_
      exact ⟨by simp_all [tup, fitB], H0.fr⟩
set_option maxRecDepth 100000 in
theorem check_ok (op d a b : UInt8) (imm : UInt32) (w : World) :
    Calls Tryd.prog 36 #[(.agg #[(vU8 op), (vU8 d), (vU8 a), (vU8 b), (vU32 imm)])] w (fun e w' => e = .returned (vN (encE op d a b imm)) ∧ Fr [] w w') := by
  refine enter (args := [(.agg #[(vU8 op), (vU8 d), (vU8 a), (vU8 b), (vU32 imm)])]) Tryd.func36 rfl rfl ?_
  have H0 : Own [] w w [] := Own.start w []
  refine WC.seq ?_
  refine WC.region ?_
  refine WL.op rfl rfl (op_box H0 rfl rfl (fun b1 w1 H1 => ?_))
  refine WL.op rfl rfl (op_assign rfl ?_)
  refine WL.nil ?_
  refine WQ.next ?_
  refine WC.seq ?_
  refine WC.draw 5 Fa.M H1 (HW.op rfl (fun w1 H1 => op_callF Fa.C41 rfl ((table_ok _).mono (fun e w2 hq => ⟨_, hq.1, rfl, hq.2⟩))) (HW.op rfl (fun w1 H1 => op_fieldAddr rfl Fa.F24_0 ⟨rfl, Fr.refl _ _⟩) (HW.op rfl (fun w1 H1 => op_load rfl (H1.cell (i := 0) rfl rfl) Tryd.underlying5 rfl ⟨rfl, Fr.refl _ _⟩) (HW.op rfl (fun w1 H1 => op_indexA1 (cs := (tabL.map vU8)) Tryd.underlying79 Fa.I5 Tryd.underlying5 rfl rfl rfl op.toNat_lt (get_map vU8 0 (by rw [tabL, tabTo_length]; exact op.toNat_lt)) ⟨rfl, Fr.refl _ _⟩) (HW.flt (mk := fun bq => ptr bq.1 0) (ent := fun bq => .blk bq.1 _ _) rfl (fun w1 _ => op_alloc (Own.start w1 []) Fa.I5 (fun bq w2 H2 => ⟨(bq, undef), rfl, H2, True.intro⟩))  HW.nil))))) (by kernel_rfl) ?_
  intro β3 w3 H3
  refine WL.op rfl rfl (op_storeB (i := 1) H3 rfl rfl rfl rfl rfl Fa.I5 (fun w4 H4 => ?_))
  refine WL.nil ?_
  refine WQ.next ?_
  refine WC.seq ?_
  refine WC.region ?_
  refine WL.op rfl rfl (op_makeFunc rfl rfl ?_)
  refine WL.op rfl rfl (op_assign rfl ?_)
  refine WL.nil ?_
  refine WQ.next ?_
  refine WC.seq ?_
  refine WC.seq ?_
  refine WC.region ?_
  refine WL.op rfl rfl (op_load rfl (H4.cell (i := 1) rfl rfl) Tryd.underlying5 rfl ?_)
  refine WL.op rfl rfl (op_eqlU8 (b := 0) rfl rfl ?_)
  refine WL.op rfl rfl (op_move rfl ?_)
  refine WL.split (t := 12) rfl (fun (hb5 : (decide ((useOf op) = (0 : UInt8))) = true) => ?_) (fun (hb5 : (decide ((useOf op) = (0 : UInt8))) = false) => ?_)
  ·
    have hc5 := of_decide_eq_true hb5
    refine WL.no rfl rfl rfl hb5 rfl ?_
    refine WL.no rfl rfl rfl hb5 rfl ?_
    refine WL.no rfl rfl rfl hb5 rfl ?_
    refine WL.no rfl rfl rfl hb5 rfl ?_
    refine WL.no rfl rfl rfl hb5 rfl ?_
    refine WL.op rfl rfl (op_pickT rfl hb5 rfl ?_)
    refine WL.op rfl rfl (op_move rfl ?_)
    refine WL.no rfl rfl rfl rfl rfl ?_
    refine WL.no rfl rfl rfl rfl rfl ?_
    refine WL.no rfl rfl rfl rfl rfl ?_
    refine WL.no rfl rfl rfl rfl rfl ?_
    refine WL.no rfl rfl rfl rfl rfl ?_
    refine WL.op rfl rfl (op_pickT rfl rfl rfl ?_)
    refine WL.op rfl rfl (op_move rfl ?_)
    refine WL.no rfl rfl rfl rfl rfl ?_
    refine WL.no rfl rfl rfl rfl rfl ?_
    refine WL.no rfl rfl rfl rfl rfl ?_
    refine WL.no rfl rfl rfl rfl rfl ?_
    refine WL.no rfl rfl rfl rfl rfl ?_
    refine WL.op rfl rfl (op_pickT rfl rfl rfl ?_)
    refine WL.op rfl rfl (op_move rfl ?_)
    refine WL.no rfl rfl rfl rfl rfl ?_
    refine WL.no rfl rfl rfl rfl rfl ?_
    refine WL.no rfl rfl rfl rfl rfl ?_
    refine WL.no rfl rfl rfl rfl rfl ?_
    refine WL.non rfl rfl rfl rfl ?_
    refine WL.non rfl rfl rfl rfl ?_
    refine WL.non rfl rfl rfl rfl ?_
    refine WL.no rfl rfl rfl rfl rfl ?_
    refine WL.no rfl rfl rfl rfl rfl ?_
    refine WL.op rfl rfl (op_pickT rfl rfl rfl ?_)
    refine WL.nil ?_
    refine WQ.next ?_
    refine WC.yes rfl rfl ?_
    refine WC.seq ?_
    refine WC.region ?_
    refine WL.op rfl rfl (op_assign rfl ?_)
    refine WL.nil ?_
    refine WQ.next ?_
    refine WC.ret ?_
    refine WQ.thenRet ?_
    refine WQ.out (.tmp rfl .nil) ?_
    exact ⟨by simp_all [tup, encE, okB], H4.fr⟩
  ·
    have hc5 := of_decide_eq_false hb5
    refine WL.yes rfl rfl rfl hb5 rfl (op_move rfl ?_)
    refine WL.yes rfl rfl rfl hb5 rfl (op_fieldAddr rfl Fa.F24_1 ?_)
    refine WL.yes rfl rfl rfl hb5 rfl (op_load rfl (H4.cell (i := 0) rfl rfl) Tryd.underlying5 rfl ?_)
    refine WL.yes rfl rfl rfl hb5 rfl (op_call (f := 42) rfl Fa.C42 rfl ((check1_ok d 1 (useOf op) (β3 4).1 _ (H4.cell (i := 1) rfl rfl)).mono (fun e w6 hq => ?_)))
    obtain ⟨rfl, hf6⟩ := hq
    refine ⟨_, rfl, ?_⟩
    have H6 := H4.fr' hf6
    refine WL.yes rfl rfl rfl hb5 rfl (op_not rfl ?_)
    refine WL.op rfl rfl (op_pickF rfl hb5 rfl ?_)
    refine WL.op rfl rfl (op_move rfl ?_)
    refine WL.split (t := 19) rfl (fun (hb7 : (!(fitB (useOf op) d 1)) = true) => ?_) (fun (hb7 : (!(fitB (useOf op) d 1)) = false) => ?_)
    ·
      have hn7 := (Bool.not_eq_true' _).mp hb7
      refine WL.no rfl rfl rfl hb7 rfl ?_
      refine WL.no rfl rfl rfl hb7 rfl ?_
      refine WL.no rfl rfl rfl hb7 rfl ?_
      refine WL.no rfl rfl rfl hb7 rfl ?_
      refine WL.no rfl rfl rfl hb7 rfl ?_
      refine WL.op rfl rfl (op_pickT rfl hb7 rfl ?_)
      refine WL.op rfl rfl (op_move rfl ?_)
      refine WL.no rfl rfl rfl rfl rfl ?_
      refine WL.no rfl rfl rfl rfl rfl ?_
      refine WL.no rfl rfl rfl rfl rfl ?_
      refine WL.no rfl rfl rfl rfl rfl ?_
      refine WL.no rfl rfl rfl rfl rfl ?_
      refine WL.op rfl rfl (op_pickT rfl rfl rfl ?_)
      refine WL.op rfl rfl (op_move rfl ?_)
      refine WL.no rfl rfl rfl rfl rfl ?_
      refine WL.no rfl rfl rfl rfl rfl ?_
      refine WL.no rfl rfl rfl rfl rfl ?_
      refine WL.no rfl rfl rfl rfl rfl ?_
      refine WL.non rfl rfl rfl rfl ?_
      refine WL.non rfl rfl rfl rfl ?_
      refine WL.non rfl rfl rfl rfl ?_
      refine WL.no rfl rfl rfl rfl rfl ?_
      refine WL.no rfl rfl rfl rfl rfl ?_
      refine WL.op rfl rfl (op_pickT rfl rfl rfl ?_)
      refine WL.nil ?_
      refine WQ.next ?_
      refine WC.yes rfl rfl ?_
      refine WC.seq ?_
      refine WC.region ?_
      refine WL.op rfl rfl (op_assign rfl ?_)
      refine WL.nil ?_
      refine WQ.next ?_
      refine WC.ret ?_
      refine WQ.thenRet ?_
      refine WQ.out (.tmp rfl .nil) ?_
      exact ⟨by simp_all [tup, encE, okB], H6.fr⟩
    ·
      have hn7 := (Bool.not_eq_false' _).mp hb7
      refine WL.yes rfl rfl rfl hb7 rfl (op_move rfl ?_)
      refine WL.yes rfl rfl rfl hb7 rfl (op_fieldAddr rfl Fa.F24_2 ?_)
      refine WL.yes rfl rfl rfl hb7 rfl (op_load rfl (H6.cell (i := 0) rfl rfl) Tryd.underlying5 rfl ?_)
      refine WL.yes rfl rfl rfl hb7 rfl (op_call (f := 42) rfl Fa.C42 rfl ((check1_ok a 2 (useOf op) (β3 4).1 _ (H6.cell (i := 1) rfl rfl)).mono (fun e w8 hq => ?_)))
      obtain ⟨rfl, hf8⟩ := hq
      refine ⟨_, rfl, ?_⟩
      have H8 := H6.fr' hf8
      refine WL.yes rfl rfl rfl hb7 rfl (op_not rfl ?_)
      refine WL.op rfl rfl (op_pickF rfl hb7 rfl ?_)
      refine WL.op rfl rfl (op_move rfl ?_)
      refine WL.split (t := 26) rfl (fun (hb9 : (!(fitB (useOf op) a 2)) = true) => ?_) (fun (hb9 : (!(fitB (useOf op) a 2)) = false) => ?_)
      ·
        have hn9 := (Bool.not_eq_true' _).mp hb9
        refine WL.no rfl rfl rfl hb9 rfl ?_
        refine WL.no rfl rfl rfl hb9 rfl ?_
        refine WL.no rfl rfl rfl hb9 rfl ?_
        refine WL.no rfl rfl rfl hb9 rfl ?_
        refine WL.no rfl rfl rfl hb9 rfl ?_
        refine WL.op rfl rfl (op_pickT rfl hb9 rfl ?_)
        refine WL.op rfl rfl (op_move rfl ?_)
        refine WL.no rfl rfl rfl rfl rfl ?_
        refine WL.no rfl rfl rfl rfl rfl ?_
        refine WL.no rfl rfl rfl rfl rfl ?_
        refine WL.no rfl rfl rfl rfl rfl ?_
        refine WL.non rfl rfl rfl rfl ?_
        refine WL.non rfl rfl rfl rfl ?_
        refine WL.non rfl rfl rfl rfl ?_
        refine WL.no rfl rfl rfl rfl rfl ?_
        refine WL.no rfl rfl rfl rfl rfl ?_
        refine WL.op rfl rfl (op_pickT rfl rfl rfl ?_)
        refine WL.nil ?_
        refine WQ.next ?_
        refine WC.yes rfl rfl ?_
        refine WC.seq ?_
        refine WC.region ?_
        refine WL.op rfl rfl (op_assign rfl ?_)
        refine WL.nil ?_
        refine WQ.next ?_
        refine WC.ret ?_
        refine WQ.thenRet ?_
        refine WQ.out (.tmp rfl .nil) ?_
        exact ⟨by simp_all [tup, encE, okB], H8.fr⟩
      ·
        have hn9 := (Bool.not_eq_false' _).mp hb9
        refine WL.yes rfl rfl rfl hb9 rfl (op_move rfl ?_)
        refine WL.yes rfl rfl rfl hb9 rfl (op_fieldAddr rfl Fa.F24_3 ?_)
        refine WL.yes rfl rfl rfl hb9 rfl (op_load rfl (H8.cell (i := 0) rfl rfl) Tryd.underlying5 rfl ?_)
        refine WL.yes rfl rfl rfl hb9 rfl (op_call (f := 42) rfl Fa.C42 rfl ((check1_ok b 4 (useOf op) (β3 4).1 _ (H8.cell (i := 1) rfl rfl)).mono (fun e w10 hq => ?_)))
        obtain ⟨rfl, hf10⟩ := hq
        refine ⟨_, rfl, ?_⟩
        have H10 := H8.fr' hf10
        refine WL.yes rfl rfl rfl hb9 rfl (op_not rfl ?_)
        refine WL.op rfl rfl (op_pickF rfl hb9 rfl ?_)
        refine WL.op rfl rfl (op_move rfl ?_)
        refine WL.split (t := 33) rfl (fun (hb11 : (!(fitB (useOf op) b 4)) = true) => ?_) (fun (hb11 : (!(fitB (useOf op) b 4)) = false) => ?_)
        ·
          have hn11 := (Bool.not_eq_true' _).mp hb11
          refine WL.no rfl rfl rfl hb11 rfl ?_
          refine WL.no rfl rfl rfl hb11 rfl ?_
          refine WL.no rfl rfl rfl hb11 rfl ?_
          refine WL.no rfl rfl rfl hb11 rfl ?_
          refine WL.non rfl rfl rfl rfl ?_
          refine WL.non rfl rfl rfl rfl ?_
          refine WL.non rfl rfl rfl rfl ?_
          refine WL.no rfl rfl rfl hb11 rfl ?_
          refine WL.no rfl rfl rfl hb11 rfl ?_
          refine WL.op rfl rfl (op_pickT rfl hb11 rfl ?_)
          refine WL.nil ?_
          refine WQ.next ?_
          refine WC.yes rfl rfl ?_
          refine WC.seq ?_
          refine WC.region ?_
          refine WL.op rfl rfl (op_assign rfl ?_)
          refine WL.nil ?_
          refine WQ.next ?_
          refine WC.ret ?_
          refine WQ.thenRet ?_
          refine WQ.out (.tmp rfl .nil) ?_
          exact ⟨by simp_all [tup, encE, okB], H10.fr⟩
        ·
          have hn11 := (Bool.not_eq_false' _).mp hb11
          refine WL.yes rfl rfl rfl hb11 rfl (op_load rfl (H10.cell (i := 1) rfl rfl) Tryd.underlying5 rfl ?_)
          refine WL.yes rfl rfl rfl hb11 rfl (op_andU8 (b := 8) rfl rfl ?_)
          refine WL.yes rfl rfl rfl hb11 rfl (op_neqU8 (b := 0) rfl rfl ?_)
          refine WL.yes rfl rfl rfl hb11 rfl (op_move rfl ?_)
          refine WL.split (t := 37) rfl (fun (hb12 : (decide (((useOf op) &&& (8 : UInt8)) ≠ (0 : UInt8))) = true) => ?_) (fun (hb12 : (decide (((useOf op) &&& (8 : UInt8)) ≠ (0 : UInt8))) = false) => ?_)
          ·
            have hc12 := of_decide_eq_true hb12
            refine WL.no rfl rfl rfl hb12 rfl ?_
            refine WL.no rfl rfl rfl hb12 rfl ?_
            refine WL.no rfl rfl rfl hb12 rfl ?_
            refine WL.yes rfl rfl rfl hb11 rfl (op_pickT rfl hb12 rfl ?_)
            refine WL.yes rfl rfl rfl hb11 rfl (op_not rfl ?_)
            refine WL.op rfl rfl (op_pickF rfl hb11 rfl ?_)
            refine WL.nil ?_
            refine WQ.next ?_
            refine WC.no rfl (congrArg Bool.not rfl) ?_
            refine WC.skip ?_
            refine WQ.next ?_
            refine WC.seq ?_
            refine WC.region ?_
            refine WL.op rfl rfl (op_assign rfl ?_)
            refine WL.nil ?_
            refine WQ.next ?_
            refine WC.ret ?_
            refine WQ.out (.tmp rfl .nil) ?_
            exact ⟨by simp_all [tup, encE, okB], H10.fr⟩
          ·
            have hc12 := of_decide_eq_false hb12
            refine WL.yes rfl rfl rfl hb12 rfl (op_fieldAddr rfl Fa.F24_4 ?_)
            refine WL.yes rfl rfl rfl hb12 rfl (op_load rfl (H10.cell (i := 0) rfl rfl) Tryd.underlying22 rfl ?_)
            refine WL.yes rfl rfl rfl hb12 rfl (op_eqlU32 (b := 0) rfl rfl ?_)
            refine WL.yes rfl rfl rfl hb11 rfl (op_pickF rfl hb12 rfl ?_)
            refine WL.yes rfl rfl rfl hb11 rfl (op_not rfl ?_)
            refine WL.op rfl rfl (op_pickF rfl hb11 rfl ?_)
            refine WL.nil ?_
            refine WQ.next ?_
            refine WC.cond rfl (fun (hb13 : (!(decide (imm = (0 : UInt32)))) = true) => ?_) (fun (hb13 : (!(decide (imm = (0 : UInt32)))) = false) => ?_)
            ·
              have hn13 := (Bool.not_eq_true' _).mp hb13
              refine WC.seq ?_
              refine WC.region ?_
              refine WL.op rfl rfl (op_assign rfl ?_)
              refine WL.nil ?_
              refine WQ.next ?_
              refine WC.ret ?_
              refine WQ.thenRet ?_
              refine WQ.out (.tmp rfl .nil) ?_
              exact ⟨by simp_all [tup, encE, okB], H10.fr⟩
            ·
              have hn13 := (Bool.not_eq_false' _).mp hb13
              refine WC.skip ?_
              refine WQ.next ?_
              refine WC.seq ?_
              refine WC.region ?_
              refine WL.op rfl rfl (op_assign rfl ?_)
              refine WL.nil ?_
              refine WQ.next ?_
              refine WC.ret ?_
              refine WQ.out (.tmp rfl .nil) ?_
              exact ⟨by simp_all [tup, encE, okB], H10.fr⟩
set_option maxRecDepth 100000 in
theorem encode_ok (op d a b : UInt8) (imm : UInt32) (w : World) :
    Calls Tryd.prog 38 #[(.agg #[(vU8 op), (vU8 d), (vU8 a), (vU8 b), (vU32 imm)])] w (fun e w' => e = .returned (.tuple #[str (encS op d a b imm), vN (encE op d a b imm)]) ∧ Fr [] w w') := by
  refine enter (args := [(.agg #[(vU8 op), (vU8 d), (vU8 a), (vU8 b), (vU32 imm)])]) Tryd.func38 rfl rfl ?_
  have H0 : Own [] w w [] := Own.start w []
  refine WC.seq ?_
  refine WC.region ?_
  refine WL.op rfl rfl (op_box H0 rfl rfl (fun b1 w1 H1 => ?_))
  refine WL.op rfl rfl (op_assign rfl ?_)
  refine WL.op rfl rfl (op_assign rfl ?_)
  refine WL.nil ?_
  refine WQ.next ?_
  refine WC.seq ?_
  refine WC.seq ?_
  refine WC.region ?_
  refine WL.op rfl rfl (op_loadS (vs := [_, _, _, _, _]) rfl (H1.cells (i := 0) rfl rfl) Tryd.underlying24 rfl Fa.I24 rfl ?_)
  refine WL.op rfl rfl (op_callF Fa.C36 rfl ((check_ok op d a b imm _).mono (fun e w2 hq => ?_)))
  obtain ⟨rfl, hf2⟩ := hq
  refine ⟨_, rfl, ?_⟩
  have H2 := H1.fr' hf2
  refine WL.op rfl rfl (op_assign rfl ?_)
  refine WL.nil ?_
  refine WQ.next ?_
  refine WC.seq ?_
  refine WC.region ?_
  refine WL.op rfl rfl (op_move rfl ?_)
  refine WL.op rfl rfl (op_neqN (b := 0) rfl rfl ?_)
  refine WL.nil ?_
  refine WQ.next ?_
  refine WC.cond rfl (fun (hb3 : (decide ((encE op d a b imm) ≠ 0)) = true) => ?_) (fun (hb3 : (decide ((encE op d a b imm) ≠ 0)) = false) => ?_)
  ·
    have hc3 := of_decide_eq_true hb3
    refine WC.seq ?_
    refine WC.region ?_
    refine WL.op rfl rfl (op_move rfl ?_)
    refine WL.op rfl rfl (op_assign rfl ?_)
    refine WL.op rfl rfl (op_assign rfl ?_)
    refine WL.nil ?_
    refine WQ.next ?_
    refine WC.ret ?_
    refine WQ.thenRet ?_
    refine WQ.out (.tmp rfl (.tmp rfl .nil)) ?_
    exact ⟨by simp_all [tup, encE, encS], H2.fr⟩
  ·
    have hc3 := of_decide_eq_false hb3
    refine WC.skip ?_
    refine WQ.next ?_
    refine WC.seq ?_
    refine WC.region ?_
    refine WL.op rfl rfl (op_fieldAddr rfl Fa.F24_4 ?_)
    refine WL.op rfl rfl (op_load rfl (H2.cell (i := 0) rfl rfl) Tryd.underlying22 rfl ?_)
    refine WL.op rfl rfl (op_callF Fa.C43 rfl ((put4_ok (imm) _).mono (fun e w4 hq => ?_)))
    obtain ⟨rfl, hf4⟩ := hq
    refine ⟨_, rfl, ?_⟩
    have H4 := H2.fr' hf4
    refine WL.op rfl rfl (op_move rfl ?_)
    refine WL.op rfl rfl (op_extract rfl rfl ?_)
    refine WL.op rfl rfl (op_extract rfl rfl ?_)
    refine WL.op rfl rfl (op_assign rfl ?_)
    refine WL.op rfl rfl (op_assign rfl ?_)
    refine WL.nil ?_
    refine WQ.next ?_
    refine WC.seq ?_
    refine WC.region ?_
    refine WL.op rfl rfl (op_fieldAddr rfl Fa.F24_0 ?_)
    refine WL.op rfl rfl (op_load rfl (H4.cell (i := 0) rfl rfl) Tryd.underlying5 rfl ?_)
    refine WL.op rfl rfl (op_fieldAddr rfl Fa.F24_1 ?_)
    refine WL.op rfl rfl (op_load rfl (H4.cell (i := 0) rfl rfl) Tryd.underlying5 rfl ?_)
    refine WL.op rfl rfl (op_fieldAddr rfl Fa.F24_2 ?_)
    refine WL.op rfl rfl (op_load rfl (H4.cell (i := 0) rfl rfl) Tryd.underlying5 rfl ?_)
    refine WL.op rfl rfl (op_shlU8 (s := 4) rfl rfl ?_)
    refine WL.op rfl rfl (op_orU8 rfl rfl ?_)
    refine WL.op rfl rfl (op_fieldAddr rfl Fa.F24_3 ?_)
    refine WL.op rfl rfl (op_load rfl (H4.cell (i := 0) rfl rfl) Tryd.underlying5 rfl ?_)
    refine WL.op rfl rfl (op_buildSlice (cs := [_, _, _, _]) H4 Tryd.underlying84 Fa.I5 rfl rfl rfl rfl (by decide) (by decide) (fun b5 w5 H5 => ?_))
    refine WL.op rfl rfl (op_bytesStr (l := [op, (d ||| (shlU8 a 4)), b, 0]) Tryd.underlying84 Tryd.underlying5 Tryd.underlying9 rfl (H5.arrR (i := 1) rfl) rfl ?_)
    refine WL.op rfl rfl (op_move rfl ?_)
    refine WL.op rfl rfl (op_addStr rfl rfl (by have := le4_length imm; simp; omega) ?_)
    refine WL.op rfl rfl (op_assign rfl ?_)
    refine WL.op rfl rfl (op_assign rfl ?_)
    refine WL.nil ?_
    refine WQ.next ?_
    refine WC.ret ?_
    refine WQ.out (.tmp rfl (.tmp rfl .nil)) ?_
    exact ⟨by simp_all [tup, encE, encS], H5.fr⟩
set_option maxRecDepth 100000 in
theorem uses_ok (op : UInt8) (w : World) :
    Calls Tryd.prog 35 #[(vU8 op)] w (fun e w' => e = .returned (.tuple #[.bool (ub op 1), .bool (ub op 2), .bool (ub op 4), .bool (ub op 8), vN (useE op)]) ∧ Fr [] w w') := by
  refine enter (args := [(vU8 op)]) Tryd.func35 rfl rfl ?_
  have H0 : Own [] w w [] := Own.start w []
  refine WC.seq ?_
  refine WC.region ?_
  refine WL.op rfl rfl (op_assign rfl ?_)
  refine WL.op rfl rfl (op_assign rfl ?_)
  refine WL.op rfl rfl (op_assign rfl ?_)
  refine WL.op rfl rfl (op_assign rfl ?_)
  refine WL.op rfl rfl (op_assign rfl ?_)
  refine WL.nil ?_
  refine WQ.next ?_
  refine WC.seq ?_
  refine WC.region ?_
  refine WL.op rfl rfl (op_callF Fa.C41 rfl ((table_ok _).mono (fun e w1 hq => ?_)))
  obtain ⟨rfl, hf1⟩ := hq
  refine ⟨_, rfl, ?_⟩
  have H1 := H0.fr' hf1
  refine WL.op rfl rfl (op_move rfl ?_)
  refine WL.op rfl rfl (op_indexA1 (cs := (tabL.map vU8)) Tryd.underlying79 Fa.I5 Tryd.underlying5 rfl rfl rfl op.toNat_lt (get_map vU8 0 (by rw [tabL, tabTo_length]; exact op.toNat_lt)) ?_)
  refine WL.op rfl rfl (op_assign rfl ?_)
  refine WL.nil ?_
  refine WQ.next ?_
  refine WC.seq ?_
  refine WC.seq ?_
  refine WC.region ?_
  refine WL.op rfl rfl (op_move rfl ?_)
  refine WL.op rfl rfl (op_eqlU8 (b := 0) rfl rfl ?_)
  refine WL.nil ?_
  refine WQ.next ?_
  refine WC.cond rfl (fun (hb2 : (decide ((useOf op) = (0 : UInt8))) = true) => ?_) (fun (hb2 : (decide ((useOf op) = (0 : UInt8))) = false) => ?_)
  ·
    have hc2 := of_decide_eq_true hb2
    refine WC.seq ?_
    refine WC.region ?_
    refine WL.op rfl rfl (op_assign rfl ?_)
    refine WL.op rfl rfl (op_assign rfl ?_)
    refine WL.op rfl rfl (op_assign rfl ?_)
    refine WL.op rfl rfl (op_assign rfl ?_)
    refine WL.op rfl rfl (op_assign rfl ?_)
    refine WL.nil ?_
    refine WQ.next ?_
    refine WC.ret ?_
    refine WQ.thenRet ?_
    refine WQ.out (.tmp rfl (.tmp rfl (.tmp rfl (.tmp rfl (.tmp rfl .nil))))) ?_
    exact ⟨by have h : ∀ k, ub op k = false := (fun k => by simp [ub, hc2]); rw [h, h, h, h, useE, if_pos hc2]; rfl, H1.fr⟩
  ·
    have hc2 := of_decide_eq_false hb2
    refine WC.skip ?_
    refine WQ.next ?_
    refine WC.seq ?_
    refine WC.region ?_
    refine WL.op rfl rfl (op_move rfl ?_)
    refine WL.op rfl rfl (op_andU8 (b := 1) rfl rfl ?_)
    refine WL.op rfl rfl (op_neqU8 (b := 0) rfl rfl ?_)
    refine WL.op rfl rfl (op_move rfl ?_)
    refine WL.op rfl rfl (op_andU8 (b := 2) rfl rfl ?_)
    refine WL.op rfl rfl (op_neqU8 (b := 0) rfl rfl ?_)
    refine WL.op rfl rfl (op_move rfl ?_)
    refine WL.op rfl rfl (op_andU8 (b := 4) rfl rfl ?_)
    refine WL.op rfl rfl (op_neqU8 (b := 0) rfl rfl ?_)
    refine WL.op rfl rfl (op_move rfl ?_)
    refine WL.op rfl rfl (op_andU8 (b := 8) rfl rfl ?_)
    refine WL.op rfl rfl (op_neqU8 (b := 0) rfl rfl ?_)
    refine WL.op rfl rfl (op_assign rfl ?_)
    refine WL.op rfl rfl (op_assign rfl ?_)
    refine WL.op rfl rfl (op_assign rfl ?_)
    refine WL.op rfl rfl (op_assign rfl ?_)
    refine WL.op rfl rfl (op_assign rfl ?_)
    refine WL.nil ?_
    refine WQ.next ?_
    refine WC.ret ?_
    refine WQ.out (.tmp rfl (.tmp rfl (.tmp rfl (.tmp rfl (.tmp rfl .nil))))) ?_
    exact ⟨by rw [useE, if_neg hc2]; rfl, H1.fr⟩
end Go.Proofs.YtbdghnbfnnamkaaDoor
/-! from DAsm -/
namespace Go.Proofs.YtbdghnbfnnamkaaDoor
open Go.Owl Go.Spec
set_option maxRecDepth 100000 in
theorem aname_ok (s : List UInt8) (w : World) (hs : s.length < 2 ^ 47) :
    Calls Tryd.prog 34 #[(str s)] w (fun e w' => e = .returned (.bool (nmE s)) ∧ Fr [] w w') := by
  refine enter (args := [(str s)]) Tryd.func34 rfl rfl ?_
  have H0 : Own [] w w [] := Own.start w []
  refine WC.seq ?_
  refine WC.region ?_
  refine WL.op rfl rfl (op_assign rfl ?_)
  refine WL.nil ?_
  refine WQ.next ?_
  refine WC.seq ?_
  refine WC.region ?_
  refine WL.op rfl rfl (op_move rfl ?_)
  refine WL.op rfl rfl (op_eqlStr rfl rfl ?_)
  refine WL.op rfl rfl (op_move rfl ?_)
  refine WL.split (t := 5) rfl (fun (hb1 : (decide (s = [])) = true) => ?_) (fun (hb1 : (decide (s = [])) = false) => ?_)
  ·
    have hc1 := of_decide_eq_true hb1
    refine WL.no rfl rfl rfl hb1 rfl ?_
    refine WL.no rfl rfl rfl hb1 rfl ?_
    refine WL.no rfl rfl rfl hb1 rfl ?_
    refine WL.no rfl rfl rfl hb1 rfl ?_
    refine WL.op rfl rfl (op_pickT rfl hb1 rfl ?_)
    refine WL.op rfl rfl (op_assign rfl ?_)
    refine WL.nil ?_
    refine WQ.next ?_
    refine WC.ret ?_
    refine WQ.out (.tmp rfl .nil) ?_
    exact ⟨by (rw [nmE, hb1]) <;> rfl, H0.fr⟩
  ·
    have hc1 := of_decide_eq_false hb1
    refine WL.yes rfl rfl rfl hb1 rfl (op_move rfl ?_)
    refine WL.yes rfl rfl rfl hb1 rfl (op_build (cs := [_, _, _, _, _, _, _]) Fa.I46 Fa.PL46 rfl rfl ?_)
    refine WL.yes rfl rfl rfl hb1 rfl (op_callF Fa.C31 rfl ((osym_ok (Sy.mk s 0 2 1 [] (.slice none 0 0) [] (.slice none 0 0) []) _ (SyD_mk (x := (Sy.mk s 0 2 1 [] (.slice none 0 0) [] (.slice none 0 0) [])) (Arr.nil _ _) (Arr.nil _ _)) (by exact hs) (by show 0 < 2 ^ 32; decide) (fun y hy => by cases hy) (by show 0 < 2 ^ 40; decide) (by show 0 < 2 ^ 40; decide)).mono (fun e w2 hq => ?_)))
    obtain ⟨rfl, hf2⟩ := hq
    refine ⟨_, rfl, ?_⟩
    have H2 := H0.fr' hf2
    refine WL.yes rfl rfl rfl hb1 rfl (op_eqlN (b := 0) rfl rfl ?_)
    refine WL.op rfl rfl (op_pickF rfl hb1 rfl ?_)
    refine WL.op rfl rfl (op_assign rfl ?_)
    refine WL.nil ?_
    refine WQ.next ?_
    refine WC.ret ?_
    refine WQ.out (.tmp rfl .nil) ?_
    exact ⟨by (rw [nmE, hb1, Bool.false_or, ← name_sym]) <;> rfl, H2.fr⟩
set_option maxRecDepth 100000 in
theorem amay_ok (x : Ln) (w : World) (hx : x.lb.length < 2 ^ 47 ∧ x.to.length < 2 ^ 47 ∧ x.nm.length < 2 ^ 47) :
    Calls Tryd.prog 27 #[(.agg #[(str x.lb), (vU8 x.op), (vU8 x.d), (vU8 x.a), (vU8 x.b), (vU32 x.imm), (str x.to), (str x.nm)])] w (fun e w' => e = .returned (.bool (lnMay x)) ∧ Fr [] w w') := by
  refine enter (args := [(.agg #[(str x.lb), (vU8 x.op), (vU8 x.d), (vU8 x.a), (vU8 x.b), (vU32 x.imm), (str x.to), (str x.nm)])]) Tryd.func27 rfl rfl ?_
  have H0 : Own [] w w [] := Own.start w []
  refine WC.seq ?_
  refine WC.region ?_
  refine WL.op rfl rfl (op_box H0 rfl rfl (fun b1 w1 H1 => ?_))
  refine WL.op rfl rfl (op_assign rfl ?_)
  refine WL.nil ?_
  refine WQ.next ?_
  refine WC.seq ?_
  refine WC.seq ?_
  refine WC.region ?_
  refine WL.op rfl rfl (op_fieldAddr rfl Fa.F26_2 ?_)
  refine WL.op rfl rfl (op_load rfl (H1.cell (i := 0) rfl rfl) Tryd.underlying9 rfl ?_)
  refine WL.op rfl rfl (op_neqStr rfl rfl ?_)
  refine WL.op rfl rfl (op_move rfl ?_)
  refine WL.split (t := 11) rfl (fun (hb2 : (decide (x.to ≠ [])) = true) => ?_) (fun (hb2 : (decide (x.to ≠ [])) = false) => ?_)
  ·
    have hc2 := of_decide_eq_true hb2
    refine WL.yes rfl rfl rfl hb2 rfl (op_fieldAddr rfl Fa.F26_3 ?_)
    refine WL.yes rfl rfl rfl hb2 rfl (op_load rfl (H1.cell (i := 0) rfl rfl) Tryd.underlying9 rfl ?_)
    refine WL.yes rfl rfl rfl hb2 rfl (op_neqStr rfl rfl ?_)
    refine WL.op rfl rfl (op_pickT rfl hb2 rfl ?_)
    refine WL.op rfl rfl (op_move rfl ?_)
    refine WL.split (t := 16) rfl (fun (hb3 : (decide (x.nm ≠ [])) = true) => ?_) (fun (hb3 : (decide (x.nm ≠ [])) = false) => ?_)
    ·
      have hc3 := of_decide_eq_true hb3
      refine WL.no rfl rfl rfl hb3 rfl ?_
      refine WL.no rfl rfl rfl hb3 rfl ?_
      refine WL.no rfl rfl rfl hb3 rfl ?_
      refine WL.no rfl rfl rfl hb3 rfl ?_
      refine WL.op rfl rfl (op_pickT rfl hb3 rfl ?_)
      refine WL.op rfl rfl (op_move rfl ?_)
      refine WL.no rfl rfl rfl rfl rfl ?_
      refine WL.no rfl rfl rfl rfl rfl ?_
      refine WL.no rfl rfl rfl rfl rfl ?_
      refine WL.no rfl rfl rfl rfl rfl ?_
      refine WL.op rfl rfl (op_pickT rfl rfl rfl ?_)
      refine WL.op rfl rfl (op_move rfl ?_)
      refine WL.no rfl rfl rfl rfl rfl ?_
      refine WL.no rfl rfl rfl rfl rfl ?_
      refine WL.no rfl rfl rfl rfl rfl ?_
      refine WL.no rfl rfl rfl rfl rfl ?_
      refine WL.op rfl rfl (op_pickT rfl rfl rfl ?_)
      refine WL.nil ?_
      refine WQ.next ?_
      refine WC.yes rfl rfl ?_
      refine WC.seq ?_
      refine WC.region ?_
      refine WL.op rfl rfl (op_assign rfl ?_)
      refine WL.nil ?_
      refine WQ.next ?_
      refine WC.ret ?_
      refine WQ.thenRet ?_
      refine WQ.out (.tmp rfl .nil) ?_
      exact ⟨by rw [lm_both hb2 hb3]; rfl, H1.fr⟩
    ·
      have hc3 := of_decide_eq_false hb3
      refine WL.yes rfl rfl rfl hb3 rfl (op_fieldAddr rfl Fa.F26_0 ?_)
      refine WL.yes rfl rfl rfl hb3 rfl (op_load rfl (H1.cell (i := 0) rfl rfl) Tryd.underlying9 rfl ?_)
      refine WL.yes rfl rfl rfl hb3 rfl (op_callF Fa.C34 rfl ((aname_ok x.lb _ (by omega)).mono (fun e w4 hq => ?_)))
      obtain ⟨rfl, hf4⟩ := hq
      refine ⟨_, rfl, ?_⟩
      have H4 := H1.fr' hf4
      refine WL.yes rfl rfl rfl hb3 rfl (op_not rfl ?_)
      refine WL.op rfl rfl (op_pickF rfl hb3 rfl ?_)
      refine WL.op rfl rfl (op_move rfl ?_)
      refine WL.split (t := 22) rfl (fun (hb5 : (!(nmE x.lb)) = true) => ?_) (fun (hb5 : (!(nmE x.lb)) = false) => ?_)
      ·
        have hn5 := (Bool.not_eq_true' _).mp hb5
        refine WL.no rfl rfl rfl hb5 rfl ?_
        refine WL.no rfl rfl rfl hb5 rfl ?_
        refine WL.no rfl rfl rfl hb5 rfl ?_
        refine WL.no rfl rfl rfl hb5 rfl ?_
        refine WL.op rfl rfl (op_pickT rfl hb5 rfl ?_)
        refine WL.op rfl rfl (op_move rfl ?_)
        refine WL.no rfl rfl rfl rfl rfl ?_
        refine WL.no rfl rfl rfl rfl rfl ?_
        refine WL.no rfl rfl rfl rfl rfl ?_
        refine WL.no rfl rfl rfl rfl rfl ?_
        refine WL.op rfl rfl (op_pickT rfl rfl rfl ?_)
        refine WL.nil ?_
        refine WQ.next ?_
        refine WC.yes rfl rfl ?_
        refine WC.seq ?_
        refine WC.region ?_
        refine WL.op rfl rfl (op_assign rfl ?_)
        refine WL.nil ?_
        refine WQ.next ?_
        refine WC.ret ?_
        refine WQ.thenRet ?_
        refine WQ.out (.tmp rfl .nil) ?_
        exact ⟨by rw [lm_lb hn5]; rfl, H4.fr⟩
      ·
        have hn5 := (Bool.not_eq_false' _).mp hb5
        refine WL.yes rfl rfl rfl hb5 rfl (op_fieldAddr rfl Fa.F26_2 ?_)
        refine WL.yes rfl rfl rfl hb5 rfl (op_load rfl (H4.cell (i := 0) rfl rfl) Tryd.underlying9 rfl ?_)
        refine WL.yes rfl rfl rfl hb5 rfl (op_callF Fa.C34 rfl ((aname_ok x.to _ (by omega)).mono (fun e w6 hq => ?_)))
        obtain ⟨rfl, hf6⟩ := hq
        refine ⟨_, rfl, ?_⟩
        have H6 := H4.fr' hf6
        refine WL.yes rfl rfl rfl hb5 rfl (op_not rfl ?_)
        refine WL.op rfl rfl (op_pickF rfl hb5 rfl ?_)
        refine WL.op rfl rfl (op_move rfl ?_)
        refine WL.split (t := 28) rfl (fun (hb7 : (!(nmE x.to)) = true) => ?_) (fun (hb7 : (!(nmE x.to)) = false) => ?_)
        ·
          have hn7 := (Bool.not_eq_true' _).mp hb7
          refine WL.no rfl rfl rfl hb7 rfl ?_
          refine WL.no rfl rfl rfl hb7 rfl ?_
          refine WL.no rfl rfl rfl hb7 rfl ?_
          refine WL.no rfl rfl rfl hb7 rfl ?_
          refine WL.op rfl rfl (op_pickT rfl hb7 rfl ?_)
          refine WL.nil ?_
          refine WQ.next ?_
          refine WC.yes rfl rfl ?_
          refine WC.seq ?_
          refine WC.region ?_
          refine WL.op rfl rfl (op_assign rfl ?_)
          refine WL.nil ?_
          refine WQ.next ?_
          refine WC.ret ?_
          refine WQ.thenRet ?_
          refine WQ.out (.tmp rfl .nil) ?_
          exact ⟨by rw [lm_to hn7]; rfl, H6.fr⟩
        ·
          have hn7 := (Bool.not_eq_false' _).mp hb7
          refine WL.yes rfl rfl rfl hb7 rfl (op_fieldAddr rfl Fa.F26_3 ?_)
          refine WL.yes rfl rfl rfl hb7 rfl (op_load rfl (H6.cell (i := 0) rfl rfl) Tryd.underlying9 rfl ?_)
          refine WL.yes rfl rfl rfl hb7 rfl (op_callF Fa.C34 rfl ((aname_ok x.nm _ (by omega)).mono (fun e w8 hq => ?_)))
          obtain ⟨rfl, hf8⟩ := hq
          refine ⟨_, rfl, ?_⟩
          have H8 := H6.fr' hf8
          refine WL.yes rfl rfl rfl hb7 rfl (op_not rfl ?_)
          refine WL.op rfl rfl (op_pickF rfl hb7 rfl ?_)
          refine WL.nil ?_
          refine WQ.next ?_
          refine WC.cond rfl (fun (hb9 : (!(nmE x.nm)) = true) => ?_) (fun (hb9 : (!(nmE x.nm)) = false) => ?_)
          ·
            have hn9 := (Bool.not_eq_true' _).mp hb9
            refine WC.seq ?_
            refine WC.region ?_
            refine WL.op rfl rfl (op_assign rfl ?_)
            refine WL.nil ?_
            refine WQ.next ?_
            refine WC.ret ?_
            refine WQ.thenRet ?_
            refine WQ.out (.tmp rfl .nil) ?_
            exact ⟨by rw [lm_nm hn9]; rfl, H8.fr⟩
          ·
            have hn9 := (Bool.not_eq_false' _).mp hb9
            refine WC.skip ?_
            refine WQ.next ?_
            refine WC.seq ?_
            refine WC.seq ?_
            refine WC.region ?_
            refine WL.op rfl rfl (op_fieldAddr rfl Fa.F26_2 ?_)
            refine WL.op rfl rfl (op_load rfl (H8.cell (i := 0) rfl rfl) Tryd.underlying9 rfl ?_)
            refine WL.op rfl rfl (op_fieldAddr rfl Fa.F26_3 ?_)
            refine WL.op rfl rfl (op_load rfl (H8.cell (i := 0) rfl rfl) Tryd.underlying9 rfl ?_)
            refine WL.op rfl rfl (op_addStr rfl rfl (by first | omega | (rw [List.length_append]; omega) | (simp; omega)) ?_)
            refine WL.op rfl rfl (op_neqStr rfl rfl ?_)
            refine WL.nil ?_
            refine WQ.next ?_
            refine WC.yes rfl (by rw [ref_app]; exact ref_T hb2) ?_
            refine WC.seq ?_
            refine WC.region ?_
            refine WL.op rfl rfl (op_fieldAddr rfl Fa.F26_1 ?_)
            refine WL.op rfl rfl (op_fieldAddr rfl Fa.F24_0 ?_)
            refine WL.op rfl rfl (op_load rfl (H8.cell (i := 0) rfl rfl) Tryd.underlying5 rfl ?_)
            refine WL.op rfl rfl (op_callF Fa.C35 rfl ((uses_ok x.op _).mono (fun e w10 hq => ?_)))
            obtain ⟨rfl, hf10⟩ := hq
            refine ⟨_, rfl, ?_⟩
            have H10 := H8.fr' hf10
            refine WL.op rfl rfl (op_move rfl ?_)
            refine WL.op rfl rfl (op_extract rfl rfl ?_)
            refine WL.op rfl rfl (op_extract rfl rfl ?_)
            refine WL.op rfl rfl (op_extract rfl rfl ?_)
            refine WL.op rfl rfl (op_extract rfl rfl ?_)
            refine WL.op rfl rfl (op_extract rfl rfl ?_)
            refine WL.op rfl rfl (op_assign rfl ?_)
            refine WL.op rfl rfl (op_assign rfl ?_)
            refine WL.op rfl rfl (op_assign rfl ?_)
            refine WL.op rfl rfl (op_assign rfl ?_)
            refine WL.op rfl rfl (op_assign rfl ?_)
            refine WL.nil ?_
            refine WQ.next ?_
            refine WC.seq ?_
            refine WC.region ?_
            refine WL.op rfl rfl (op_fieldAddr rfl Fa.F26_1 ?_)
            refine WL.op rfl rfl (op_fieldAddr rfl Fa.F24_4 ?_)
            refine WL.op rfl rfl (op_storeB (i := 0) H10 rfl rfl rfl rfl rfl Fa.I22 (fun w11 H11 => ?_))
            refine WL.nil ?_
            refine WQ.next ?_
            refine WC.seq ?_
            refine WC.region ?_
            refine WL.op rfl rfl (op_move rfl ?_)
            refine WL.op rfl rfl (op_neqN (b := 0) rfl rfl ?_)
            refine WL.op rfl rfl (op_move rfl ?_)
            refine WL.split (t := 54) rfl (fun (hb12 : (decide ((useE x.op) ≠ 0)) = true) => ?_) (fun (hb12 : (decide ((useE x.op) ≠ 0)) = false) => ?_)
            ·
              have hc12 := of_decide_eq_true hb12
              refine WL.no rfl rfl rfl hb12 rfl ?_
              refine WL.no rfl rfl rfl hb12 rfl ?_
              refine WL.op rfl rfl (op_pickT rfl hb12 rfl ?_)
              refine WL.nil ?_
              refine WQ.next ?_
              refine WC.yes rfl rfl ?_
              refine WC.seq ?_
              refine WC.region ?_
              refine WL.op rfl rfl (op_assign rfl ?_)
              refine WL.nil ?_
              refine WQ.next ?_
              refine WC.ret ?_
              refine WQ.thenRet ?_
              refine WQ.out (.tmp rfl .nil) ?_
              exact ⟨by rw [lm_use (ref_T hb2) hb12]; rfl, H11.fr⟩
            ·
              have hc12 := of_decide_eq_false hb12
              refine WL.yes rfl rfl rfl hb12 rfl (op_move rfl ?_)
              refine WL.yes rfl rfl rfl hb12 rfl (op_not rfl ?_)
              refine WL.op rfl rfl (op_pickF rfl hb12 rfl ?_)
              refine WL.nil ?_
              refine WQ.next ?_
              refine WC.cond rfl (fun (hb13 : (!(ub x.op 8)) = true) => ?_) (fun (hb13 : (!(ub x.op 8)) = false) => ?_)
              ·
                have hn13 := (Bool.not_eq_true' _).mp hb13
                refine WC.seq ?_
                refine WC.region ?_
                refine WL.op rfl rfl (op_assign rfl ?_)
                refine WL.nil ?_
                refine WQ.next ?_
                refine WC.ret ?_
                refine WQ.thenRet ?_
                refine WQ.out (.tmp rfl .nil) ?_
                exact ⟨by rw [lm_imm (ref_T hb2) hn13]; rfl, H11.fr⟩
              ·
                have hn13 := (Bool.not_eq_false' _).mp hb13
                refine WC.skip ?_
                refine WQ.next ?_
                refine WC.seq ?_
                refine WC.region ?_
                refine WL.op rfl rfl (op_fieldAddr rfl Fa.F26_1 ?_)
                refine WL.op rfl rfl (op_loadS (vs := [_, _, _, _, _]) rfl (H11.cells (i := 0) rfl rfl) Tryd.underlying24 rfl Fa.I24 rfl ?_)
                refine WL.op rfl rfl (op_callF Fa.C36 rfl ((check_ok x.op x.d x.a x.b 0 _).mono (fun e w14 hq => ?_)))
                obtain ⟨rfl, hf14⟩ := hq
                refine ⟨_, rfl, ?_⟩
                have H14 := H11.fr' hf14
                refine WL.op rfl rfl (op_eqlN (b := 0) rfl rfl ?_)
                refine WL.op rfl rfl (op_assign rfl ?_)
                refine WL.nil ?_
                refine WQ.next ?_
                refine WC.ret ?_
                refine WQ.out (.tmp rfl .nil) ?_
                exact ⟨by rw [lm_chk (by rw [hb3, Bool.and_false]) hn5 hn7 hn9 (ref_T hb2) hn13]; rfl, H14.fr⟩
  ·
    have hc2 := of_decide_eq_false hb2
    refine WL.no rfl rfl rfl hb2 rfl ?_
    refine WL.no rfl rfl rfl hb2 rfl ?_
    refine WL.no rfl rfl rfl hb2 rfl ?_
    refine WL.op rfl rfl (op_pickF rfl hb2 rfl ?_)
    refine WL.op rfl rfl (op_move rfl ?_)
    refine WL.yes rfl rfl rfl rfl rfl (op_fieldAddr rfl Fa.F26_0 ?_)
    refine WL.yes rfl rfl rfl rfl rfl (op_load rfl (H1.cell (i := 0) rfl rfl) Tryd.underlying9 rfl ?_)
    refine WL.yes rfl rfl rfl rfl rfl (op_callF Fa.C34 rfl ((aname_ok x.lb _ (by omega)).mono (fun e w15 hq => ?_)))
    obtain ⟨rfl, hf15⟩ := hq
    refine ⟨_, rfl, ?_⟩
    have H15 := H1.fr' hf15
    refine WL.yes rfl rfl rfl rfl rfl (op_not rfl ?_)
    refine WL.op rfl rfl (op_pickF rfl rfl rfl ?_)
    refine WL.op rfl rfl (op_move rfl ?_)
    refine WL.split (t := 22) rfl (fun (hb16 : (!(nmE x.lb)) = true) => ?_) (fun (hb16 : (!(nmE x.lb)) = false) => ?_)
    ·
      have hn16 := (Bool.not_eq_true' _).mp hb16
      refine WL.no rfl rfl rfl hb16 rfl ?_
      refine WL.no rfl rfl rfl hb16 rfl ?_
      refine WL.no rfl rfl rfl hb16 rfl ?_
      refine WL.no rfl rfl rfl hb16 rfl ?_
      refine WL.op rfl rfl (op_pickT rfl hb16 rfl ?_)
      refine WL.op rfl rfl (op_move rfl ?_)
      refine WL.no rfl rfl rfl rfl rfl ?_
      refine WL.no rfl rfl rfl rfl rfl ?_
      refine WL.no rfl rfl rfl rfl rfl ?_
      refine WL.no rfl rfl rfl rfl rfl ?_
      refine WL.op rfl rfl (op_pickT rfl rfl rfl ?_)
      refine WL.nil ?_
      refine WQ.next ?_
      refine WC.yes rfl rfl ?_
      refine WC.seq ?_
      refine WC.region ?_
      refine WL.op rfl rfl (op_assign rfl ?_)
      refine WL.nil ?_
      refine WQ.next ?_
      refine WC.ret ?_
      refine WQ.thenRet ?_
      refine WQ.out (.tmp rfl .nil) ?_
      exact ⟨by rw [lm_lb hn16]; rfl, H15.fr⟩
    ·
      have hn16 := (Bool.not_eq_false' _).mp hb16
      refine WL.yes rfl rfl rfl hb16 rfl (op_fieldAddr rfl Fa.F26_2 ?_)
      refine WL.yes rfl rfl rfl hb16 rfl (op_load rfl (H15.cell (i := 0) rfl rfl) Tryd.underlying9 rfl ?_)
      refine WL.yes rfl rfl rfl hb16 rfl (op_callF Fa.C34 rfl ((aname_ok x.to _ (by omega)).mono (fun e w17 hq => ?_)))
      obtain ⟨rfl, hf17⟩ := hq
      refine ⟨_, rfl, ?_⟩
      have H17 := H15.fr' hf17
      refine WL.yes rfl rfl rfl hb16 rfl (op_not rfl ?_)
      refine WL.op rfl rfl (op_pickF rfl hb16 rfl ?_)
      refine WL.op rfl rfl (op_move rfl ?_)
      refine WL.split (t := 28) rfl (fun (hb18 : (!(nmE x.to)) = true) => ?_) (fun (hb18 : (!(nmE x.to)) = false) => ?_)
      ·
        have hn18 := (Bool.not_eq_true' _).mp hb18
        refine WL.no rfl rfl rfl hb18 rfl ?_
        refine WL.no rfl rfl rfl hb18 rfl ?_
        refine WL.no rfl rfl rfl hb18 rfl ?_
        refine WL.no rfl rfl rfl hb18 rfl ?_
        refine WL.op rfl rfl (op_pickT rfl hb18 rfl ?_)
        refine WL.nil ?_
        refine WQ.next ?_
        refine WC.yes rfl rfl ?_
        refine WC.seq ?_
        refine WC.region ?_
        refine WL.op rfl rfl (op_assign rfl ?_)
        refine WL.nil ?_
        refine WQ.next ?_
        refine WC.ret ?_
        refine WQ.thenRet ?_
        refine WQ.out (.tmp rfl .nil) ?_
        exact ⟨by rw [lm_to hn18]; rfl, H17.fr⟩
      ·
        have hn18 := (Bool.not_eq_false' _).mp hb18
        refine WL.yes rfl rfl rfl hb18 rfl (op_fieldAddr rfl Fa.F26_3 ?_)
        refine WL.yes rfl rfl rfl hb18 rfl (op_load rfl (H17.cell (i := 0) rfl rfl) Tryd.underlying9 rfl ?_)
        refine WL.yes rfl rfl rfl hb18 rfl (op_callF Fa.C34 rfl ((aname_ok x.nm _ (by omega)).mono (fun e w19 hq => ?_)))
        obtain ⟨rfl, hf19⟩ := hq
        refine ⟨_, rfl, ?_⟩
        have H19 := H17.fr' hf19
        refine WL.yes rfl rfl rfl hb18 rfl (op_not rfl ?_)
        refine WL.op rfl rfl (op_pickF rfl hb18 rfl ?_)
        refine WL.nil ?_
        refine WQ.next ?_
        refine WC.cond rfl (fun (hb20 : (!(nmE x.nm)) = true) => ?_) (fun (hb20 : (!(nmE x.nm)) = false) => ?_)
        ·
          have hn20 := (Bool.not_eq_true' _).mp hb20
          refine WC.seq ?_
          refine WC.region ?_
          refine WL.op rfl rfl (op_assign rfl ?_)
          refine WL.nil ?_
          refine WQ.next ?_
          refine WC.ret ?_
          refine WQ.thenRet ?_
          refine WQ.out (.tmp rfl .nil) ?_
          exact ⟨by rw [lm_nm hn20]; rfl, H19.fr⟩
        ·
          have hn20 := (Bool.not_eq_false' _).mp hb20
          refine WC.skip ?_
          refine WQ.next ?_
          refine WC.seq ?_
          refine WC.seq ?_
          refine WC.region ?_
          refine WL.op rfl rfl (op_fieldAddr rfl Fa.F26_2 ?_)
          refine WL.op rfl rfl (op_load rfl (H19.cell (i := 0) rfl rfl) Tryd.underlying9 rfl ?_)
          refine WL.op rfl rfl (op_fieldAddr rfl Fa.F26_3 ?_)
          refine WL.op rfl rfl (op_load rfl (H19.cell (i := 0) rfl rfl) Tryd.underlying9 rfl ?_)
          refine WL.op rfl rfl (op_addStr rfl rfl (by first | omega | (rw [List.length_append]; omega) | (simp; omega)) ?_)
          refine WL.op rfl rfl (op_neqStr rfl rfl ?_)
          refine WL.nil ?_
          refine WQ.next ?_
          refine WC.cond rfl (fun (hb21 : (decide ((x.to ++ x.nm) ≠ [])) = true) => ?_) (fun (hb21 : (decide ((x.to ++ x.nm) ≠ [])) = false) => ?_)
          ·
            have hc21 := of_decide_eq_true hb21
            refine WC.seq ?_
            refine WC.region ?_
            refine WL.op rfl rfl (op_fieldAddr rfl Fa.F26_1 ?_)
            refine WL.op rfl rfl (op_fieldAddr rfl Fa.F24_0 ?_)
            refine WL.op rfl rfl (op_load rfl (H19.cell (i := 0) rfl rfl) Tryd.underlying5 rfl ?_)
            refine WL.op rfl rfl (op_callF Fa.C35 rfl ((uses_ok x.op _).mono (fun e w22 hq => ?_)))
            obtain ⟨rfl, hf22⟩ := hq
            refine ⟨_, rfl, ?_⟩
            have H22 := H19.fr' hf22
            refine WL.op rfl rfl (op_move rfl ?_)
            refine WL.op rfl rfl (op_extract rfl rfl ?_)
            refine WL.op rfl rfl (op_extract rfl rfl ?_)
            refine WL.op rfl rfl (op_extract rfl rfl ?_)
            refine WL.op rfl rfl (op_extract rfl rfl ?_)
            refine WL.op rfl rfl (op_extract rfl rfl ?_)
            refine WL.op rfl rfl (op_assign rfl ?_)
            refine WL.op rfl rfl (op_assign rfl ?_)
            refine WL.op rfl rfl (op_assign rfl ?_)
            refine WL.op rfl rfl (op_assign rfl ?_)
            refine WL.op rfl rfl (op_assign rfl ?_)
            refine WL.nil ?_
            refine WQ.next ?_
            refine WC.seq ?_
            refine WC.region ?_
            refine WL.op rfl rfl (op_fieldAddr rfl Fa.F26_1 ?_)
            refine WL.op rfl rfl (op_fieldAddr rfl Fa.F24_4 ?_)
            refine WL.op rfl rfl (op_storeB (i := 0) H22 rfl rfl rfl rfl rfl Fa.I22 (fun w23 H23 => ?_))
            refine WL.nil ?_
            refine WQ.next ?_
            refine WC.seq ?_
            refine WC.region ?_
            refine WL.op rfl rfl (op_move rfl ?_)
            refine WL.op rfl rfl (op_neqN (b := 0) rfl rfl ?_)
            refine WL.op rfl rfl (op_move rfl ?_)
            refine WL.split (t := 54) rfl (fun (hb24 : (decide ((useE x.op) ≠ 0)) = true) => ?_) (fun (hb24 : (decide ((useE x.op) ≠ 0)) = false) => ?_)
            ·
              have hc24 := of_decide_eq_true hb24
              refine WL.no rfl rfl rfl hb24 rfl ?_
              refine WL.no rfl rfl rfl hb24 rfl ?_
              refine WL.op rfl rfl (op_pickT rfl hb24 rfl ?_)
              refine WL.nil ?_
              refine WQ.next ?_
              refine WC.yes rfl rfl ?_
              refine WC.seq ?_
              refine WC.region ?_
              refine WL.op rfl rfl (op_assign rfl ?_)
              refine WL.nil ?_
              refine WQ.next ?_
              refine WC.ret ?_
              refine WQ.thenRet ?_
              refine WQ.out (.tmp rfl .nil) ?_
              exact ⟨by rw [lm_use ((ref_app x).symm.trans hb21) hb24]; rfl, H23.fr⟩
            ·
              have hc24 := of_decide_eq_false hb24
              refine WL.yes rfl rfl rfl hb24 rfl (op_move rfl ?_)
              refine WL.yes rfl rfl rfl hb24 rfl (op_not rfl ?_)
              refine WL.op rfl rfl (op_pickF rfl hb24 rfl ?_)
              refine WL.nil ?_
              refine WQ.next ?_
              refine WC.cond rfl (fun (hb25 : (!(ub x.op 8)) = true) => ?_) (fun (hb25 : (!(ub x.op 8)) = false) => ?_)
              ·
                have hn25 := (Bool.not_eq_true' _).mp hb25
                refine WC.seq ?_
                refine WC.region ?_
                refine WL.op rfl rfl (op_assign rfl ?_)
                refine WL.nil ?_
                refine WQ.next ?_
                refine WC.ret ?_
                refine WQ.thenRet ?_
                refine WQ.out (.tmp rfl .nil) ?_
                exact ⟨by rw [lm_imm ((ref_app x).symm.trans hb21) hn25]; rfl, H23.fr⟩
              ·
                have hn25 := (Bool.not_eq_false' _).mp hb25
                refine WC.skip ?_
                refine WQ.next ?_
                refine WC.seq ?_
                refine WC.region ?_
                refine WL.op rfl rfl (op_fieldAddr rfl Fa.F26_1 ?_)
                refine WL.op rfl rfl (op_loadS (vs := [_, _, _, _, _]) rfl (H23.cells (i := 0) rfl rfl) Tryd.underlying24 rfl Fa.I24 rfl ?_)
                refine WL.op rfl rfl (op_callF Fa.C36 rfl ((check_ok x.op x.d x.a x.b 0 _).mono (fun e w26 hq => ?_)))
                obtain ⟨rfl, hf26⟩ := hq
                refine ⟨_, rfl, ?_⟩
                have H26 := H23.fr' hf26
                refine WL.op rfl rfl (op_eqlN (b := 0) rfl rfl ?_)
                refine WL.op rfl rfl (op_assign rfl ?_)
                refine WL.nil ?_
                refine WQ.next ?_
                refine WC.ret ?_
                refine WQ.out (.tmp rfl .nil) ?_
                exact ⟨by rw [lm_chk (by rw [hb2]; rfl) hn16 hn18 hn20 ((ref_app x).symm.trans hb21) hn25]; rfl, H26.fr⟩
          ·
            have hc21 := of_decide_eq_false hb21
            refine WC.skip ?_
            refine WQ.next ?_
            refine WC.seq ?_
            refine WC.region ?_
            refine WL.op rfl rfl (op_fieldAddr rfl Fa.F26_1 ?_)
            refine WL.op rfl rfl (op_loadS (vs := [_, _, _, _, _]) rfl (H19.cells (i := 0) rfl rfl) Tryd.underlying24 rfl Fa.I24 rfl ?_)
            refine WL.op rfl rfl (op_callF Fa.C36 rfl ((check_ok x.op x.d x.a x.b x.imm _).mono (fun e w27 hq => ?_)))
            obtain ⟨rfl, hf27⟩ := hq
            refine ⟨_, rfl, ?_⟩
            have H27 := H19.fr' hf27
            refine WL.op rfl rfl (op_eqlN (b := 0) rfl rfl ?_)
            refine WL.op rfl rfl (op_assign rfl ?_)
            refine WL.nil ?_
            refine WQ.next ?_
            refine WC.ret ?_
            refine WQ.out (.tmp rfl .nil) ?_
            exact ⟨by rw [lm_plain (by rw [hb2]; rfl) hn16 hn18 hn20 ((ref_app x).symm.trans hb21)]; rfl, H27.fr⟩
set_option maxRecDepth 100000 in
theorem lnbad_ok (x : Ln) (w : World) (hx : x.lb.length < 2 ^ 47 ∧ x.to.length < 2 ^ 47 ∧ x.nm.length < 2 ^ 47) :
    Calls Tryd.prog 26 #[(.agg #[(str x.lb), (vU8 x.op), (vU8 x.d), (vU8 x.a), (vU8 x.b), (vU32 x.imm), (str x.to), (str x.nm)])] w (fun e w' => e = .returned (.bool (!lnMay x)) ∧ Fr [] w w') := by
  refine enter (args := [(.agg #[(str x.lb), (vU8 x.op), (vU8 x.d), (vU8 x.a), (vU8 x.b), (vU32 x.imm), (str x.to), (str x.nm)])]) Tryd.func26 rfl rfl ?_
  have H0 : Own [] w w [] := Own.start w []
  refine WC.seq ?_
  refine WC.region ?_
  refine WL.op rfl rfl (op_box H0 rfl rfl (fun b1 w1 H1 => ?_))
  refine WL.op rfl rfl (op_assign rfl ?_)
  refine WL.nil ?_
  refine WQ.next ?_
  refine WC.seq ?_
  refine WC.region ?_
  refine WL.op rfl rfl (op_loadS (vs := [_, _, _, _, _, _, _, _]) rfl (H1.cells (i := 0) rfl rfl) Tryd.underlying26 rfl Fa.I26 rfl ?_)
  refine WL.op rfl rfl (op_callF Fa.C27 rfl ((amay_ok x _ hx).mono (fun e w2 hq => ?_)))
  obtain ⟨rfl, hf2⟩ := hq
  refine ⟨_, rfl, ?_⟩
  have H2 := H1.fr' hf2
  refine WL.op rfl rfl (op_not rfl ?_)
  refine WL.op rfl rfl (op_assign rfl ?_)
  refine WL.nil ?_
  refine WQ.next ?_
  refine WC.ret ?_
  refine WQ.out (.tmp rfl .nil) ?_
  exact ⟨rfl, H2.fr⟩
set_option maxRecDepth 100000 in
theorem idxL_ok (lv : Value) (l : List Ln) (w : World) (hA : Arr w lv 8 l.length (List.flatMap lnc l)) (hfx : ∀ k, (l.getD k Ln.zero).lb.length < 2 ^ 47 ∧ (l.getD k Ln.zero).to.length < 2 ^ 47 ∧ (l.getD k Ln.zero).nm.length < 2 ^ 47) (hn : l.length < 2 ^ 47) :
    Calls Tryd.prog 33 #[lv, (.func (.func 26) #[] #[])] w (fun e w' => e = .returned (vI (fidx (fun n => !lnMay n) l)) ∧ Fr [] w w') := by
  refine enter (args := [lv, (.func (.func 26) #[] #[])]) Tryd.func33 rfl rfl ?_
  have H0 : Own [] w w [] := Own.start w []
  refine WC.seq ?_
  refine WC.region ?_
  refine WL.op rfl rfl (op_assign rfl ?_)
  refine WL.nil ?_
  refine WQ.next ?_
  refine WC.seq ?_
  refine WC.seq ?_
  refine WC.region ?_
  refine WL.op rfl rfl (op_move rfl ?_)
  refine WL.op rfl rfl (op_lenA Tryd.underlying27 rfl (H0.arr hA) ?_)
  refine WL.op rfl rfl (op_move rfl ?_)
  refine WL.nil ?_
  refine WQ.next ?_
  refine WC.block ?_
  refine WC.loop (α := Nat) (fun k => [(0, lv), (1, (.func (.func 26) #[] #[])), (7, (vN l.length)), (8, (vN k))]) (fun k w' => (k ≤ l.length ∧ (∀ j, j < k → (fun n => !lnMay n) (l.getD j Ln.zero) = false)) ∧ Own [] w w' []) (fun k => l.length - k) 0 ⟨⟨Nat.zero_le _, fun j h => by omega⟩, H0⟩ ⟨rfl, rfl, rfl, rfl, trivial⟩ ?_
  rintro k w1 ⟨⟨hk1, hok⟩, H1⟩
  show WC _ _ _ _ _ [(0, lv), (1, (.func (.func 26) #[] #[])), (7, (vN l.length)), (8, (vN k))] _
  refine WC.seq ?_
  refine WC.region ?_
  refine WL.op rfl rfl (op_lssN rfl rfl ?_)
  refine WL.nil ?_
  refine WQ.next ?_
  refine WC.seq ?_
  refine WC.cond rfl (fun (hb2 : (decide (k < l.length)) = true) => ?_) (fun (hb2 : (decide (k < l.length)) = false) => ?_)
  ·
    have hc2 := of_decide_eq_true hb2
    refine WC.skip ?_
    refine WQ.next ?_
    refine WC.seq ?_
    refine WC.block ?_
    refine WC.seq ?_
    refine WC.region ?_
    refine WL.op rfl rfl (op_move rfl ?_)
    refine WL.op rfl rfl (op_assign rfl ?_)
    refine WL.nil ?_
    refine WQ.next ?_
    refine WC.seq ?_
    refine WC.region ?_
    refine WL.op rfl rfl (op_move rfl ?_)
    refine WL.op rfl rfl (op_move rfl ?_)
    refine WL.op rfl rfl (op_move rfl ?_)
    refine WL.op rfl rfl (op_indexAddr Tryd.underlying27 Fa.I26 rfl (H1.arr hA) rfl (by omega) ?_)
    refine WL.op rfl rfl (op_loadSP (vs := lnc (l.getD k Ln.zero)) rfl (Arr.atsF (H1.arr hA) (fun _ => rfl) (by decide) Ln.zero (by omega)) Tryd.underlying26 rfl Fa.I26 rfl ?_)
    refine WL.op rfl rfl (op_call (f := 26) rfl Fa.C26 rfl ((lnbad_ok (l.getD k Ln.zero) _ (hfx _)).mono (fun e w3 hq => ?_)))
    obtain ⟨rfl, hf3⟩ := hq
    refine ⟨_, rfl, ?_⟩
    have H3 := H1.fr' hf3
    refine WL.nil ?_
    refine WQ.next ?_
    refine WC.cond rfl (fun (hb4 : (!lnMay (l.getD k Ln.zero)) = true) => ?_) (fun (hb4 : (!lnMay (l.getD k Ln.zero)) = false) => ?_)
    ·
      have hn4 := (Bool.not_eq_true' _).mp hb4
      refine WC.seq ?_
      refine WC.region ?_
      refine WL.op rfl rfl (op_move rfl ?_)
      refine WL.op rfl rfl (op_assign rfl ?_)
      refine WL.nil ?_
      refine WQ.next ?_
      refine WC.ret ?_
      refine WQ.inRet ?_
      refine WQ.thenRet ?_
      refine WQ.thenRet ?_
      refine WQ.inRet ?_
      refine WQ.thenRet ?_
      refine WQ.out (.tmp rfl .nil) ?_
      exact ⟨by rw [fidx_yes (d := Ln.zero) (by omega) hok hb4]; rfl, H3.fr⟩
    ·
      have hn4 := (Bool.not_eq_false' _).mp hb4
      refine WC.skip ?_
      refine WQ.inNormal ?_
      refine WQ.next ?_
      refine WC.region ?_
      refine WL.op rfl rfl (op_addN (b := 1) rfl rfl (by omega) ?_)
      refine WL.op rfl rfl (op_move rfl ?_)
      refine WL.nil ?_
      exact WQ.round (k + 1) ⟨⟨by omega, allPrev hok hb4⟩, H3⟩ ⟨rfl, rfl, rfl, rfl, trivial⟩ (by omega)
  ·
    have hc2 := of_decide_eq_false hb2
    refine WC.exit ?_
    refine WQ.thenExit ?_
    refine WQ.thenExit ?_
    refine WQ.inHere ?_
    refine WQ.next ?_
    refine WC.seq ?_
    refine WC.region ?_
    refine WL.op rfl rfl (op_assign rfl ?_)
    refine WL.nil ?_
    refine WQ.next ?_
    refine WC.ret ?_
    refine WQ.out (.tmp rfl .nil) ?_
    exact ⟨by rw [fidx_no (d := Ln.zero) (fun j hj => hok j (by omega))]; rfl, H1.fr⟩
set_option maxRecDepth 100000 in
theorem conL_ok (lv : Value) (l : List Ln) (w : World) (hA : Arr w lv 8 l.length (List.flatMap lnc l)) (hfx : ∀ k, (l.getD k Ln.zero).lb.length < 2 ^ 47 ∧ (l.getD k Ln.zero).to.length < 2 ^ 47 ∧ (l.getD k Ln.zero).nm.length < 2 ^ 47) (hn : l.length < 2 ^ 47) :
    Calls Tryd.prog 25 #[lv, (.func (.func 26) #[] #[])] w (fun e w' => e = .returned (.bool (l.any (fun n => !lnMay n))) ∧ Fr [] w w') := by
  refine enter (args := [lv, (.func (.func 26) #[] #[])]) Tryd.func25 rfl rfl ?_
  have H0 : Own [] w w [] := Own.start w []
  refine WC.seq ?_
  refine WC.region ?_
  refine WL.op rfl rfl (op_assign rfl ?_)
  refine WL.nil ?_
  refine WQ.next ?_
  refine WC.seq ?_
  refine WC.region ?_
  refine WL.op rfl rfl (op_move rfl ?_)
  refine WL.op rfl rfl (op_move rfl ?_)
  refine WL.op rfl rfl (op_callF Fa.C33 rfl ((idxL_ok _ l _ (H0.arr hA) hfx (by omega)).mono (fun e w1 hq => ?_)))
  obtain ⟨rfl, hf1⟩ := hq
  refine ⟨_, rfl, ?_⟩
  have H1 := H0.fr' hf1
  refine WL.op rfl rfl (op_geqI (b := (0 : Int)) rfl rfl ?_)
  refine WL.op rfl rfl (op_assign rfl ?_)
  refine WL.nil ?_
  refine WQ.next ?_
  refine WC.ret ?_
  refine WQ.out (.tmp rfl .nil) ?_
  exact ⟨by rw [← fidx_any]; rfl, H1.fr⟩
set_option maxRecDepth 100000 in
theorem same10_ok (va vb : Value) (a b : List Ln) (w : World) (hA : Arr w va 8 a.length (List.flatMap lnc a)) (hB : Arr w vb 8 b.length (List.flatMap lnc b)) (hn : a.length < 2 ^ 47) :
    Calls Tryd.prog 19 #[va, vb] w (fun e w' => e = .returned (.bool (decide (a = b))) ∧ Fr [] w w') := by
  refine enter (args := [va, vb]) Tryd.func19 rfl rfl ?_
  have H0 : Own [] w w [] := Own.start w []
  refine WC.seq ?_
  refine WC.region ?_
  refine WL.op rfl rfl (op_assign rfl ?_)
  refine WL.nil ?_
  refine WQ.next ?_
  refine WC.seq ?_
  refine WC.seq ?_
  refine WC.region ?_
  refine WL.op rfl rfl (op_move rfl ?_)
  refine WL.op rfl rfl (op_lenA Tryd.underlying27 rfl (H0.arr hA) ?_)
  refine WL.op rfl rfl (op_move rfl ?_)
  refine WL.op rfl rfl (op_lenA Tryd.underlying27 rfl (H0.arr hB) ?_)
  refine WL.op rfl rfl (op_neqN rfl rfl ?_)
  refine WL.nil ?_
  refine WQ.next ?_
  refine WC.cond rfl (fun (hb1 : (decide (a.length ≠ b.length)) = true) => ?_) (fun (hb1 : (decide (a.length ≠ b.length)) = false) => ?_)
  ·
    have hc1 := of_decide_eq_true hb1
    refine WC.seq ?_
    refine WC.region ?_
    refine WL.op rfl rfl (op_assign rfl ?_)
    refine WL.nil ?_
    refine WQ.next ?_
    refine WC.ret ?_
    refine WQ.thenRet ?_
    refine WQ.out (.tmp rfl .nil) ?_
    exact ⟨by rw [decide_eq_false (fun h : a = b => hc1 (by rw [h]))]; rfl, H0.fr⟩
  ·
    have hc1 := of_decide_eq_false hb1
    refine WC.skip ?_
    refine WQ.next ?_
    refine WC.seq ?_
    refine WC.seq ?_
    refine WC.region ?_
    refine WL.op rfl rfl (op_assign rfl ?_)
    refine WL.nil ?_
    refine WQ.next ?_
    refine WC.block ?_
    refine WC.loop (α := Nat) (fun k => [(0, va), (1, vb), (5, (vN k))]) (fun k w' => (k ≤ a.length ∧ (∀ j, j < k → a.getD j Ln.zero = b.getD j Ln.zero)) ∧ Own [] w w' []) (fun k => a.length - k) 0 ⟨⟨Nat.zero_le _, fun j h => by omega⟩, H0⟩ ⟨rfl, rfl, rfl, trivial⟩ ?_
    rintro k w2 ⟨⟨hk1, hok⟩, H2⟩
    show WC _ _ _ _ _ [(0, va), (1, vb), (5, (vN k))] _
    refine WC.seq ?_
    refine WC.seq ?_
    refine WC.region ?_
    refine WL.op rfl rfl (op_move rfl ?_)
    refine WL.op rfl rfl (op_move rfl ?_)
    refine WL.op rfl rfl (op_lenA Tryd.underlying27 rfl (H2.arr hA) ?_)
    refine WL.op rfl rfl (op_lssN rfl rfl ?_)
    refine WL.nil ?_
    refine WQ.next ?_
    refine WC.cond rfl (fun (hb3 : (decide (k < a.length)) = true) => ?_) (fun (hb3 : (decide (k < a.length)) = false) => ?_)
    ·
      have hc3 := of_decide_eq_true hb3
      refine WC.skip ?_
      refine WQ.next ?_
      refine WC.seq ?_
      refine WC.block ?_
      refine WC.seq ?_
      refine WC.draw 9 Fa.M H2 (HW.op rfl (fun w1 H1 => op_move rfl ⟨rfl, Fr.refl _ _⟩) (HW.op rfl (fun w1 H1 => op_move rfl ⟨rfl, Fr.refl _ _⟩) (HW.op rfl (fun w1 H1 => op_indexAddr Tryd.underlying27 Fa.I26 rfl (H1.arr hA) rfl (by omega) ⟨rfl, Fr.refl _ _⟩) (HW.op rfl (fun w1 H1 => op_loadSP (vs := lnc (a.getD k Ln.zero)) rfl (Arr.atsF (H1.arr hA) (fun _ => rfl) (by decide) Ln.zero (by omega)) Tryd.underlying26 rfl Fa.I26 rfl ⟨rfl, Fr.refl _ _⟩) (HW.op rfl (fun w1 H1 => op_move rfl ⟨rfl, Fr.refl _ _⟩) (HW.op rfl (fun w1 H1 => op_move rfl ⟨rfl, Fr.refl _ _⟩) (HW.op rfl (fun w1 H1 => op_indexAddr Tryd.underlying27 Fa.I26 rfl (H1.arr hB) rfl (by omega) ⟨rfl, Fr.refl _ _⟩) (HW.op rfl (fun w1 H1 => op_loadSP (vs := lnc (b.getD k Ln.zero)) rfl (Arr.atsF (H1.arr hB) (fun _ => rfl) (by decide) Ln.zero (by omega)) Tryd.underlying26 rfl Fa.I26 rfl ⟨rfl, Fr.refl _ _⟩) (HW.op rfl (fun w1 H1 => op_neqS2 (xs := [_, _, _, _, _, _, _, _]) (ys := [_, _, _, _, _, _, _, _]) (b := (!((decide ((a.getD k Ln.zero).lb = (b.getD k Ln.zero).lb)) && ((decide ((a.getD k Ln.zero).op = (b.getD k Ln.zero).op)) && ((decide ((a.getD k Ln.zero).d = (b.getD k Ln.zero).d)) && ((decide ((a.getD k Ln.zero).a = (b.getD k Ln.zero).a)) && ((decide ((a.getD k Ln.zero).b = (b.getD k Ln.zero).b)) && ((decide ((a.getD k Ln.zero).imm = (b.getD k Ln.zero).imm)) && ((decide ((a.getD k Ln.zero).to = (b.getD k Ln.zero).to)) && (decide ((a.getD k Ln.zero).nm = (b.getD k Ln.zero).nm))))))))))) Fa.FL26 rfl rfl rfl (by simp [eqAll, veqStr, veqU32, veqU8]) ⟨rfl, Fr.refl _ _⟩)  HW.nil))))))))) (by kernel_rfl) ?_
      intro β4 w4 H4
      refine WL.nil ?_
      refine WQ.next ?_
      refine WC.cond rfl (fun (hb5 : (!((decide ((a.getD k Ln.zero).lb = (b.getD k Ln.zero).lb)) && ((decide ((a.getD k Ln.zero).op = (b.getD k Ln.zero).op)) && ((decide ((a.getD k Ln.zero).d = (b.getD k Ln.zero).d)) && ((decide ((a.getD k Ln.zero).a = (b.getD k Ln.zero).a)) && ((decide ((a.getD k Ln.zero).b = (b.getD k Ln.zero).b)) && ((decide ((a.getD k Ln.zero).imm = (b.getD k Ln.zero).imm)) && ((decide ((a.getD k Ln.zero).to = (b.getD k Ln.zero).to)) && (decide ((a.getD k Ln.zero).nm = (b.getD k Ln.zero).nm)))))))))) = true) => ?_) (fun (hb5 : (!((decide ((a.getD k Ln.zero).lb = (b.getD k Ln.zero).lb)) && ((decide ((a.getD k Ln.zero).op = (b.getD k Ln.zero).op)) && ((decide ((a.getD k Ln.zero).d = (b.getD k Ln.zero).d)) && ((decide ((a.getD k Ln.zero).a = (b.getD k Ln.zero).a)) && ((decide ((a.getD k Ln.zero).b = (b.getD k Ln.zero).b)) && ((decide ((a.getD k Ln.zero).imm = (b.getD k Ln.zero).imm)) && ((decide ((a.getD k Ln.zero).to = (b.getD k Ln.zero).to)) && (decide ((a.getD k Ln.zero).nm = (b.getD k Ln.zero).nm)))))))))) = false) => ?_)
      ·
        have hn5 := (Bool.not_eq_true' _).mp hb5
        refine WC.seq ?_
        refine WC.region ?_
        refine WL.op rfl rfl (op_assign rfl ?_)
        refine WL.nil ?_
        refine WQ.next ?_
        refine WC.ret ?_
        refine WQ.inRet ?_
        refine WQ.thenRet ?_
        refine WQ.thenRet ?_
        refine WQ.inRet ?_
        refine WQ.thenRet ?_
        refine WQ.out (.tmp rfl .nil) ?_
        exact ⟨by rw [decide_eq_false (fun h : a = b => of_decide_eq_false ((ln_eq _ _).symm.trans hn5) (by rw [h]))]; rfl, H4.fr⟩
      ·
        have hn5 := (Bool.not_eq_false' _).mp hb5
        refine WC.skip ?_
        refine WQ.inNormal ?_
        refine WQ.next ?_
        refine WC.region ?_
        refine WL.op rfl rfl (op_move rfl ?_)
        refine WL.op rfl rfl (op_addN (b := 1) rfl rfl (by omega) ?_)
        refine WL.op rfl rfl (op_assign rfl ?_)
        refine WL.nil ?_
        exact WQ.round (k + 1) ⟨⟨by omega, allPrev hok (of_decide_eq_true ((ln_eq _ _).symm.trans hn5))⟩, H4⟩ ⟨rfl, rfl, rfl, trivial⟩ (by omega)
    ·
      have hc3 := of_decide_eq_false hb3
      refine WC.exit ?_
      refine WQ.thenExit ?_
      refine WQ.thenExit ?_
      refine WQ.inHere ?_
      refine WQ.next ?_
      refine WC.seq ?_
      refine WC.region ?_
      refine WL.op rfl rfl (op_assign rfl ?_)
      refine WL.nil ?_
      refine WQ.next ?_
      refine WC.ret ?_
      refine WQ.out (.tmp rfl .nil) ?_
      exact ⟨by rw [decide_eq_true (list_eqD (by omega) (fun j hj => hok j (by omega)))]; rfl, H2.fr⟩
end Go.Proofs.YtbdghnbfnnamkaaDoor
/-! from DAsm2 -/
namespace Go.Proofs.YtbdghnbfnnamkaaDoor
open Go.Owl Go.Spec
set_option maxRecDepth 100000 in
theorem cloneN_ok (lv : Value) (l : List Nt) (w : World) (hA : Arr w lv 3 l.length (List.flatMap ntc l)) (hn : l.length < 2 ^ 40) :
    Calls Tryd.prog 28 #[lv] w (fun e w' => ∃ v, e = .returned v ∧ Own [] w w' [.row v 59 3 l.length (List.flatMap ntc l)]) := by
  refine enter (args := [lv]) Tryd.func28 rfl rfl ?_
  have H0 : Own [] w w [] := Own.start w []
  refine WC.seq ?_
  refine WC.region ?_
  refine WL.op rfl rfl (op_assign rfl ?_)
  refine WL.nil ?_
  refine WQ.next ?_
  refine WC.seq ?_
  refine WC.seq ?_
  refine WC.region ?_
  refine WL.op rfl rfl (op_move rfl ?_)
  refine WL.op rfl rfl (op_eqlSN Tryd.underlying43 rfl (H0.arr hA) rfl ?_)
  refine WL.nil ?_
  refine WQ.next ?_
  refine WC.cond rfl (fun (hb1 : (isNilS lv) = true) => ?_) (fun (hb1 : (isNilS lv) = false) => ?_)
  ·
    refine WC.seq ?_
    refine WC.region ?_
    refine WL.op rfl rfl (op_assign rfl ?_)
    refine WL.nil ?_
    refine WQ.next ?_
    refine WC.ret ?_
    refine WQ.thenRet ?_
    refine WQ.out (.tmp rfl .nil) ?_
    obtain rfl : l = [] := List.eq_nil_of_length_eq_zero (Arr.nilLen hA hb1)
    exact ⟨_, rfl, (H0.sel [] rfl rfl).nilRow 59 3⟩
  ·
    refine WC.skip ?_
    refine WQ.next ?_
    refine WC.seq ?_
    refine WC.region ?_
    refine WL.op rfl rfl (op_buildSlice (cs := []) H0 Tryd.underlying43 Fa.I59 rfl rfl rfl rfl (by decide) (by decide) (fun b2 w2 H2 => ?_))
    refine WL.op rfl rfl (op_move rfl ?_)
    refine WL.op rfl rfl (op_appendF (f := ntc) (l := []) (l' := l) (i := 0) H2 Tryd.underlying43 Fa.I59 rfl rfl rfl rfl (Src.ofArr Tryd.underlying43 (H2.arr hA)) (one_flat (fun _ => by simp [ntc, Value.oneCell'])) (by omega) (by omega) (fun v3 w3 H3 => ?_))
    refine WL.op rfl rfl (op_assign rfl ?_)
    refine WL.nil ?_
    refine WQ.next ?_
    refine WC.ret ?_
    refine WQ.out (.tmp rfl .nil) ?_
    have h := H3.sel [0] rfl rfl
    rw [Nat.zero_add, List.nil_append] at h
    exact ⟨_, rfl, h⟩
set_option maxRecDepth 100000 in
theorem label_ok (q : Nat) (c0 c1 c2 c3 c4 c5 c6 : Value) (b : Nat) (lv : Value) (l : List Ln) (FT : TypeId) (T : List Nat) (w : World) (H : Own T w w [.blk q [c0, c1, c2, c3, c4, c5, c6, (.map (some b))] FT, .obj b (mO vU32 (labTo l 0))]) (hA : ∀ w1, Fr T w w1 → Arr w1 lv 8 l.length (List.flatMap lnc l)) (hn : l.length < 2 ^ 40) :
    Calls Tryd.prog 29 #[(ptr q 0), lv] w (fun e w' => ∃ m, e = .returned (vN (labE l)) ∧ (labE l = 0 → m = labTo l l.length) ∧ Own T w w' [.blk q [c0, c1, c2, c3, c4, c5, c6, .map (some b)] FT, .obj b (mO vU32 m)]) := by
  refine enter (args := [(ptr q 0), lv]) Tryd.func29 rfl rfl ?_
  refine WC.seq ?_
  refine WC.region ?_
  refine WL.op rfl rfl (op_assign rfl ?_)
  refine WL.nil ?_
  refine WQ.next ?_
  refine WC.seq ?_
  refine WC.seq ?_
  refine WC.region ?_
  refine WL.op rfl rfl (op_move rfl ?_)
  refine WL.op rfl rfl (op_lenA Tryd.underlying27 rfl ((hA _ H.fr)) ?_)
  refine WL.op rfl rfl (op_move rfl ?_)
  refine WL.nil ?_
  refine WQ.next ?_
  refine WC.block ?_
  refine WC.loop (α := Nat) (fun k => [(0, (ptr q 0)), (4, (vN 0)), (9, lv), (10, (vN l.length)), (11, (vN k))]) (fun k w' => (k ≤ l.length ∧ (∀ j, j < k → dupB l j = false)) ∧ Own T w w' [.blk q [c0, c1, c2, c3, c4, c5, c6, (.map (some b))] FT, .obj b (mO vU32 (labTo l k))]) (fun k => l.length - k) 0 ⟨⟨Nat.zero_le _, fun j h => by omega⟩, H⟩ ⟨rfl, rfl, rfl, rfl, rfl, trivial⟩ ?_
  rintro k w1 ⟨⟨hk1, hok⟩, H1⟩
  show WC _ _ _ _ _ [(0, (ptr q 0)), (4, (vN 0)), (9, lv), (10, (vN l.length)), (11, (vN k))] _
  refine WC.seq ?_
  refine WC.region ?_
  refine WL.op rfl rfl (op_lssN rfl rfl ?_)
  refine WL.nil ?_
  refine WQ.next ?_
  refine WC.seq ?_
  refine WC.cond rfl (fun (hb2 : (decide (k < l.length)) = true) => ?_) (fun (hb2 : (decide (k < l.length)) = false) => ?_)
  ·
    have hc2 := of_decide_eq_true hb2
    refine WC.skip ?_
    refine WQ.next ?_
    refine WC.seq ?_
    refine WC.block ?_
    refine WC.seq ?_
    refine WC.region ?_
    refine WL.op rfl rfl (op_move rfl ?_)
    refine WL.op rfl rfl (op_indexAddr Tryd.underlying27 Fa.I26 rfl ((hA _ H1.fr)) rfl (by omega) ?_)
    refine WL.op rfl rfl (op_loadSP (vs := lnc (l.getD k Ln.zero)) rfl (Arr.atsF ((hA _ H1.fr)) (fun _ => rfl) (by decide) Ln.zero (by omega)) Tryd.underlying26 rfl Fa.I26 rfl ?_)
    refine WL.op rfl rfl (op_alloc H1 Fa.I26 (fun b3 w3 H3 => ?_))
    refine WL.op rfl rfl (op_assign rfl ?_)
    refine WL.op rfl rfl (op_storeBW (i := 2) H3 rfl rfl rfl rfl rfl Fa.I26 (fun w4 H4 => ?_))
    refine WL.nil ?_
    refine WQ.next ?_
    refine WC.seq ?_
    refine WC.seq ?_
    refine WC.region ?_
    refine WL.op rfl rfl (op_fieldAddr rfl Fa.F26_0 ?_)
    refine WL.op rfl rfl (op_load rfl (H4.cell (i := 2) rfl rfl) Tryd.underlying9 rfl ?_)
    refine WL.op rfl rfl (op_eqlStr rfl rfl ?_)
    refine WL.nil ?_
    refine WQ.next ?_
    refine WC.cond rfl (fun (hb5 : (decide ((l.getD k Ln.zero).lb = [])) = true) => ?_) (fun (hb5 : (decide ((l.getD k Ln.zero).lb = [])) = false) => ?_)
    ·
      have hc5 := of_decide_eq_true hb5
      refine WC.exit ?_
      refine WQ.thenExit ?_
      refine WQ.inHere ?_
      refine WQ.next ?_
      refine WC.region ?_
      refine WL.op rfl rfl (op_addN (b := 1) rfl rfl (by omega) ?_)
      refine WL.op rfl rfl (op_move rfl ?_)
      refine WL.nil ?_
      exact WQ.round (k + 1) ⟨⟨by omega, allPrev hok (dup_nil (of_decide_eq_true hb5))⟩, (by have h := (show Own T w w4 [.blk q [c0, c1, c2, c3, c4, c5, c6, (.map (some b))] FT, .obj b (mO vU32 (labTo l k))] from (H4.take 2)); rw [← lab_nil (of_decide_eq_true hb5)] at h; exact h)⟩ ⟨rfl, rfl, rfl, rfl, rfl, trivial⟩ (by omega)
    ·
      have hc5 := of_decide_eq_false hb5
      refine WC.skip ?_
      refine WQ.next ?_
      refine WC.seq ?_
      refine WC.seq ?_
      refine WC.draw 12 Fa.M H4 (HW.op rfl (fun w1 H1 => op_move rfl ⟨rfl, Fr.refl _ _⟩) (HW.op rfl (fun w1 H1 => op_nilCheck rfl ⟨rfl, Fr.refl _ _⟩) (HW.op rfl (fun w1 H1 => op_fieldAddr rfl Fa.F62_1 ⟨rfl, Fr.refl _ _⟩) (HW.op rfl (fun w1 H1 => op_load rfl (H1.cell (i := 0) rfl rfl) Tryd.underlying60 rfl ⟨rfl, Fr.refl _ _⟩) (HW.op rfl (fun w1 H1 => op_fieldAddr rfl Fa.F26_0 ⟨rfl, Fr.refl _ _⟩) (HW.op rfl (fun w1 H1 => op_load rfl (H1.cell (i := 2) rfl rfl) Tryd.underlying9 rfl ⟨rfl, Fr.refl _ _⟩) (HW.op rfl (fun w1 H1 => op_lookupG (i := 1) (c := 0) H1 rfl Tryd.underlying60 Tryd.underlying9 Fa.Z22 rfl rfl ⟨rfl, Fr.refl _ _⟩) (HW.op rfl (fun w1 H1 => op_move rfl ⟨rfl, Fr.refl _ _⟩) (HW.op rfl (fun w1 H1 => op_extract rfl rfl ⟨rfl, Fr.refl _ _⟩) (HW.op rfl (fun w1 H1 => op_extract rfl rfl ⟨rfl, Fr.refl _ _⟩) (HW.op rfl (fun w1 H1 => op_assign rfl ⟨rfl, Fr.refl _ _⟩) (HW.op rfl (fun w1 H1 => op_assign rfl ⟨rfl, Fr.refl _ _⟩)  HW.nil)))))))))))) (by kernel_rfl) ?_
      intro β6 w6 H6
      refine WL.nil ?_
      refine WQ.next ?_
      refine WC.seq ?_
      refine WC.region ?_
      refine WL.op rfl rfl (op_move rfl ?_)
      refine WL.nil ?_
      refine WQ.next ?_
      refine WC.cond rfl (fun (hb7 : (mget (l.getD k Ln.zero).lb (labTo l k)).isSome = true) => ?_) (fun (hb7 : (mget (l.getD k Ln.zero).lb (labTo l k)).isSome = false) => ?_)
      ·
        refine WC.seq ?_
        refine WC.region ?_
        refine WL.op rfl rfl (op_assign rfl ?_)
        refine WL.nil ?_
        refine WQ.next ?_
        refine WC.ret ?_
        refine WQ.thenRet ?_
        refine WQ.inRet ?_
        refine WQ.thenRet ?_
        refine WQ.thenRet ?_
        refine WQ.inRet ?_
        refine WQ.thenRet ?_
        refine WQ.out (.tmp rfl .nil) ?_
        rw [labE_9 (k := k) (by omega) ((dup_get (of_decide_eq_false hb5) hok).symm.trans hb7)]
        exact ⟨_, rfl, (fun h => absurd h (by decide)), H6.sel [0, 1] rfl rfl⟩
      ·
        refine WC.skip ?_
        refine WQ.next ?_
        refine WC.draw 9 Fa.M H6 (HW.op rfl (fun w1 H1 => op_move rfl ⟨rfl, Fr.refl _ _⟩) (HW.op rfl (fun w1 H1 => op_nilCheck rfl ⟨rfl, Fr.refl _ _⟩) (HW.op rfl (fun w1 H1 => op_fieldAddr rfl Fa.F62_1 ⟨rfl, Fr.refl _ _⟩) (HW.op rfl (fun w1 H1 => op_load rfl (H1.cell (i := 0) rfl rfl) Tryd.underlying60 rfl ⟨rfl, Fr.refl _ _⟩) (HW.op rfl (fun w1 H1 => op_fieldAddr rfl Fa.F26_0 ⟨rfl, Fr.refl _ _⟩) (HW.op rfl (fun w1 H1 => op_load rfl (H1.cell (i := 2) rfl rfl) Tryd.underlying9 rfl ⟨rfl, Fr.refl _ _⟩) (HW.op rfl (fun w1 H1 => op_move rfl ⟨rfl, Fr.refl _ _⟩) (HW.op rfl (fun w1 H1 => op_convNU32 (hs := Tryd.underlying3) (hd := Tryd.underlying22) rfl ⟨rfl, Fr.refl _ _⟩) (HW.op rfl (fun w1 H1 => op_mulU32 (b := 8) rfl rfl ⟨rfl, Fr.refl _ _⟩)  HW.nil))))))))) (by kernel_rfl) ?_
        intro β8 w8 H8
        refine WL.op rfl rfl (op_mapUpdate (i := 1) (v := ((UInt32.ofNat k) * (8 : UInt32))) H8 rfl Tryd.underlying60 Tryd.underlying9 rfl rfl rfl (fun w9 H9 => ?_))
        refine WL.nil ?_
        refine WQ.inNormal ?_
        refine WQ.next ?_
        refine WC.region ?_
        refine WL.op rfl rfl (op_addN (b := 1) rfl rfl (by omega) ?_)
        refine WL.op rfl rfl (op_move rfl ?_)
        refine WL.nil ?_
        exact WQ.round (k + 1) ⟨⟨by omega, allPrev hok ((dup_get (of_decide_eq_false hb5) hok).symm.trans hb7)⟩, (by have h := (show Own T w w9 [.blk q [c0, c1, c2, c3, c4, c5, c6, (.map (some b))] FT, .obj b (mO vU32 (mset (l.getD k Ln.zero).lb ((UInt32.ofNat k) * (8 : UInt32)) (labTo l k)))] from (H9.take 2)); rw [← lab_set (of_decide_eq_false hb5)] at h; exact h)⟩ ⟨rfl, rfl, rfl, rfl, rfl, trivial⟩ (by omega)
  ·
    have hc2 := of_decide_eq_false hb2
    refine WC.exit ?_
    refine WQ.thenExit ?_
    refine WQ.thenExit ?_
    refine WQ.inHere ?_
    refine WQ.next ?_
    refine WC.seq ?_
    refine WC.region ?_
    refine WL.op rfl rfl (op_assign rfl ?_)
    refine WL.nil ?_
    refine WQ.next ?_
    refine WC.ret ?_
    refine WQ.out (.tmp rfl .nil) ?_
    have hk : k = l.length := by omega
    subst hk
    rw [labE_0 hok]
    exact ⟨_, rfl, fun _ => rfl, H1⟩
set_option maxRecDepth 100000 in
theorem place_ok (q : Nat) (n0 : List UInt8) (c1 c2 c3 : Value) (bs : List UInt8) (v c6 c7 : Value) (n : Nat) (rl : List Rl) (nm : List UInt8) (add : UInt32) (FT : TypeId) (T : List Nat) (w : World) (H : Own T w w [.blk q [(str n0), c1, c2, c3, (str bs), v, c6, c7] FT, .row v 52 4 n (List.flatMap rlc rl)]) (hn : n < 2 ^ 40) (hbs : bs.length < 2 ^ 40) :
    Calls Tryd.prog 37 #[(ptr q 0), (str nm), (vU32 add)] w (fun e w' => ∃ v', e = .returned undef ∧ Own T w w' [.blk q [str n0, c1, c2, c3, str bs, v', c6, c7] FT, .row v' 52 4 (n + 1) (List.flatMap rlc (rl ++ [⟨UInt32.ofNat bs.length + 4, 1, nm, add⟩]))]) := by
  refine enter (args := [(ptr q 0), (str nm), (vU32 add)]) Tryd.func37 rfl rfl ?_
  refine WC.drawLate 18 0 (d0 := 6) (t0 := 0) Fa.M H (HW.op rfl (fun w1 H1 => op_move rfl ⟨rfl, Fr.refl _ _⟩) (HW.op rfl (fun w1 H1 => op_move rfl ⟨rfl, Fr.refl _ _⟩) (HW.op rfl (fun w1 H1 => op_nilCheck rfl ⟨rfl, Fr.refl _ _⟩) (HW.op rfl (fun w1 H1 => op_fieldAddr rfl Fa.F62_0 ⟨rfl, Fr.refl _ _⟩) (HW.op rfl (fun w1 H1 => op_fieldAddr rfl Fa.F46_5 ⟨rfl, Fr.refl _ _⟩) (HW.op rfl (fun w1 H1 => op_load rfl (H1.cell (i := 0) rfl rfl) Tryd.underlying44 rfl ⟨rfl, Fr.refl _ _⟩) (HW.op rfl (fun w1 H1 => op_move rfl ⟨rfl, Fr.refl _ _⟩) (HW.op rfl (fun w1 H1 => op_nilCheck rfl ⟨rfl, Fr.refl _ _⟩) (HW.op rfl (fun w1 H1 => op_fieldAddr rfl Fa.F62_0 ⟨rfl, Fr.refl _ _⟩) (HW.op rfl (fun w1 H1 => op_fieldAddr rfl Fa.F46_4 ⟨rfl, Fr.refl _ _⟩) (HW.op rfl (fun w1 H1 => op_load rfl (H1.cell (i := 0) rfl rfl) Tryd.underlying9 rfl ⟨rfl, Fr.refl _ _⟩) (HW.op rfl (fun w1 H1 => op_lenStr Tryd.underlying9 rfl ⟨rfl, Fr.refl _ _⟩) (HW.op rfl (fun w1 H1 => op_convNU32 (hs := Tryd.underlying3) (hd := Tryd.underlying22) rfl ⟨rfl, Fr.refl _ _⟩) (HW.op rfl (fun w1 H1 => op_addU32 (b := 4) rfl rfl ⟨rfl, Fr.refl _ _⟩) (HW.op rfl (fun w1 H1 => op_move rfl ⟨rfl, Fr.refl _ _⟩) (HW.op rfl (fun w1 H1 => op_move rfl ⟨rfl, Fr.refl _ _⟩) (HW.op rfl (fun w1 H1 => op_build (cs := [_, _, _, _]) Fa.I52 Fa.PL52 rfl rfl ⟨rfl, Fr.refl _ _⟩) (HW.flt (mk := fun bq => .slice (some ⟨bq.1, 0, none⟩) 1 1) (ent := fun bq => .row (.slice (some ⟨bq.1, 0, none⟩) 1 1) _ _ _ _) rfl (fun w1 _ => op_buildSlice (cs := [_, _, _, _]) (Own.start w1 []) Tryd.underlying44 Fa.I52 rfl rfl rfl rfl (by decide) (by decide) (fun bq w2 H2 => ⟨(bq, undef), rfl, H2, True.intro⟩))  HW.nil)))))))))))))))))) (by kernel_rfl) rfl rfl rfl rfl rfl rfl rfl ?_
  intro β1 w1 H1 x1
  refine (op_appendF (f := rlc) (l := rl) (l' := [(Rl.mk ((UInt32.ofNat bs.length) + (4 : UInt32)) 1 nm add)]) (i := 1) H1 Tryd.underlying44 Fa.I52 rfl rfl rfl rfl (Src.ofArr Tryd.underlying44 (H1.arrR (i := 2) rfl)) (one_flat (fun _ => by simp [rlc, Value.oneCell'])) (by omega) (by omega) (fun v2 w2 H2 => ?_))
  refine WL.op rfl rfl (op_nilCheck rfl ?_)
  refine WL.op rfl rfl (op_fieldAddr rfl Fa.F62_0 ?_)
  refine WL.op rfl rfl (op_fieldAddr rfl Fa.F46_5 ?_)
  refine WL.op rfl rfl (op_storeB (i := 0) H2 rfl rfl rfl rfl (Arr.one (H2.arrR (i := 1) rfl)) Fa.I44 (fun w3 H3 => ?_))
  refine WL.nil ?_
  refine WQ.outEnd .nil ?_
  exact ⟨_, rfl, H3.sel [0, 1] rfl rfl⟩
end Go.Proofs.YtbdghnbfnnamkaaDoor
