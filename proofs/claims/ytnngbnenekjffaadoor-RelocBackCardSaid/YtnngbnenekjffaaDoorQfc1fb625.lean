/- General lemmas and walks: FDObj, FDObj2, FDRel, FDRel2, FDRel3, FDRel4, FDRel5, FDRel6, FDRel7, DObj, DObj2, DRel, DRel2, DRel3, DRel4. No condition but what each theorem names. -/
import Derived.Test.YtnngbnenekjffaaDoorQ35b2dc86
import Derived.Test.YtnngbnenekjffaaDoorChecked
import Derived.Test.YtnngbnenekjffaaDoorQ941c0de3
import Derived.Test.YtnngbnenekjffaaDoorQ193b9fe0
/-! from FDObj -/
/- Closed facts, off the tables of the program. -/
namespace Go.Proofs.YtnngbnenekjffaaDoor
open Go.Owl
namespace Fa
theorem C107 : callB Tryd.prog 107 = true := by kernel_rfl
theorem C108 : callB Tryd.prog 108 = true := by kernel_rfl
theorem C109 : callB Tryd.prog 109 = true := by kernel_rfl
theorem C118 : callB Tryd.prog 118 = true := by kernel_rfl
theorem C32 : callB Tryd.prog 32 = true := by kernel_rfl
theorem C60 : callB Tryd.prog 60 = true := by kernel_rfl
theorem C92 : callB Tryd.prog 92 = true := by kernel_rfl
theorem F68_0 : faB Tryd.prog 68 0 = some (0, 1, true) := by kernel_rfl
theorem F68_1 : faB Tryd.prog 68 1 = some (1, 1, true) := by kernel_rfl
theorem F68_2 : faB Tryd.prog 68 2 = some (2, 1, true) := by kernel_rfl
theorem I157 : tiB Tryd.prog 157 = some ((List.replicate 256 (.bool false)), 256, 256) := by kernel_rfl
theorem I4 : tiB Tryd.prog 4 = some ([(.bool false)], 1, 1) := by kernel_rfl
theorem I68 : tiB Tryd.prog 68 = some ([(vU8 0), (vU32 0), (vU32 0)], 3, 12) := by kernel_rfl
end Fa
end Go.Proofs.YtnngbnenekjffaaDoor
/-! from FDObj2 -/
/- Closed facts, off the tables of the program. -/
namespace Go.Proofs.YtnngbnenekjffaaDoor
open Go.Owl
namespace Fa
theorem C61 : callB Tryd.prog 61 = true := by kernel_rfl
theorem C80 : callB Tryd.prog 80 = true := by kernel_rfl
theorem C81 : callB Tryd.prog 81 = true := by kernel_rfl
theorem C82 : callB Tryd.prog 82 = true := by kernel_rfl
theorem C83 : callB Tryd.prog 83 = true := by kernel_rfl
theorem C84 : callB Tryd.prog 84 = true := by kernel_rfl
theorem C93 : callB Tryd.prog 93 = true := by kernel_rfl
theorem F111_0 : faB Tryd.prog 111 0 = some (0, 7, false) := by kernel_rfl
theorem F26_0 : faB Tryd.prog 26 0 = some (0, 1, true) := by kernel_rfl
theorem F26_1 : faB Tryd.prog 26 1 = some (1, 1, true) := by kernel_rfl
theorem F26_2 : faB Tryd.prog 26 2 = some (2, 1, true) := by kernel_rfl
theorem F26_3 : faB Tryd.prog 26 3 = some (3, 1, true) := by kernel_rfl
theorem F26_4 : faB Tryd.prog 26 4 = some (4, 1, true) := by kernel_rfl
theorem F26_5 : faB Tryd.prog 26 5 = some (5, 1, true) := by kernel_rfl
theorem F26_6 : faB Tryd.prog 26 6 = some (6, 1, true) := by kernel_rfl
theorem F44_0 : faB Tryd.prog 44 0 = some (0, 1, true) := by kernel_rfl
theorem F44_1 : faB Tryd.prog 44 1 = some (1, 1, true) := by kernel_rfl
theorem F44_2 : faB Tryd.prog 44 2 = some (2, 1, true) := by kernel_rfl
theorem I111 : tiB Tryd.prog 111 = some ([(str []), (vU8 0), (vU8 0), (vU32 0), (str []), (.slice none 0 0), (.slice none 0 0)], 7, 88) := by kernel_rfl
theorem I26 : tiB Tryd.prog 26 = some ([(str []), (vU8 0), (vU8 0), (vU32 0), (str []), (.slice none 0 0), (.slice none 0 0)], 7, 88) := by kernel_rfl
theorem I44 : tiB Tryd.prog 44 = some ([(vU32 0), (vU8 0), (str []), (vU32 0)], 4, 32) := by kernel_rfl
theorem PL111 : plB Tryd.prog 111 = some [(0, 7)] := by kernel_rfl
end Fa
end Go.Proofs.YtnngbnenekjffaaDoor
/-! from FDRel -/
/- Closed facts, off the tables of the program. -/
namespace Go.Proofs.YtnngbnenekjffaaDoor
open Go.Owl
namespace Fa
theorem C27 : callB Tryd.prog 27 = true := by kernel_rfl
theorem C45 : callB Tryd.prog 45 = true := by kernel_rfl
theorem C70 : callB Tryd.prog 70 = true := by kernel_rfl
theorem C89 : callB Tryd.prog 89 = true := by kernel_rfl
theorem F88_1 : faB Tryd.prog 88 1 = some (7, 1, true) := by kernel_rfl
theorem I5 : tiB Tryd.prog 5 = some ([(vU8 0)], 1, 1) := by kernel_rfl
theorem I88 : tiB Tryd.prog 88 = some ([(str []), (vU8 0), (vU8 0), (vU32 0), (str []), (.slice none 0 0), (.slice none 0 0), (.slice none 0 0)], 8, 112) := by kernel_rfl
theorem M : Tryd.prog.follows .mixedOrders = true := by kernel_rfl
theorem PL88 : plB Tryd.prog 88 = some [(0, 7), (7, 1)] := by kernel_rfl
end Fa
end Go.Proofs.YtnngbnenekjffaaDoor
/-! from FDRel2 -/
/- Closed facts, off the tables of the program. -/
namespace Go.Proofs.YtnngbnenekjffaaDoor
open Go.Owl
namespace Fa
theorem C41 : callB Tryd.prog 41 = true := by kernel_rfl
theorem C42 : callB Tryd.prog 42 = true := by kernel_rfl
theorem C44 : callB Tryd.prog 44 = true := by kernel_rfl
theorem F44_3 : faB Tryd.prog 44 3 = some (3, 1, true) := by kernel_rfl
theorem F88_0 : faB Tryd.prog 88 0 = some (0, 7, false) := by kernel_rfl
theorem I22 : tiB Tryd.prog 22 = some ([(vU32 0)], 1, 4) := by kernel_rfl
end Fa
end Go.Proofs.YtnngbnenekjffaaDoor
/-! from FDRel3 -/
/- Closed facts, off the tables of the program. -/
namespace Go.Proofs.YtnngbnenekjffaaDoor
open Go.Owl
namespace Fa
end Fa
end Go.Proofs.YtnngbnenekjffaaDoor
/-! from FDRel4 -/
/- Closed facts, off the tables of the program. -/
namespace Go.Proofs.YtnngbnenekjffaaDoor
open Go.Owl
namespace Fa
theorem F32_1 : faB Tryd.prog 32 1 = some (1, 1, true) := by kernel_rfl
theorem I32 : tiB Tryd.prog 32 = some ([(str []), (.slice none 0 0)], 2, 40) := by kernel_rfl
end Fa
end Go.Proofs.YtnngbnenekjffaaDoor
/-! from FDRel5 -/
/- Closed facts, off the tables of the program. -/
namespace Go.Proofs.YtnngbnenekjffaaDoor
open Go.Owl
namespace Fa
theorem C14 : callB Tryd.prog 14 = true := by kernel_rfl
theorem C16 : callB Tryd.prog 16 = true := by kernel_rfl
theorem C29 : callB Tryd.prog 29 = true := by kernel_rfl
theorem PL26 : plB Tryd.prog 26 = some [(0, 1), (1, 1), (2, 1), (3, 1), (4, 1), (5, 1), (6, 1)] := by kernel_rfl
theorem PL32 : plB Tryd.prog 32 = some [(0, 1), (1, 1)] := by kernel_rfl
theorem PL44 : plB Tryd.prog 44 = some [(0, 1), (1, 1), (2, 1), (3, 1)] := by kernel_rfl
end Fa
end Go.Proofs.YtnngbnenekjffaaDoor
/-! from FDRel6 -/
/- Closed facts, off the tables of the program. -/
namespace Go.Proofs.YtnngbnenekjffaaDoor
open Go.Owl
namespace Fa
theorem C11 : callB Tryd.prog 11 = true := by kernel_rfl
theorem C12 : callB Tryd.prog 12 = true := by kernel_rfl
end Fa
end Go.Proofs.YtnngbnenekjffaaDoor
/-! from FDRel7 -/
/- Closed facts, off the tables of the program. -/
namespace Go.Proofs.YtnngbnenekjffaaDoor
open Go.Owl
namespace Fa
end Fa
end Go.Proofs.YtnngbnenekjffaaDoor
/-! from DObj -/
namespace Go.Proofs.YtnngbnenekjffaaDoor
open Go.Owl Go.Spec
set_option maxRecDepth 100000 in
theorem told_ok (b : Bool) (w : World) :
    Calls Tryd.prog 60 #[(.bool b)] w (fun e w' => e = .returned (vN (toldN b)) ∧ Fr [] w w') := by
  refine enter (args := [(.bool b)]) Tryd.func60 rfl rfl ?_
  have H0 : Own [] w w [] := Own.start w []
  refine WC.seq ?_
  refine WC.region ?_
  refine WL.op rfl rfl (op_assign rfl ?_)
  refine WL.nil ?_
  refine WQ.next ?_
  refine WC.seq ?_
  refine WC.seq ?_
  refine WC.region ?_
  refine WL.op rfl rfl (op_move rfl ?_)
  refine WL.op rfl rfl (op_not rfl ?_)
  refine WL.nil ?_
  refine WQ.next ?_
  refine WC.cond rfl (fun (hb1 : (!b) = true) => ?_) (fun (hb1 : (!b) = false) => ?_)
  ·
    have hn1 := (Bool.not_eq_true' _).mp hb1
    refine WC.seq ?_
    refine WC.region ?_
    refine WL.op rfl rfl (op_assign rfl ?_)
    refine WL.nil ?_
    refine WQ.next ?_
    refine WC.ret ?_
    refine WQ.thenRet ?_
    refine WQ.out (.tmp rfl .nil) ?_
    exact ⟨by (rw [toldN, hn1]) <;> rfl, H0.fr⟩
  ·
    have hn1 := (Bool.not_eq_false' _).mp hb1
    refine WC.skip ?_
    refine WQ.next ?_
    refine WC.seq ?_
    refine WC.region ?_
    refine WL.op rfl rfl (op_assign rfl ?_)
    refine WL.nil ?_
    refine WQ.next ?_
    refine WC.ret ?_
    refine WQ.out (.tmp rfl .nil) ?_
    exact ⟨by (rw [toldN, hn1]) <;> rfl, H0.fr⟩
set_option maxRecDepth 100000 in
theorem mkset_ok (cs : List UInt8) (w : World) (hcs : ∀ k, k < cs.length → ¬ (cs.getD k 0) ≥ (128 : UInt8)) (hl : cs.length < 2 ^ 40) :
    Calls Tryd.prog 107 #[(str cs)] w (fun e w' => e = .returned (.tuple #[.agg (tabB cs cs.length).toArray, .bool true]) ∧ Fr [] w w') := by
  refine enter (args := [(str cs)]) Tryd.func107 rfl rfl ?_
  have H0 : Own [] w w [] := Own.start w []
  refine WC.seq ?_
  refine WC.region ?_
  refine WL.op rfl rfl (op_alloc H0 Fa.I157 (fun b1 w1 H1 => ?_))
  refine WL.op rfl rfl (op_assign rfl ?_)
  refine WL.nil ?_
  refine WQ.next ?_
  refine WC.seq ?_
  refine WC.seq ?_
  refine WC.region ?_
  refine WL.op rfl rfl (op_assign rfl ?_)
  refine WL.nil ?_
  refine WQ.next ?_
  refine WC.block ?_
  refine WC.loop (α := Nat) (fun k => [(0, (str cs)), (2, (ptr b1 0)), (3, (.bool false)), (4, (vN k))]) (fun k w' => (k ≤ cs.length) ∧ Own [] w w' [.blk b1 (tabB cs k) 157]) (fun k => cs.length - k) 0 ⟨(by omega), (by rw [tabB_0]; exact (show Own [] w w1 [.blk b1 (List.replicate 256 (.bool false)) 157] from H1))⟩ ⟨rfl, rfl, rfl, rfl, trivial⟩ ?_
  rintro k w2 ⟨hinv, H2⟩
  show WC _ _ _ _ _ [(0, (str cs)), (2, (ptr b1 0)), (3, (.bool false)), (4, (vN k))] _
  refine WC.seq ?_
  refine WC.seq ?_
  refine WC.region ?_
  refine WL.op rfl rfl (op_move rfl ?_)
  refine WL.op rfl rfl (op_move rfl ?_)
  refine WL.op rfl rfl (op_lenStr Tryd.underlying9 rfl ?_)
  refine WL.op rfl rfl (op_lssN rfl rfl ?_)
  refine WL.nil ?_
  refine WQ.next ?_
  refine WC.cond rfl (fun (hb3 : (decide (k < cs.length)) = true) => ?_) (fun (hb3 : (decide (k < cs.length)) = false) => ?_)
  ·
    have hc3 := of_decide_eq_true hb3
    refine WC.skip ?_
    refine WQ.next ?_
    refine WC.seq ?_
    refine WC.block ?_
    refine WC.seq ?_
    refine WC.region ?_
    refine WL.op rfl rfl (op_move rfl ?_)
    refine WL.op rfl rfl (op_move rfl ?_)
    refine WL.op rfl rfl (op_indexStrD Tryd.underlying9 rfl rfl (by omega) ?_)
    refine WL.op rfl rfl (op_assign rfl ?_)
    refine WL.nil ?_
    refine WQ.next ?_
    refine WC.seq ?_
    refine WC.seq ?_
    refine WC.region ?_
    refine WL.op rfl rfl (op_move rfl ?_)
    refine WL.op rfl rfl (op_geqU8 (b := 128) rfl rfl ?_)
    refine WL.nil ?_
    refine WQ.next ?_
    refine WC.no rfl (decide_eq_false (hcs k (by omega))) ?_
    refine WC.skip ?_
    refine WQ.next ?_
    refine WC.region ?_
    refine WL.op rfl rfl (op_move rfl ?_)
    refine WL.op rfl rfl (op_indexAddrA1 Tryd.underlying157 Fa.I4 rfl rfl (UInt8.toNat_lt _) ?_)
    refine WL.op rfl rfl (op_storeB (i := 0) H2 rfl rfl rfl (by rw [Nat.blt_eq, tabB_len, Nat.zero_add]; exact UInt8.toNat_lt _) rfl Fa.I4 (fun w4 H4 => ?_))
    refine WL.nil ?_
    refine WQ.inNormal ?_
    refine WQ.next ?_
    refine WC.region ?_
    refine WL.op rfl rfl (op_move rfl ?_)
    refine WL.op rfl rfl (op_addN (b := 1) rfl rfl (by omega) ?_)
    refine WL.op rfl rfl (op_assign rfl ?_)
    refine WL.nil ?_
    exact WQ.round (k + 1) ⟨(by omega), (by have h := (show Own [] w w4 [.blk b1 ((tabB cs k).set (0 + (cs.getD k 0).toNat) (.bool true)) 157] from H4); rw [Nat.zero_add, tabB_succ (by omega)] at h; exact h)⟩ ⟨rfl, rfl, rfl, rfl, trivial⟩ (by omega)
  ·
    have hc3 := of_decide_eq_false hb3
    refine WC.exit ?_
    refine WQ.thenExit ?_
    refine WQ.thenExit ?_
    refine WQ.inHere ?_
    refine WQ.next ?_
    refine WC.seq ?_
    refine WC.region ?_
    refine WL.op rfl rfl (op_loadS rfl (H2.cellsW (i := 0) rfl) Tryd.underlying157 rfl Fa.I157 (by rw [tabB_len]) ?_)
    refine WL.op rfl rfl (op_storeBV (i := 0) H2 rfl rfl rfl (by rw [tabB_len]; rfl) (tabB_one _ _) (by rw [tabB_len]) Fa.I157 (fun w5 H5 => ?_))
    refine WL.op rfl rfl (op_assign rfl ?_)
    refine WL.nil ?_
    refine WQ.next ?_
    refine WC.ret ?_
    refine WQ.out (.cell rfl (run_loadVarS (H5.cellsW (i := 0) rfl) Tryd.underlying157 rfl Fa.I157 (by rw [tabB_len])) (.tmp rfl .nil)) ?_
    exact ⟨by have hk : k = cs.length := (by omega); subst hk; rfl, H5.fr⟩
set_option maxRecDepth 100000 in
theorem ashas_ok (q : Nat) (cs : List UInt8) (x : UInt8) (w : World) (hQ : cellsAt w q (tabB cs cs.length)) :
    Calls Tryd.prog 118 #[(ptr q 0), (vU8 x)] w (fun e w' => e = .returned (.bool (inB cs x)) ∧ Fr [] w w') := by
  refine enter (args := [(ptr q 0), (vU8 x)]) Tryd.func118 rfl rfl ?_
  have H0 : Own [] w w [Ent.bo q (tabB cs cs.length)] := ((Own.start w []).oldB hQ)
  refine WC.seq ?_
  refine WC.region ?_
  refine WL.op rfl rfl (op_assign rfl ?_)
  refine WL.nil ?_
  refine WQ.next ?_
  refine WC.seq ?_
  refine WC.region ?_
  refine WL.op rfl rfl (op_move rfl ?_)
  refine WL.op rfl rfl (op_move rfl ?_)
  refine WL.op rfl rfl (op_nilCheck rfl ?_)
  refine WL.op rfl rfl (op_indexAddrA1 Tryd.underlying157 Fa.I4 rfl rfl (UInt8.toNat_lt _) ?_)
  refine WL.op rfl rfl (op_load rfl (H0.cellO (i := 0) rfl (by rw [Nat.zero_add]; exact tabB_get cs x)) Tryd.underlying4 rfl ?_)
  refine WL.op rfl rfl (op_assign rfl ?_)
  refine WL.nil ?_
  refine WQ.next ?_
  refine WC.ret ?_
  refine WQ.out (.tmp rfl .nil) ?_
  exact ⟨rfl, H0.fr⟩
set_option maxRecDepth 100000 in
theorem trimR_ok (s : List UInt8) (q : Nat) (cs : List UInt8) (w : World) (hQ : cellsAt w q (tabB cs cs.length)) (hs : s.length < 2 ^ 62) :
    Calls Tryd.prog 109 #[(str s), (ptr q 0)] w (fun e w' => e = .returned (str (trR (inB cs) s)) ∧ Fr [] w w') := by
  refine enter (args := [(str s), (ptr q 0)]) Tryd.func109 rfl rfl ?_
  have H0 : Own [] w w [Ent.bo q (tabB cs cs.length)] := ((Own.start w []).oldB hQ)
  refine WC.seq ?_
  refine WC.region ?_
  refine WL.op rfl rfl (op_assign rfl ?_)
  refine WL.nil ?_
  refine WQ.next ?_
  refine WC.seq ?_
  refine WC.block ?_
  refine WC.loop (α := List UInt8) (fun t => [(0, (str t)), (1, (ptr q 0)), (4, (str []))]) (fun t w' => (trR (inB cs) t = trR (inB cs) s ∧ t.length ≤ s.length) ∧ Own [] w w' [Ent.bo q (tabB cs cs.length)]) (fun t => t.length) s ⟨⟨rfl, Nat.le_refl _⟩, H0⟩ ⟨rfl, rfl, rfl, trivial⟩ ?_
  rintro t w1 ⟨⟨ht, hlt⟩, H1⟩
  show WC _ _ _ _ _ [(0, (str t)), (1, (ptr q 0)), (4, (str []))] _
  refine WC.seq ?_
  refine WC.seq ?_
  refine WC.region ?_
  refine WL.op rfl rfl (op_move rfl ?_)
  refine WL.op rfl rfl (op_lenStr Tryd.underlying9 rfl ?_)
  refine WL.op rfl rfl (op_gtrN (b := 0) rfl rfl ?_)
  refine WL.nil ?_
  refine WQ.next ?_
  refine WC.cond rfl (fun (hb2 : (decide (t.length > 0)) = true) => ?_) (fun (hb2 : (decide (t.length > 0)) = false) => ?_)
  ·
    have hc2 := of_decide_eq_true hb2
    refine WC.skip ?_
    refine WQ.next ?_
    refine WC.block ?_
    refine WC.seq ?_
    refine WC.seq ?_
    refine WC.region ?_
    refine WL.op rfl rfl (op_move rfl ?_)
    refine WL.op rfl rfl (op_move rfl ?_)
    refine WL.op rfl rfl (op_move rfl ?_)
    refine WL.op rfl rfl (op_lenStr Tryd.underlying9 rfl ?_)
    refine WL.op rfl rfl (op_subN (b := 1) rfl rfl (by omega) (by omega) ?_)
    refine WL.op rfl rfl (op_indexStrD Tryd.underlying9 rfl rfl (by omega) ?_)
    refine WL.op rfl rfl (op_callF Fa.C118 rfl ((ashas_ok q cs (t.getD (t.length - 1) 0) _ (H1.cellsAtO (i := 0) rfl)).mono (fun e w3 hq => ?_)))
    obtain ⟨rfl, hf3⟩ := hq
    refine ⟨_, rfl, ?_⟩
    have H3 := H1.fr' hf3
    refine WL.op rfl rfl (op_not rfl ?_)
    refine WL.nil ?_
    refine WQ.next ?_
    refine WC.cond rfl (fun (hb4 : (!(inB cs (t.getD (t.length - 1) 0))) = true) => ?_) (fun (hb4 : (!(inB cs (t.getD (t.length - 1) 0))) = false) => ?_)
    ·
      have hn4 := (Bool.not_eq_true' _).mp hb4
      refine WC.exit ?_
      refine WQ.thenExit ?_
      refine WQ.inPass rfl ?_
      refine WQ.thenExit ?_
      refine WQ.inHere ?_
      refine WQ.next ?_
      refine WC.seq ?_
      refine WC.region ?_
      refine WL.op rfl rfl (op_move rfl ?_)
      refine WL.op rfl rfl (op_assign rfl ?_)
      refine WL.nil ?_
      refine WQ.next ?_
      refine WC.ret ?_
      refine WQ.out (.tmp rfl .nil) ?_
      exact ⟨by (rw [← ht, trR_stop (by omega) hn4]) <;> rfl, H3.fr⟩
    ·
      have hn4 := (Bool.not_eq_false' _).mp hb4
      refine WC.skip ?_
      refine WQ.next ?_
      refine WC.region ?_
      refine WL.op rfl rfl (op_move rfl ?_)
      refine WL.op rfl rfl (op_move rfl ?_)
      refine WL.op rfl rfl (op_lenStr Tryd.underlying9 rfl ?_)
      refine WL.op rfl rfl (op_subN (b := 1) rfl rfl (by omega) (by omega) ?_)
      refine WL.op rfl rfl (op_sliceStrHi Tryd.underlying9 rfl rfl (by omega) ?_)
      refine WL.op rfl rfl (op_assign rfl ?_)
      refine WL.nil ?_
      refine WQ.inNormal ?_
      exact WQ.round (t.take (t.length - 1)) ⟨⟨by rw [trR_step (by omega) hn4]; exact ht, by simp only [List.length_take, List.length_drop]; omega⟩, H3⟩ ⟨rfl, rfl, rfl, trivial⟩ (by simp only [List.length_take, List.length_drop]; omega)
  ·
    have hc2 := of_decide_eq_false hb2
    refine WC.exit ?_
    refine WQ.thenExit ?_
    refine WQ.thenExit ?_
    refine WQ.inHere ?_
    refine WQ.next ?_
    refine WC.seq ?_
    refine WC.region ?_
    refine WL.op rfl rfl (op_move rfl ?_)
    refine WL.op rfl rfl (op_assign rfl ?_)
    refine WL.nil ?_
    refine WQ.next ?_
    refine WC.ret ?_
    refine WQ.out (.tmp rfl .nil) ?_
    exact ⟨by rw [← ht, List.eq_nil_of_length_eq_zero (show t.length = 0 by omega)]; rfl, H1.fr⟩
set_option maxRecDepth 100000 in
theorem trimL_ok (s : List UInt8) (q : Nat) (cs : List UInt8) (w : World) (hQ : cellsAt w q (tabB cs cs.length)) (hs : s.length < 2 ^ 62) :
    Calls Tryd.prog 108 #[(str s), (ptr q 0)] w (fun e w' => e = .returned (str (trL (inB cs) s)) ∧ Fr [] w w') := by
  refine enter (args := [(str s), (ptr q 0)]) Tryd.func108 rfl rfl ?_
  have H0 : Own [] w w [Ent.bo q (tabB cs cs.length)] := ((Own.start w []).oldB hQ)
  refine WC.seq ?_
  refine WC.region ?_
  refine WL.op rfl rfl (op_assign rfl ?_)
  refine WL.nil ?_
  refine WQ.next ?_
  refine WC.seq ?_
  refine WC.block ?_
  refine WC.loop (α := List UInt8) (fun t => [(0, (str t)), (1, (ptr q 0)), (4, (str []))]) (fun t w' => (trL (inB cs) t = trL (inB cs) s ∧ t.length ≤ s.length) ∧ Own [] w w' [Ent.bo q (tabB cs cs.length)]) (fun t => t.length) s ⟨⟨rfl, Nat.le_refl _⟩, H0⟩ ⟨rfl, rfl, rfl, trivial⟩ ?_
  rintro t w1 ⟨⟨ht, hlt⟩, H1⟩
  show WC _ _ _ _ _ [(0, (str t)), (1, (ptr q 0)), (4, (str []))] _
  refine WC.seq ?_
  refine WC.seq ?_
  refine WC.region ?_
  refine WL.op rfl rfl (op_move rfl ?_)
  refine WL.op rfl rfl (op_lenStr Tryd.underlying9 rfl ?_)
  refine WL.op rfl rfl (op_gtrN (b := 0) rfl rfl ?_)
  refine WL.nil ?_
  refine WQ.next ?_
  refine WC.cond rfl (fun (hb2 : (decide (t.length > 0)) = true) => ?_) (fun (hb2 : (decide (t.length > 0)) = false) => ?_)
  ·
    have hc2 := of_decide_eq_true hb2
    refine WC.skip ?_
    refine WQ.next ?_
    refine WC.block ?_
    refine WC.seq ?_
    refine WC.seq ?_
    refine WC.region ?_
    refine WL.op rfl rfl (op_move rfl ?_)
    refine WL.op rfl rfl (op_move rfl ?_)
    refine WL.op rfl rfl (op_indexStrD (m := 0) Tryd.underlying9 rfl rfl (by omega) ?_)
    refine WL.op rfl rfl (op_callF Fa.C118 rfl ((ashas_ok q cs (t.getD 0 0) _ (H1.cellsAtO (i := 0) rfl)).mono (fun e w3 hq => ?_)))
    obtain ⟨rfl, hf3⟩ := hq
    refine ⟨_, rfl, ?_⟩
    have H3 := H1.fr' hf3
    refine WL.op rfl rfl (op_not rfl ?_)
    refine WL.nil ?_
    refine WQ.next ?_
    refine WC.cond rfl (fun (hb4 : (!(inB cs (t.getD 0 0))) = true) => ?_) (fun (hb4 : (!(inB cs (t.getD 0 0))) = false) => ?_)
    ·
      have hn4 := (Bool.not_eq_true' _).mp hb4
      refine WC.exit ?_
      refine WQ.thenExit ?_
      refine WQ.inPass rfl ?_
      refine WQ.thenExit ?_
      refine WQ.inHere ?_
      refine WQ.next ?_
      refine WC.seq ?_
      refine WC.region ?_
      refine WL.op rfl rfl (op_move rfl ?_)
      refine WL.op rfl rfl (op_assign rfl ?_)
      refine WL.nil ?_
      refine WQ.next ?_
      refine WC.ret ?_
      refine WQ.out (.tmp rfl .nil) ?_
      exact ⟨by (rw [← ht, trL_stop (by omega) hn4]) <;> rfl, H3.fr⟩
    ·
      have hn4 := (Bool.not_eq_false' _).mp hb4
      refine WC.skip ?_
      refine WQ.next ?_
      refine WC.region ?_
      refine WL.op rfl rfl (op_move rfl ?_)
      refine WL.op rfl rfl (op_sliceStrLo (a := 1) Tryd.underlying9 rfl rfl (by omega) ?_)
      refine WL.op rfl rfl (op_assign rfl ?_)
      refine WL.nil ?_
      refine WQ.inNormal ?_
      exact WQ.round (t.drop 1) ⟨⟨by rw [trL_step (by omega) hn4]; exact ht, by simp only [List.length_take, List.length_drop]; omega⟩, H3⟩ ⟨rfl, rfl, rfl, trivial⟩ (by simp only [List.length_take, List.length_drop]; omega)
  ·
    have hc2 := of_decide_eq_false hb2
    refine WC.exit ?_
    refine WQ.thenExit ?_
    refine WQ.thenExit ?_
    refine WQ.inHere ?_
    refine WQ.next ?_
    refine WC.seq ?_
    refine WC.region ?_
    refine WL.op rfl rfl (op_move rfl ?_)
    refine WL.op rfl rfl (op_assign rfl ?_)
    refine WL.nil ?_
    refine WQ.next ?_
    refine WC.ret ?_
    refine WQ.out (.tmp rfl .nil) ?_
    exact ⟨by rw [← ht, List.eq_nil_of_length_eq_zero (show t.length = 0 by omega)]; rfl, H1.fr⟩
set_option maxRecDepth 100000 in
theorem trim_ok (s cs : List UInt8) (w : World) (hl : 1 < cs.length) (hl4 : cs.length < 2 ^ 40) (hcs : ∀ k, k < cs.length → ¬ (cs.getD k 0) ≥ (128 : UInt8)) (hs : s.length < 2 ^ 62) :
    Calls Tryd.prog 92 #[(str s), (str cs)] w (fun e w' => e = .returned (str (trL (inB cs) (trR (inB cs) s))) ∧ Fr [] w w') := by
  refine enter (args := [(str s), (str cs)]) Tryd.func92 rfl rfl ?_
  have H0 : Own [] w w [] := Own.start w []
  refine WC.seq ?_
  refine WC.region ?_
  refine WL.op rfl rfl (op_assign rfl ?_)
  refine WL.nil ?_
  refine WQ.next ?_
  refine WC.seq ?_
  refine WC.seq ?_
  refine WC.region ?_
  refine WL.op rfl rfl (op_move rfl ?_)
  refine WL.op rfl rfl (op_eqlStr rfl rfl ?_)
  refine WL.op rfl rfl (op_move rfl ?_)
  refine WL.split (t := 9) rfl (fun (hb1 : (decide (s = [])) = true) => ?_) (fun (hb1 : (decide (s = [])) = false) => ?_)
  ·
    have hc1 := of_decide_eq_true hb1
    refine WL.no rfl rfl rfl hb1 rfl ?_
    refine WL.no rfl rfl rfl hb1 rfl ?_
    refine WL.op rfl rfl (op_pickT rfl hb1 rfl ?_)
    refine WL.nil ?_
    refine WQ.next ?_
    refine WC.yes rfl rfl ?_
    refine WC.seq ?_
    refine WC.region ?_
    refine WL.op rfl rfl (op_move rfl ?_)
    refine WL.op rfl rfl (op_assign rfl ?_)
    refine WL.nil ?_
    refine WQ.next ?_
    refine WC.ret ?_
    refine WQ.thenRet ?_
    refine WQ.out (.tmp rfl .nil) ?_
    exact ⟨by (rw [of_decide_eq_true hb1]) <;> rfl, H0.fr⟩
  ·
    have hc1 := of_decide_eq_false hb1
    refine WL.yes rfl rfl rfl hb1 rfl (op_move rfl ?_)
    refine WL.yes rfl rfl rfl hb1 rfl (op_eqlStr rfl rfl ?_)
    refine WL.op rfl rfl (op_pickF rfl hb1 rfl ?_)
    refine WL.nil ?_
    refine WQ.next ?_
    refine WC.no rfl (decide_eq_false (fun h => by rw [h] at hl; simp at hl)) ?_
    refine WC.skip ?_
    refine WQ.next ?_
    refine WC.seq ?_
    refine WC.seq ?_
    refine WC.region ?_
    refine WL.op rfl rfl (op_move rfl ?_)
    refine WL.op rfl rfl (op_lenStr Tryd.underlying9 rfl ?_)
    refine WL.op rfl rfl (op_eqlN (b := 1) rfl rfl ?_)
    refine WL.op rfl rfl (op_move rfl ?_)
    refine WL.no rfl rfl rfl (decide_eq_false (by omega)) rfl ?_
    refine WL.no rfl rfl rfl (decide_eq_false (by omega)) rfl ?_
    refine WL.no rfl rfl rfl (decide_eq_false (by omega)) rfl ?_
    refine WL.op rfl rfl (op_pickF rfl (decide_eq_false (by omega)) rfl ?_)
    refine WL.nil ?_
    refine WQ.next ?_
    refine WC.no rfl rfl ?_
    refine WC.skip ?_
    refine WQ.next ?_
    refine WC.seq ?_
    refine WC.seq ?_
    refine WC.region ?_
    refine WL.op rfl rfl (op_move rfl ?_)
    refine WL.op rfl rfl (op_callF Fa.C107 rfl ((mkset_ok cs _ hcs (by first | assumption | omega)).mono (fun e w2 hq => ?_)))
    obtain ⟨rfl, hf2⟩ := hq
    refine ⟨_, rfl, ?_⟩
    have H2 := H0.fr' hf2
    refine WL.op rfl rfl (op_move rfl ?_)
    refine WL.op rfl rfl (op_extract rfl rfl ?_)
    refine WL.op rfl rfl (op_extract rfl rfl ?_)
    refine WL.op rfl rfl (op_alloc H2 Fa.I157 (fun b3 w3 H3 => ?_))
    refine WL.op rfl rfl (op_storeBV (i := 0) H3 rfl rfl rfl (by rw [tabB_len]; rfl) (tabB_one _ _) (by rw [tabB_len]) Fa.I157 (fun w4 H4 => ?_))
    refine WL.op rfl rfl (op_assign rfl ?_)
    refine WL.nil ?_
    refine WQ.next ?_
    refine WC.seq ?_
    refine WC.region ?_
    refine WL.op rfl rfl (op_move rfl ?_)
    refine WL.nil ?_
    refine WQ.next ?_
    refine WC.yes rfl rfl ?_
    refine WC.seq ?_
    refine WC.region ?_
    refine WL.op rfl rfl (op_move rfl ?_)
    refine WL.op rfl rfl (op_callF Fa.C109 rfl ((trimR_ok s b3 cs _ (H4.cellsAt (i := 0) rfl) (by first | omega | exact Nat.lt_of_le_of_lt (trR_len _ _) hs)).mono (fun e w5 hq => ?_)))
    obtain ⟨rfl, hf5⟩ := hq
    refine ⟨_, rfl, ?_⟩
    have H5 := H4.fr' hf5
    refine WL.op rfl rfl (op_callF Fa.C108 rfl ((trimL_ok (trR (inB cs) s) b3 cs _ (H5.cellsAt (i := 0) rfl) (by first | omega | exact Nat.lt_of_le_of_lt (trR_len _ _) hs)).mono (fun e w6 hq => ?_)))
    obtain ⟨rfl, hf6⟩ := hq
    refine ⟨_, rfl, ?_⟩
    have H6 := H5.fr' hf6
    refine WL.op rfl rfl (op_assign rfl ?_)
    refine WL.nil ?_
    refine WQ.next ?_
    refine WC.ret ?_
    refine WQ.thenRet ?_
    refine WQ.out (.tmp rfl .nil) ?_
    exact ⟨rfl, H6.fr⟩
set_option maxRecDepth 100000 in
theorem oname_ok (s : List UInt8) (w : World) (hs : s.length < 2 ^ 47) :
    Calls Tryd.prog 80 #[(str s)] w (fun e w' => e = .returned (.bool (nameB s)) ∧ Fr [] w w') := by
  refine enter (args := [(str s)]) Tryd.func80 rfl rfl ?_
  have H0 : Own [] w w [] := Own.start w []
  refine WC.seq ?_
  refine WC.region ?_
  refine WL.op rfl rfl (op_assign rfl ?_)
  refine WL.nil ?_
  refine WQ.next ?_
  refine WC.seq ?_
  refine WC.region ?_
  refine WL.op rfl rfl (op_move rfl ?_)
  refine WL.op rfl rfl (op_neqStr rfl rfl ?_)
  refine WL.op rfl rfl (op_move rfl ?_)
  refine WL.split (t := 5) rfl (fun (hb1 : (decide (s ≠ [])) = true) => ?_) (fun (hb1 : (decide (s ≠ [])) = false) => ?_)
  ·
    have hc1 := of_decide_eq_true hb1
    refine WL.yes rfl rfl rfl hb1 rfl (op_move rfl ?_)
    refine WL.yes rfl rfl rfl hb1 rfl (op_lenStr Tryd.underlying9 rfl ?_)
    refine WL.yes rfl rfl rfl hb1 rfl (op_leqN (b := 32) rfl rfl ?_)
    refine WL.op rfl rfl (op_pickT rfl hb1 rfl ?_)
    refine WL.op rfl rfl (op_move rfl ?_)
    refine WL.split (t := 10) rfl (fun (hb2 : (decide (s.length ≤ 32)) = true) => ?_) (fun (hb2 : (decide (s.length ≤ 32)) = false) => ?_)
    ·
      have hc2 := of_decide_eq_true hb2
      refine WL.yes rfl rfl rfl hb2 rfl (op_move rfl ?_)
      refine WL.yes rfl rfl rfl hb2 rfl (op_callF Fa.C92 rfl ((trim_ok s ([97, 98, 99, 100, 101, 102, 103, 104, 105, 106, 107, 108, 109, 110, 111, 112, 113, 114, 115, 116, 117, 118, 119, 120, 121, 122, 48, 49, 50, 51, 52, 53, 54, 55, 56, 57, 46, 95]) _ (by decide) (by decide) nameCs_low (by omega)).mono (fun e w3 hq => ?_)))
      obtain ⟨rfl, hf3⟩ := hq
      refine ⟨_, rfl, ?_⟩
      have H3 := H0.fr' hf3
      refine WL.yes rfl rfl rfl hb2 rfl (op_eqlStr rfl rfl ?_)
      refine WL.op rfl rfl (op_pickT rfl hb2 rfl ?_)
      refine WL.op rfl rfl (op_assign rfl ?_)
      refine WL.nil ?_
      refine WQ.next ?_
      refine WC.ret ?_
      refine WQ.out (.tmp rfl .nil) ?_
      exact ⟨by rw [← name_trim (of_decide_eq_true hb1) (of_decide_eq_true hb2)]; rfl, H3.fr⟩
    ·
      have hc2 := of_decide_eq_false hb2
      refine WL.no rfl rfl rfl hb2 rfl ?_
      refine WL.no rfl rfl rfl hb2 rfl ?_
      refine WL.no rfl rfl rfl hb2 rfl ?_
      refine WL.op rfl rfl (op_pickF rfl hb2 rfl ?_)
      refine WL.op rfl rfl (op_assign rfl ?_)
      refine WL.nil ?_
      refine WQ.next ?_
      refine WC.ret ?_
      refine WQ.out (.tmp rfl .nil) ?_
      exact ⟨by (rw [name_long (of_decide_eq_false hb2)]) <;> rfl, H0.fr⟩
  ·
    have hc1 := of_decide_eq_false hb1
    refine WL.no rfl rfl rfl hb1 rfl ?_
    refine WL.no rfl rfl rfl hb1 rfl ?_
    refine WL.no rfl rfl rfl hb1 rfl ?_
    refine WL.op rfl rfl (op_pickF rfl hb1 rfl ?_)
    refine WL.op rfl rfl (op_move rfl ?_)
    refine WL.no rfl rfl rfl rfl rfl ?_
    refine WL.no rfl rfl rfl rfl rfl ?_
    refine WL.no rfl rfl rfl rfl rfl ?_
    refine WL.op rfl rfl (op_pickF rfl rfl rfl ?_)
    refine WL.op rfl rfl (op_assign rfl ?_)
    refine WL.nil ?_
    refine WQ.next ?_
    refine WC.ret ?_
    refine WQ.out (.tmp rfl .nil) ?_
    exact ⟨by rw [Decidable.not_not.mp (of_decide_eq_false hb1)]; rfl, H0.fr⟩
set_option maxRecDepth 100000 in
theorem onote_ok (x : Nt) (w : World) :
    Calls Tryd.prog 32 #[(.agg #[(vU8 x.kind), (vU32 x.n), (vU32 x.m)])] w (fun e w' => e = .returned (vN (noteE x)) ∧ Fr [] w w') := by
  refine enter (args := [(.agg #[(vU8 x.kind), (vU32 x.n), (vU32 x.m)])]) Tryd.func32 rfl rfl ?_
  have H0 : Own [] w w [] := Own.start w []
  refine WC.seq ?_
  refine WC.region ?_
  refine WL.op rfl rfl (op_box H0 rfl rfl (fun b1 w1 H1 => ?_))
  refine WL.op rfl rfl (op_assign rfl ?_)
  refine WL.nil ?_
  refine WQ.next ?_
  refine WC.seq ?_
  refine WC.seq ?_
  refine WC.region ?_
  refine WL.op rfl rfl (op_fieldAddr rfl Fa.F68_0 ?_)
  refine WL.op rfl rfl (op_load rfl (H1.cell (i := 0) rfl rfl) Tryd.underlying5 rfl ?_)
  refine WL.nil ?_
  refine WQ.next ?_
  refine WC.block ?_
  refine WC.seq ?_
  refine WC.region ?_
  refine WL.op rfl rfl (op_eqlU8 (b := 1) rfl rfl ?_)
  refine WL.op rfl rfl (op_assign rfl ?_)
  refine WL.nil ?_
  refine WQ.next ?_
  refine WC.cond rfl (fun (hb2 : (decide (x.kind = (1 : UInt8))) = true) => ?_) (fun (hb2 : (decide (x.kind = (1 : UInt8))) = false) => ?_)
  ·
    have hc2 := of_decide_eq_true hb2
    refine WC.seq ?_
    refine WC.region ?_
    refine WL.op rfl rfl (op_fieldAddr rfl Fa.F68_1 ?_)
    refine WL.op rfl rfl (op_load rfl (H1.cell (i := 0) rfl rfl) Tryd.underlying22 rfl ?_)
    refine WL.op rfl rfl (op_leqU32 (b := 1024) rfl rfl ?_)
    refine WL.op rfl rfl (op_move rfl ?_)
    refine WL.split (t := 10) rfl (fun (hb3 : (decide (x.n ≤ (1024 : UInt32))) = true) => ?_) (fun (hb3 : (decide (x.n ≤ (1024 : UInt32))) = false) => ?_)
    ·
      have hc3 := of_decide_eq_true hb3
      refine WL.yes rfl rfl rfl hb3 rfl (op_fieldAddr rfl Fa.F68_2 ?_)
      refine WL.yes rfl rfl rfl hb3 rfl (op_load rfl (H1.cell (i := 0) rfl rfl) Tryd.underlying22 rfl ?_)
      refine WL.yes rfl rfl rfl hb3 rfl (op_eqlU32 (b := 0) rfl rfl ?_)
      refine WL.op rfl rfl (op_pickT rfl hb3 rfl ?_)
      refine WL.op rfl rfl (op_callF Fa.C60 rfl ((told_ok (decide (x.m = (0 : UInt32))) _).mono (fun e w4 hq => ?_)))
      obtain ⟨rfl, hf4⟩ := hq
      refine ⟨_, rfl, ?_⟩
      have H4 := H1.fr' hf4
      refine WL.op rfl rfl (op_assign rfl ?_)
      refine WL.nil ?_
      refine WQ.next ?_
      refine WC.ret ?_
      refine WQ.inRet ?_
      refine WQ.thenRet ?_
      refine WQ.out (.tmp rfl .nil) ?_
      exact ⟨by (rw [noteE, noteB, hb2, hb3]) <;> rfl, H4.fr⟩
    ·
      have hc3 := of_decide_eq_false hb3
      refine WL.no rfl rfl rfl hb3 rfl ?_
      refine WL.no rfl rfl rfl hb3 rfl ?_
      refine WL.no rfl rfl rfl hb3 rfl ?_
      refine WL.op rfl rfl (op_pickF rfl hb3 rfl ?_)
      refine WL.op rfl rfl (op_callF Fa.C60 rfl ((told_ok false _).mono (fun e w5 hq => ?_)))
      obtain ⟨rfl, hf5⟩ := hq
      refine ⟨_, rfl, ?_⟩
      have H5 := H1.fr' hf5
      refine WL.op rfl rfl (op_assign rfl ?_)
      refine WL.nil ?_
      refine WQ.next ?_
      refine WC.ret ?_
      refine WQ.inRet ?_
      refine WQ.thenRet ?_
      refine WQ.out (.tmp rfl .nil) ?_
      exact ⟨by (rw [noteE, noteB, hb2, hb3]) <;> rfl, H5.fr⟩
  ·
    have hc2 := of_decide_eq_false hb2
    refine WC.seq ?_
    refine WC.region ?_
    refine WL.op rfl rfl (op_eqlU8 (b := 2) rfl rfl ?_)
    refine WL.op rfl rfl (op_assign rfl ?_)
    refine WL.nil ?_
    refine WQ.next ?_
    refine WC.cond rfl (fun (hb6 : (decide (x.kind = (2 : UInt8))) = true) => ?_) (fun (hb6 : (decide (x.kind = (2 : UInt8))) = false) => ?_)
    ·
      have hc6 := of_decide_eq_true hb6
      refine WC.seq ?_
      refine WC.region ?_
      refine WL.op rfl rfl (op_fieldAddr rfl Fa.F68_1 ?_)
      refine WL.op rfl rfl (op_load rfl (H1.cell (i := 0) rfl rfl) Tryd.underlying22 rfl ?_)
      refine WL.op rfl rfl (op_lssU32 (b := 16) rfl rfl ?_)
      refine WL.op rfl rfl (op_move rfl ?_)
      refine WL.split (t := 21) rfl (fun (hb7 : (decide (x.n < (16 : UInt32))) = true) => ?_) (fun (hb7 : (decide (x.n < (16 : UInt32))) = false) => ?_)
      ·
        have hc7 := of_decide_eq_true hb7
        refine WL.yes rfl rfl rfl hb7 rfl (op_fieldAddr rfl Fa.F68_2 ?_)
        refine WL.yes rfl rfl rfl hb7 rfl (op_load rfl (H1.cell (i := 0) rfl rfl) Tryd.underlying22 rfl ?_)
        refine WL.yes rfl rfl rfl hb7 rfl (op_geqU32 (b := 1) rfl rfl ?_)
        refine WL.op rfl rfl (op_pickT rfl hb7 rfl ?_)
        refine WL.op rfl rfl (op_move rfl ?_)
        refine WL.split (t := 26) rfl (fun (hb8 : (decide (x.m ≥ (1 : UInt32))) = true) => ?_) (fun (hb8 : (decide (x.m ≥ (1 : UInt32))) = false) => ?_)
        ·
          have hc8 := of_decide_eq_true hb8
          refine WL.yes rfl rfl rfl hb8 rfl (op_fieldAddr rfl Fa.F68_2 ?_)
          refine WL.yes rfl rfl rfl hb8 rfl (op_load rfl (H1.cell (i := 0) rfl rfl) Tryd.underlying22 rfl ?_)
          refine WL.yes rfl rfl rfl hb8 rfl (op_leqU32 (b := 1024) rfl rfl ?_)
          refine WL.op rfl rfl (op_pickT rfl hb8 rfl ?_)
          refine WL.op rfl rfl (op_callF Fa.C60 rfl ((told_ok (decide (x.m ≤ (1024 : UInt32))) _).mono (fun e w9 hq => ?_)))
          obtain ⟨rfl, hf9⟩ := hq
          refine ⟨_, rfl, ?_⟩
          have H9 := H1.fr' hf9
          refine WL.op rfl rfl (op_assign rfl ?_)
          refine WL.nil ?_
          refine WQ.next ?_
          refine WC.ret ?_
          refine WQ.inRet ?_
          refine WQ.thenRet ?_
          refine WQ.out (.tmp rfl .nil) ?_
          exact ⟨by (rw [noteE, noteB, hb2, hb6, hb7, hb8]) <;> rfl, H9.fr⟩
        ·
          have hc8 := of_decide_eq_false hb8
          refine WL.no rfl rfl rfl hb8 rfl ?_
          refine WL.no rfl rfl rfl hb8 rfl ?_
          refine WL.no rfl rfl rfl hb8 rfl ?_
          refine WL.op rfl rfl (op_pickF rfl hb8 rfl ?_)
          refine WL.op rfl rfl (op_callF Fa.C60 rfl ((told_ok false _).mono (fun e w10 hq => ?_)))
          obtain ⟨rfl, hf10⟩ := hq
          refine ⟨_, rfl, ?_⟩
          have H10 := H1.fr' hf10
          refine WL.op rfl rfl (op_assign rfl ?_)
          refine WL.nil ?_
          refine WQ.next ?_
          refine WC.ret ?_
          refine WQ.inRet ?_
          refine WQ.thenRet ?_
          refine WQ.out (.tmp rfl .nil) ?_
          exact ⟨by (rw [noteE, noteB, hb2, hb6, hb7, hb8]) <;> rfl, H10.fr⟩
      ·
        have hc7 := of_decide_eq_false hb7
        refine WL.no rfl rfl rfl hb7 rfl ?_
        refine WL.no rfl rfl rfl hb7 rfl ?_
        refine WL.no rfl rfl rfl hb7 rfl ?_
        refine WL.op rfl rfl (op_pickF rfl hb7 rfl ?_)
        refine WL.op rfl rfl (op_move rfl ?_)
        refine WL.no rfl rfl rfl rfl rfl ?_
        refine WL.no rfl rfl rfl rfl rfl ?_
        refine WL.no rfl rfl rfl rfl rfl ?_
        refine WL.op rfl rfl (op_pickF rfl rfl rfl ?_)
        refine WL.op rfl rfl (op_callF Fa.C60 rfl ((told_ok false _).mono (fun e w11 hq => ?_)))
        obtain ⟨rfl, hf11⟩ := hq
        refine ⟨_, rfl, ?_⟩
        have H11 := H1.fr' hf11
        refine WL.op rfl rfl (op_assign rfl ?_)
        refine WL.nil ?_
        refine WQ.next ?_
        refine WC.ret ?_
        refine WQ.inRet ?_
        refine WQ.thenRet ?_
        refine WQ.out (.tmp rfl .nil) ?_
        exact ⟨by (rw [noteE, noteB, hb2, hb6, hb7]) <;> rfl, H11.fr⟩
    ·
      have hc6 := of_decide_eq_false hb6
      refine WC.seq ?_
      refine WC.region ?_
      refine WL.op rfl rfl (op_eqlU8 (b := 3) rfl rfl ?_)
      refine WL.op rfl rfl (op_assign rfl ?_)
      refine WL.nil ?_
      refine WQ.next ?_
      refine WC.cond rfl (fun (hb12 : (decide (x.kind = (3 : UInt8))) = true) => ?_) (fun (hb12 : (decide (x.kind = (3 : UInt8))) = false) => ?_)
      ·
        have hc12 := of_decide_eq_true hb12
        refine WC.seq ?_
        refine WC.region ?_
        refine WL.op rfl rfl (op_fieldAddr rfl Fa.F68_1 ?_)
        refine WL.op rfl rfl (op_load rfl (H1.cell (i := 0) rfl rfl) Tryd.underlying22 rfl ?_)
        refine WL.op rfl rfl (op_geqU32 (b := 1) rfl rfl ?_)
        refine WL.op rfl rfl (op_move rfl ?_)
        refine WL.split (t := 37) rfl (fun (hb13 : (decide (x.n ≥ (1 : UInt32))) = true) => ?_) (fun (hb13 : (decide (x.n ≥ (1 : UInt32))) = false) => ?_)
        ·
          have hc13 := of_decide_eq_true hb13
          refine WL.yes rfl rfl rfl hb13 rfl (op_fieldAddr rfl Fa.F68_1 ?_)
          refine WL.yes rfl rfl rfl hb13 rfl (op_load rfl (H1.cell (i := 0) rfl rfl) Tryd.underlying22 rfl ?_)
          refine WL.yes rfl rfl rfl hb13 rfl (op_leqU32 (b := 65535) rfl rfl ?_)
          refine WL.op rfl rfl (op_pickT rfl hb13 rfl ?_)
          refine WL.op rfl rfl (op_move rfl ?_)
          refine WL.split (t := 42) rfl (fun (hb14 : (decide (x.n ≤ (65535 : UInt32))) = true) => ?_) (fun (hb14 : (decide (x.n ≤ (65535 : UInt32))) = false) => ?_)
          ·
            have hc14 := of_decide_eq_true hb14
            refine WL.yes rfl rfl rfl hb14 rfl (op_fieldAddr rfl Fa.F68_2 ?_)
            refine WL.yes rfl rfl rfl hb14 rfl (op_load rfl (H1.cell (i := 0) rfl rfl) Tryd.underlying22 rfl ?_)
            refine WL.yes rfl rfl rfl hb14 rfl (op_eqlU32 (b := 0) rfl rfl ?_)
            refine WL.op rfl rfl (op_pickT rfl hb14 rfl ?_)
            refine WL.op rfl rfl (op_callF Fa.C60 rfl ((told_ok (decide (x.m = (0 : UInt32))) _).mono (fun e w15 hq => ?_)))
            obtain ⟨rfl, hf15⟩ := hq
            refine ⟨_, rfl, ?_⟩
            have H15 := H1.fr' hf15
            refine WL.op rfl rfl (op_assign rfl ?_)
            refine WL.nil ?_
            refine WQ.next ?_
            refine WC.ret ?_
            refine WQ.inRet ?_
            refine WQ.thenRet ?_
            refine WQ.out (.tmp rfl .nil) ?_
            exact ⟨by (rw [noteE, noteB, hb2, hb6, hb12, hb13, hb14]) <;> rfl, H15.fr⟩
          ·
            have hc14 := of_decide_eq_false hb14
            refine WL.no rfl rfl rfl hb14 rfl ?_
            refine WL.no rfl rfl rfl hb14 rfl ?_
            refine WL.no rfl rfl rfl hb14 rfl ?_
            refine WL.op rfl rfl (op_pickF rfl hb14 rfl ?_)
            refine WL.op rfl rfl (op_callF Fa.C60 rfl ((told_ok false _).mono (fun e w16 hq => ?_)))
            obtain ⟨rfl, hf16⟩ := hq
            refine ⟨_, rfl, ?_⟩
            have H16 := H1.fr' hf16
            refine WL.op rfl rfl (op_assign rfl ?_)
            refine WL.nil ?_
            refine WQ.next ?_
            refine WC.ret ?_
            refine WQ.inRet ?_
            refine WQ.thenRet ?_
            refine WQ.out (.tmp rfl .nil) ?_
            exact ⟨by (rw [noteE, noteB, hb2, hb6, hb12, hb13, hb14]) <;> rfl, H16.fr⟩
        ·
          have hc13 := of_decide_eq_false hb13
          refine WL.no rfl rfl rfl hb13 rfl ?_
          refine WL.no rfl rfl rfl hb13 rfl ?_
          refine WL.no rfl rfl rfl hb13 rfl ?_
          refine WL.op rfl rfl (op_pickF rfl hb13 rfl ?_)
          refine WL.op rfl rfl (op_move rfl ?_)
          refine WL.no rfl rfl rfl rfl rfl ?_
          refine WL.no rfl rfl rfl rfl rfl ?_
          refine WL.no rfl rfl rfl rfl rfl ?_
          refine WL.op rfl rfl (op_pickF rfl rfl rfl ?_)
          refine WL.op rfl rfl (op_callF Fa.C60 rfl ((told_ok false _).mono (fun e w17 hq => ?_)))
          obtain ⟨rfl, hf17⟩ := hq
          refine ⟨_, rfl, ?_⟩
          have H17 := H1.fr' hf17
          refine WL.op rfl rfl (op_assign rfl ?_)
          refine WL.nil ?_
          refine WQ.next ?_
          refine WC.ret ?_
          refine WQ.inRet ?_
          refine WQ.thenRet ?_
          refine WQ.out (.tmp rfl .nil) ?_
          exact ⟨by (rw [noteE, noteB, hb2, hb6, hb12, hb13]) <;> rfl, H17.fr⟩
      ·
        have hc12 := of_decide_eq_false hb12
        refine WC.seq ?_
        refine WC.region ?_
        refine WL.op rfl rfl (op_eqlU8 (b := 4) rfl rfl ?_)
        refine WL.op rfl rfl (op_assign rfl ?_)
        refine WL.nil ?_
        refine WQ.next ?_
        refine WC.cond rfl (fun (hb18 : (decide (x.kind = (4 : UInt8))) = true) => ?_) (fun (hb18 : (decide (x.kind = (4 : UInt8))) = false) => ?_)
        ·
          have hc18 := of_decide_eq_true hb18
          refine WC.seq ?_
          refine WC.region ?_
          refine WL.op rfl rfl (op_fieldAddr rfl Fa.F68_1 ?_)
          refine WL.op rfl rfl (op_load rfl (H1.cell (i := 0) rfl rfl) Tryd.underlying22 rfl ?_)
          refine WL.op rfl rfl (op_fieldAddr rfl Fa.F68_2 ?_)
          refine WL.op rfl rfl (op_load rfl (H1.cell (i := 0) rfl rfl) Tryd.underlying22 rfl ?_)
          refine WL.op rfl rfl (op_orU32 rfl rfl ?_)
          refine WL.op rfl rfl (op_eqlU32 (b := 0) rfl rfl ?_)
          refine WL.op rfl rfl (op_callF Fa.C60 rfl ((told_ok (decide ((x.n ||| x.m) = (0 : UInt32))) _).mono (fun e w19 hq => ?_)))
          obtain ⟨rfl, hf19⟩ := hq
          refine ⟨_, rfl, ?_⟩
          have H19 := H1.fr' hf19
          refine WL.op rfl rfl (op_assign rfl ?_)
          refine WL.nil ?_
          refine WQ.next ?_
          refine WC.ret ?_
          refine WQ.inRet ?_
          refine WQ.thenRet ?_
          refine WQ.out (.tmp rfl .nil) ?_
          exact ⟨by (rw [noteE, noteB, ← or_nil, hb2, hb6, hb12, hb18]) <;> rfl, H19.fr⟩
        ·
          have hc18 := of_decide_eq_false hb18
          refine WC.skip ?_
          refine WQ.inNormal ?_
          refine WQ.next ?_
          refine WC.seq ?_
          refine WC.region ?_
          refine WL.op rfl rfl (op_assign rfl ?_)
          refine WL.nil ?_
          refine WQ.next ?_
          refine WC.ret ?_
          refine WQ.out (.tmp rfl .nil) ?_
          exact ⟨by (rw [noteE, noteB, hb2, hb6, hb12, hb18]) <;> rfl, H1.fr⟩
set_option maxRecDepth 100000 in
theorem ntbad_ok (x : Nt) (w : World) :
    Calls Tryd.prog 84 #[(.agg #[(vU8 x.kind), (vU32 x.n), (vU32 x.m)])] w (fun e w' => e = .returned (.bool (!noteB x)) ∧ Fr [] w w') := by
  refine enter (args := [(.agg #[(vU8 x.kind), (vU32 x.n), (vU32 x.m)])]) Tryd.func84 rfl rfl ?_
  have H0 : Own [] w w [] := Own.start w []
  refine WC.seq ?_
  refine WC.region ?_
  refine WL.op rfl rfl (op_box H0 rfl rfl (fun b1 w1 H1 => ?_))
  refine WL.op rfl rfl (op_assign rfl ?_)
  refine WL.nil ?_
  refine WQ.next ?_
  refine WC.seq ?_
  refine WC.region ?_
  refine WL.op rfl rfl (op_loadS (vs := [_, _, _]) rfl (H1.cells (i := 0) rfl rfl) Tryd.underlying68 rfl Fa.I68 rfl ?_)
  refine WL.op rfl rfl (op_callF Fa.C32 rfl ((onote_ok x _).mono (fun e w2 hq => ?_)))
  obtain ⟨rfl, hf2⟩ := hq
  refine ⟨_, rfl, ?_⟩
  have H2 := H1.fr' hf2
  refine WL.op rfl rfl (op_neqN (b := 0) rfl rfl ?_)
  refine WL.op rfl rfl (op_assign rfl ?_)
  refine WL.nil ?_
  refine WQ.next ?_
  refine WC.ret ?_
  refine WQ.out (.tmp rfl .nil) ?_
  exact ⟨by rw [noteE]; cases noteB x <;> rfl, H2.fr⟩
end Go.Proofs.YtnngbnenekjffaaDoor
/-! from DObj2 -/
namespace Go.Proofs.YtnngbnenekjffaaDoor
open Go.Owl Go.Spec
set_option maxRecDepth 100000 in
theorem idxN_ok (lv : Value) (l : List Nt) (w : World) (hA : Arr w lv 3 l.length (List.flatMap ntc l)) (hn : l.length < 2 ^ 47) :
    Calls Tryd.prog 93 #[lv, (.func (.func 84) #[] #[])] w (fun e w' => e = .returned (vI (fidx (fun n => !noteB n) l)) ∧ Fr [] w w') := by
  refine enter (args := [lv, (.func (.func 84) #[] #[])]) Tryd.func93 rfl rfl ?_
  have H0 : Own [] w w [] := Own.start w []
  refine WC.seq ?_
  refine WC.region ?_
  refine WL.op rfl rfl (op_assign rfl ?_)
  refine WL.nil ?_
  refine WQ.next ?_
  refine WC.seq ?_
  refine WC.seq ?_
  refine WC.region ?_
  refine WL.op rfl rfl (op_move rfl ?_)
  refine WL.op rfl rfl (op_lenA Tryd.underlying24 rfl (H0.arr hA) ?_)
  refine WL.op rfl rfl (op_move rfl ?_)
  refine WL.nil ?_
  refine WQ.next ?_
  refine WC.block ?_
  refine WC.loop (α := Nat) (fun k => [(0, lv), (1, (.func (.func 84) #[] #[])), (7, (vN l.length)), (8, (vN k))]) (fun k w' => (k ≤ l.length ∧ (∀ j, j < k → (fun n => !noteB n) (l.getD j Nt.zero) = false)) ∧ Own [] w w' []) (fun k => l.length - k) 0 ⟨⟨Nat.zero_le _, fun j h => by omega⟩, H0⟩ ⟨rfl, rfl, rfl, rfl, trivial⟩ ?_
  rintro k w1 ⟨⟨hk1, hok⟩, H1⟩
  show WC _ _ _ _ _ [(0, lv), (1, (.func (.func 84) #[] #[])), (7, (vN l.length)), (8, (vN k))] _
  refine WC.seq ?_
  refine WC.region ?_
  refine WL.op rfl rfl (op_lssN rfl rfl ?_)
  refine WL.nil ?_
  refine WQ.next ?_
  refine WC.seq ?_
  refine WC.cond rfl (fun (hb2 : (decide (k < l.length)) = true) => ?_) (fun (hb2 : (decide (k < l.length)) = false) => ?_)
  ·
    have hc2 := of_decide_eq_true hb2
    refine WC.skip ?_
    refine WQ.next ?_
    refine WC.seq ?_
    refine WC.block ?_
    refine WC.seq ?_
    refine WC.region ?_
    refine WL.op rfl rfl (op_move rfl ?_)
    refine WL.op rfl rfl (op_assign rfl ?_)
    refine WL.nil ?_
    refine WQ.next ?_
    refine WC.seq ?_
    refine WC.region ?_
    refine WL.op rfl rfl (op_move rfl ?_)
    refine WL.op rfl rfl (op_move rfl ?_)
    refine WL.op rfl rfl (op_move rfl ?_)
    refine WL.op rfl rfl (op_indexAddr Tryd.underlying24 Fa.I68 rfl (H1.arr hA) rfl (by omega) ?_)
    refine WL.op rfl rfl (op_loadSP (vs := ntc (l.getD k Nt.zero)) rfl (Arr.atsF (H1.arr hA) (fun _ => rfl) (by decide) Nt.zero (by omega)) Tryd.underlying68 rfl Fa.I68 rfl ?_)
    refine WL.op rfl rfl (op_call (f := 84) rfl Fa.C84 rfl ((ntbad_ok (l.getD k Nt.zero) _).mono (fun e w3 hq => ?_)))
    obtain ⟨rfl, hf3⟩ := hq
    refine ⟨_, rfl, ?_⟩
    have H3 := H1.fr' hf3
    refine WL.nil ?_
    refine WQ.next ?_
    refine WC.cond rfl (fun (hb4 : (!noteB (l.getD k Nt.zero)) = true) => ?_) (fun (hb4 : (!noteB (l.getD k Nt.zero)) = false) => ?_)
    ·
      have hn4 := (Bool.not_eq_true' _).mp hb4
      refine WC.seq ?_
      refine WC.region ?_
      refine WL.op rfl rfl (op_move rfl ?_)
      refine WL.op rfl rfl (op_assign rfl ?_)
      refine WL.nil ?_
      refine WQ.next ?_
      refine WC.ret ?_
      refine WQ.inRet ?_
      refine WQ.thenRet ?_
      refine WQ.thenRet ?_
      refine WQ.inRet ?_
      refine WQ.thenRet ?_
      refine WQ.out (.tmp rfl .nil) ?_
      exact ⟨by rw [fidx_yes (d := Nt.zero) (by omega) hok hb4]; rfl, H3.fr⟩
    ·
      have hn4 := (Bool.not_eq_false' _).mp hb4
      refine WC.skip ?_
      refine WQ.inNormal ?_
      refine WQ.next ?_
      refine WC.region ?_
      refine WL.op rfl rfl (op_addN (b := 1) rfl rfl (by omega) ?_)
      refine WL.op rfl rfl (op_move rfl ?_)
      refine WL.nil ?_
      exact WQ.round (k + 1) ⟨⟨by omega, allPrev hok hb4⟩, H3⟩ ⟨rfl, rfl, rfl, rfl, trivial⟩ (by omega)
  ·
    have hc2 := of_decide_eq_false hb2
    refine WC.exit ?_
    refine WQ.thenExit ?_
    refine WQ.thenExit ?_
    refine WQ.inHere ?_
    refine WQ.next ?_
    refine WC.seq ?_
    refine WC.region ?_
    refine WL.op rfl rfl (op_assign rfl ?_)
    refine WL.nil ?_
    refine WQ.next ?_
    refine WC.ret ?_
    refine WQ.out (.tmp rfl .nil) ?_
    exact ⟨by rw [fidx_no (d := Nt.zero) (fun j hj => hok j (by omega))]; rfl, H1.fr⟩
set_option maxRecDepth 100000 in
theorem conN_ok (lv : Value) (l : List Nt) (w : World) (hA : Arr w lv 3 l.length (List.flatMap ntc l)) (hn : l.length < 2 ^ 47) :
    Calls Tryd.prog 83 #[lv, (.func (.func 84) #[] #[])] w (fun e w' => e = .returned (.bool (l.any (fun n => !noteB n))) ∧ Fr [] w w') := by
  refine enter (args := [lv, (.func (.func 84) #[] #[])]) Tryd.func83 rfl rfl ?_
  have H0 : Own [] w w [] := Own.start w []
  refine WC.seq ?_
  refine WC.region ?_
  refine WL.op rfl rfl (op_assign rfl ?_)
  refine WL.nil ?_
  refine WQ.next ?_
  refine WC.seq ?_
  refine WC.region ?_
  refine WL.op rfl rfl (op_move rfl ?_)
  refine WL.op rfl rfl (op_move rfl ?_)
  refine WL.op rfl rfl (op_callF Fa.C93 rfl ((idxN_ok _ l _ (H0.arr hA) (by omega)).mono (fun e w1 hq => ?_)))
  obtain ⟨rfl, hf1⟩ := hq
  refine ⟨_, rfl, ?_⟩
  have H1 := H0.fr' hf1
  refine WL.op rfl rfl (op_geqI (b := (0 : Int)) rfl rfl ?_)
  refine WL.op rfl rfl (op_assign rfl ?_)
  refine WL.nil ?_
  refine WQ.next ?_
  refine WC.ret ?_
  refine WQ.out (.tmp rfl .nil) ?_
  exact ⟨by rw [← fidx_any]; rfl, H1.fr⟩
set_option maxRecDepth 100000 in
theorem sized_ok (x : Sy) (w : World) (hI : SyD.ok w x) (hn : x.nm.length < 2 ^ 47) (hb : x.b.length < 2 ^ 32) (hr : ∀ y ∈ x.rl, y.nm.length < 2 ^ 47) (hm : x.rl.length < 2 ^ 40) (hq : x.nt.length < 2 ^ 40) :
    Calls Tryd.prog 81 #[(.agg #[(str x.nm), (vU8 x.bind), (vU8 x.kind), (vU32 x.size), (str x.b), x.rv, x.nv])] w (fun e w' => e = .returned (.bool (sizedB x)) ∧ Fr [] w w') := by
  refine enter (args := [(.agg #[(str x.nm), (vU8 x.bind), (vU8 x.kind), (vU32 x.size), (str x.b), x.rv, x.nv])]) Tryd.func81 rfl rfl ?_
  have H0 : Own [] w w [] := Own.start w []
  refine WC.seq ?_
  refine WC.region ?_
  refine WL.op rfl rfl (op_box H0 rfl rfl (fun b1 w1 H1 => ?_))
  refine WL.op rfl rfl (op_assign rfl ?_)
  refine WL.nil ?_
  refine WQ.next ?_
  refine WC.seq ?_
  refine WC.region ?_
  refine WL.op rfl rfl (op_fieldAddr rfl Fa.F111_0 ?_)
  refine WL.op rfl rfl (op_fieldAddr rfl Fa.F26_4 ?_)
  refine WL.op rfl rfl (op_load rfl (H1.cell (i := 0) rfl rfl) Tryd.underlying9 rfl ?_)
  refine WL.op rfl rfl (op_lenStr Tryd.underlying9 rfl ?_)
  refine WL.op rfl rfl (op_convNU32 (hs := Tryd.underlying3) (hd := Tryd.underlying22) rfl ?_)
  refine WL.op rfl rfl (op_assign rfl ?_)
  refine WL.nil ?_
  refine WQ.next ?_
  refine WC.seq ?_
  refine WC.seq ?_
  refine WC.region ?_
  refine WL.op rfl rfl (op_fieldAddr rfl Fa.F111_0 ?_)
  refine WL.op rfl rfl (op_fieldAddr rfl Fa.F26_3 ?_)
  refine WL.op rfl rfl (op_load rfl (H1.cell (i := 0) rfl rfl) Tryd.underlying22 rfl ?_)
  refine WL.op rfl rfl (op_lssU32 (b := 1) rfl rfl ?_)
  refine WL.op rfl rfl (op_move rfl ?_)
  refine WL.split (t := 13) rfl (fun (hb2 : (decide (x.size < (1 : UInt32))) = true) => ?_) (fun (hb2 : (decide (x.size < (1 : UInt32))) = false) => ?_)
  ·
    have hc2 := of_decide_eq_true hb2
    refine WL.no rfl rfl rfl hb2 rfl ?_
    refine WL.no rfl rfl rfl hb2 rfl ?_
    refine WL.no rfl rfl rfl hb2 rfl ?_
    refine WL.no rfl rfl rfl hb2 rfl ?_
    refine WL.op rfl rfl (op_pickT rfl hb2 rfl ?_)
    refine WL.op rfl rfl (op_move rfl ?_)
    refine WL.no rfl rfl rfl rfl rfl ?_
    refine WL.no rfl rfl rfl rfl rfl ?_
    refine WL.no rfl rfl rfl rfl rfl ?_
    refine WL.no rfl rfl rfl rfl rfl ?_
    refine WL.no rfl rfl rfl rfl rfl ?_
    refine WL.op rfl rfl (op_pickT rfl rfl rfl ?_)
    refine WL.nil ?_
    refine WQ.next ?_
    refine WC.yes rfl rfl ?_
    refine WC.seq ?_
    refine WC.region ?_
    refine WL.op rfl rfl (op_assign rfl ?_)
    refine WL.nil ?_
    refine WQ.next ?_
    refine WC.ret ?_
    refine WQ.thenRet ?_
    refine WQ.out (.tmp rfl .nil) ?_
    exact ⟨by (rw [sized_eq hb, sizedU, hb2]) <;> rfl, H1.fr⟩
  ·
    have hc2 := of_decide_eq_false hb2
    refine WL.yes rfl rfl rfl hb2 rfl (op_fieldAddr rfl Fa.F111_0 ?_)
    refine WL.yes rfl rfl rfl hb2 rfl (op_fieldAddr rfl Fa.F26_3 ?_)
    refine WL.yes rfl rfl rfl hb2 rfl (op_load rfl (H1.cell (i := 0) rfl rfl) Tryd.underlying22 rfl ?_)
    refine WL.yes rfl rfl rfl hb2 rfl (op_gtrU32 (b := 8192) rfl rfl ?_)
    refine WL.op rfl rfl (op_pickF rfl hb2 rfl ?_)
    refine WL.op rfl rfl (op_move rfl ?_)
    refine WL.split (t := 19) rfl (fun (hb3 : (decide (x.size > (8192 : UInt32))) = true) => ?_) (fun (hb3 : (decide (x.size > (8192 : UInt32))) = false) => ?_)
    ·
      have hc3 := of_decide_eq_true hb3
      refine WL.no rfl rfl rfl hb3 rfl ?_
      refine WL.no rfl rfl rfl hb3 rfl ?_
      refine WL.no rfl rfl rfl hb3 rfl ?_
      refine WL.no rfl rfl rfl hb3 rfl ?_
      refine WL.no rfl rfl rfl hb3 rfl ?_
      refine WL.op rfl rfl (op_pickT rfl hb3 rfl ?_)
      refine WL.nil ?_
      refine WQ.next ?_
      refine WC.yes rfl rfl ?_
      refine WC.seq ?_
      refine WC.region ?_
      refine WL.op rfl rfl (op_assign rfl ?_)
      refine WL.nil ?_
      refine WQ.next ?_
      refine WC.ret ?_
      refine WQ.thenRet ?_
      refine WQ.out (.tmp rfl .nil) ?_
      exact ⟨by (rw [sized_eq hb, sizedU, hb2, hb3]) <;> rfl, H1.fr⟩
    ·
      have hc3 := of_decide_eq_false hb3
      refine WL.yes rfl rfl rfl hb3 rfl (op_move rfl ?_)
      refine WL.yes rfl rfl rfl hb3 rfl (op_fieldAddr rfl Fa.F111_0 ?_)
      refine WL.yes rfl rfl rfl hb3 rfl (op_fieldAddr rfl Fa.F26_3 ?_)
      refine WL.yes rfl rfl rfl hb3 rfl (op_load rfl (H1.cell (i := 0) rfl rfl) Tryd.underlying22 rfl ?_)
      refine WL.yes rfl rfl rfl hb3 rfl (op_gtrU32 rfl rfl ?_)
      refine WL.op rfl rfl (op_pickF rfl hb3 rfl ?_)
      refine WL.nil ?_
      refine WQ.next ?_
      refine WC.cond rfl (fun (hb4 : (decide ((UInt32.ofNat x.b.length) > x.size)) = true) => ?_) (fun (hb4 : (decide ((UInt32.ofNat x.b.length) > x.size)) = false) => ?_)
      ·
        have hc4 := of_decide_eq_true hb4
        refine WC.seq ?_
        refine WC.region ?_
        refine WL.op rfl rfl (op_assign rfl ?_)
        refine WL.nil ?_
        refine WQ.next ?_
        refine WC.ret ?_
        refine WQ.thenRet ?_
        refine WQ.out (.tmp rfl .nil) ?_
        exact ⟨by (rw [sized_eq hb, sizedU, hb2, hb3, hb4]) <;> rfl, H1.fr⟩
      ·
        have hc4 := of_decide_eq_false hb4
        refine WC.skip ?_
        refine WQ.next ?_
        refine WC.seq ?_
        refine WC.region ?_
        refine WL.op rfl rfl (op_fieldAddr rfl Fa.F111_0 ?_)
        refine WL.op rfl rfl (op_fieldAddr rfl Fa.F26_2 ?_)
        refine WL.op rfl rfl (op_load rfl (H1.cell (i := 0) rfl rfl) Tryd.underlying5 rfl ?_)
        refine WL.op rfl rfl (op_neqU8 (b := 1) rfl rfl ?_)
        refine WL.op rfl rfl (op_move rfl ?_)
        refine WL.split (t := 30) rfl (fun (hb5 : (decide (x.kind ≠ (1 : UInt8))) = true) => ?_) (fun (hb5 : (decide (x.kind ≠ (1 : UInt8))) = false) => ?_)
        ·
          have hc5 := of_decide_eq_true hb5
          refine WL.no rfl rfl rfl hb5 rfl ?_
          refine WL.no rfl rfl rfl hb5 rfl ?_
          refine WL.no rfl rfl rfl hb5 rfl ?_
          refine WL.no rfl rfl rfl hb5 rfl ?_
          refine WL.no rfl rfl rfl hb5 rfl ?_
          refine WL.no rfl rfl rfl hb5 rfl ?_
          refine WL.non rfl rfl rfl rfl ?_
          refine WL.non rfl rfl rfl rfl ?_
          refine WL.non rfl rfl rfl rfl ?_
          refine WL.no rfl rfl rfl hb5 rfl ?_
          refine WL.op rfl rfl (op_pickT rfl hb5 rfl ?_)
          refine WL.op rfl rfl (op_assign rfl ?_)
          refine WL.nil ?_
          refine WQ.next ?_
          refine WC.ret ?_
          refine WQ.out (.tmp rfl .nil) ?_
          exact ⟨by (rw [sized_eq hb, sizedU, hb2, hb3, hb4, hb5]) <;> rfl, H1.fr⟩
        ·
          have hc5 := of_decide_eq_false hb5
          refine WL.yes rfl rfl rfl hb5 rfl (op_move rfl ?_)
          refine WL.yes rfl rfl rfl hb5 rfl (op_fieldAddr rfl Fa.F111_0 ?_)
          refine WL.yes rfl rfl rfl hb5 rfl (op_fieldAddr rfl Fa.F26_3 ?_)
          refine WL.yes rfl rfl rfl hb5 rfl (op_load rfl (H1.cell (i := 0) rfl rfl) Tryd.underlying22 rfl ?_)
          refine WL.yes rfl rfl rfl hb5 rfl (op_eqlU32 rfl rfl ?_)
          refine WL.yes rfl rfl rfl hb5 rfl (op_move rfl ?_)
          refine WL.split (t := 36) rfl (fun (hb6 : (decide ((UInt32.ofNat x.b.length) = x.size)) = true) => ?_) (fun (hb6 : (decide ((UInt32.ofNat x.b.length) = x.size)) = false) => ?_)
          ·
            have hc6 := of_decide_eq_true hb6
            refine WL.yes rfl rfl rfl hb6 rfl (op_move rfl ?_)
            refine WL.yes rfl rfl rfl hb6 rfl (op_remU32 (b := 8) rfl rfl (by decide) ?_)
            refine WL.yes rfl rfl rfl hb6 rfl (op_eqlU32 (b := 0) rfl rfl ?_)
            refine WL.yes rfl rfl rfl hb5 rfl (op_pickT rfl hb6 rfl ?_)
            refine WL.op rfl rfl (op_pickF rfl hb5 rfl ?_)
            refine WL.op rfl rfl (op_assign rfl ?_)
            refine WL.nil ?_
            refine WQ.next ?_
            refine WC.ret ?_
            refine WQ.out (.tmp rfl .nil) ?_
            exact ⟨by (rw [sized_eq hb, sizedU, hb2, hb3, hb4, hb5, hb6]) <;> rfl, H1.fr⟩
          ·
            have hc6 := of_decide_eq_false hb6
            refine WL.no rfl rfl rfl hb6 rfl ?_
            refine WL.no rfl rfl rfl hb6 rfl ?_
            refine WL.no rfl rfl rfl hb6 rfl ?_
            refine WL.yes rfl rfl rfl hb5 rfl (op_pickF rfl hb6 rfl ?_)
            refine WL.op rfl rfl (op_pickF rfl hb5 rfl ?_)
            refine WL.op rfl rfl (op_assign rfl ?_)
            refine WL.nil ?_
            refine WQ.next ?_
            refine WC.ret ?_
            refine WQ.out (.tmp rfl .nil) ?_
            exact ⟨by (rw [sized_eq hb, sizedU, hb2, hb3, hb4, hb5, hb6]) <;> rfl, H1.fr⟩
set_option maxRecDepth 100000 in
theorem places_ok (x : Sy) (w : World) (hI : SyD.ok w x) (hn : x.nm.length < 2 ^ 47) (hb : x.b.length < 2 ^ 32) (hr : ∀ y ∈ x.rl, y.nm.length < 2 ^ 47) (hm : x.rl.length < 2 ^ 40) (hq : x.nt.length < 2 ^ 40) :
    Calls Tryd.prog 82 #[(.agg #[(str x.nm), (vU8 x.bind), (vU8 x.kind), (vU32 x.size), (str x.b), x.rv, x.nv])] w (fun e w' => e = .returned (.bool (relsB x.b.length x.rl)) ∧ Fr [] w w') := by
  refine enter (args := [(.agg #[(str x.nm), (vU8 x.bind), (vU8 x.kind), (vU32 x.size), (str x.b), x.rv, x.nv])]) Tryd.func82 rfl rfl ?_
  have H0 : Own [] w w [] := Own.start w []
  refine WC.seq ?_
  refine WC.region ?_
  refine WL.op rfl rfl (op_box H0 rfl rfl (fun b1 w1 H1 => ?_))
  refine WL.op rfl rfl (op_assign rfl ?_)
  refine WL.nil ?_
  refine WQ.next ?_
  refine WC.seq ?_
  refine WC.region ?_
  refine WL.op rfl rfl (op_assign rfl ?_)
  refine WL.nil ?_
  refine WQ.next ?_
  refine WC.seq ?_
  refine WC.seq ?_
  refine WC.region ?_
  refine WL.op rfl rfl (op_fieldAddr rfl Fa.F111_0 ?_)
  refine WL.op rfl rfl (op_fieldAddr rfl Fa.F26_5 ?_)
  refine WL.op rfl rfl (op_load rfl (H1.cell (i := 0) rfl rfl) Tryd.underlying23 rfl ?_)
  refine WL.op rfl rfl (op_lenA Tryd.underlying23 rfl ((SyD_rl (SyD.fr0 hI H1.fr))) ?_)
  refine WL.op rfl rfl (op_move rfl ?_)
  refine WL.nil ?_
  refine WQ.next ?_
  refine WC.block ?_
  refine WC.loop (α := Nat) (fun k => [(1, (ptr b1 0)), (2, (.bool false)), (3, (vU32 (UInt32.ofNat (endAt x.rl k)))), (9, x.rv), (10, (vN x.rl.length)), (11, (vN k))]) (fun k w' => (k ≤ x.rl.length ∧ (∀ j, j < k → relOk x.b.length (endAt x.rl j) (x.rl.getD j Rl.zero) = true)) ∧ Own [] w w' [.blk b1 [(str x.nm), (vU8 x.bind), (vU8 x.kind), (vU32 x.size), (str x.b), x.rv, x.nv] 111]) (fun k => x.rl.length - k) 0 ⟨⟨Nat.zero_le _, fun j h => by omega⟩, H1⟩ ⟨rfl, rfl, rfl, rfl, rfl, rfl, trivial⟩ ?_
  rintro k w2 ⟨⟨hk1, hok⟩, H2⟩
  show WC _ _ _ _ _ [(1, (ptr b1 0)), (2, (.bool false)), (3, (vU32 (UInt32.ofNat (endAt x.rl k)))), (9, x.rv), (10, (vN x.rl.length)), (11, (vN k))] _
  have he := endAt_lt hok
  have hle := endAt_le hok
  have hrk := getD_name hr k
  refine WC.seq ?_
  refine WC.region ?_
  refine WL.op rfl rfl (op_lssN rfl rfl ?_)
  refine WL.nil ?_
  refine WQ.next ?_
  refine WC.seq ?_
  refine WC.cond rfl (fun (hb3 : (decide (k < x.rl.length)) = true) => ?_) (fun (hb3 : (decide (k < x.rl.length)) = false) => ?_)
  ·
    have hc3 := of_decide_eq_true hb3
    refine WC.skip ?_
    refine WQ.next ?_
    refine WC.seq ?_
    refine WC.block ?_
    refine WC.seq ?_
    refine WC.region ?_
    refine WL.op rfl rfl (op_indexAddr Tryd.underlying23 Fa.I44 rfl ((SyD_rl (SyD.fr0 hI H2.fr))) rfl (by omega) ?_)
    refine WL.op rfl rfl (op_loadSP (vs := rlc (x.rl.getD k Rl.zero)) rfl (Arr.atsF ((SyD_rl (SyD.fr0 hI H2.fr))) (fun _ => rfl) (by decide) Rl.zero (by omega)) Tryd.underlying44 rfl Fa.I44 rfl ?_)
    refine WL.op rfl rfl (op_alloc H2 Fa.I44 (fun b4 w4 H4 => ?_))
    refine WL.op rfl rfl (op_storeBW (i := 1) H4 rfl rfl rfl rfl rfl Fa.I44 (fun w5 H5 => ?_))
    refine WL.nil ?_
    refine WQ.next ?_
    refine WC.seq ?_
    refine WC.region ?_
    refine WL.op rfl rfl (op_assign rfl ?_)
    refine WL.nil ?_
    refine WQ.next ?_
    refine WC.seq ?_
    refine WC.seq ?_
    refine WC.region ?_
    refine WL.op rfl rfl (op_fieldAddr rfl Fa.F44_1 ?_)
    refine WL.op rfl rfl (op_load rfl (H5.cell (i := 1) rfl rfl) Tryd.underlying5 rfl ?_)
    refine WL.nil ?_
    refine WQ.next ?_
    refine WC.block ?_
    refine WC.seq ?_
    refine WC.region ?_
    refine WL.op rfl rfl (op_eqlU8 (b := 1) rfl rfl ?_)
    refine WL.op rfl rfl (op_assign rfl ?_)
    refine WL.nil ?_
    refine WQ.next ?_
    refine WC.cond rfl (fun (hb6 : (decide ((x.rl.getD k Rl.zero).kind = (1 : UInt8))) = true) => ?_) (fun (hb6 : (decide ((x.rl.getD k Rl.zero).kind = (1 : UInt8))) = false) => ?_)
    ·
      have hc6 := of_decide_eq_true hb6
      have hw : widthN (x.rl.getD k Rl.zero).kind = (4 : UInt32).toNat := by (rw [widthN, hb6]) <;> rfl
      refine WC.skip ?_
      refine WQ.inNormal ?_
      refine WQ.next ?_
      refine WC.seq ?_
      refine WC.seq ?_
      refine WC.region ?_
      refine WL.op rfl rfl (op_fieldAddr rfl Fa.F44_2 ?_)
      refine WL.op rfl rfl (op_load rfl (H5.cell (i := 1) rfl rfl) Tryd.underlying9 rfl ?_)
      refine WL.op rfl rfl (op_callF Fa.C80 rfl ((oname_ok ((x.rl.getD k Rl.zero).nm) _ (by exact hrk)).mono (fun e w7 hq => ?_)))
      obtain ⟨rfl, hf7⟩ := hq
      refine ⟨_, rfl, ?_⟩
      have H7 := H5.fr' hf7
      refine WL.op rfl rfl (op_not rfl ?_)
      refine WL.op rfl rfl (op_move rfl ?_)
      refine WL.split (t := 25) rfl (fun (hb8 : (!(nameB ((x.rl.getD k Rl.zero).nm))) = true) => ?_) (fun (hb8 : (!(nameB ((x.rl.getD k Rl.zero).nm))) = false) => ?_)
      ·
        have hn8 := (Bool.not_eq_true' _).mp hb8
        refine WL.no rfl rfl rfl hb8 rfl ?_
        refine WL.no rfl rfl rfl hb8 rfl ?_
        refine WL.no rfl rfl rfl hb8 rfl ?_
        refine WL.no rfl rfl rfl hb8 rfl ?_
        refine WL.op rfl rfl (op_pickT rfl hb8 rfl ?_)
        refine WL.op rfl rfl (op_move rfl ?_)
        refine WL.no rfl rfl rfl rfl rfl ?_
        refine WL.no rfl rfl rfl rfl rfl ?_
        refine WL.no rfl rfl rfl rfl rfl ?_
        refine WL.op rfl rfl (op_pickT rfl rfl rfl ?_)
        refine WL.op rfl rfl (op_move rfl ?_)
        refine WL.no rfl rfl rfl rfl rfl ?_
        refine WL.no rfl rfl rfl rfl rfl ?_
        refine WL.no rfl rfl rfl rfl rfl ?_
        refine WL.no rfl rfl rfl rfl rfl ?_
        refine WL.no rfl rfl rfl rfl rfl ?_
        refine WL.no rfl rfl rfl rfl rfl ?_
        refine WL.no rfl rfl rfl rfl rfl ?_
        refine WL.no rfl rfl rfl rfl rfl ?_
        refine WL.no rfl rfl rfl rfl rfl ?_
        refine WL.no rfl rfl rfl rfl rfl ?_
        refine WL.op rfl rfl (op_pickT rfl rfl rfl ?_)
        refine WL.nil ?_
        refine WQ.next ?_
        refine WC.yes rfl rfl ?_
        refine WC.seq ?_
        refine WC.region ?_
        refine WL.op rfl rfl (op_assign rfl ?_)
        refine WL.nil ?_
        refine WQ.next ?_
        refine WC.ret ?_
        refine WQ.thenRet ?_
        refine WQ.inRet ?_
        refine WQ.thenRet ?_
        refine WQ.thenRet ?_
        refine WQ.inRet ?_
        refine WQ.thenRet ?_
        refine WQ.out (.tmp rfl .nil) ?_
        exact ⟨by rw [rels_no (k := k) (by omega) (relOk_n hn8)]; rfl, H7.fr⟩
      ·
        have hn8 := (Bool.not_eq_false' _).mp hb8
        refine WL.yes rfl rfl rfl hb8 rfl (op_fieldAddr rfl Fa.F44_0 ?_)
        refine WL.yes rfl rfl rfl hb8 rfl (op_load rfl (H7.cell (i := 1) rfl rfl) Tryd.underlying22 rfl ?_)
        refine WL.yes rfl rfl rfl hb8 rfl (op_move rfl ?_)
        refine WL.yes rfl rfl rfl hb8 rfl (op_lssU32 rfl rfl ?_)
        refine WL.op rfl rfl (op_pickF rfl hb8 rfl ?_)
        refine WL.op rfl rfl (op_move rfl ?_)
        refine WL.split (t := 31) rfl (fun (hb9 : (decide ((x.rl.getD k Rl.zero).off < (UInt32.ofNat (endAt x.rl k)))) = true) => ?_) (fun (hb9 : (decide ((x.rl.getD k Rl.zero).off < (UInt32.ofNat (endAt x.rl k)))) = false) => ?_)
        ·
          have hc9 := of_decide_eq_true hb9
          refine WL.no rfl rfl rfl hb9 rfl ?_
          refine WL.no rfl rfl rfl hb9 rfl ?_
          refine WL.no rfl rfl rfl hb9 rfl ?_
          refine WL.op rfl rfl (op_pickT rfl hb9 rfl ?_)
          refine WL.op rfl rfl (op_move rfl ?_)
          refine WL.no rfl rfl rfl rfl rfl ?_
          refine WL.no rfl rfl rfl rfl rfl ?_
          refine WL.no rfl rfl rfl rfl rfl ?_
          refine WL.no rfl rfl rfl rfl rfl ?_
          refine WL.no rfl rfl rfl rfl rfl ?_
          refine WL.no rfl rfl rfl rfl rfl ?_
          refine WL.no rfl rfl rfl rfl rfl ?_
          refine WL.no rfl rfl rfl rfl rfl ?_
          refine WL.no rfl rfl rfl rfl rfl ?_
          refine WL.no rfl rfl rfl rfl rfl ?_
          refine WL.op rfl rfl (op_pickT rfl rfl rfl ?_)
          refine WL.nil ?_
          refine WQ.next ?_
          refine WC.yes rfl rfl ?_
          refine WC.seq ?_
          refine WC.region ?_
          refine WL.op rfl rfl (op_assign rfl ?_)
          refine WL.nil ?_
          refine WQ.next ?_
          refine WC.ret ?_
          refine WQ.thenRet ?_
          refine WQ.inRet ?_
          refine WQ.thenRet ?_
          refine WQ.thenRet ?_
          refine WQ.inRet ?_
          refine WQ.thenRet ?_
          refine WQ.out (.tmp rfl .nil) ?_
          exact ⟨by rw [rels_no (k := k) (by omega) (relOk_e hb9 (by omega))]; rfl, H7.fr⟩
        ·
          have hc9 := of_decide_eq_false hb9
          refine WL.yes rfl rfl rfl hb9 rfl (op_fieldAddr rfl Fa.F44_0 ?_)
          refine WL.yes rfl rfl rfl hb9 rfl (op_load rfl (H7.cell (i := 1) rfl rfl) Tryd.underlying22 rfl ?_)
          refine WL.yes rfl rfl rfl hb9 rfl (op_gtrU32 (b := 8192) rfl rfl ?_)
          refine WL.op rfl rfl (op_pickF rfl hb9 rfl ?_)
          refine WL.op rfl rfl (op_move rfl ?_)
          refine WL.split (t := 36) rfl (fun (hb10 : (decide ((x.rl.getD k Rl.zero).off > (8192 : UInt32))) = true) => ?_) (fun (hb10 : (decide ((x.rl.getD k Rl.zero).off > (8192 : UInt32))) = false) => ?_)
          ·
            have hc10 := of_decide_eq_true hb10
            refine WL.no rfl rfl rfl hb10 rfl ?_
            refine WL.no rfl rfl rfl hb10 rfl ?_
            refine WL.no rfl rfl rfl hb10 rfl ?_
            refine WL.no rfl rfl rfl hb10 rfl ?_
            refine WL.no rfl rfl rfl hb10 rfl ?_
            refine WL.no rfl rfl rfl hb10 rfl ?_
            refine WL.no rfl rfl rfl hb10 rfl ?_
            refine WL.no rfl rfl rfl hb10 rfl ?_
            refine WL.no rfl rfl rfl hb10 rfl ?_
            refine WL.no rfl rfl rfl hb10 rfl ?_
            refine WL.op rfl rfl (op_pickT rfl hb10 rfl ?_)
            refine WL.nil ?_
            refine WQ.next ?_
            refine WC.yes rfl rfl ?_
            refine WC.seq ?_
            refine WC.region ?_
            refine WL.op rfl rfl (op_assign rfl ?_)
            refine WL.nil ?_
            refine WQ.next ?_
            refine WC.ret ?_
            refine WQ.thenRet ?_
            refine WQ.inRet ?_
            refine WQ.thenRet ?_
            refine WQ.thenRet ?_
            refine WQ.inRet ?_
            refine WQ.thenRet ?_
            refine WQ.out (.tmp rfl .nil) ?_
            exact ⟨by rw [rels_no (k := k) (by omega) (relOk_b hb10)]; rfl, H7.fr⟩
          ·
            have hc10 := of_decide_eq_false hb10
            refine WL.yes rfl rfl rfl hb10 rfl (op_fieldAddr rfl Fa.F44_0 ?_)
            refine WL.yes rfl rfl rfl hb10 rfl (op_load rfl (H7.cell (i := 1) rfl rfl) Tryd.underlying22 rfl ?_)
            refine WL.yes rfl rfl rfl hb10 rfl (op_move rfl ?_)
            refine WL.yes rfl rfl rfl hb10 rfl (op_addU32 (b := 4) rfl rfl ?_)
            refine WL.yes rfl rfl rfl hb10 rfl (op_fieldAddr rfl Fa.F111_0 ?_)
            refine WL.yes rfl rfl rfl hb10 rfl (op_fieldAddr rfl Fa.F26_4 ?_)
            refine WL.yes rfl rfl rfl hb10 rfl (op_load rfl (H7.cell (i := 0) rfl rfl) Tryd.underlying9 rfl ?_)
            refine WL.yes rfl rfl rfl hb10 rfl (op_lenStr Tryd.underlying9 rfl ?_)
            refine WL.yes rfl rfl rfl hb10 rfl (op_convNU32 (hs := Tryd.underlying3) (hd := Tryd.underlying22) rfl ?_)
            refine WL.yes rfl rfl rfl hb10 rfl (op_gtrU32 rfl rfl ?_)
            refine WL.op rfl rfl (op_pickF rfl hb10 rfl ?_)
            refine WL.nil ?_
            refine WQ.next ?_
            refine WC.cond rfl (fun (hb11 : (decide (((x.rl.getD k Rl.zero).off + 4) > (UInt32.ofNat x.b.length))) = true) => ?_) (fun (hb11 : (decide (((x.rl.getD k Rl.zero).off + 4) > (UInt32.ofNat x.b.length))) = false) => ?_)
            ·
              have hc11 := of_decide_eq_true hb11
              refine WC.seq ?_
              refine WC.region ?_
              refine WL.op rfl rfl (op_assign rfl ?_)
              refine WL.nil ?_
              refine WQ.next ?_
              refine WC.ret ?_
              refine WQ.thenRet ?_
              refine WQ.inRet ?_
              refine WQ.thenRet ?_
              refine WQ.thenRet ?_
              refine WQ.inRet ?_
              refine WQ.thenRet ?_
              refine WQ.out (.tmp rfl .nil) ?_
              exact ⟨by rw [rels_no (k := k) (by omega) (relOk_o hw hb10 hb11 hb)]; rfl, H7.fr⟩
            ·
              have hc11 := of_decide_eq_false hb11
              refine WC.skip ?_
              refine WQ.next ?_
              refine WC.region ?_
              refine WL.op rfl rfl (op_fieldAddr rfl Fa.F44_0 ?_)
              refine WL.op rfl rfl (op_load rfl (H7.cell (i := 1) rfl rfl) Tryd.underlying22 rfl ?_)
              refine WL.op rfl rfl (op_move rfl ?_)
              refine WL.op rfl rfl (op_addU32 (b := 4) rfl rfl ?_)
              refine WL.op rfl rfl (op_assign rfl ?_)
              refine WL.nil ?_
              refine WQ.inNormal ?_
              refine WQ.next ?_
              refine WC.region ?_
              refine WL.op rfl rfl (op_addN (b := 1) rfl rfl (by omega) ?_)
              refine WL.op rfl rfl (op_move rfl ?_)
              refine WL.nil ?_
              exact WQ.round (k + 1) ⟨⟨by omega, allPrev hok (relOk_yes hw hn8 hb9 hb10 hb11 (by omega) hb)⟩, (H7.take 1)⟩ ⟨rfl, rfl, (congrArg (fun v => some (vU32 v)) (end_U hw hb10)), rfl, rfl, rfl, trivial⟩ (by omega)
    ·
      have hc6 := of_decide_eq_false hb6
      refine WC.seq ?_
      refine WC.region ?_
      refine WL.op rfl rfl (op_eqlU8 (b := 2) rfl rfl ?_)
      refine WL.op rfl rfl (op_assign rfl ?_)
      refine WL.nil ?_
      refine WQ.next ?_
      refine WC.cond rfl (fun (hb12 : (decide ((x.rl.getD k Rl.zero).kind = (2 : UInt8))) = true) => ?_) (fun (hb12 : (decide ((x.rl.getD k Rl.zero).kind = (2 : UInt8))) = false) => ?_)
      ·
        have hc12 := of_decide_eq_true hb12
        have hw : widthN (x.rl.getD k Rl.zero).kind = (2 : UInt32).toNat := by (rw [widthN, hb6, hb12]) <;> rfl
        refine WC.region ?_
        refine WL.op rfl rfl (op_assign rfl ?_)
        refine WL.nil ?_
        refine WQ.inNormal ?_
        refine WQ.next ?_
        refine WC.seq ?_
        refine WC.seq ?_
        refine WC.region ?_
        refine WL.op rfl rfl (op_fieldAddr rfl Fa.F44_2 ?_)
        refine WL.op rfl rfl (op_load rfl (H5.cell (i := 1) rfl rfl) Tryd.underlying9 rfl ?_)
        refine WL.op rfl rfl (op_callF Fa.C80 rfl ((oname_ok ((x.rl.getD k Rl.zero).nm) _ (by exact hrk)).mono (fun e w13 hq => ?_)))
        obtain ⟨rfl, hf13⟩ := hq
        refine ⟨_, rfl, ?_⟩
        have H13 := H5.fr' hf13
        refine WL.op rfl rfl (op_not rfl ?_)
        refine WL.op rfl rfl (op_move rfl ?_)
        refine WL.split (t := 25) rfl (fun (hb14 : (!(nameB ((x.rl.getD k Rl.zero).nm))) = true) => ?_) (fun (hb14 : (!(nameB ((x.rl.getD k Rl.zero).nm))) = false) => ?_)
        ·
          have hn14 := (Bool.not_eq_true' _).mp hb14
          refine WL.no rfl rfl rfl hb14 rfl ?_
          refine WL.no rfl rfl rfl hb14 rfl ?_
          refine WL.no rfl rfl rfl hb14 rfl ?_
          refine WL.no rfl rfl rfl hb14 rfl ?_
          refine WL.op rfl rfl (op_pickT rfl hb14 rfl ?_)
          refine WL.op rfl rfl (op_move rfl ?_)
          refine WL.no rfl rfl rfl rfl rfl ?_
          refine WL.no rfl rfl rfl rfl rfl ?_
          refine WL.no rfl rfl rfl rfl rfl ?_
          refine WL.op rfl rfl (op_pickT rfl rfl rfl ?_)
          refine WL.op rfl rfl (op_move rfl ?_)
          refine WL.no rfl rfl rfl rfl rfl ?_
          refine WL.no rfl rfl rfl rfl rfl ?_
          refine WL.no rfl rfl rfl rfl rfl ?_
          refine WL.no rfl rfl rfl rfl rfl ?_
          refine WL.no rfl rfl rfl rfl rfl ?_
          refine WL.no rfl rfl rfl rfl rfl ?_
          refine WL.no rfl rfl rfl rfl rfl ?_
          refine WL.no rfl rfl rfl rfl rfl ?_
          refine WL.no rfl rfl rfl rfl rfl ?_
          refine WL.no rfl rfl rfl rfl rfl ?_
          refine WL.op rfl rfl (op_pickT rfl rfl rfl ?_)
          refine WL.nil ?_
          refine WQ.next ?_
          refine WC.yes rfl rfl ?_
          refine WC.seq ?_
          refine WC.region ?_
          refine WL.op rfl rfl (op_assign rfl ?_)
          refine WL.nil ?_
          refine WQ.next ?_
          refine WC.ret ?_
          refine WQ.thenRet ?_
          refine WQ.inRet ?_
          refine WQ.thenRet ?_
          refine WQ.thenRet ?_
          refine WQ.inRet ?_
          refine WQ.thenRet ?_
          refine WQ.out (.tmp rfl .nil) ?_
          exact ⟨by rw [rels_no (k := k) (by omega) (relOk_n hn14)]; rfl, H13.fr⟩
        ·
          have hn14 := (Bool.not_eq_false' _).mp hb14
          refine WL.yes rfl rfl rfl hb14 rfl (op_fieldAddr rfl Fa.F44_0 ?_)
          refine WL.yes rfl rfl rfl hb14 rfl (op_load rfl (H13.cell (i := 1) rfl rfl) Tryd.underlying22 rfl ?_)
          refine WL.yes rfl rfl rfl hb14 rfl (op_move rfl ?_)
          refine WL.yes rfl rfl rfl hb14 rfl (op_lssU32 rfl rfl ?_)
          refine WL.op rfl rfl (op_pickF rfl hb14 rfl ?_)
          refine WL.op rfl rfl (op_move rfl ?_)
          refine WL.split (t := 31) rfl (fun (hb15 : (decide ((x.rl.getD k Rl.zero).off < (UInt32.ofNat (endAt x.rl k)))) = true) => ?_) (fun (hb15 : (decide ((x.rl.getD k Rl.zero).off < (UInt32.ofNat (endAt x.rl k)))) = false) => ?_)
          ·
            have hc15 := of_decide_eq_true hb15
            refine WL.no rfl rfl rfl hb15 rfl ?_
            refine WL.no rfl rfl rfl hb15 rfl ?_
            refine WL.no rfl rfl rfl hb15 rfl ?_
            refine WL.op rfl rfl (op_pickT rfl hb15 rfl ?_)
            refine WL.op rfl rfl (op_move rfl ?_)
            refine WL.no rfl rfl rfl rfl rfl ?_
            refine WL.no rfl rfl rfl rfl rfl ?_
            refine WL.no rfl rfl rfl rfl rfl ?_
            refine WL.no rfl rfl rfl rfl rfl ?_
            refine WL.no rfl rfl rfl rfl rfl ?_
            refine WL.no rfl rfl rfl rfl rfl ?_
            refine WL.no rfl rfl rfl rfl rfl ?_
            refine WL.no rfl rfl rfl rfl rfl ?_
            refine WL.no rfl rfl rfl rfl rfl ?_
            refine WL.no rfl rfl rfl rfl rfl ?_
            refine WL.op rfl rfl (op_pickT rfl rfl rfl ?_)
            refine WL.nil ?_
            refine WQ.next ?_
            refine WC.yes rfl rfl ?_
            refine WC.seq ?_
            refine WC.region ?_
            refine WL.op rfl rfl (op_assign rfl ?_)
            refine WL.nil ?_
            refine WQ.next ?_
            refine WC.ret ?_
            refine WQ.thenRet ?_
            refine WQ.inRet ?_
            refine WQ.thenRet ?_
            refine WQ.thenRet ?_
            refine WQ.inRet ?_
            refine WQ.thenRet ?_
            refine WQ.out (.tmp rfl .nil) ?_
            exact ⟨by rw [rels_no (k := k) (by omega) (relOk_e hb15 (by omega))]; rfl, H13.fr⟩
          ·
            have hc15 := of_decide_eq_false hb15
            refine WL.yes rfl rfl rfl hb15 rfl (op_fieldAddr rfl Fa.F44_0 ?_)
            refine WL.yes rfl rfl rfl hb15 rfl (op_load rfl (H13.cell (i := 1) rfl rfl) Tryd.underlying22 rfl ?_)
            refine WL.yes rfl rfl rfl hb15 rfl (op_gtrU32 (b := 8192) rfl rfl ?_)
            refine WL.op rfl rfl (op_pickF rfl hb15 rfl ?_)
            refine WL.op rfl rfl (op_move rfl ?_)
            refine WL.split (t := 36) rfl (fun (hb16 : (decide ((x.rl.getD k Rl.zero).off > (8192 : UInt32))) = true) => ?_) (fun (hb16 : (decide ((x.rl.getD k Rl.zero).off > (8192 : UInt32))) = false) => ?_)
            ·
              have hc16 := of_decide_eq_true hb16
              refine WL.no rfl rfl rfl hb16 rfl ?_
              refine WL.no rfl rfl rfl hb16 rfl ?_
              refine WL.no rfl rfl rfl hb16 rfl ?_
              refine WL.no rfl rfl rfl hb16 rfl ?_
              refine WL.no rfl rfl rfl hb16 rfl ?_
              refine WL.no rfl rfl rfl hb16 rfl ?_
              refine WL.no rfl rfl rfl hb16 rfl ?_
              refine WL.no rfl rfl rfl hb16 rfl ?_
              refine WL.no rfl rfl rfl hb16 rfl ?_
              refine WL.no rfl rfl rfl hb16 rfl ?_
              refine WL.op rfl rfl (op_pickT rfl hb16 rfl ?_)
              refine WL.nil ?_
              refine WQ.next ?_
              refine WC.yes rfl rfl ?_
              refine WC.seq ?_
              refine WC.region ?_
              refine WL.op rfl rfl (op_assign rfl ?_)
              refine WL.nil ?_
              refine WQ.next ?_
              refine WC.ret ?_
              refine WQ.thenRet ?_
              refine WQ.inRet ?_
              refine WQ.thenRet ?_
              refine WQ.thenRet ?_
              refine WQ.inRet ?_
              refine WQ.thenRet ?_
              refine WQ.out (.tmp rfl .nil) ?_
              exact ⟨by rw [rels_no (k := k) (by omega) (relOk_b hb16)]; rfl, H13.fr⟩
            ·
              have hc16 := of_decide_eq_false hb16
              refine WL.yes rfl rfl rfl hb16 rfl (op_fieldAddr rfl Fa.F44_0 ?_)
              refine WL.yes rfl rfl rfl hb16 rfl (op_load rfl (H13.cell (i := 1) rfl rfl) Tryd.underlying22 rfl ?_)
              refine WL.yes rfl rfl rfl hb16 rfl (op_move rfl ?_)
              refine WL.yes rfl rfl rfl hb16 rfl (op_addU32 (b := 2) rfl rfl ?_)
              refine WL.yes rfl rfl rfl hb16 rfl (op_fieldAddr rfl Fa.F111_0 ?_)
              refine WL.yes rfl rfl rfl hb16 rfl (op_fieldAddr rfl Fa.F26_4 ?_)
              refine WL.yes rfl rfl rfl hb16 rfl (op_load rfl (H13.cell (i := 0) rfl rfl) Tryd.underlying9 rfl ?_)
              refine WL.yes rfl rfl rfl hb16 rfl (op_lenStr Tryd.underlying9 rfl ?_)
              refine WL.yes rfl rfl rfl hb16 rfl (op_convNU32 (hs := Tryd.underlying3) (hd := Tryd.underlying22) rfl ?_)
              refine WL.yes rfl rfl rfl hb16 rfl (op_gtrU32 rfl rfl ?_)
              refine WL.op rfl rfl (op_pickF rfl hb16 rfl ?_)
              refine WL.nil ?_
              refine WQ.next ?_
              refine WC.cond rfl (fun (hb17 : (decide (((x.rl.getD k Rl.zero).off + 2) > (UInt32.ofNat x.b.length))) = true) => ?_) (fun (hb17 : (decide (((x.rl.getD k Rl.zero).off + 2) > (UInt32.ofNat x.b.length))) = false) => ?_)
              ·
                have hc17 := of_decide_eq_true hb17
                refine WC.seq ?_
                refine WC.region ?_
                refine WL.op rfl rfl (op_assign rfl ?_)
                refine WL.nil ?_
                refine WQ.next ?_
                refine WC.ret ?_
                refine WQ.thenRet ?_
                refine WQ.inRet ?_
                refine WQ.thenRet ?_
                refine WQ.thenRet ?_
                refine WQ.inRet ?_
                refine WQ.thenRet ?_
                refine WQ.out (.tmp rfl .nil) ?_
                exact ⟨by rw [rels_no (k := k) (by omega) (relOk_o hw hb16 hb17 hb)]; rfl, H13.fr⟩
              ·
                have hc17 := of_decide_eq_false hb17
                refine WC.skip ?_
                refine WQ.next ?_
                refine WC.region ?_
                refine WL.op rfl rfl (op_fieldAddr rfl Fa.F44_0 ?_)
                refine WL.op rfl rfl (op_load rfl (H13.cell (i := 1) rfl rfl) Tryd.underlying22 rfl ?_)
                refine WL.op rfl rfl (op_move rfl ?_)
                refine WL.op rfl rfl (op_addU32 (b := 2) rfl rfl ?_)
                refine WL.op rfl rfl (op_assign rfl ?_)
                refine WL.nil ?_
                refine WQ.inNormal ?_
                refine WQ.next ?_
                refine WC.region ?_
                refine WL.op rfl rfl (op_addN (b := 1) rfl rfl (by omega) ?_)
                refine WL.op rfl rfl (op_move rfl ?_)
                refine WL.nil ?_
                exact WQ.round (k + 1) ⟨⟨by omega, allPrev hok (relOk_yes hw hn14 hb15 hb16 hb17 (by omega) hb)⟩, (H13.take 1)⟩ ⟨rfl, rfl, (congrArg (fun v => some (vU32 v)) (end_U hw hb16)), rfl, rfl, rfl, trivial⟩ (by omega)
      ·
        have hc12 := of_decide_eq_false hb12
        refine WC.seq ?_
        refine WC.region ?_
        refine WL.op rfl rfl (op_assign rfl ?_)
        refine WL.nil ?_
        refine WQ.next ?_
        refine WC.ret ?_
        refine WQ.inRet ?_
        refine WQ.thenRet ?_
        refine WQ.inRet ?_
        refine WQ.thenRet ?_
        refine WQ.thenRet ?_
        refine WQ.inRet ?_
        refine WQ.thenRet ?_
        refine WQ.out (.tmp rfl .nil) ?_
        exact ⟨by rw [rels_no (k := k) (by omega) (relOk_k (by (rw [widthN, hb6, hb12]) <;> rfl))]; rfl, H5.fr⟩
  ·
    have hc3 := of_decide_eq_false hb3
    refine WC.exit ?_
    refine WQ.thenExit ?_
    refine WQ.thenExit ?_
    refine WQ.inHere ?_
    refine WQ.next ?_
    refine WC.seq ?_
    refine WC.region ?_
    refine WL.op rfl rfl (op_fieldAddr rfl Fa.F111_0 ?_)
    refine WL.op rfl rfl (op_fieldAddr rfl Fa.F26_5 ?_)
    refine WL.op rfl rfl (op_load rfl (H2.cell (i := 0) rfl rfl) Tryd.underlying23 rfl ?_)
    refine WL.op rfl rfl (op_lenA Tryd.underlying23 rfl ((SyD_rl (SyD.fr0 hI H2.fr))) ?_)
    refine WL.op rfl rfl (op_leqN (b := 1024) rfl rfl ?_)
    refine WL.op rfl rfl (op_assign rfl ?_)
    refine WL.nil ?_
    refine WQ.next ?_
    refine WC.ret ?_
    refine WQ.out (.tmp rfl .nil) ?_
    exact ⟨by rw [rels_all (fun j hj => hok j (by omega))]; rfl, H2.fr⟩
set_option maxRecDepth 100000 in
theorem omay_ok (x : Sy) (w : World) (hI : SyD.ok w x) (hn : x.nm.length < 2 ^ 47) (hb : x.b.length < 2 ^ 32) (hr : ∀ y ∈ x.rl, y.nm.length < 2 ^ 47) (hm : x.rl.length < 2 ^ 40) (hq : x.nt.length < 2 ^ 40) :
    Calls Tryd.prog 61 #[(.agg #[(str x.nm), (vU8 x.bind), (vU8 x.kind), (vU32 x.size), (str x.b), x.rv, x.nv])] w (fun e w' => e = .returned (.bool (symB x)) ∧ Fr [] w w') := by
  refine enter (args := [(.agg #[(str x.nm), (vU8 x.bind), (vU8 x.kind), (vU32 x.size), (str x.b), x.rv, x.nv])]) Tryd.func61 rfl rfl ?_
  have H0 : Own [] w w [] := Own.start w []
  refine WC.seq ?_
  refine WC.region ?_
  refine WL.op rfl rfl (op_box H0 rfl rfl (fun b1 w1 H1 => ?_))
  refine WL.op rfl rfl (op_assign rfl ?_)
  refine WL.nil ?_
  refine WQ.next ?_
  refine WC.seq ?_
  refine WC.region ?_
  refine WL.op rfl rfl (op_fieldAddr rfl Fa.F111_0 ?_)
  refine WL.op rfl rfl (op_fieldAddr rfl Fa.F26_0 ?_)
  refine WL.op rfl rfl (op_load rfl (H1.cell (i := 0) rfl rfl) Tryd.underlying9 rfl ?_)
  refine WL.op rfl rfl (op_callF Fa.C80 rfl ((oname_ok x.nm _ hn).mono (fun e w2 hq => ?_)))
  obtain ⟨rfl, hf2⟩ := hq
  refine ⟨_, rfl, ?_⟩
  have H2 := H1.fr' hf2
  refine WL.op rfl rfl (op_move rfl ?_)
  refine WL.split (t := 7) rfl (fun (hb3 : (nameB x.nm) = true) => ?_) (fun (hb3 : (nameB x.nm) = false) => ?_)
  ·
    refine WL.yes rfl rfl rfl hb3 rfl (op_fieldAddr rfl Fa.F111_0 ?_)
    refine WL.yes rfl rfl rfl hb3 rfl (op_fieldAddr rfl Fa.F26_1 ?_)
    refine WL.yes rfl rfl rfl hb3 rfl (op_load rfl (H2.cell (i := 0) rfl rfl) Tryd.underlying5 rfl ?_)
    refine WL.yes rfl rfl rfl hb3 rfl (op_leqU8 (b := 2) rfl rfl ?_)
    refine WL.op rfl rfl (op_pickT rfl hb3 rfl ?_)
    refine WL.op rfl rfl (op_move rfl ?_)
    refine WL.split (t := 13) rfl (fun (hb4 : (decide (x.bind ≤ (2 : UInt8))) = true) => ?_) (fun (hb4 : (decide (x.bind ≤ (2 : UInt8))) = false) => ?_)
    ·
      have hc4 := of_decide_eq_true hb4
      refine WL.yes rfl rfl rfl hb4 rfl (op_fieldAddr rfl Fa.F111_0 ?_)
      refine WL.yes rfl rfl rfl hb4 rfl (op_fieldAddr rfl Fa.F26_2 ?_)
      refine WL.yes rfl rfl rfl hb4 rfl (op_load rfl (H2.cell (i := 0) rfl rfl) Tryd.underlying5 rfl ?_)
      refine WL.yes rfl rfl rfl hb4 rfl (op_geqU8 (b := 1) rfl rfl ?_)
      refine WL.op rfl rfl (op_pickT rfl hb4 rfl ?_)
      refine WL.op rfl rfl (op_move rfl ?_)
      refine WL.split (t := 19) rfl (fun (hb5 : (decide (x.kind ≥ (1 : UInt8))) = true) => ?_) (fun (hb5 : (decide (x.kind ≥ (1 : UInt8))) = false) => ?_)
      ·
        have hc5 := of_decide_eq_true hb5
        refine WL.yes rfl rfl rfl hb5 rfl (op_fieldAddr rfl Fa.F111_0 ?_)
        refine WL.yes rfl rfl rfl hb5 rfl (op_fieldAddr rfl Fa.F26_2 ?_)
        refine WL.yes rfl rfl rfl hb5 rfl (op_load rfl (H2.cell (i := 0) rfl rfl) Tryd.underlying5 rfl ?_)
        refine WL.yes rfl rfl rfl hb5 rfl (op_leqU8 (b := 3) rfl rfl ?_)
        refine WL.op rfl rfl (op_pickT rfl hb5 rfl ?_)
        refine WL.op rfl rfl (op_move rfl ?_)
        refine WL.split (t := 25) rfl (fun (hb6 : (decide (x.kind ≤ (3 : UInt8))) = true) => ?_) (fun (hb6 : (decide (x.kind ≤ (3 : UInt8))) = false) => ?_)
        ·
          have hc6 := of_decide_eq_true hb6
          refine WL.yes rfl rfl rfl hb6 rfl (op_loadS (vs := [_, _, _, _, _, _, _]) rfl (H2.cells (i := 0) rfl rfl) Tryd.underlying111 rfl Fa.I111 rfl ?_)
          refine WL.yes rfl rfl rfl hb6 rfl (op_callF Fa.C81 rfl ((sized_ok x _ (SyD_mk (x := x) ((SyD_rl (SyD.fr0 hI H2.fr))) ((SyD_nt (SyD.fr0 hI H2.fr)))) hn hb hr hm hq).mono (fun e w7 hq => ?_)))
          obtain ⟨rfl, hf7⟩ := hq
          refine ⟨_, rfl, ?_⟩
          have H7 := H2.fr' hf7
          refine WL.op rfl rfl (op_pickT rfl hb6 rfl ?_)
          refine WL.op rfl rfl (op_move rfl ?_)
          refine WL.split (t := 29) rfl (fun (hb8 : (sizedB x) = true) => ?_) (fun (hb8 : (sizedB x) = false) => ?_)
          ·
            refine WL.yes rfl rfl rfl hb8 rfl (op_loadS (vs := [_, _, _, _, _, _, _]) rfl (H7.cells (i := 0) rfl rfl) Tryd.underlying111 rfl Fa.I111 rfl ?_)
            refine WL.yes rfl rfl rfl hb8 rfl (op_callF Fa.C82 rfl ((places_ok x _ (SyD_mk (x := x) ((SyD_rl (SyD.fr0 hI H7.fr))) ((SyD_nt (SyD.fr0 hI H7.fr)))) hn hb hr hm hq).mono (fun e w9 hq => ?_)))
            obtain ⟨rfl, hf9⟩ := hq
            refine ⟨_, rfl, ?_⟩
            have H9 := H7.fr' hf9
            refine WL.op rfl rfl (op_pickT rfl hb8 rfl ?_)
            refine WL.op rfl rfl (op_move rfl ?_)
            refine WL.split (t := 33) rfl (fun (hb10 : (relsB x.b.length x.rl) = true) => ?_) (fun (hb10 : (relsB x.b.length x.rl) = false) => ?_)
            ·
              refine WL.yes rfl rfl rfl hb10 rfl (op_fieldAddr rfl Fa.F111_0 ?_)
              refine WL.yes rfl rfl rfl hb10 rfl (op_fieldAddr rfl Fa.F26_6 ?_)
              refine WL.yes rfl rfl rfl hb10 rfl (op_load rfl (H9.cell (i := 0) rfl rfl) Tryd.underlying24 rfl ?_)
              refine WL.yes rfl rfl rfl hb10 rfl (op_lenA Tryd.underlying24 rfl ((SyD_nt (SyD.fr0 hI H9.fr))) ?_)
              refine WL.yes rfl rfl rfl hb10 rfl (op_leqN (b := 8) rfl rfl ?_)
              refine WL.op rfl rfl (op_pickT rfl hb10 rfl ?_)
              refine WL.op rfl rfl (op_move rfl ?_)
              refine WL.split (t := 40) rfl (fun (hb11 : (decide (x.nt.length ≤ 8)) = true) => ?_) (fun (hb11 : (decide (x.nt.length ≤ 8)) = false) => ?_)
              ·
                have hc11 := of_decide_eq_true hb11
                refine WL.yes rfl rfl rfl hb11 rfl (op_fieldAddr rfl Fa.F111_0 ?_)
                refine WL.yes rfl rfl rfl hb11 rfl (op_fieldAddr rfl Fa.F26_6 ?_)
                refine WL.yes rfl rfl rfl hb11 rfl (op_load rfl (H9.cell (i := 0) rfl rfl) Tryd.underlying24 rfl ?_)
                refine WL.yes rfl rfl rfl hb11 rfl (op_callF Fa.C83 rfl ((conN_ok _ x.nt _ ((SyD_nt (SyD.fr0 hI H9.fr))) (by omega)).mono (fun e w12 hq => ?_)))
                obtain ⟨rfl, hf12⟩ := hq
                refine ⟨_, rfl, ?_⟩
                have H12 := H9.fr' hf12
                refine WL.yes rfl rfl rfl hb11 rfl (op_not rfl ?_)
                refine WL.op rfl rfl (op_pickT rfl hb11 rfl ?_)
                refine WL.op rfl rfl (op_assign rfl ?_)
                refine WL.nil ?_
                refine WQ.next ?_
                refine WC.ret ?_
                refine WQ.out (.tmp rfl .nil) ?_
                exact ⟨by (rw [sym_eq, symU, hb3, hb4, hb5, hb6, hb8, hb10, hb11]) <;> rfl, H12.fr⟩
              ·
                have hc11 := of_decide_eq_false hb11
                refine WL.no rfl rfl rfl hb11 rfl ?_
                refine WL.no rfl rfl rfl hb11 rfl ?_
                refine WL.no rfl rfl rfl hb11 rfl ?_
                refine WL.no rfl rfl rfl hb11 rfl ?_
                refine WL.no rfl rfl rfl hb11 rfl ?_
                refine WL.op rfl rfl (op_pickF rfl hb11 rfl ?_)
                refine WL.op rfl rfl (op_assign rfl ?_)
                refine WL.nil ?_
                refine WQ.next ?_
                refine WC.ret ?_
                refine WQ.out (.tmp rfl .nil) ?_
                exact ⟨by (rw [sym_eq, symU, hb3, hb4, hb5, hb6, hb8, hb10, hb11]) <;> rfl, H9.fr⟩
            ·
              refine WL.no rfl rfl rfl hb10 rfl ?_
              refine WL.no rfl rfl rfl hb10 rfl ?_
              refine WL.no rfl rfl rfl hb10 rfl ?_
              refine WL.no rfl rfl rfl hb10 rfl ?_
              refine WL.no rfl rfl rfl hb10 rfl ?_
              refine WL.op rfl rfl (op_pickF rfl hb10 rfl ?_)
              refine WL.op rfl rfl (op_move rfl ?_)
              refine WL.no rfl rfl rfl rfl rfl ?_
              refine WL.no rfl rfl rfl rfl rfl ?_
              refine WL.no rfl rfl rfl rfl rfl ?_
              refine WL.no rfl rfl rfl rfl rfl ?_
              refine WL.no rfl rfl rfl rfl rfl ?_
              refine WL.op rfl rfl (op_pickF rfl rfl rfl ?_)
              refine WL.op rfl rfl (op_assign rfl ?_)
              refine WL.nil ?_
              refine WQ.next ?_
              refine WC.ret ?_
              refine WQ.out (.tmp rfl .nil) ?_
              exact ⟨by (rw [sym_eq, symU, hb3, hb4, hb5, hb6, hb8, hb10]) <;> rfl, H9.fr⟩
          ·
            refine WL.no rfl rfl rfl hb8 rfl ?_
            refine WL.no rfl rfl rfl hb8 rfl ?_
            refine WL.op rfl rfl (op_pickF rfl hb8 rfl ?_)
            refine WL.op rfl rfl (op_move rfl ?_)
            refine WL.no rfl rfl rfl rfl rfl ?_
            refine WL.no rfl rfl rfl rfl rfl ?_
            refine WL.no rfl rfl rfl rfl rfl ?_
            refine WL.no rfl rfl rfl rfl rfl ?_
            refine WL.no rfl rfl rfl rfl rfl ?_
            refine WL.op rfl rfl (op_pickF rfl rfl rfl ?_)
            refine WL.op rfl rfl (op_move rfl ?_)
            refine WL.no rfl rfl rfl rfl rfl ?_
            refine WL.no rfl rfl rfl rfl rfl ?_
            refine WL.no rfl rfl rfl rfl rfl ?_
            refine WL.no rfl rfl rfl rfl rfl ?_
            refine WL.no rfl rfl rfl rfl rfl ?_
            refine WL.op rfl rfl (op_pickF rfl rfl rfl ?_)
            refine WL.op rfl rfl (op_assign rfl ?_)
            refine WL.nil ?_
            refine WQ.next ?_
            refine WC.ret ?_
            refine WQ.out (.tmp rfl .nil) ?_
            exact ⟨by (rw [sym_eq, symU, hb3, hb4, hb5, hb6, hb8]) <;> rfl, H7.fr⟩
        ·
          have hc6 := of_decide_eq_false hb6
          refine WL.no rfl rfl rfl hb6 rfl ?_
          refine WL.no rfl rfl rfl hb6 rfl ?_
          refine WL.op rfl rfl (op_pickF rfl hb6 rfl ?_)
          refine WL.op rfl rfl (op_move rfl ?_)
          refine WL.no rfl rfl rfl rfl rfl ?_
          refine WL.no rfl rfl rfl rfl rfl ?_
          refine WL.op rfl rfl (op_pickF rfl rfl rfl ?_)
          refine WL.op rfl rfl (op_move rfl ?_)
          refine WL.no rfl rfl rfl rfl rfl ?_
          refine WL.no rfl rfl rfl rfl rfl ?_
          refine WL.no rfl rfl rfl rfl rfl ?_
          refine WL.no rfl rfl rfl rfl rfl ?_
          refine WL.no rfl rfl rfl rfl rfl ?_
          refine WL.op rfl rfl (op_pickF rfl rfl rfl ?_)
          refine WL.op rfl rfl (op_move rfl ?_)
          refine WL.no rfl rfl rfl rfl rfl ?_
          refine WL.no rfl rfl rfl rfl rfl ?_
          refine WL.no rfl rfl rfl rfl rfl ?_
          refine WL.no rfl rfl rfl rfl rfl ?_
          refine WL.no rfl rfl rfl rfl rfl ?_
          refine WL.op rfl rfl (op_pickF rfl rfl rfl ?_)
          refine WL.op rfl rfl (op_assign rfl ?_)
          refine WL.nil ?_
          refine WQ.next ?_
          refine WC.ret ?_
          refine WQ.out (.tmp rfl .nil) ?_
          exact ⟨by (rw [sym_eq, symU, hb3, hb4, hb5, hb6]) <;> rfl, H2.fr⟩
      ·
        have hc5 := of_decide_eq_false hb5
        refine WL.no rfl rfl rfl hb5 rfl ?_
        refine WL.no rfl rfl rfl hb5 rfl ?_
        refine WL.no rfl rfl rfl hb5 rfl ?_
        refine WL.no rfl rfl rfl hb5 rfl ?_
        refine WL.op rfl rfl (op_pickF rfl hb5 rfl ?_)
        refine WL.op rfl rfl (op_move rfl ?_)
        refine WL.no rfl rfl rfl rfl rfl ?_
        refine WL.no rfl rfl rfl rfl rfl ?_
        refine WL.op rfl rfl (op_pickF rfl rfl rfl ?_)
        refine WL.op rfl rfl (op_move rfl ?_)
        refine WL.no rfl rfl rfl rfl rfl ?_
        refine WL.no rfl rfl rfl rfl rfl ?_
        refine WL.op rfl rfl (op_pickF rfl rfl rfl ?_)
        refine WL.op rfl rfl (op_move rfl ?_)
        refine WL.no rfl rfl rfl rfl rfl ?_
        refine WL.no rfl rfl rfl rfl rfl ?_
        refine WL.no rfl rfl rfl rfl rfl ?_
        refine WL.no rfl rfl rfl rfl rfl ?_
        refine WL.no rfl rfl rfl rfl rfl ?_
        refine WL.op rfl rfl (op_pickF rfl rfl rfl ?_)
        refine WL.op rfl rfl (op_move rfl ?_)
        refine WL.no rfl rfl rfl rfl rfl ?_
        refine WL.no rfl rfl rfl rfl rfl ?_
        refine WL.no rfl rfl rfl rfl rfl ?_
        refine WL.no rfl rfl rfl rfl rfl ?_
        refine WL.no rfl rfl rfl rfl rfl ?_
        refine WL.op rfl rfl (op_pickF rfl rfl rfl ?_)
        refine WL.op rfl rfl (op_assign rfl ?_)
        refine WL.nil ?_
        refine WQ.next ?_
        refine WC.ret ?_
        refine WQ.out (.tmp rfl .nil) ?_
        exact ⟨by (rw [sym_eq, symU, hb3, hb4, hb5]) <;> rfl, H2.fr⟩
    ·
      have hc4 := of_decide_eq_false hb4
      refine WL.no rfl rfl rfl hb4 rfl ?_
      refine WL.no rfl rfl rfl hb4 rfl ?_
      refine WL.no rfl rfl rfl hb4 rfl ?_
      refine WL.no rfl rfl rfl hb4 rfl ?_
      refine WL.op rfl rfl (op_pickF rfl hb4 rfl ?_)
      refine WL.op rfl rfl (op_move rfl ?_)
      refine WL.no rfl rfl rfl rfl rfl ?_
      refine WL.no rfl rfl rfl rfl rfl ?_
      refine WL.no rfl rfl rfl rfl rfl ?_
      refine WL.no rfl rfl rfl rfl rfl ?_
      refine WL.op rfl rfl (op_pickF rfl rfl rfl ?_)
      refine WL.op rfl rfl (op_move rfl ?_)
      refine WL.no rfl rfl rfl rfl rfl ?_
      refine WL.no rfl rfl rfl rfl rfl ?_
      refine WL.op rfl rfl (op_pickF rfl rfl rfl ?_)
      refine WL.op rfl rfl (op_move rfl ?_)
      refine WL.no rfl rfl rfl rfl rfl ?_
      refine WL.no rfl rfl rfl rfl rfl ?_
      refine WL.op rfl rfl (op_pickF rfl rfl rfl ?_)
      refine WL.op rfl rfl (op_move rfl ?_)
      refine WL.no rfl rfl rfl rfl rfl ?_
      refine WL.no rfl rfl rfl rfl rfl ?_
      refine WL.no rfl rfl rfl rfl rfl ?_
      refine WL.no rfl rfl rfl rfl rfl ?_
      refine WL.no rfl rfl rfl rfl rfl ?_
      refine WL.op rfl rfl (op_pickF rfl rfl rfl ?_)
      refine WL.op rfl rfl (op_move rfl ?_)
      refine WL.no rfl rfl rfl rfl rfl ?_
      refine WL.no rfl rfl rfl rfl rfl ?_
      refine WL.no rfl rfl rfl rfl rfl ?_
      refine WL.no rfl rfl rfl rfl rfl ?_
      refine WL.no rfl rfl rfl rfl rfl ?_
      refine WL.op rfl rfl (op_pickF rfl rfl rfl ?_)
      refine WL.op rfl rfl (op_assign rfl ?_)
      refine WL.nil ?_
      refine WQ.next ?_
      refine WC.ret ?_
      refine WQ.out (.tmp rfl .nil) ?_
      exact ⟨by (rw [sym_eq, symU, hb3, hb4]) <;> rfl, H2.fr⟩
  ·
    refine WL.no rfl rfl rfl hb3 rfl ?_
    refine WL.no rfl rfl rfl hb3 rfl ?_
    refine WL.no rfl rfl rfl hb3 rfl ?_
    refine WL.no rfl rfl rfl hb3 rfl ?_
    refine WL.op rfl rfl (op_pickF rfl hb3 rfl ?_)
    refine WL.op rfl rfl (op_move rfl ?_)
    refine WL.no rfl rfl rfl rfl rfl ?_
    refine WL.no rfl rfl rfl rfl rfl ?_
    refine WL.no rfl rfl rfl rfl rfl ?_
    refine WL.no rfl rfl rfl rfl rfl ?_
    refine WL.op rfl rfl (op_pickF rfl rfl rfl ?_)
    refine WL.op rfl rfl (op_move rfl ?_)
    refine WL.no rfl rfl rfl rfl rfl ?_
    refine WL.no rfl rfl rfl rfl rfl ?_
    refine WL.no rfl rfl rfl rfl rfl ?_
    refine WL.no rfl rfl rfl rfl rfl ?_
    refine WL.op rfl rfl (op_pickF rfl rfl rfl ?_)
    refine WL.op rfl rfl (op_move rfl ?_)
    refine WL.no rfl rfl rfl rfl rfl ?_
    refine WL.no rfl rfl rfl rfl rfl ?_
    refine WL.op rfl rfl (op_pickF rfl rfl rfl ?_)
    refine WL.op rfl rfl (op_move rfl ?_)
    refine WL.no rfl rfl rfl rfl rfl ?_
    refine WL.no rfl rfl rfl rfl rfl ?_
    refine WL.op rfl rfl (op_pickF rfl rfl rfl ?_)
    refine WL.op rfl rfl (op_move rfl ?_)
    refine WL.no rfl rfl rfl rfl rfl ?_
    refine WL.no rfl rfl rfl rfl rfl ?_
    refine WL.no rfl rfl rfl rfl rfl ?_
    refine WL.no rfl rfl rfl rfl rfl ?_
    refine WL.no rfl rfl rfl rfl rfl ?_
    refine WL.op rfl rfl (op_pickF rfl rfl rfl ?_)
    refine WL.op rfl rfl (op_move rfl ?_)
    refine WL.no rfl rfl rfl rfl rfl ?_
    refine WL.no rfl rfl rfl rfl rfl ?_
    refine WL.no rfl rfl rfl rfl rfl ?_
    refine WL.no rfl rfl rfl rfl rfl ?_
    refine WL.no rfl rfl rfl rfl rfl ?_
    refine WL.op rfl rfl (op_pickF rfl rfl rfl ?_)
    refine WL.op rfl rfl (op_assign rfl ?_)
    refine WL.nil ?_
    refine WQ.next ?_
    refine WC.ret ?_
    refine WQ.out (.tmp rfl .nil) ?_
    exact ⟨by (rw [sym_eq, symU, hb3]) <;> rfl, H2.fr⟩
set_option maxRecDepth 100000 in
theorem osym_ok (x : Sy) (w : World) (hI : SyD.ok w x) (hn : x.nm.length < 2 ^ 47) (hb : x.b.length < 2 ^ 32) (hr : ∀ y ∈ x.rl, y.nm.length < 2 ^ 47) (hm : x.rl.length < 2 ^ 40) (hq : x.nt.length < 2 ^ 40) :
    Calls Tryd.prog 27 #[(.agg #[(str x.nm), (vU8 x.bind), (vU8 x.kind), (vU32 x.size), (str x.b), x.rv, x.nv])] w (fun e w' => e = .returned (vN (symE x)) ∧ Fr [] w w') := by
  refine enter (args := [(.agg #[(str x.nm), (vU8 x.bind), (vU8 x.kind), (vU32 x.size), (str x.b), x.rv, x.nv])]) Tryd.func27 rfl rfl ?_
  have H0 : Own [] w w [] := Own.start w []
  refine WC.seq ?_
  refine WC.region ?_
  refine WL.op rfl rfl (op_box H0 rfl rfl (fun b1 w1 H1 => ?_))
  refine WL.op rfl rfl (op_assign rfl ?_)
  refine WL.nil ?_
  refine WQ.next ?_
  refine WC.seq ?_
  refine WC.region ?_
  refine WL.op rfl rfl (op_loadS (vs := [_, _, _, _, _, _, _]) rfl (H1.cells (i := 0) rfl rfl) Tryd.underlying26 rfl Fa.I26 rfl ?_)
  refine WL.op rfl rfl (op_build (cs := [_, _, _, _, _, _, _]) Fa.I111 Fa.PL111 rfl rfl ?_)
  refine WL.op rfl rfl (op_callF Fa.C61 rfl ((omay_ok x _ (SyD_mk (x := x) ((SyD_rl (SyD.fr0 hI H1.fr))) ((SyD_nt (SyD.fr0 hI H1.fr)))) hn hb hr hm hq).mono (fun e w2 hq => ?_)))
  obtain ⟨rfl, hf2⟩ := hq
  refine ⟨_, rfl, ?_⟩
  have H2 := H1.fr' hf2
  refine WL.op rfl rfl (op_callF Fa.C60 rfl ((told_ok (symB x) _).mono (fun e w3 hq => ?_)))
  obtain ⟨rfl, hf3⟩ := hq
  refine ⟨_, rfl, ?_⟩
  have H3 := H2.fr' hf3
  refine WL.op rfl rfl (op_assign rfl ?_)
  refine WL.nil ?_
  refine WQ.next ?_
  refine WC.ret ?_
  refine WQ.out (.tmp rfl .nil) ?_
  exact ⟨rfl, H3.fr⟩
end Go.Proofs.YtnngbnenekjffaaDoor
/-! from DRel -/
namespace Go.Proofs.YtnngbnenekjffaaDoor
open Go.Owl Go.Spec
set_option maxRecDepth 100000 in
theorem text_ok (v : Value) (m : Nat) (l : List UInt8) (w : World) (hA : Arr w v 1 m (l.map vU8)) :
    Calls Tryd.prog 89 #[v] w (fun e w' => e = .returned (str l) ∧ Fr [] w w') := by
  refine enter (args := [v]) Tryd.func89 rfl rfl ?_
  have H0 : Own [] w w [] := Own.start w []
  refine WC.seq ?_
  refine WC.region ?_
  refine WL.op rfl rfl (op_assign rfl ?_)
  refine WL.nil ?_
  refine WQ.next ?_
  refine WC.seq ?_
  refine WC.region ?_
  refine WL.op rfl rfl (op_move rfl ?_)
  refine WL.op rfl rfl (op_bytesStr (l := l) Tryd.underlying58 Tryd.underlying5 Tryd.underlying9 rfl (H0.arr hA) rfl ?_)
  refine WL.op rfl rfl (op_assign rfl ?_)
  refine WL.nil ?_
  refine WQ.next ?_
  refine WC.ret ?_
  refine WQ.out (.tmp rfl .nil) ?_
  exact ⟨rfl, H0.fr⟩
set_option maxRecDepth 100000 in
theorem get_ok (s : List UInt8) (w : World) :
    Calls Tryd.prog 44 #[(str s)] w (fun e w' => e = .returned (.tuple #[vU32 (getV s), vN (getE s)]) ∧ Fr [] w w') := by
  refine enter (args := [(str s)]) Tryd.func44 rfl rfl ?_
  have H0 : Own [] w w [] := Own.start w []
  refine WC.seq ?_
  refine WC.region ?_
  refine WL.op rfl rfl (op_assign rfl ?_)
  refine WL.op rfl rfl (op_assign rfl ?_)
  refine WL.nil ?_
  refine WQ.next ?_
  refine WC.seq ?_
  refine WC.seq ?_
  refine WC.region ?_
  refine WL.op rfl rfl (op_move rfl ?_)
  refine WL.op rfl rfl (op_lenStr Tryd.underlying9 rfl ?_)
  refine WL.op rfl rfl (op_lssN (b := 1) rfl rfl ?_)
  refine WL.op rfl rfl (op_move rfl ?_)
  refine WL.split (t := 8) rfl (fun (hb1 : (decide (s.length < 1)) = true) => ?_) (fun (hb1 : (decide (s.length < 1)) = false) => ?_)
  ·
    have hc1 := of_decide_eq_true hb1
    refine WL.no rfl rfl rfl hb1 rfl ?_
    refine WL.no rfl rfl rfl hb1 rfl ?_
    refine WL.no rfl rfl rfl hb1 rfl ?_
    refine WL.op rfl rfl (op_pickT rfl hb1 rfl ?_)
    refine WL.nil ?_
    refine WQ.next ?_
    refine WC.yes rfl rfl ?_
    refine WC.seq ?_
    refine WC.region ?_
    refine WL.op rfl rfl (op_assign rfl ?_)
    refine WL.op rfl rfl (op_assign rfl ?_)
    refine WL.nil ?_
    refine WQ.next ?_
    refine WC.ret ?_
    refine WQ.thenRet ?_
    refine WQ.out (.tmp rfl (.tmp rfl .nil)) ?_
    exact ⟨by first | (have hk : k = s.length := (by omega); subst hk; rw [getV, getE, if_neg (by omega), if_neg (by omega)]; rfl) | (rw [getV, getE, if_pos (by omega), if_pos (by omega)]; rfl), H0.fr⟩
  ·
    have hc1 := of_decide_eq_false hb1
    refine WL.yes rfl rfl rfl hb1 rfl (op_move rfl ?_)
    refine WL.yes rfl rfl rfl hb1 rfl (op_lenStr Tryd.underlying9 rfl ?_)
    refine WL.yes rfl rfl rfl hb1 rfl (op_gtrN (b := 4) rfl rfl ?_)
    refine WL.op rfl rfl (op_pickF rfl hb1 rfl ?_)
    refine WL.nil ?_
    refine WQ.next ?_
    refine WC.cond rfl (fun (hb2 : (decide (s.length > 4)) = true) => ?_) (fun (hb2 : (decide (s.length > 4)) = false) => ?_)
    ·
      have hc2 := of_decide_eq_true hb2
      refine WC.seq ?_
      refine WC.region ?_
      refine WL.op rfl rfl (op_assign rfl ?_)
      refine WL.op rfl rfl (op_assign rfl ?_)
      refine WL.nil ?_
      refine WQ.next ?_
      refine WC.ret ?_
      refine WQ.thenRet ?_
      refine WQ.out (.tmp rfl (.tmp rfl .nil)) ?_
      exact ⟨by first | (have hk : k = s.length := (by omega); subst hk; rw [getV, getE, if_neg (by omega), if_neg (by omega)]; rfl) | (rw [getV, getE, if_pos (by omega), if_pos (by omega)]; rfl), H0.fr⟩
    ·
      have hc2 := of_decide_eq_false hb2
      refine WC.skip ?_
      refine WQ.next ?_
      refine WC.seq ?_
      refine WC.seq ?_
      refine WC.region ?_
      refine WL.op rfl rfl (op_move rfl ?_)
      refine WL.op rfl rfl (op_lenStr Tryd.underlying9 rfl ?_)
      refine WL.op rfl rfl (op_move rfl ?_)
      refine WL.nil ?_
      refine WQ.next ?_
      refine WC.block ?_
      refine WC.loop (α := Nat) (fun k => [(0, (str s)), (3, (vN 0)), (14, (vN s.length)), (15, (vN k)), (2, (vU32 (getTo s k)))]) (fun k w' => (k ≤ s.length) ∧ Own [] w w' []) (fun k => s.length - k) 0 ⟨(by omega), H0⟩ ⟨rfl, rfl, rfl, rfl, rfl, trivial⟩ ?_
      rintro k w3 ⟨hinv, H3⟩
      show WC _ _ _ _ _ [(0, (str s)), (3, (vN 0)), (14, (vN s.length)), (15, (vN k)), (2, (vU32 (getTo s k)))] _
      refine WC.seq ?_
      refine WC.region ?_
      refine WL.op rfl rfl (op_lssN rfl rfl ?_)
      refine WL.nil ?_
      refine WQ.next ?_
      refine WC.seq ?_
      refine WC.cond rfl (fun (hb4 : (decide (k < s.length)) = true) => ?_) (fun (hb4 : (decide (k < s.length)) = false) => ?_)
      ·
        have hc4 := of_decide_eq_true hb4
        refine WC.skip ?_
        refine WQ.next ?_
        refine WC.seq ?_
        refine WC.block ?_
        refine WC.seq ?_
        refine WC.region ?_
        refine WL.op rfl rfl (op_move rfl ?_)
        refine WL.op rfl rfl (op_assign rfl ?_)
        refine WL.nil ?_
        refine WQ.next ?_
        refine WC.region ?_
        refine WL.op rfl rfl (op_move rfl ?_)
        refine WL.op rfl rfl (op_move rfl ?_)
        refine WL.op rfl rfl (op_move rfl ?_)
        refine WL.op rfl rfl (op_indexStrD Tryd.underlying9 rfl rfl (by omega) ?_)
        refine WL.op rfl rfl (op_convU8U32 (hs := Tryd.underlying5) (hd := Tryd.underlying22) rfl ?_)
        refine WL.op rfl rfl (op_move rfl ?_)
        refine WL.op rfl rfl (op_mulN (a := 8) rfl rfl (by omega) ?_)
        refine WL.op rfl rfl (op_shlU32 rfl rfl ?_)
        refine WL.op rfl rfl (op_orU32 rfl rfl ?_)
        refine WL.op rfl rfl (op_assign rfl ?_)
        refine WL.nil ?_
        refine WQ.inNormal ?_
        refine WQ.next ?_
        refine WC.region ?_
        refine WL.op rfl rfl (op_addN (b := 1) rfl rfl (by omega) ?_)
        refine WL.op rfl rfl (op_move rfl ?_)
        refine WL.nil ?_
        exact WQ.round (k + 1) ⟨(by omega), H3⟩ ⟨rfl, rfl, rfl, rfl, rfl, trivial⟩ (by omega)
      ·
        have hc4 := of_decide_eq_false hb4
        refine WC.exit ?_
        refine WQ.thenExit ?_
        refine WQ.thenExit ?_
        refine WQ.inHere ?_
        refine WQ.next ?_
        refine WC.seq ?_
        refine WC.region ?_
        refine WL.op rfl rfl (op_move rfl ?_)
        refine WL.op rfl rfl (op_assign rfl ?_)
        refine WL.op rfl rfl (op_assign rfl ?_)
        refine WL.nil ?_
        refine WQ.next ?_
        refine WC.ret ?_
        refine WQ.out (.tmp rfl (.tmp rfl .nil)) ?_
        exact ⟨by first | (have hk : k = s.length := (by omega); subst hk; rw [getV, getE, if_neg (by omega), if_neg (by omega)]; rfl) | (rw [getV, getE, if_pos (by omega), if_pos (by omega)]; rfl), H3.fr⟩
set_option maxRecDepth 100000 in
theorem put_ok (v : UInt32) (n : Int) (w : World) :
    Calls Tryd.prog 70 #[(vU32 v), (vI n)] w (fun e w' => e = .returned (.tuple #[str (numS v n), vN (numE v n)]) ∧ Fr [] w w') := by
  refine enter (args := [(vU32 v), (vI n)]) Tryd.func70 rfl rfl ?_
  have H0 : Own [] w w [] := Own.start w []
  refine WC.seq ?_
  refine WC.region ?_
  refine WL.op rfl rfl (op_assign rfl ?_)
  refine WL.op rfl rfl (op_assign rfl ?_)
  refine WL.nil ?_
  refine WQ.next ?_
  refine WC.seq ?_
  refine WC.block ?_
  refine WC.seq ?_
  refine WC.region ?_
  refine WL.op rfl rfl (op_move rfl ?_)
  refine WL.op rfl rfl (op_lssI (b := (1 : Int)) rfl rfl ?_)
  refine WL.op rfl rfl (op_move rfl ?_)
  refine WL.split (t := 9) rfl (fun (hb1 : (decide (n < (1 : Int))) = true) => ?_) (fun (hb1 : (decide (n < (1 : Int))) = false) => ?_)
  ·
    have hc1 := of_decide_eq_true hb1
    refine WL.no rfl rfl rfl hb1 rfl ?_
    refine WL.no rfl rfl rfl hb1 rfl ?_
    refine WL.op rfl rfl (op_pickT rfl hb1 rfl ?_)
    refine WL.op rfl rfl (op_assign rfl ?_)
    refine WL.nil ?_
    refine WQ.next ?_
    refine WC.yes rfl rfl ?_
    refine WC.seq ?_
    refine WC.region ?_
    refine WL.op rfl rfl (op_assign rfl ?_)
    refine WL.op rfl rfl (op_assign rfl ?_)
    refine WL.nil ?_
    refine WQ.next ?_
    refine WC.ret ?_
    refine WQ.inRet ?_
    refine WQ.thenRet ?_
    refine WQ.out (.tmp rfl (.tmp rfl .nil)) ?_
    rw [numS, numE, if_pos (show n < 1 ∨ n > 4 from by omega), if_neg (by decide)]
    exact ⟨rfl, H0.fr⟩
  ·
    have hc1 := of_decide_eq_false hb1
    refine WL.yes rfl rfl rfl hb1 rfl (op_move rfl ?_)
    refine WL.yes rfl rfl rfl hb1 rfl (op_gtrI (b := (4 : Int)) rfl rfl ?_)
    refine WL.op rfl rfl (op_pickF rfl hb1 rfl ?_)
    refine WL.op rfl rfl (op_assign rfl ?_)
    refine WL.nil ?_
    refine WQ.next ?_
    refine WC.cond rfl (fun (hb2 : (decide (n > (4 : Int))) = true) => ?_) (fun (hb2 : (decide (n > (4 : Int))) = false) => ?_)
    ·
      have hc2 := of_decide_eq_true hb2
      refine WC.seq ?_
      refine WC.region ?_
      refine WL.op rfl rfl (op_assign rfl ?_)
      refine WL.op rfl rfl (op_assign rfl ?_)
      refine WL.nil ?_
      refine WQ.next ?_
      refine WC.ret ?_
      refine WQ.inRet ?_
      refine WQ.thenRet ?_
      refine WQ.out (.tmp rfl (.tmp rfl .nil)) ?_
      rw [numS, numE, if_pos (show n < 1 ∨ n > 4 from by omega), if_neg (by decide)]
      exact ⟨rfl, H0.fr⟩
    ·
      have hc2 := of_decide_eq_false hb2
      obtain ⟨m, rfl⟩ : ∃ m : Nat, n = (m : Int) := ⟨n.toNat, by omega⟩
      refine WC.seq ?_
      refine WC.region ?_
      refine WL.op rfl rfl (op_move rfl ?_)
      refine WL.op rfl rfl (op_lssN (b := 4) rfl rfl ?_)
      refine WL.op rfl rfl (op_move rfl ?_)
      refine WL.split (t := 16) rfl (fun (hb3 : (decide (m < 4)) = true) => ?_) (fun (hb3 : (decide (m < 4)) = false) => ?_)
      ·
        have hc3 := of_decide_eq_true hb3
        refine WL.yes rfl rfl rfl hb3 rfl (op_move rfl ?_)
        refine WL.yes rfl rfl rfl hb3 rfl (op_move rfl ?_)
        refine WL.yes rfl rfl rfl hb3 rfl (op_mulN (a := 8) rfl rfl (by omega) ?_)
        refine WL.yes rfl rfl rfl hb3 rfl (op_shrU32 rfl rfl ?_)
        refine WL.yes rfl rfl rfl hb3 rfl (op_neqU32 (b := 0) rfl rfl ?_)
        refine WL.op rfl rfl (op_pickT rfl hb3 rfl ?_)
        refine WL.op rfl rfl (op_assign rfl ?_)
        refine WL.nil ?_
        refine WQ.next ?_
        refine WC.cond rfl (fun (hb4 : (decide ((shrU32 v (8 * m)) ≠ (0 : UInt32))) = true) => ?_) (fun (hb4 : (decide ((shrU32 v (8 * m)) ≠ (0 : UInt32))) = false) => ?_)
        ·
          have hc4 := of_decide_eq_true hb4
          refine WC.seq ?_
          refine WC.region ?_
          refine WL.op rfl rfl (op_assign rfl ?_)
          refine WL.op rfl rfl (op_assign rfl ?_)
          refine WL.nil ?_
          refine WQ.next ?_
          refine WC.ret ?_
          refine WQ.inRet ?_
          refine WQ.thenRet ?_
          refine WQ.out (.tmp rfl (.tmp rfl .nil)) ?_
          rw [numS, numE, if_neg (show ¬ ((m : Int) < 1 ∨ (m : Int) > 4) from by omega), Int.toNat_natCast, if_pos (show rV v m ≠ 0 from by rw [← rV_shr]; exact hc4), if_neg (by decide)]
          exact ⟨rfl, H0.fr⟩
        ·
          have hc4 := of_decide_eq_false hb4
          refine WC.skip ?_
          refine WQ.inNormal ?_
          refine WQ.next ?_
          refine WC.seq ?_
          refine WC.region ?_
          refine WL.op rfl rfl (op_move rfl ?_)
          refine WL.op rfl rfl (op_convU32U8 (hs := Tryd.underlying22) (hd := Tryd.underlying5) rfl ?_)
          refine WL.op rfl rfl (op_move rfl ?_)
          refine WL.op rfl rfl (op_shrU32 (s := 8) rfl rfl ?_)
          refine WL.op rfl rfl (op_convU32U8 (hs := Tryd.underlying22) (hd := Tryd.underlying5) rfl ?_)
          refine WL.op rfl rfl (op_move rfl ?_)
          refine WL.op rfl rfl (op_shrU32 (s := 16) rfl rfl ?_)
          refine WL.op rfl rfl (op_convU32U8 (hs := Tryd.underlying22) (hd := Tryd.underlying5) rfl ?_)
          refine WL.op rfl rfl (op_move rfl ?_)
          refine WL.op rfl rfl (op_shrU32 (s := 24) rfl rfl ?_)
          refine WL.op rfl rfl (op_convU32U8 (hs := Tryd.underlying22) (hd := Tryd.underlying5) rfl ?_)
          refine WL.op rfl rfl (op_buildSlice (cs := [_, _, _, _]) H0 Tryd.underlying58 Fa.I5 rfl rfl rfl rfl (by decide) (by decide) (fun b5 w5 H5 => ?_))
          refine WL.op rfl rfl (op_move rfl ?_)
          refine WL.op rfl rfl (op_cutHi Tryd.underlying58 Fa.I5 rfl (H5.arrR (i := 0) rfl) rfl (by omega) ?_)
          refine WL.op rfl rfl (op_callF Fa.C89 rfl ((text_ok _ _ (([(UInt8.ofNat v.toNat), (UInt8.ofNat (shrU32 v 8).toNat), (UInt8.ofNat (shrU32 v 16).toNat), (UInt8.ofNat (shrU32 v 24).toNat)].take m)) _ (((H5.arrR (i := 0) rfl)).cutHiM (f := vU8) (l := [(UInt8.ofNat v.toNat), (UInt8.ofNat (shrU32 v 8).toNat), (UInt8.ofNat (shrU32 v 16).toNat), (UInt8.ofNat (shrU32 v 24).toNat)]) (b := m) (by omega))).mono (fun e w6 hq => ?_)))
          obtain ⟨rfl, hf6⟩ := hq
          refine ⟨_, rfl, ?_⟩
          have H6 := H5.fr' hf6
          refine WL.op rfl rfl (op_assign rfl ?_)
          refine WL.op rfl rfl (op_assign rfl ?_)
          refine WL.nil ?_
          refine WQ.next ?_
          refine WC.ret ?_
          refine WQ.out (.tmp rfl (.tmp rfl .nil)) ?_
          rw [numS, numE, if_neg (show ¬ ((m : Int) < 1 ∨ (m : Int) > 4) from by omega), Int.toNat_natCast, if_neg (show ¬ (rV v m ≠ 0) from fun h => h (by rw [← rV_shr]; exact Decidable.not_not.mp hc4)), if_pos rfl, ← rB_take v (by omega)]
          exact ⟨rfl, H6.fr⟩
      ·
        have hc3 := of_decide_eq_false hb3
        refine WL.no rfl rfl rfl hb3 rfl ?_
        refine WL.no rfl rfl rfl hb3 rfl ?_
        refine WL.no rfl rfl rfl hb3 rfl ?_
        refine WL.no rfl rfl rfl hb3 rfl ?_
        refine WL.no rfl rfl rfl hb3 rfl ?_
        refine WL.op rfl rfl (op_pickF rfl hb3 rfl ?_)
        refine WL.op rfl rfl (op_assign rfl ?_)
        refine WL.nil ?_
        refine WQ.next ?_
        refine WC.no rfl rfl ?_
        refine WC.skip ?_
        refine WQ.inNormal ?_
        refine WQ.next ?_
        refine WC.seq ?_
        refine WC.region ?_
        refine WL.op rfl rfl (op_move rfl ?_)
        refine WL.op rfl rfl (op_convU32U8 (hs := Tryd.underlying22) (hd := Tryd.underlying5) rfl ?_)
        refine WL.op rfl rfl (op_move rfl ?_)
        refine WL.op rfl rfl (op_shrU32 (s := 8) rfl rfl ?_)
        refine WL.op rfl rfl (op_convU32U8 (hs := Tryd.underlying22) (hd := Tryd.underlying5) rfl ?_)
        refine WL.op rfl rfl (op_move rfl ?_)
        refine WL.op rfl rfl (op_shrU32 (s := 16) rfl rfl ?_)
        refine WL.op rfl rfl (op_convU32U8 (hs := Tryd.underlying22) (hd := Tryd.underlying5) rfl ?_)
        refine WL.op rfl rfl (op_move rfl ?_)
        refine WL.op rfl rfl (op_shrU32 (s := 24) rfl rfl ?_)
        refine WL.op rfl rfl (op_convU32U8 (hs := Tryd.underlying22) (hd := Tryd.underlying5) rfl ?_)
        refine WL.op rfl rfl (op_buildSlice (cs := [_, _, _, _]) H0 Tryd.underlying58 Fa.I5 rfl rfl rfl rfl (by decide) (by decide) (fun b7 w7 H7 => ?_))
        refine WL.op rfl rfl (op_move rfl ?_)
        refine WL.op rfl rfl (op_cutHi Tryd.underlying58 Fa.I5 rfl (H7.arrR (i := 0) rfl) rfl (by omega) ?_)
        refine WL.op rfl rfl (op_callF Fa.C89 rfl ((text_ok _ _ (([(UInt8.ofNat v.toNat), (UInt8.ofNat (shrU32 v 8).toNat), (UInt8.ofNat (shrU32 v 16).toNat), (UInt8.ofNat (shrU32 v 24).toNat)].take m)) _ (((H7.arrR (i := 0) rfl)).cutHiM (f := vU8) (l := [(UInt8.ofNat v.toNat), (UInt8.ofNat (shrU32 v 8).toNat), (UInt8.ofNat (shrU32 v 16).toNat), (UInt8.ofNat (shrU32 v 24).toNat)]) (b := m) (by omega))).mono (fun e w8 hq => ?_)))
        obtain ⟨rfl, hf8⟩ := hq
        refine ⟨_, rfl, ?_⟩
        have H8 := H7.fr' hf8
        refine WL.op rfl rfl (op_assign rfl ?_)
        refine WL.op rfl rfl (op_assign rfl ?_)
        refine WL.nil ?_
        refine WQ.next ?_
        refine WC.ret ?_
        refine WQ.out (.tmp rfl (.tmp rfl .nil)) ?_
        rw [numS, numE, if_neg (show ¬ ((m : Int) < 1 ∨ (m : Int) > 4) from by omega), Int.toNat_natCast, if_neg (show ¬ (rV v m ≠ 0) from fun h => h (by rw [show m = 4 from by omega]; exact rV_4 v)), if_pos rfl, ← rB_take v (by omega)]
        exact ⟨rfl, H8.fr⟩
set_option maxRecDepth 100000 in
theorem begin_yes (x : Sy) (bs : List UInt8) (w : World) (hI : SyD.ok w x) (hn : x.nm.length < 2 ^ 47) (hb : x.b.length < 2 ^ 32) (hr : ∀ y ∈ x.rl, y.nm.length < 2 ^ 47) (hm : x.rl.length < 2 ^ 40) (hq : x.nt.length < 2 ^ 40) (hsy : symB x = true) :
    Calls Tryd.prog 41 #[(.agg #[(str x.nm), (vU8 x.bind), (vU8 x.kind), (vU32 x.size), (str x.b), x.rv, x.nv]), (str bs)] w (fun e w' => ∃ q v, e = .returned (.tuple #[ptr q 0, vN 0]) ∧ Own [] w w' [.blk q [str x.nm, vU8 x.bind, vU8 x.kind, vU32 x.size, str x.b, x.rv, x.nv, v] 88, .row v 5 1 x.size.toNat (List.map vU8 (begB x.size.toNat bs))]) := by
  refine enter (args := [(.agg #[(str x.nm), (vU8 x.bind), (vU8 x.kind), (vU32 x.size), (str x.b), x.rv, x.nv]), (str bs)]) Tryd.func41 rfl rfl ?_
  have H0 : Own [] w w [] := Own.start w []
  refine WC.seq ?_
  refine WC.region ?_
  refine WL.op rfl rfl (op_box H0 rfl rfl (fun b1 w1 H1 => ?_))
  refine WL.op rfl rfl (op_assign rfl ?_)
  refine WL.op rfl rfl (op_assign rfl ?_)
  refine WL.nil ?_
  refine WQ.next ?_
  refine WC.seq ?_
  refine WC.seq ?_
  refine WC.region ?_
  refine WL.op rfl rfl (op_loadS (vs := [_, _, _, _, _, _, _]) rfl (H1.cells (i := 0) rfl rfl) Tryd.underlying26 rfl Fa.I26 rfl ?_)
  refine WL.op rfl rfl (op_callF Fa.C27 rfl ((osym_ok x _ (SyD_mk (x := x) ((SyD_rl (SyD.fr0 hI H1.fr))) ((SyD_nt (SyD.fr0 hI H1.fr)))) hn hb hr hm hq).mono (fun e w2 hq => ?_)))
  obtain ⟨rfl, hf2⟩ := hq
  refine ⟨_, rfl, ?_⟩
  have H2 := H1.fr' hf2
  refine WL.op rfl rfl (op_assign rfl ?_)
  refine WL.nil ?_
  refine WQ.next ?_
  refine WC.seq ?_
  refine WC.region ?_
  refine WL.op rfl rfl (op_move rfl ?_)
  refine WL.op rfl rfl (op_neqN (b := 0) rfl rfl ?_)
  refine WL.nil ?_
  refine WQ.next ?_
  refine WC.no rfl (decide_eq_false (fun h => h (by rw [symE, hsy]; rfl))) ?_
  refine WC.skip ?_
  refine WQ.next ?_
  refine WC.seq ?_
  refine WC.drawn 7 rfl Fa.M H2 ?_
  intro w3 H3
  refine WD.named (fun W hW => ?_)
  let e4 : List (Nat × Value) → List (Nat × Value) := fun r => (0, (.agg #[(str x.nm), (vU8 x.bind), (vU8 x.kind), (vU32 x.size), (str x.b), x.rv, x.nv])) :: (1, (str bs)) :: (2, (ptr b1 0)) :: (4, (.pointer none)) :: (5, (vN 0)) :: (6, (vN (symE x))) :: (8, (.agg #[(str x.nm), (vU8 x.bind), (vU8 x.kind), (vU32 x.size), (str x.b), x.rv, x.nv])) :: (9, (vN (symE x))) :: (10, (vN (symE x))) :: (11, (.bool (decide ((symE x) ≠ 0)))) :: r
  let l4 : List Ent → List Ent := fun r => (.blk b1 [(str x.nm), (vU8 x.bind), (vU8 x.kind), (vU32 x.size), (str x.b), x.rv, x.nv] 26) :: r
  have st4_10 : ∀ (b14101 : _) (b14061 : _) (wS : World), Own [] w wS (l4 [.row (.slice (some ⟨b14061, 0, none⟩) x.size.toNat x.size.toNat) 5 1 x.size.toNat (List.map vU8 (List.replicate x.size.toNat 0)), .blk b14101 [(str x.nm), (vU8 x.bind), (vU8 x.kind), (vU32 x.size), (str x.b), x.rv, x.nv, (.slice (some ⟨b14061, 0, none⟩) x.size.toNat x.size.toNat)] 88]) → W 0 #[true, true, true, true, true, true, true] (e4 [(7, (ptr b14101 0)), (13, (.agg #[(str x.nm), (vU8 x.bind), (vU8 x.kind), (vU32 x.size), (str x.b), x.rv, x.nv])), (14, (ptr b1 3)), (15, (vU32 x.size)), (16, (.slice (some ⟨b14061, 0, none⟩) x.size.toNat x.size.toNat)), (17, (.agg #[(str x.nm), (vU8 x.bind), (vU8 x.kind), (vU32 x.size), (str x.b), x.rv, x.nv, (.slice (some ⟨b14061, 0, none⟩) x.size.toNat x.size.toNat)])), (18, (ptr b14101 0))]) wS := by
    intro b14101 b14061 wS HS
    rw [hW]
    refine WD.done (by kernel_rfl) ?_
    refine WQ.next ?_
    refine WC.seq ?_
    refine WC.region ?_
    refine WL.op rfl rfl (op_move rfl ?_)
    refine WL.op rfl rfl (op_nilCheck rfl ?_)
    refine WL.op rfl rfl (op_fieldAddr rfl Fa.F88_1 ?_)
    refine WL.op rfl rfl (op_load rfl (HS.cell (i := 2) rfl rfl) Tryd.underlying58 rfl ?_)
    refine WL.op rfl rfl (op_move rfl ?_)
    refine WL.op rfl rfl (op_copyM (i := 1) (f := vU8) (l := (List.replicate x.size.toNat 0)) (r := bs) HS Tryd.underlying58 Fa.I5 rfl rfl SrcC.ofStr rfl (Sub.self (HS.arrR (i := 1) rfl)) (by omega) rfl (fun _ => rfl) (fun w5 H5 => ?_))
    refine WL.nil ?_
    refine WQ.next ?_
    refine WC.seq ?_
    refine WC.region ?_
    refine WL.op rfl rfl (op_move rfl ?_)
    refine WL.op rfl rfl (op_assign rfl ?_)
    refine WL.op rfl rfl (op_assign rfl ?_)
    refine WL.nil ?_
    refine WQ.next ?_
    refine WC.ret ?_
    refine WQ.out (.tmp rfl (.tmp rfl .nil)) ?_
    exact ⟨_, _, rfl, H5.sel [2, 1] rfl rfl⟩
  have st4_9 : ∀ (b14061 : _) (b14101 : _) (wS : World), Own [] w wS (l4 [.row (.slice (some ⟨b14061, 0, none⟩) x.size.toNat x.size.toNat) 5 1 x.size.toNat (List.map vU8 (List.replicate x.size.toNat 0)), .blk b14101 [(str x.nm), (vU8 x.bind), (vU8 x.kind), (vU32 x.size), (str x.b), x.rv, x.nv, (.slice (some ⟨b14061, 0, none⟩) x.size.toNat x.size.toNat)] 88]) → W 1 #[true, true, true, true, true, true, false] (e4 [(13, (.agg #[(str x.nm), (vU8 x.bind), (vU8 x.kind), (vU32 x.size), (str x.b), x.rv, x.nv])), (14, (ptr b1 3)), (15, (vU32 x.size)), (16, (.slice (some ⟨b14061, 0, none⟩) x.size.toNat x.size.toNat)), (17, (.agg #[(str x.nm), (vU8 x.bind), (vU8 x.kind), (vU32 x.size), (str x.b), x.rv, x.nv, (.slice (some ⟨b14061, 0, none⟩) x.size.toNat x.size.toNat)])), (18, (ptr b14101 0))]) wS := by
    intro b14061 b14101 wS HS
    rw [hW]
    refine WD.all1 (i := 6) (by kernel_rfl) ?_
    ·
      refine WS.op (i := 6) rfl rfl rfl (op_assign rfl ?_)
      have hq := st4_10 b14101 b14061 wS HS
      rw [hW] at hq
      refine WD.cov ?_ hq
      exact by repeat (first | exact trivial | refine ⟨rfl, ?_⟩)
  have st4_8 : ∀ (b14061 : _) (wS : World), Own [] w wS (l4 [.row (.slice (some ⟨b14061, 0, none⟩) x.size.toNat x.size.toNat) 5 1 x.size.toNat (List.map vU8 (List.replicate x.size.toNat 0))]) → W 2 #[true, true, true, true, true, false, false] (e4 [(13, (.agg #[(str x.nm), (vU8 x.bind), (vU8 x.kind), (vU32 x.size), (str x.b), x.rv, x.nv])), (14, (ptr b1 3)), (15, (vU32 x.size)), (16, (.slice (some ⟨b14061, 0, none⟩) x.size.toNat x.size.toNat)), (17, (.agg #[(str x.nm), (vU8 x.bind), (vU8 x.kind), (vU32 x.size), (str x.b), x.rv, x.nv, (.slice (some ⟨b14061, 0, none⟩) x.size.toNat x.size.toNat)]))]) wS := by
    intro b14061 wS HS
    rw [hW]
    refine WD.all1 (i := 5) (by kernel_rfl) ?_
    ·
      refine WS.op (i := 5) rfl rfl rfl (op_box HS rfl rfl (fun b14101 w14101 H14101 => ?_))
      have hq := st4_9 b14061 b14101 w14101 H14101
      rw [hW] at hq
      refine WD.cov ?_ hq
      exact by repeat (first | exact trivial | refine ⟨rfl, ?_⟩)
  have st4_7 : ∀ (b14061 : _) (wS : World), Own [] w wS (l4 [.row (.slice (some ⟨b14061, 0, none⟩) x.size.toNat x.size.toNat) 5 1 x.size.toNat (List.map vU8 (List.replicate x.size.toNat 0))]) → W 3 #[true, true, true, true, false, false, false] (e4 [(13, (.agg #[(str x.nm), (vU8 x.bind), (vU8 x.kind), (vU32 x.size), (str x.b), x.rv, x.nv])), (14, (ptr b1 3)), (15, (vU32 x.size)), (16, (.slice (some ⟨b14061, 0, none⟩) x.size.toNat x.size.toNat))]) wS := by
    intro b14061 wS HS
    rw [hW]
    refine WD.all1 (i := 4) (by kernel_rfl) ?_
    ·
      refine WS.op (i := 4) rfl rfl rfl (op_build (cs := [_, _, _, _, _, _, _, _]) Fa.I88 Fa.PL88 rfl rfl ?_)
      have hq := st4_8 b14061 wS HS
      rw [hW] at hq
      refine WD.cov ?_ hq
      exact by repeat (first | exact trivial | refine ⟨rfl, ?_⟩)
  have st4_5 : ∀ (wS : World), Own [] w wS (l4 []) → W 4 #[true, true, true, false, false, false, false] (e4 [(13, (.agg #[(str x.nm), (vU8 x.bind), (vU8 x.kind), (vU32 x.size), (str x.b), x.rv, x.nv])), (14, (ptr b1 3)), (15, (vU32 x.size))]) wS := by
    intro wS HS
    rw [hW]
    refine WD.all1 (i := 3) (by kernel_rfl) ?_
    ·
      refine WS.op (i := 3) rfl rfl rfl (op_makeSliceM (f := vU8) (c := 0) (m := x.size.toNat) HS Tryd.underlying58 Fa.I5 rfl rfl (by have := (sym_fits hsy).2.1; omega) (by have := (sym_fits hsy).2.1; omega) (fun b14061 w14061 H14061 => ?_))
      have hq := st4_7 b14061 w14061 H14061
      rw [hW] at hq
      refine WD.cov ?_ hq
      exact by repeat (first | exact trivial | refine ⟨rfl, ?_⟩)
  have st4_6 : ∀ (b14061 : _) (wS : World), Own [] w wS (l4 [.row (.slice (some ⟨b14061, 0, none⟩) x.size.toNat x.size.toNat) 5 1 x.size.toNat (List.map vU8 (List.replicate x.size.toNat 0))]) → W 4 #[false, true, true, true, false, false, false] (e4 [(14, (ptr b1 3)), (15, (vU32 x.size)), (16, (.slice (some ⟨b14061, 0, none⟩) x.size.toNat x.size.toNat))]) wS := by
    intro b14061 wS HS
    rw [hW]
    refine WD.all1 (i := 0) (by kernel_rfl) ?_
    ·
      refine WS.op (i := 0) rfl rfl rfl (op_loadS (vs := [_, _, _, _, _, _, _]) rfl (HS.cells (i := 0) rfl rfl) Tryd.underlying26 rfl Fa.I26 rfl ?_)
      have hq := st4_7 b14061 wS HS
      rw [hW] at hq
      refine WD.cov ?_ hq
      exact by repeat (first | exact trivial | refine ⟨rfl, ?_⟩)
  have st4_3 : ∀ (wS : World), Own [] w wS (l4 []) → W 5 #[true, true, false, false, false, false, false] (e4 [(13, (.agg #[(str x.nm), (vU8 x.bind), (vU8 x.kind), (vU32 x.size), (str x.b), x.rv, x.nv])), (14, (ptr b1 3))]) wS := by
    intro wS HS
    rw [hW]
    refine WD.all1 (i := 2) (by kernel_rfl) ?_
    ·
      refine WS.op (i := 2) rfl rfl rfl (op_load rfl (HS.cell (i := 0) rfl rfl) Tryd.underlying22 rfl ?_)
      have hq := st4_5 wS HS
      rw [hW] at hq
      refine WD.cov ?_ hq
      exact by repeat (first | exact trivial | refine ⟨rfl, ?_⟩)
  have st4_4 : ∀ (wS : World), Own [] w wS (l4 []) → W 5 #[false, true, true, false, false, false, false] (e4 [(14, (ptr b1 3)), (15, (vU32 x.size))]) wS := by
    intro wS HS
    rw [hW]
    refine WD.all2 (i := 0) (j := 3) (by kernel_rfl) ?_ ?_
    ·
      refine WS.op (i := 0) rfl rfl rfl (op_loadS (vs := [_, _, _, _, _, _, _]) rfl (HS.cells (i := 0) rfl rfl) Tryd.underlying26 rfl Fa.I26 rfl ?_)
      have hq := st4_5 wS HS
      rw [hW] at hq
      refine WD.cov ?_ hq
      exact by repeat (first | exact trivial | refine ⟨rfl, ?_⟩)
    ·
      refine WS.op (i := 3) rfl rfl rfl (op_makeSliceM (f := vU8) (c := 0) (m := x.size.toNat) HS Tryd.underlying58 Fa.I5 rfl rfl (by have := (sym_fits hsy).2.1; omega) (by have := (sym_fits hsy).2.1; omega) (fun b14061 w14061 H14061 => ?_))
      have hq := st4_6 b14061 w14061 H14061
      rw [hW] at hq
      refine WD.cov ?_ hq
      exact by repeat (first | exact trivial | refine ⟨rfl, ?_⟩)
  have st4_1 : ∀ (wS : World), Own [] w wS (l4 []) → W 6 #[true, false, false, false, false, false, false] (e4 [(13, (.agg #[(str x.nm), (vU8 x.bind), (vU8 x.kind), (vU32 x.size), (str x.b), x.rv, x.nv]))]) wS := by
    intro wS HS
    rw [hW]
    refine WD.all1 (i := 1) (by kernel_rfl) ?_
    ·
      refine WS.op (i := 1) rfl rfl rfl (op_fieldAddr rfl Fa.F26_3 ?_)
      have hq := st4_3 wS HS
      rw [hW] at hq
      refine WD.cov ?_ hq
      exact by repeat (first | exact trivial | refine ⟨rfl, ?_⟩)
  have st4_2 : ∀ (wS : World), Own [] w wS (l4 []) → W 6 #[false, true, false, false, false, false, false] (e4 [(14, (ptr b1 3))]) wS := by
    intro wS HS
    rw [hW]
    refine WD.all2 (i := 0) (j := 2) (by kernel_rfl) ?_ ?_
    ·
      refine WS.op (i := 0) rfl rfl rfl (op_loadS (vs := [_, _, _, _, _, _, _]) rfl (HS.cells (i := 0) rfl rfl) Tryd.underlying26 rfl Fa.I26 rfl ?_)
      have hq := st4_3 wS HS
      rw [hW] at hq
      refine WD.cov ?_ hq
      exact by repeat (first | exact trivial | refine ⟨rfl, ?_⟩)
    ·
      refine WS.op (i := 2) rfl rfl rfl (op_load rfl (HS.cell (i := 0) rfl rfl) Tryd.underlying22 rfl ?_)
      have hq := st4_4 wS HS
      rw [hW] at hq
      refine WD.cov ?_ hq
      exact by repeat (first | exact trivial | refine ⟨rfl, ?_⟩)
  have st4_0 : ∀ (wS : World), Own [] w wS (l4 []) → W 7 #[false, false, false, false, false, false, false] (e4 []) wS := by
    intro wS HS
    rw [hW]
    refine WD.all2 (i := 0) (j := 1) (by kernel_rfl) ?_ ?_
    ·
      refine WS.op (i := 0) rfl rfl rfl (op_loadS (vs := [_, _, _, _, _, _, _]) rfl (HS.cells (i := 0) rfl rfl) Tryd.underlying26 rfl Fa.I26 rfl ?_)
      have hq := st4_1 wS HS
      rw [hW] at hq
      refine WD.cov ?_ hq
      exact by repeat (first | exact trivial | refine ⟨rfl, ?_⟩)
    ·
      refine WS.op (i := 1) rfl rfl rfl (op_fieldAddr rfl Fa.F26_3 ?_)
      have hq := st4_2 wS HS
      rw [hW] at hq
      refine WD.cov ?_ hq
      exact by repeat (first | exact trivial | refine ⟨rfl, ?_⟩)
  have hq := st4_0 w3 H3
  rw [hW] at hq ⊢
  refine WD.cov ?_ hq
  exact by repeat (first | exact trivial | refine ⟨rfl, ?_⟩)
set_option maxRecDepth 100000 in
theorem begin_no (x : Sy) (bs : List UInt8) (w : World) (hI : SyD.ok w x) (hn : x.nm.length < 2 ^ 47) (hb : x.b.length < 2 ^ 32) (hr : ∀ y ∈ x.rl, y.nm.length < 2 ^ 47) (hm : x.rl.length < 2 ^ 40) (hq : x.nt.length < 2 ^ 40) (hsy : symB x = false) :
    Calls Tryd.prog 41 #[(.agg #[(str x.nm), (vU8 x.bind), (vU8 x.kind), (vU32 x.size), (str x.b), x.rv, x.nv]), (str bs)] w (fun e w' => e = .returned (.tuple #[.pointer none, vN 2]) ∧ Fr [] w w') := by
  refine enter (args := [(.agg #[(str x.nm), (vU8 x.bind), (vU8 x.kind), (vU32 x.size), (str x.b), x.rv, x.nv]), (str bs)]) Tryd.func41 rfl rfl ?_
  have H0 : Own [] w w [] := Own.start w []
  refine WC.seq ?_
  refine WC.region ?_
  refine WL.op rfl rfl (op_box H0 rfl rfl (fun b1 w1 H1 => ?_))
  refine WL.op rfl rfl (op_assign rfl ?_)
  refine WL.op rfl rfl (op_assign rfl ?_)
  refine WL.nil ?_
  refine WQ.next ?_
  refine WC.seq ?_
  refine WC.seq ?_
  refine WC.region ?_
  refine WL.op rfl rfl (op_loadS (vs := [_, _, _, _, _, _, _]) rfl (H1.cells (i := 0) rfl rfl) Tryd.underlying26 rfl Fa.I26 rfl ?_)
  refine WL.op rfl rfl (op_callF Fa.C27 rfl ((osym_ok x _ (SyD_mk (x := x) ((SyD_rl (SyD.fr0 hI H1.fr))) ((SyD_nt (SyD.fr0 hI H1.fr)))) hn hb hr hm hq).mono (fun e w2 hq => ?_)))
  obtain ⟨rfl, hf2⟩ := hq
  refine ⟨_, rfl, ?_⟩
  have H2 := H1.fr' hf2
  refine WL.op rfl rfl (op_assign rfl ?_)
  refine WL.nil ?_
  refine WQ.next ?_
  refine WC.seq ?_
  refine WC.region ?_
  refine WL.op rfl rfl (op_move rfl ?_)
  refine WL.op rfl rfl (op_neqN (b := 0) rfl rfl ?_)
  refine WL.nil ?_
  refine WQ.next ?_
  refine WC.yes rfl (decide_eq_true (fun h => by rw [symE, hsy] at h; cases h)) ?_
  refine WC.seq ?_
  refine WC.region ?_
  refine WL.op rfl rfl (op_move rfl ?_)
  refine WL.op rfl rfl (op_assign rfl ?_)
  refine WL.op rfl rfl (op_assign rfl ?_)
  refine WL.nil ?_
  refine WQ.next ?_
  refine WC.ret ?_
  refine WQ.thenRet ?_
  refine WQ.out (.tmp rfl (.tmp rfl .nil)) ?_
  exact ⟨by rw [symE, hsy]; rfl, H2.fr⟩
set_option maxRecDepth 100000 in
theorem at_ok (q : Nat) (c0 c1 c2 c3 c4 c5 c6 vb : Value) (n : Nat) (l : List UInt8) (r : Rl) (w : World) (hQ : cellsAt w q [c0, c1, c2, c3, c4, c5, c6, vb]) (hV : Arr w vb 1 n (List.map vU8 l)) (h0 : widthN r.kind ≠ 0) (ho : r.off.toNat ≤ 8192) (hbd : endOf r ≤ n) :
    Calls Tryd.prog 45 #[(ptr q 0), (.agg #[(vU32 r.off), (vU8 r.kind), (str r.nm), (vU32 r.add)])] w (fun e w' => e = .returned (placeV vb r) ∧ Fr [] w w') := by
  refine enter (args := [(ptr q 0), (.agg #[(vU32 r.off), (vU8 r.kind), (str r.nm), (vU32 r.add)])]) Tryd.func45 rfl rfl ?_
  have H0 : Own [] w w [Ent.bo q [c0, c1, c2, c3, c4, c5, c6, vb], Ent.ar vb 1 n (List.map vU8 l)] := (((Own.start w []).oldB hQ).oldA hV)
  refine WC.seq ?_
  refine WC.region ?_
  refine WL.op rfl rfl (op_box H0 rfl rfl (fun b1 w1 H1 => ?_))
  refine WL.op rfl rfl (op_assign rfl ?_)
  refine WL.nil ?_
  refine WQ.next ?_
  refine WC.seq ?_
  refine WC.region ?_
  refine WL.op rfl rfl (op_fieldAddr rfl Fa.F44_0 ?_)
  refine WL.op rfl rfl (op_load rfl (H1.cell (i := 2) rfl rfl) Tryd.underlying22 rfl ?_)
  refine WL.op rfl rfl (op_addU32 (b := 4) rfl rfl ?_)
  refine WL.op rfl rfl (op_assign rfl ?_)
  refine WL.nil ?_
  refine WQ.next ?_
  refine WC.seq ?_
  refine WC.seq ?_
  refine WC.region ?_
  refine WL.op rfl rfl (op_fieldAddr rfl Fa.F44_1 ?_)
  refine WL.op rfl rfl (op_load rfl (H1.cell (i := 2) rfl rfl) Tryd.underlying5 rfl ?_)
  refine WL.op rfl rfl (op_eqlU8 (b := 2) rfl rfl ?_)
  refine WL.nil ?_
  refine WQ.next ?_
  refine WC.cond rfl (fun (hb2 : (decide (r.kind = (2 : UInt8))) = true) => ?_) (fun (hb2 : (decide (r.kind = (2 : UInt8))) = false) => ?_)
  ·
    have hc2 := of_decide_eq_true hb2
    have he : (r.off + 2).toNat = endOf r := end2 hb2 ho
    refine WC.region ?_
    refine WL.op rfl rfl (op_fieldAddr rfl Fa.F44_0 ?_)
    refine WL.op rfl rfl (op_load rfl (H1.cell (i := 2) rfl rfl) Tryd.underlying22 rfl ?_)
    refine WL.op rfl rfl (op_addU32 (b := 2) rfl rfl ?_)
    refine WL.op rfl rfl (op_assign rfl ?_)
    refine WL.nil ?_
    refine WQ.next ?_
    refine WC.seq ?_
    refine WC.draw 10 Fa.M H1 (HW.op rfl (fun w1 H1 => op_move rfl ⟨rfl, Fr.refl _ _⟩) (HW.op rfl (fun w1 H1 => op_nilCheck rfl ⟨rfl, Fr.refl _ _⟩) (HW.op rfl (fun w1 H1 => op_fieldAddr rfl Fa.F88_1 ⟨rfl, Fr.refl _ _⟩) (HW.op rfl (fun w1 H1 => op_load rfl (H1.cellO (i := 0) rfl rfl) Tryd.underlying58 rfl ⟨rfl, Fr.refl _ _⟩) (HW.op rfl (fun w1 H1 => op_fieldAddr rfl Fa.F44_0 ⟨rfl, Fr.refl _ _⟩) (HW.op rfl (fun w1 H1 => op_load rfl (H1.cell (i := 2) rfl rfl) Tryd.underlying22 rfl ⟨rfl, Fr.refl _ _⟩) (HW.op rfl (fun w1 H1 => op_move rfl ⟨rfl, Fr.refl _ _⟩) (HW.op rfl (fun w1 H1 => op_move rfl ⟨rfl, Fr.refl _ _⟩) (HW.op rfl (fun w1 H1 => op_cut3 Tryd.underlying58 Fa.I5 rfl (H1.arrO (i := 1) rfl) rfl rfl rfl (by rw [he, endOf]; omega) (Nat.le_refl _) (by rw [he]; exact hbd) ⟨rfl, Fr.refl _ _⟩) (HW.op rfl (fun w1 H1 => op_assign rfl ⟨rfl, Fr.refl _ _⟩)  HW.nil)))))))))) (by kernel_rfl) ?_
    intro β3 w3 H3
    refine WL.nil ?_
    refine WQ.next ?_
    refine WC.ret ?_
    refine WQ.out (.tmp rfl .nil) ?_
    exact ⟨by rw [placeV, ← he]; rfl, H3.fr⟩
  ·
    have hc2 := of_decide_eq_false hb2
    have he : (r.off + 4).toNat = endOf r := end4 hb2 h0 ho
    refine WC.skip ?_
    refine WQ.next ?_
    refine WC.seq ?_
    refine WC.draw 10 Fa.M H1 (HW.op rfl (fun w1 H1 => op_move rfl ⟨rfl, Fr.refl _ _⟩) (HW.op rfl (fun w1 H1 => op_nilCheck rfl ⟨rfl, Fr.refl _ _⟩) (HW.op rfl (fun w1 H1 => op_fieldAddr rfl Fa.F88_1 ⟨rfl, Fr.refl _ _⟩) (HW.op rfl (fun w1 H1 => op_load rfl (H1.cellO (i := 0) rfl rfl) Tryd.underlying58 rfl ⟨rfl, Fr.refl _ _⟩) (HW.op rfl (fun w1 H1 => op_fieldAddr rfl Fa.F44_0 ⟨rfl, Fr.refl _ _⟩) (HW.op rfl (fun w1 H1 => op_load rfl (H1.cell (i := 2) rfl rfl) Tryd.underlying22 rfl ⟨rfl, Fr.refl _ _⟩) (HW.op rfl (fun w1 H1 => op_move rfl ⟨rfl, Fr.refl _ _⟩) (HW.op rfl (fun w1 H1 => op_move rfl ⟨rfl, Fr.refl _ _⟩) (HW.op rfl (fun w1 H1 => op_cut3 Tryd.underlying58 Fa.I5 rfl (H1.arrO (i := 1) rfl) rfl rfl rfl (by rw [he, endOf]; omega) (Nat.le_refl _) (by rw [he]; exact hbd) ⟨rfl, Fr.refl _ _⟩) (HW.op rfl (fun w1 H1 => op_assign rfl ⟨rfl, Fr.refl _ _⟩)  HW.nil)))))))))) (by kernel_rfl) ?_
    intro β4 w4 H4
    refine WL.nil ?_
    refine WQ.next ?_
    refine WC.ret ?_
    refine WQ.out (.tmp rfl .nil) ?_
    exact ⟨by rw [placeV, ← he]; rfl, H4.fr⟩
set_option maxRecDepth 100000 in
theorem fput_ok (q : Nat) (c0 c1 c2 c3 c4 c5 c6 vb : Value) (n : Nat) (l : List UInt8) (r : Rl) (v : UInt32) (FT : TypeId) (T : List Nat) (w : World) (H : Own T w w [.blk q [c0, c1, c2, c3, c4, c5, c6, vb] FT, .row vb 5 1 n (List.map vU8 l)]) (h0 : widthN r.kind ≠ 0) (ho : r.off.toNat ≤ 8192) (hbd : endOf r ≤ n) :
    Calls Tryd.prog 42 #[(ptr q 0), (.agg #[(vU32 r.off), (vU8 r.kind), (str r.nm), (vU32 r.add)]), (vU32 v)] w (fun e w' => e = .returned (vN (putE r v)) ∧ Own T w w' [.blk q [c0, c1, c2, c3, c4, c5, c6, vb] FT, .row vb 5 1 n (List.map vU8 (putL l r v))]) := by
  refine enter (args := [(ptr q 0), (.agg #[(vU32 r.off), (vU8 r.kind), (str r.nm), (vU32 r.add)]), (vU32 v)]) Tryd.func42 rfl rfl ?_
  refine WC.seq ?_
  refine WC.region ?_
  refine WL.op rfl rfl (op_box H rfl rfl (fun b1 w1 H1 => ?_))
  refine WL.op rfl rfl (op_assign rfl ?_)
  refine WL.nil ?_
  refine WQ.next ?_
  refine WC.seq ?_
  refine WC.region ?_
  refine WL.op rfl rfl (op_move rfl ?_)
  refine WL.op rfl rfl (op_loadS (vs := [_, _, _, _]) rfl (H1.cells (i := 2) rfl rfl) Tryd.underlying44 rfl Fa.I44 rfl ?_)
  refine WL.op rfl rfl (op_callF Fa.C45 rfl ((at_ok q c0 c1 c2 c3 c4 c5 c6 vb n l r _ (H1.cellsAt (i := 0) rfl) (H1.arrR (i := 1) rfl) h0 ho hbd).mono (fun e w2 hq => ?_)))
  obtain ⟨rfl, hf2⟩ := hq
  refine ⟨_, rfl, ?_⟩
  have H2 := H1.fr' hf2
  refine WL.op rfl rfl (op_assign rfl ?_)
  refine WL.nil ?_
  refine WQ.next ?_
  refine WC.seq ?_
  refine WC.seq ?_
  refine WC.region ?_
  refine WL.op rfl rfl (op_move rfl ?_)
  refine WL.op rfl rfl (op_lenA Tryd.underlying58 rfl ((Arr.place (H2.arrR (i := 1) rfl) hbd)) ?_)
  refine WL.op rfl rfl (op_eqlN (b := 2) rfl rfl ?_)
  refine WL.op rfl rfl (op_move rfl ?_)
  refine WL.split (t := 16) rfl (fun (hb3 : (decide ((widthN r.kind) = 2)) = true) => ?_) (fun (hb3 : (decide ((widthN r.kind) = 2)) = false) => ?_)
  ·
    have hc3 := of_decide_eq_true hb3
    refine WL.yes rfl rfl rfl hb3 rfl (op_move rfl ?_)
    refine WL.yes rfl rfl rfl hb3 rfl (op_shrU32 (s := 16) rfl rfl ?_)
    refine WL.yes rfl rfl rfl hb3 rfl (op_neqU32 (b := 0) rfl rfl ?_)
    refine WL.op rfl rfl (op_pickT rfl hb3 rfl ?_)
    refine WL.nil ?_
    refine WQ.next ?_
    refine WC.cond rfl (fun (hb4 : (decide ((shrU32 v 16) ≠ (0 : UInt32))) = true) => ?_) (fun (hb4 : (decide ((shrU32 v 16) ≠ (0 : UInt32))) = false) => ?_)
    ·
      have hc4 := of_decide_eq_true hb4
      refine WC.seq ?_
      refine WC.region ?_
      refine WL.op rfl rfl (op_assign rfl ?_)
      refine WL.nil ?_
      refine WQ.next ?_
      refine WC.ret ?_
      refine WQ.thenRet ?_
      refine WQ.out (.tmp rfl .nil) ?_
      have hov : ovB r v = true := by rw [ovB, ← shr16, hb3, hb4]; rfl
      exact ⟨by rw [putE_1 hov]; rfl, by rw [putL, hov]; exact H2.sel [0, 1] rfl rfl⟩
    ·
      have hc4 := of_decide_eq_false hb4
      have hov : ovB r v = false := by (rw [ovB, ← shr16, hb3, hb4]) <;> first | rfl | simp
      have hmn : min (numS v (widthN r.kind : Int)).length (widthN r.kind) = widthN r.kind := by rw [numS_w h0 hov, rB_length, Nat.min_self]
      refine WC.skip ?_
      refine WQ.next ?_
      refine WC.seq ?_
      refine WC.region ?_
      refine WL.op rfl rfl (op_move rfl ?_)
      refine WL.op rfl rfl (op_move rfl ?_)
      refine WL.op rfl rfl (op_lenA Tryd.underlying58 rfl ((Arr.place (H2.arrR (i := 1) rfl) hbd)) ?_)
      refine WL.op rfl rfl (op_callF Fa.C70 rfl ((put_ok v (((widthN r.kind) : Nat)) _).mono (fun e w5 hq => ?_)))
      obtain ⟨rfl, hf5⟩ := hq
      refine ⟨_, rfl, ?_⟩
      have H5 := H2.fr' hf5
      refine WL.op rfl rfl (op_move rfl ?_)
      refine WL.op rfl rfl (op_extract rfl rfl ?_)
      refine WL.op rfl rfl (op_extract rfl rfl ?_)
      refine WL.op rfl rfl (op_assign rfl ?_)
      refine WL.op rfl rfl (op_assign rfl ?_)
      refine WL.nil ?_
      refine WQ.next ?_
      refine WC.seq ?_
      refine WC.region ?_
      refine WL.op rfl rfl (op_move rfl ?_)
      refine WL.op rfl rfl (op_move rfl ?_)
      refine WL.op rfl rfl (op_copyM (i := 1) (f := vU8) (l := l) (r := (numS v ((widthN r.kind) : Nat))) H5 Tryd.underlying58 Fa.I5 rfl rfl SrcC.ofStr rfl (Sub.place (H5.arrR (i := 1) rfl) hbd) (by unfold endOf at hbd; omega) hmn (fun _ => rfl) (fun w6 H6 => ?_))
      refine WL.nil ?_
      refine WQ.next ?_
      refine WC.seq ?_
      refine WC.region ?_
      refine WL.op rfl rfl (op_assign rfl ?_)
      refine WL.nil ?_
      refine WQ.next ?_
      refine WC.ret ?_
      refine WQ.out (.tmp rfl .nil) ?_
      exact ⟨by rw [putE_0 hov]; rfl, Own.rowEqN (i := 1) (f := vU8) (H6.sel [0, 1] rfl rfl) rfl (put_row h0 hov) rfl⟩
  ·
    have hc3 := of_decide_eq_false hb3
    have hov : ovB r v = false := by (rw [ovB, ← shr16, hb3]) <;> first | rfl | simp
    have hmn : min (numS v (widthN r.kind : Int)).length (widthN r.kind) = widthN r.kind := by rw [numS_w h0 hov, rB_length, Nat.min_self]
    refine WL.no rfl rfl rfl hb3 rfl ?_
    refine WL.no rfl rfl rfl hb3 rfl ?_
    refine WL.no rfl rfl rfl hb3 rfl ?_
    refine WL.op rfl rfl (op_pickF rfl hb3 rfl ?_)
    refine WL.nil ?_
    refine WQ.next ?_
    refine WC.no rfl rfl ?_
    refine WC.skip ?_
    refine WQ.next ?_
    refine WC.seq ?_
    refine WC.region ?_
    refine WL.op rfl rfl (op_move rfl ?_)
    refine WL.op rfl rfl (op_move rfl ?_)
    refine WL.op rfl rfl (op_lenA Tryd.underlying58 rfl ((Arr.place (H2.arrR (i := 1) rfl) hbd)) ?_)
    refine WL.op rfl rfl (op_callF Fa.C70 rfl ((put_ok v (((widthN r.kind) : Nat)) _).mono (fun e w7 hq => ?_)))
    obtain ⟨rfl, hf7⟩ := hq
    refine ⟨_, rfl, ?_⟩
    have H7 := H2.fr' hf7
    refine WL.op rfl rfl (op_move rfl ?_)
    refine WL.op rfl rfl (op_extract rfl rfl ?_)
    refine WL.op rfl rfl (op_extract rfl rfl ?_)
    refine WL.op rfl rfl (op_assign rfl ?_)
    refine WL.op rfl rfl (op_assign rfl ?_)
    refine WL.nil ?_
    refine WQ.next ?_
    refine WC.seq ?_
    refine WC.region ?_
    refine WL.op rfl rfl (op_move rfl ?_)
    refine WL.op rfl rfl (op_move rfl ?_)
    refine WL.op rfl rfl (op_copyM (i := 1) (f := vU8) (l := l) (r := (numS v ((widthN r.kind) : Nat))) H7 Tryd.underlying58 Fa.I5 rfl rfl SrcC.ofStr rfl (Sub.place (H7.arrR (i := 1) rfl) hbd) (by unfold endOf at hbd; omega) hmn (fun _ => rfl) (fun w8 H8 => ?_))
    refine WL.nil ?_
    refine WQ.next ?_
    refine WC.seq ?_
    refine WC.region ?_
    refine WL.op rfl rfl (op_assign rfl ?_)
    refine WL.nil ?_
    refine WQ.next ?_
    refine WC.ret ?_
    refine WQ.out (.tmp rfl .nil) ?_
    exact ⟨by rw [putE_0 hov]; rfl, Own.rowEqN (i := 1) (f := vU8) (H8.sel [0, 1] rfl rfl) rfl (put_row h0 hov) rfl⟩
end Go.Proofs.YtnngbnenekjffaaDoor
/-! from DRel2 -/
namespace Go.Proofs.YtnngbnenekjffaaDoor
open Go.Owl Go.Spec
set_option maxRecDepth 100000 in
theorem ofill_yes (x : Sy) (av : Value) (ads : List UInt32) (w : World) (hI : SyD.ok w x) (hn : x.nm.length < 2 ^ 47) (hb : x.b.length < 2 ^ 32) (hr : ∀ y ∈ x.rl, y.nm.length < 2 ^ 47) (hm : x.rl.length < 2 ^ 40) (hq : x.nt.length < 2 ^ 40) (hA : Arr w av 1 ads.length (List.map vU32 ads)) (hz : ads.length < 2 ^ 40) (hsy : symB x = true) :
    Calls Tryd.prog 14 #[(.agg #[(str x.nm), (vU8 x.bind), (vU8 x.kind), (vU32 x.size), (str x.b), x.rv, x.nv]), av] w (fun e w' => e = .returned (.tuple #[str (fillS x ads), vN (fillE x ads)]) ∧ Fr [] w w') := by
  refine enter (args := [(.agg #[(str x.nm), (vU8 x.bind), (vU8 x.kind), (vU32 x.size), (str x.b), x.rv, x.nv]), av]) Tryd.func14 rfl rfl ?_
  have H0 : Own [] w w [] := Own.start w []
  refine WC.seq ?_
  refine WC.region ?_
  refine WL.op rfl rfl (op_box H0 rfl rfl (fun b1 w1 H1 => ?_))
  refine WL.op rfl rfl (op_assign rfl ?_)
  refine WL.op rfl rfl (op_assign rfl ?_)
  refine WL.nil ?_
  refine WQ.next ?_
  refine WC.seq ?_
  refine WC.region ?_
  refine WL.op rfl rfl (op_loadS (vs := [_, _, _, _, _, _, _]) rfl (H1.cells (i := 0) rfl rfl) Tryd.underlying26 rfl Fa.I26 rfl ?_)
  refine WL.op rfl rfl (op_fieldAddr rfl Fa.F26_4 ?_)
  refine WL.op rfl rfl (op_load rfl (H1.cell (i := 0) rfl rfl) Tryd.underlying9 rfl ?_)
  refine WL.op rfl rfl (op_callF Fa.C41 rfl ((begin_yes x x.b _ (SyD_mk (x := x) ((SyD_rl (SyD.fr0 hI H1.fr))) ((SyD_nt (SyD.fr0 hI H1.fr)))) hn hb hr hm hq hsy).mono (fun e w2 hq => ?_)))
  obtain ⟨q2, v2, rfl, hq2⟩ := hq
  refine ⟨_, rfl, ?_⟩
  have H2 : Own [] w w2 [.blk b1 [(str x.nm), (vU8 x.bind), (vU8 x.kind), (vU32 x.size), (str x.b), x.rv, x.nv] 26, .blk q2 [(str x.nm), (vU8 x.bind), (vU8 x.kind), (vU32 x.size), (str x.b), x.rv, x.nv, v2] 88, .row v2 5 1 x.size.toNat (List.map vU8 (begB x.size.toNat x.b))] := H1.splice [] [] [.blk q2 [(str x.nm), (vU8 x.bind), (vU8 x.kind), (vU32 x.size), (str x.b), x.rv, x.nv, v2] 88, .row v2 5 1 x.size.toNat (List.map vU8 (begB x.size.toNat x.b))] rfl rfl hq2 (Fits.solid True.intro (Fits.solid True.intro Fits.nil))
  refine WL.op rfl rfl (op_move rfl ?_)
  refine WL.op rfl rfl (op_extract rfl rfl ?_)
  refine WL.op rfl rfl (op_extract rfl rfl ?_)
  refine WL.op rfl rfl (op_assign rfl ?_)
  refine WL.op rfl rfl (op_assign rfl ?_)
  refine WL.nil ?_
  refine WQ.next ?_
  refine WC.seq ?_
  refine WC.seq ?_
  refine WC.region ?_
  refine WL.op rfl rfl (op_move rfl ?_)
  refine WL.op rfl rfl (op_neqN (b := 0) rfl rfl ?_)
  refine WL.nil ?_
  refine WQ.next ?_
  refine WC.no rfl (by decide) ?_
  refine WC.skip ?_
  refine WQ.next ?_
  refine WC.seq ?_
  refine WC.seq ?_
  refine WC.region ?_
  refine WL.op rfl rfl (op_move rfl ?_)
  refine WL.op rfl rfl (op_lenA Tryd.underlying27 rfl (H2.arr hA) ?_)
  refine WL.op rfl rfl (op_move rfl ?_)
  refine WL.op rfl rfl (op_nilCheck rfl ?_)
  refine WL.op rfl rfl (op_fieldAddr rfl Fa.F88_0 ?_)
  refine WL.op rfl rfl (op_fieldAddr rfl Fa.F26_5 ?_)
  refine WL.op rfl rfl (op_load rfl (H2.cell (i := 1) rfl rfl) Tryd.underlying23 rfl ?_)
  refine WL.op rfl rfl (op_lenA Tryd.underlying23 rfl ((SyD_rl (SyD.fr0 hI H2.fr))) ?_)
  refine WL.op rfl rfl (op_neqN rfl rfl ?_)
  refine WL.nil ?_
  refine WQ.next ?_
  refine WC.cond rfl (fun (hb3 : (decide (ads.length ≠ x.rl.length)) = true) => ?_) (fun (hb3 : (decide (ads.length ≠ x.rl.length)) = false) => ?_)
  ·
    have hc3 := of_decide_eq_true hb3
    refine WC.seq ?_
    refine WC.region ?_
    refine WL.op rfl rfl (op_assign rfl ?_)
    refine WL.op rfl rfl (op_assign rfl ?_)
    refine WL.nil ?_
    refine WQ.next ?_
    refine WC.ret ?_
    refine WQ.thenRet ?_
    refine WQ.out (.tmp rfl (.tmp rfl .nil)) ?_
    have hf := fill_arg (x := x) (ads := ads) (fun h => hc3 h.2)
    exact ⟨by rw [hf.1, hf.2]; rfl, H2.fr⟩
  ·
    have hc3 := of_decide_eq_false hb3
    have hal : ads.length = x.rl.length := Decidable.not_not.mp hc3
    refine WC.skip ?_
    refine WQ.next ?_
    refine WC.seq ?_
    refine WC.seq ?_
    refine WC.region ?_
    refine WL.op rfl rfl (op_move rfl ?_)
    refine WL.op rfl rfl (op_nilCheck rfl ?_)
    refine WL.op rfl rfl (op_fieldAddr rfl Fa.F88_0 ?_)
    refine WL.op rfl rfl (op_fieldAddr rfl Fa.F26_5 ?_)
    refine WL.op rfl rfl (op_load rfl (H2.cell (i := 1) rfl rfl) Tryd.underlying23 rfl ?_)
    refine WL.op rfl rfl (op_lenA Tryd.underlying23 rfl ((SyD_rl (SyD.fr0 hI H2.fr))) ?_)
    refine WL.op rfl rfl (op_move rfl ?_)
    refine WL.nil ?_
    refine WQ.next ?_
    refine WC.block ?_
    refine WC.loop (α := Nat) (fun k => [(1, av), (4, (str [])), (5, (vN 0)), (6, (ptr q2 0)), (34, x.rv), (35, (vN x.rl.length)), (36, (vN k))]) (fun k w' => (k ≤ x.rl.length ∧ (∀ j, j < k → overB (x.rl.getD j Rl.zero) (ads.getD j 0) = false)) ∧ Own [] w w' [.blk b1 [(str x.nm), (vU8 x.bind), (vU8 x.kind), (vU32 x.size), (str x.b), x.rv, x.nv] 26, .blk q2 [(str x.nm), (vU8 x.bind), (vU8 x.kind), (vU32 x.size), (str x.b), x.rv, x.nv, v2] 88, .row v2 5 1 x.size.toNat (List.map vU8 (fillN (begB x.size.toNat x.b) x.rl ads k))]) (fun k => x.rl.length - k) 0 ⟨⟨Nat.zero_le _, fun j h => by omega⟩, H2⟩ ⟨rfl, rfl, rfl, rfl, rfl, rfl, rfl, trivial⟩ ?_
    rintro k w4 ⟨⟨hk1, hok⟩, H4⟩
    show WC _ _ _ _ _ [(1, av), (4, (str [])), (5, (vN 0)), (6, (ptr q2 0)), (34, x.rv), (35, (vN x.rl.length)), (36, (vN k))] _
    refine WC.seq ?_
    refine WC.region ?_
    refine WL.op rfl rfl (op_lssN rfl rfl ?_)
    refine WL.nil ?_
    refine WQ.next ?_
    refine WC.seq ?_
    refine WC.cond rfl (fun (hb5 : (decide (k < x.rl.length)) = true) => ?_) (fun (hb5 : (decide (k < x.rl.length)) = false) => ?_)
    ·
      have hc5 := of_decide_eq_true hb5
      have hpl := sym_place hsy hc5
      refine WC.skip ?_
      refine WQ.next ?_
      refine WC.seq ?_
      refine WC.block ?_
      refine WC.seq ?_
      refine WC.region ?_
      refine WL.op rfl rfl (op_move rfl ?_)
      refine WL.op rfl rfl (op_indexAddr Tryd.underlying23 Fa.I44 rfl ((SyD_rl (SyD.fr0 hI H4.fr))) rfl (by omega) ?_)
      refine WL.op rfl rfl (op_loadSP (vs := rlc (x.rl.getD k Rl.zero)) rfl (Arr.atsF ((SyD_rl (SyD.fr0 hI H4.fr))) (fun _ => rfl) (by decide) Rl.zero (by omega)) Tryd.underlying44 rfl Fa.I44 rfl ?_)
      refine WL.op rfl rfl (op_alloc H4 Fa.I44 (fun b6 w6 H6 => ?_))
      refine WL.op rfl rfl (op_assign rfl ?_)
      refine WL.op rfl rfl (op_storeBW (i := 3) H6 rfl rfl rfl rfl rfl Fa.I44 (fun w7 H7 => ?_))
      refine WL.nil ?_
      refine WQ.next ?_
      refine WC.seq ?_
      refine WC.draw 9 Fa.M H7 (HW.op rfl (fun w1 H1 => op_move rfl ⟨rfl, Fr.refl _ _⟩) (HW.op rfl (fun w1 H1 => op_loadS (vs := [_, _, _, _]) rfl (H1.cells (i := 3) rfl rfl) Tryd.underlying44 rfl Fa.I44 rfl ⟨rfl, Fr.refl _ _⟩) (HW.op rfl (fun w1 H1 => op_move rfl ⟨rfl, Fr.refl _ _⟩) (HW.op rfl (fun w1 H1 => op_move rfl ⟨rfl, Fr.refl _ _⟩) (HW.op rfl (fun w1 H1 => op_indexAddr1 Tryd.underlying27 Fa.I22 rfl (H1.arr hA) rfl (by omega) ⟨rfl, Fr.refl _ _⟩) (HW.op rfl (fun w1 H1 => op_load rfl ((H1.arr hA).at (get_map vU32 0 (Arr.ltM (H1.arr hA) (by omega)))) Tryd.underlying22 rfl ⟨rfl, Fr.refl _ _⟩) (HW.op rfl (fun w1 H1 => op_fieldAddr rfl Fa.F44_3 ⟨rfl, Fr.refl _ _⟩) (HW.op rfl (fun w1 H1 => op_load rfl (H1.cell (i := 3) rfl rfl) Tryd.underlying22 rfl ⟨rfl, Fr.refl _ _⟩) (HW.op rfl (fun w1 H1 => op_addU32 rfl rfl ⟨rfl, Fr.refl _ _⟩)  HW.nil))))))))) (by kernel_rfl) ?_
      intro β8 w8 H8
      refine WL.op rfl rfl (op_callF Fa.C42 rfl ((fput_ok q2 (str x.nm) (vU8 x.bind) (vU8 x.kind) (vU32 x.size) (str x.b) x.rv x.nv v2 x.size.toNat (fillN (begB x.size.toNat x.b) x.rl ads k) (x.rl.getD k Rl.zero) ((ads.getD k 0) + (x.rl.getD k Rl.zero).add) 88 _ _ (H8.part [1, 2] rfl rfl) hpl.1 hpl.2.1 hpl.2.2).mono (fun e w9 hq => ?_)))
      obtain ⟨rfl, hq9⟩ := hq
      refine ⟨_, rfl, ?_⟩
      have H9 : Own [] w w9 [.blk b1 [(str x.nm), (vU8 x.bind), (vU8 x.kind), (vU32 x.size), (str x.b), x.rv, x.nv] 26, .blk q2 [(str x.nm), (vU8 x.bind), (vU8 x.kind), (vU32 x.size), (str x.b), x.rv, x.nv, v2] 88, .row v2 5 1 x.size.toNat (List.map vU8 (putL (fillN (begB x.size.toNat x.b) x.rl ads k) (x.rl.getD k Rl.zero) ((ads.getD k 0) + (x.rl.getD k Rl.zero).add))), .blk b6 [(vU32 (x.rl.getD k Rl.zero).off), (vU8 (x.rl.getD k Rl.zero).kind), (str (x.rl.getD k Rl.zero).nm), (vU32 (x.rl.getD k Rl.zero).add)] 44] := H8.splice [1, 2] [.blk q2 [(str x.nm), (vU8 x.bind), (vU8 x.kind), (vU32 x.size), (str x.b), x.rv, x.nv, v2] 88, .row v2 5 1 x.size.toNat (List.map vU8 (putL (fillN (begB x.size.toNat x.b) x.rl ads k) (x.rl.getD k Rl.zero) ((ads.getD k 0) + (x.rl.getD k Rl.zero).add)))] [] rfl rfl hq9 (Fits.solid True.intro (Fits.solid True.intro Fits.nil))
      refine WL.op rfl rfl (op_assign rfl ?_)
      refine WL.nil ?_
      refine WQ.next ?_
      refine WC.seq ?_
      refine WC.region ?_
      refine WL.op rfl rfl (op_move rfl ?_)
      refine WL.op rfl rfl (op_neqN (b := 0) rfl rfl ?_)
      refine WL.nil ?_
      refine WQ.next ?_
      refine WC.cond rfl (fun (hb10 : (decide ((putE (x.rl.getD k Rl.zero) ((ads.getD k 0) + (x.rl.getD k Rl.zero).add)) ≠ 0)) = true) => ?_) (fun (hb10 : (decide ((putE (x.rl.getD k Rl.zero) ((ads.getD k 0) + (x.rl.getD k Rl.zero).add)) ≠ 0)) = false) => ?_)
      ·
        have hc10 := of_decide_eq_true hb10
        refine WC.seq ?_
        refine WC.region ?_
        refine WL.op rfl rfl (op_move rfl ?_)
        refine WL.op rfl rfl (op_assign rfl ?_)
        refine WL.op rfl rfl (op_assign rfl ?_)
        refine WL.nil ?_
        refine WQ.next ?_
        refine WC.ret ?_
        refine WQ.inRet ?_
        refine WQ.thenRet ?_
        refine WQ.thenRet ?_
        refine WQ.inRet ?_
        refine WQ.thenRet ?_
        refine WQ.out (.tmp rfl (.tmp rfl .nil)) ?_
        have hov := putE_ne hc10
        have hf := fill_bad hsy hal (by omega) hov
        exact ⟨by rw [hf.1, hf.2, putE_1 hov]; rfl, H9.fr⟩
      ·
        have hc10 := of_decide_eq_false hb10
        have hov : ovB (x.rl.getD k Rl.zero) (ads.getD k 0 + (x.rl.getD k Rl.zero).add) = false := putE_eq (Decidable.not_not.mp hc10)
        refine WC.skip ?_
        refine WQ.inNormal ?_
        refine WQ.next ?_
        refine WC.region ?_
        refine WL.op rfl rfl (op_addN (b := 1) rfl rfl (by omega) ?_)
        refine WL.op rfl rfl (op_move rfl ?_)
        refine WL.nil ?_
        exact WQ.round (k + 1) ⟨⟨by omega, allPrev hok hov⟩, (Own.rowEq (i := 2) (f := vU8) (show Own [] w w9 [.blk b1 [(str x.nm), (vU8 x.bind), (vU8 x.kind), (vU32 x.size), (str x.b), x.rv, x.nv] 26, .blk q2 [(str x.nm), (vU8 x.bind), (vU8 x.kind), (vU32 x.size), (str x.b), x.rv, x.nv, v2] 88, .row v2 5 1 x.size.toNat (List.map vU8 (putL (fillN (begB x.size.toNat x.b) x.rl ads k) (x.rl.getD k Rl.zero) ((ads.getD k 0) + (x.rl.getD k Rl.zero).add)))] from (H9.take 3)) rfl (fill_step hov))⟩ ⟨rfl, rfl, rfl, rfl, rfl, rfl, rfl, trivial⟩ (by omega)
    ·
      have hc5 := of_decide_eq_false hb5
      refine WC.exit ?_
      refine WQ.thenExit ?_
      refine WQ.thenExit ?_
      refine WQ.inHere ?_
      refine WQ.next ?_
      refine WC.seq ?_
      refine WC.region ?_
      refine WL.op rfl rfl (op_move rfl ?_)
      refine WL.op rfl rfl (op_nilCheck rfl ?_)
      refine WL.op rfl rfl (op_fieldAddr rfl Fa.F88_1 ?_)
      refine WL.op rfl rfl (op_load rfl (H4.cell (i := 1) rfl rfl) Tryd.underlying58 rfl ?_)
      refine WL.op rfl rfl (op_bytesStr (l := (fillN (begB x.size.toNat x.b) x.rl ads k)) Tryd.underlying58 Tryd.underlying5 Tryd.underlying9 rfl (H4.arrR (i := 2) rfl) rfl ?_)
      refine WL.op rfl rfl (op_assign rfl ?_)
      refine WL.op rfl rfl (op_assign rfl ?_)
      refine WL.nil ?_
      refine WQ.next ?_
      refine WC.ret ?_
      refine WQ.out (.tmp rfl (.tmp rfl .nil)) ?_
      have hk : k = x.rl.length := by omega
      have hf := fill_end hsy hal (fun j hj => hok j (by omega))
      exact ⟨by rw [hf.1, hf.2, hk, begB_base (sym_fits hsy).1]; rfl, H4.fr⟩
set_option maxRecDepth 100000 in
theorem ofill_no (x : Sy) (av : Value) (ads : List UInt32) (w : World) (hI : SyD.ok w x) (hn : x.nm.length < 2 ^ 47) (hb : x.b.length < 2 ^ 32) (hr : ∀ y ∈ x.rl, y.nm.length < 2 ^ 47) (hm : x.rl.length < 2 ^ 40) (hq : x.nt.length < 2 ^ 40) (hA : Arr w av 1 ads.length (List.map vU32 ads)) (hz : ads.length < 2 ^ 40) (hsy : symB x = false) :
    Calls Tryd.prog 14 #[(.agg #[(str x.nm), (vU8 x.bind), (vU8 x.kind), (vU32 x.size), (str x.b), x.rv, x.nv]), av] w (fun e w' => e = .returned (.tuple #[str (fillS x ads), vN (fillE x ads)]) ∧ Fr [] w w') := by
  refine enter (args := [(.agg #[(str x.nm), (vU8 x.bind), (vU8 x.kind), (vU32 x.size), (str x.b), x.rv, x.nv]), av]) Tryd.func14 rfl rfl ?_
  have H0 : Own [] w w [] := Own.start w []
  refine WC.seq ?_
  refine WC.region ?_
  refine WL.op rfl rfl (op_box H0 rfl rfl (fun b1 w1 H1 => ?_))
  refine WL.op rfl rfl (op_assign rfl ?_)
  refine WL.op rfl rfl (op_assign rfl ?_)
  refine WL.nil ?_
  refine WQ.next ?_
  refine WC.seq ?_
  refine WC.region ?_
  refine WL.op rfl rfl (op_loadS (vs := [_, _, _, _, _, _, _]) rfl (H1.cells (i := 0) rfl rfl) Tryd.underlying26 rfl Fa.I26 rfl ?_)
  refine WL.op rfl rfl (op_fieldAddr rfl Fa.F26_4 ?_)
  refine WL.op rfl rfl (op_load rfl (H1.cell (i := 0) rfl rfl) Tryd.underlying9 rfl ?_)
  refine WL.op rfl rfl (op_callF Fa.C41 rfl ((begin_no x x.b _ (SyD_mk (x := x) ((SyD_rl (SyD.fr0 hI H1.fr))) ((SyD_nt (SyD.fr0 hI H1.fr)))) hn hb hr hm hq hsy).mono (fun e w2 hq => ?_)))
  obtain ⟨rfl, hf2⟩ := hq
  refine ⟨_, rfl, ?_⟩
  have H2 := H1.fr' hf2
  refine WL.op rfl rfl (op_move rfl ?_)
  refine WL.op rfl rfl (op_extract rfl rfl ?_)
  refine WL.op rfl rfl (op_extract rfl rfl ?_)
  refine WL.op rfl rfl (op_assign rfl ?_)
  refine WL.op rfl rfl (op_assign rfl ?_)
  refine WL.nil ?_
  refine WQ.next ?_
  refine WC.seq ?_
  refine WC.seq ?_
  refine WC.region ?_
  refine WL.op rfl rfl (op_move rfl ?_)
  refine WL.op rfl rfl (op_neqN (b := 0) rfl rfl ?_)
  refine WL.nil ?_
  refine WQ.next ?_
  refine WC.yes rfl (by decide) ?_
  refine WC.seq ?_
  refine WC.region ?_
  refine WL.op rfl rfl (op_move rfl ?_)
  refine WL.op rfl rfl (op_assign rfl ?_)
  refine WL.op rfl rfl (op_assign rfl ?_)
  refine WL.nil ?_
  refine WQ.next ?_
  refine WC.ret ?_
  refine WQ.thenRet ?_
  refine WQ.out (.tmp rfl (.tmp rfl .nil)) ?_
  exact ⟨by rw [(fill_arg (x := x) (ads := ads) (fun h => by rw [hsy] at h; cases h.1)).1, (fill_arg (x := x) (ads := ads) (fun h => by rw [hsy] at h; cases h.1)).2]; rfl, H2.fr⟩
theorem ofill_ok (x : Sy) (av : Value) (ads : List UInt32) (w : World) (hI : SyD.ok w x) (hn : x.nm.length < 2 ^ 47) (hb : x.b.length < 2 ^ 32) (hr : ∀ y ∈ x.rl, y.nm.length < 2 ^ 47) (hm : x.rl.length < 2 ^ 40) (hq : x.nt.length < 2 ^ 40) (hA : Arr w av 1 ads.length (List.map vU32 ads)) (hz : ads.length < 2 ^ 40) :
    Calls Tryd.prog 14 #[.agg #[str x.nm, vU8 x.bind, vU8 x.kind, vU32 x.size, str x.b, x.rv, x.nv], av] w (fun e w' => e = .returned (.tuple #[str (fillS x ads), vN (fillE x ads)]) ∧ Fr [] w w') := by
  cases h : symB x with
  | true => exact ofill_yes x av ads w hI hn hb hr hm hq hA hz h
  | false => exact ofill_no x av ads w hI hn hb hr hm hq hA hz h
set_option maxRecDepth 100000 in
theorem olook_yes (x : Sy) (s : List UInt8) (w : World) (hI : SyD.ok w x) (hn : x.nm.length < 2 ^ 47) (hb : x.b.length < 2 ^ 32) (hr : ∀ y ∈ x.rl, y.nm.length < 2 ^ 47) (hm : x.rl.length < 2 ^ 40) (hq : x.nt.length < 2 ^ 40) (hs : s.length < 2 ^ 47) (hsy : symB x = true) :
    Calls Tryd.prog 16 #[(.agg #[(str x.nm), (vU8 x.bind), (vU8 x.kind), (vU32 x.size), (str x.b), x.rv, x.nv]), (str s)] w (fun e w' => ∃ v, e = .returned (.tuple #[v, vN (lookE x s)]) ∧ Own [] w w' [.row v 22 1 (lookL x s).length (List.map vU32 (lookL x s))]) := by
  refine enter (args := [(.agg #[(str x.nm), (vU8 x.bind), (vU8 x.kind), (vU32 x.size), (str x.b), x.rv, x.nv]), (str s)]) Tryd.func16 rfl rfl ?_
  have H0 : Own [] w w [] := Own.start w []
  refine WC.seq ?_
  refine WC.region ?_
  refine WL.op rfl rfl (op_box H0 rfl rfl (fun b1 w1 H1 => ?_))
  refine WL.op rfl rfl (op_assign rfl ?_)
  refine WL.op rfl rfl (op_assign rfl ?_)
  refine WL.nil ?_
  refine WQ.next ?_
  refine WC.seq ?_
  refine WC.region ?_
  refine WL.op rfl rfl (op_loadS (vs := [_, _, _, _, _, _, _]) rfl (H1.cells (i := 0) rfl rfl) Tryd.underlying26 rfl Fa.I26 rfl ?_)
  refine WL.op rfl rfl (op_move rfl ?_)
  refine WL.op rfl rfl (op_callF Fa.C41 rfl ((begin_yes x s _ (SyD_mk (x := x) ((SyD_rl (SyD.fr0 hI H1.fr))) ((SyD_nt (SyD.fr0 hI H1.fr)))) hn hb hr hm hq hsy).mono (fun e w2 hq => ?_)))
  obtain ⟨q2, v2, rfl, hq2⟩ := hq
  refine ⟨_, rfl, ?_⟩
  have H2 : Own [] w w2 [.blk b1 [(str x.nm), (vU8 x.bind), (vU8 x.kind), (vU32 x.size), (str x.b), x.rv, x.nv] 26, .blk q2 [(str x.nm), (vU8 x.bind), (vU8 x.kind), (vU32 x.size), (str x.b), x.rv, x.nv, v2] 88, .row v2 5 1 x.size.toNat (List.map vU8 (begB x.size.toNat s))] := H1.splice [] [] [.blk q2 [(str x.nm), (vU8 x.bind), (vU8 x.kind), (vU32 x.size), (str x.b), x.rv, x.nv, v2] 88, .row v2 5 1 x.size.toNat (List.map vU8 (begB x.size.toNat s))] rfl rfl hq2 (Fits.solid True.intro (Fits.solid True.intro Fits.nil))
  refine WL.op rfl rfl (op_move rfl ?_)
  refine WL.op rfl rfl (op_extract rfl rfl ?_)
  refine WL.op rfl rfl (op_extract rfl rfl ?_)
  refine WL.op rfl rfl (op_assign rfl ?_)
  refine WL.op rfl rfl (op_assign rfl ?_)
  refine WL.nil ?_
  refine WQ.next ?_
  refine WC.seq ?_
  refine WC.seq ?_
  refine WC.region ?_
  refine WL.op rfl rfl (op_move rfl ?_)
  refine WL.op rfl rfl (op_neqN (b := 0) rfl rfl ?_)
  refine WL.nil ?_
  refine WQ.next ?_
  refine WC.no rfl (by decide) ?_
  refine WC.skip ?_
  refine WQ.next ?_
  refine WC.seq ?_
  refine WC.seq ?_
  refine WC.region ?_
  refine WL.op rfl rfl (op_move rfl ?_)
  refine WL.op rfl rfl (op_lenStr Tryd.underlying9 rfl ?_)
  refine WL.op rfl rfl (op_move rfl ?_)
  refine WL.op rfl rfl (op_nilCheck rfl ?_)
  refine WL.op rfl rfl (op_fieldAddr rfl Fa.F88_1 ?_)
  refine WL.op rfl rfl (op_load rfl (H2.cell (i := 1) rfl rfl) Tryd.underlying58 rfl ?_)
  refine WL.op rfl rfl (op_lenA Tryd.underlying58 rfl (H2.arrR (i := 2) rfl) ?_)
  refine WL.op rfl rfl (op_neqN rfl rfl ?_)
  refine WL.nil ?_
  refine WQ.next ?_
  refine WC.cond rfl (fun (hb3 : (decide (s.length ≠ x.size.toNat)) = true) => ?_) (fun (hb3 : (decide (s.length ≠ x.size.toNat)) = false) => ?_)
  ·
    have hc3 := of_decide_eq_true hb3
    refine WC.seq ?_
    refine WC.region ?_
    refine WL.op rfl rfl (op_assign rfl ?_)
    refine WL.op rfl rfl (op_assign rfl ?_)
    refine WL.nil ?_
    refine WQ.next ?_
    refine WC.ret ?_
    refine WQ.thenRet ?_
    refine WQ.out (.tmp rfl (.tmp rfl .nil)) ?_
    have hf := look_2 (x := x) (s := s) (fun h => hc3 h.2)
    rw [hf.1, hf.2]
    exact ⟨.slice none 0 0, rfl, (H2.sel [] rfl rfl).nilRow 22 1⟩
  ·
    have hc3 := of_decide_eq_false hb3
    have hal : s.length = x.size.toNat := Decidable.not_not.mp hc3
    refine WC.skip ?_
    refine WQ.next ?_
    refine WC.seq ?_
    refine WC.region ?_
    refine WL.op rfl rfl (op_assign rfl ?_)
    have H4 := H2.nilRow 22 1
    refine WL.nil ?_
    refine WQ.next ?_
    refine WC.seq ?_
    refine WC.seq ?_
    refine WC.region ?_
    have H5 : Own [] w w2 [.blk b1 [(str x.nm), (vU8 x.bind), (vU8 x.kind), (vU32 x.size), (str x.b), x.rv, x.nv] 26, .blk q2 [(str x.nm), (vU8 x.bind), (vU8 x.kind), (vU32 x.size), (str x.b), x.rv, x.nv, v2] 88, .row v2 5 1 x.size.toNat (List.map vU8 s), .row (.slice none 0 0) 22 1 0 (List.map vU32 [])] := Own.rowEq (i := 2) (f := vU8) (show Own [] w w2 [.blk b1 [(str x.nm), (vU8 x.bind), (vU8 x.kind), (vU32 x.size), (str x.b), x.rv, x.nv] 26, .blk q2 [(str x.nm), (vU8 x.bind), (vU8 x.kind), (vU32 x.size), (str x.b), x.rv, x.nv, v2] 88, .row v2 5 1 x.size.toNat (List.map vU8 (begB x.size.toNat s)), .row (.slice none 0 0) 22 1 0 (List.map vU32 [])] from H4) rfl (begB_full hal)
    refine WL.op rfl rfl (op_move rfl ?_)
    refine WL.op rfl rfl (op_nilCheck rfl ?_)
    refine WL.op rfl rfl (op_fieldAddr rfl Fa.F88_0 ?_)
    refine WL.op rfl rfl (op_fieldAddr rfl Fa.F26_5 ?_)
    refine WL.op rfl rfl (op_load rfl (H5.cell (i := 1) rfl rfl) Tryd.underlying23 rfl ?_)
    refine WL.op rfl rfl (op_lenA Tryd.underlying23 rfl ((SyD_rl (SyD.fr0 hI H5.fr))) ?_)
    refine WL.op rfl rfl (op_move rfl ?_)
    refine WL.nil ?_
    refine WQ.next ?_
    refine WC.block ?_
    refine WC.loop (α := Nat × Value) (fun (k, v) => [(4, (.slice none 0 0)), (5, (vN 0)), (6, (ptr q2 0)), (8, v), (34, x.rv), (35, (vN x.rl.length)), (36, (vN k))]) (fun (k, v) w' => (k ≤ x.rl.length) ∧ Own [] w w' [.blk b1 [(str x.nm), (vU8 x.bind), (vU8 x.kind), (vU32 x.size), (str x.b), x.rv, x.nv] 26, .blk q2 [(str x.nm), (vU8 x.bind), (vU8 x.kind), (vU32 x.size), (str x.b), x.rv, x.nv, v2] 88, .row v2 5 1 x.size.toNat (List.map vU8 s), .row v 22 1 k (List.map vU32 ((x.rl.take k).map (seenR s)))]) (fun (k, v) => x.rl.length - k) (0, (.slice none 0 0)) ⟨(Nat.zero_le _), H5⟩ ⟨rfl, rfl, rfl, rfl, rfl, rfl, rfl, trivial⟩ ?_
    rintro ⟨k, v⟩ w6 ⟨hk1, H6⟩
    show WC _ _ _ _ _ [(4, (.slice none 0 0)), (5, (vN 0)), (6, (ptr q2 0)), (8, v), (34, x.rv), (35, (vN x.rl.length)), (36, (vN k))] _
    refine WC.seq ?_
    refine WC.region ?_
    refine WL.op rfl rfl (op_lssN rfl rfl ?_)
    refine WL.nil ?_
    refine WQ.next ?_
    refine WC.seq ?_
    refine WC.cond rfl (fun (hb7 : (decide (k < x.rl.length)) = true) => ?_) (fun (hb7 : (decide (k < x.rl.length)) = false) => ?_)
    ·
      have hc7 := of_decide_eq_true hb7
      have hpl := sym_place hsy hc7
      refine WC.skip ?_
      refine WQ.next ?_
      refine WC.seq ?_
      refine WC.block ?_
      refine WC.seq ?_
      refine WC.region ?_
      refine WL.op rfl rfl (op_indexAddr Tryd.underlying23 Fa.I44 rfl ((SyD_rl (SyD.fr0 hI H6.fr))) rfl (by omega) ?_)
      refine WL.op rfl rfl (op_loadSP (vs := rlc (x.rl.getD k Rl.zero)) rfl (Arr.atsF ((SyD_rl (SyD.fr0 hI H6.fr))) (fun _ => rfl) (by decide) Rl.zero (by omega)) Tryd.underlying44 rfl Fa.I44 rfl ?_)
      refine WL.op rfl rfl (op_alloc H6 Fa.I44 (fun b8 w8 H8 => ?_))
      refine WL.op rfl rfl (op_storeBW (i := 4) H8 rfl rfl rfl rfl rfl Fa.I44 (fun w9 H9 => ?_))
      refine WL.nil ?_
      refine WQ.next ?_
      refine WC.seq ?_
      refine WC.region ?_
      refine WL.op rfl rfl (op_move rfl ?_)
      refine WL.op rfl rfl (op_loadS (vs := [_, _, _, _]) rfl (H9.cells (i := 4) rfl rfl) Tryd.underlying44 rfl Fa.I44 rfl ?_)
      refine WL.op rfl rfl (op_callF Fa.C45 rfl ((at_ok q2 (str x.nm) (vU8 x.bind) (vU8 x.kind) (vU32 x.size) (str x.b) x.rv x.nv v2 x.size.toNat s (x.rl.getD k Rl.zero) _ (H9.cellsAt (i := 1) rfl) (H9.arrR (i := 2) rfl) hpl.1 hpl.2.1 hpl.2.2).mono (fun e w10 hq => ?_)))
      obtain ⟨rfl, hf10⟩ := hq
      refine ⟨_, rfl, ?_⟩
      have H10 := H9.fr' hf10
      refine WL.op rfl rfl (op_bytesStr (l := ((s.drop (x.rl.getD k Rl.zero).off.toNat).take (widthN (x.rl.getD k Rl.zero).kind))) Tryd.underlying58 Tryd.underlying5 Tryd.underlying9 rfl ((Arr.place (H10.arrR (i := 2) rfl) hpl.2.2)) rfl ?_)
      refine WL.op rfl rfl (op_callF Fa.C44 rfl ((get_ok ((s.drop (x.rl.getD k Rl.zero).off.toNat).take (widthN (x.rl.getD k Rl.zero).kind)) _).mono (fun e w11 hq => ?_)))
      obtain ⟨rfl, hf11⟩ := hq
      refine ⟨_, rfl, ?_⟩
      have H11 := H10.fr' hf11
      refine WL.op rfl rfl (op_move rfl ?_)
      refine WL.op rfl rfl (op_extract rfl rfl ?_)
      refine WL.op rfl rfl (op_extract rfl rfl ?_)
      refine WL.op rfl rfl (op_assign rfl ?_)
      refine WL.op rfl rfl (op_assign rfl ?_)
      refine WL.nil ?_
      refine WQ.next ?_
      refine WC.region ?_
      refine WL.op rfl rfl (op_move rfl ?_)
      refine WL.op rfl rfl (op_move rfl ?_)
      refine WL.op rfl rfl (op_fieldAddr rfl Fa.F44_3 ?_)
      refine WL.op rfl rfl (op_load rfl (H11.cell (i := 4) rfl rfl) Tryd.underlying22 rfl ?_)
      refine WL.op rfl rfl (op_subU32 rfl rfl ?_)
      refine WL.op rfl rfl (op_buildSlice (cs := [_]) H11 Tryd.underlying27 Fa.I22 rfl rfl rfl rfl (by decide) (by decide) (fun b12 w12 H12 => ?_))
      refine WL.op rfl rfl (op_appendM (f := vU32) (l := ((x.rl.take k).map (seenR s))) (l' := [((getV ((s.drop (x.rl.getD k Rl.zero).off.toNat).take (widthN (x.rl.getD k Rl.zero).kind))) - (x.rl.getD k Rl.zero).add)]) (i := 3) H12 Tryd.underlying27 Fa.I22 rfl rfl rfl rfl (Src.ofArr Tryd.underlying27 (H12.arrR (i := 5) rfl)) (one_mapM (fun _ => rfl)) (by omega) (by omega) (fun v13 w13 H13 => ?_))
      refine WL.op rfl rfl (op_assign rfl ?_)
      refine WL.nil ?_
      refine WQ.inNormal ?_
      refine WQ.next ?_
      refine WC.region ?_
      refine WL.op rfl rfl (op_addN (b := 1) rfl rfl (by omega) ?_)
      refine WL.op rfl rfl (op_move rfl ?_)
      refine WL.nil ?_
      exact WQ.round (k + 1, v13) ⟨(by omega), (Own.rowEqN (i := 3) (f := vU32) (show Own [] w w13 [.blk b1 [(str x.nm), (vU8 x.bind), (vU8 x.kind), (vU32 x.size), (str x.b), x.rv, x.nv] 26, .blk q2 [(str x.nm), (vU8 x.bind), (vU8 x.kind), (vU32 x.size), (str x.b), x.rv, x.nv, v2] 88, .row v2 5 1 x.size.toNat (List.map vU8 s), .row v13 22 1 (k + 1) (List.map vU32 (((x.rl.take k).map (seenR s)) ++ [((getV ((s.drop (x.rl.getD k Rl.zero).off.toNat).take (widthN (x.rl.getD k Rl.zero).kind))) - (x.rl.getD k Rl.zero).add)]))] from (H13.take 4)) rfl (seen_step hpl.1 (by omega) (by omega)) rfl)⟩ ⟨rfl, rfl, rfl, rfl, rfl, rfl, rfl, trivial⟩ (by show x.rl.length - (k + 1) < x.rl.length - k; omega)
    ·
      have hc7 := of_decide_eq_false hb7
      refine WC.exit ?_
      refine WQ.thenExit ?_
      refine WQ.thenExit ?_
      refine WQ.inHere ?_
      refine WQ.next ?_
      refine WC.seq ?_
      refine WC.region ?_
      refine WL.op rfl rfl (op_move rfl ?_)
      refine WL.op rfl rfl (op_assign rfl ?_)
      refine WL.op rfl rfl (op_assign rfl ?_)
      refine WL.nil ?_
      refine WQ.next ?_
      refine WC.ret ?_
      refine WQ.out (.tmp rfl (.tmp rfl .nil)) ?_
      have hk : k = x.rl.length := by omega
      have hf := look_0 (s := s) hsy hal
      rw [hf.1, hf.2]
      exact ⟨_, rfl, Own.rowEqN (i := 0) (f := vU32) (H6.sel [3] rfl rfl) rfl (by rw [hk, List.take_length]) (by rw [List.length_map]; exact hk)⟩
set_option maxRecDepth 100000 in
theorem olook_no (x : Sy) (s : List UInt8) (w : World) (hI : SyD.ok w x) (hn : x.nm.length < 2 ^ 47) (hb : x.b.length < 2 ^ 32) (hr : ∀ y ∈ x.rl, y.nm.length < 2 ^ 47) (hm : x.rl.length < 2 ^ 40) (hq : x.nt.length < 2 ^ 40) (hs : s.length < 2 ^ 47) (hsy : symB x = false) :
    Calls Tryd.prog 16 #[(.agg #[(str x.nm), (vU8 x.bind), (vU8 x.kind), (vU32 x.size), (str x.b), x.rv, x.nv]), (str s)] w (fun e w' => ∃ v, e = .returned (.tuple #[v, vN (lookE x s)]) ∧ Own [] w w' [.row v 22 1 (lookL x s).length (List.map vU32 (lookL x s))]) := by
  refine enter (args := [(.agg #[(str x.nm), (vU8 x.bind), (vU8 x.kind), (vU32 x.size), (str x.b), x.rv, x.nv]), (str s)]) Tryd.func16 rfl rfl ?_
  have H0 : Own [] w w [] := Own.start w []
  refine WC.seq ?_
  refine WC.region ?_
  refine WL.op rfl rfl (op_box H0 rfl rfl (fun b1 w1 H1 => ?_))
  refine WL.op rfl rfl (op_assign rfl ?_)
  refine WL.op rfl rfl (op_assign rfl ?_)
  refine WL.nil ?_
  refine WQ.next ?_
  refine WC.seq ?_
  refine WC.region ?_
  refine WL.op rfl rfl (op_loadS (vs := [_, _, _, _, _, _, _]) rfl (H1.cells (i := 0) rfl rfl) Tryd.underlying26 rfl Fa.I26 rfl ?_)
  refine WL.op rfl rfl (op_move rfl ?_)
  refine WL.op rfl rfl (op_callF Fa.C41 rfl ((begin_no x s _ (SyD_mk (x := x) ((SyD_rl (SyD.fr0 hI H1.fr))) ((SyD_nt (SyD.fr0 hI H1.fr)))) hn hb hr hm hq hsy).mono (fun e w2 hq => ?_)))
  obtain ⟨rfl, hf2⟩ := hq
  refine ⟨_, rfl, ?_⟩
  have H2 := H1.fr' hf2
  refine WL.op rfl rfl (op_move rfl ?_)
  refine WL.op rfl rfl (op_extract rfl rfl ?_)
  refine WL.op rfl rfl (op_extract rfl rfl ?_)
  refine WL.op rfl rfl (op_assign rfl ?_)
  refine WL.op rfl rfl (op_assign rfl ?_)
  refine WL.nil ?_
  refine WQ.next ?_
  refine WC.seq ?_
  refine WC.seq ?_
  refine WC.region ?_
  refine WL.op rfl rfl (op_move rfl ?_)
  refine WL.op rfl rfl (op_neqN (b := 0) rfl rfl ?_)
  refine WL.nil ?_
  refine WQ.next ?_
  refine WC.yes rfl (by decide) ?_
  refine WC.seq ?_
  refine WC.region ?_
  refine WL.op rfl rfl (op_move rfl ?_)
  refine WL.op rfl rfl (op_assign rfl ?_)
  refine WL.op rfl rfl (op_assign rfl ?_)
  refine WL.nil ?_
  refine WQ.next ?_
  refine WC.ret ?_
  refine WQ.thenRet ?_
  refine WQ.out (.tmp rfl (.tmp rfl .nil)) ?_
  have hf := look_2 (x := x) (s := s) (fun h => by rw [hsy] at h; cases h.1)
  rw [hf.1, hf.2]
  exact ⟨.slice none 0 0, rfl, (H2.sel [] rfl rfl).nilRow 22 1⟩
theorem olook_ok (x : Sy) (s : List UInt8) (w : World) (hI : SyD.ok w x) (hn : x.nm.length < 2 ^ 47) (hb : x.b.length < 2 ^ 32) (hr : ∀ y ∈ x.rl, y.nm.length < 2 ^ 47) (hm : x.rl.length < 2 ^ 40) (hq : x.nt.length < 2 ^ 40) (hs : s.length < 2 ^ 47) :
    Calls Tryd.prog 16 #[.agg #[str x.nm, vU8 x.bind, vU8 x.kind, vU32 x.size, str x.b, x.rv, x.nv], str s] w (fun e w' => ∃ v, e = .returned (.tuple #[v, vN (lookE x s)]) ∧ Own [] w w' [.row v 22 1 (lookL x s).length (List.map vU32 (lookL x s))]) := by
  cases h : symB x with
  | true => exact olook_yes x s w hI hn hb hr hm hq hs h
  | false => exact olook_no x s w hI hn hb hr hm hq hs h
end Go.Proofs.YtnngbnenekjffaaDoor
/-! from DRel3 -/
namespace Go.Proofs.YtnngbnenekjffaaDoor
open Go.Owl Go.Spec
end Go.Proofs.YtnngbnenekjffaaDoor
/-! from DRel4 -/
namespace Go.Proofs.YtnngbnenekjffaaDoor
open Go.Owl Go.Spec
set_option maxRecDepth 100000 in
theorem lg08_ok (lv : Value) (l : List Ob) (w : World) (hA : Arr w lv 2 l.length (List.flatMap obc l)) (hI : ObD.list.ok w l) (hF : ∀ x ∈ l, FitO x) (hn : l.length ≤ 1) :
    Calls Tryd.prog 29 #[lv] w (fun e w' => e = .returned (.bool (lg08 l)) ∧ Fr [] w w') := by
  refine enter (args := [lv]) Tryd.func29 rfl rfl ?_
  have H0 : Own [] w w [] := Own.start w []
  refine WC.seq ?_
  refine WC.region ?_
  refine WL.op rfl rfl (op_assign rfl ?_)
  refine WL.nil ?_
  refine WQ.next ?_
  refine WC.seq ?_
  refine WC.region ?_
  refine WL.op rfl rfl (op_assign rfl ?_)
  refine WL.nil ?_
  refine WQ.next ?_
  refine WC.seq ?_
  refine WC.seq ?_
  refine WC.region ?_
  refine WL.op rfl rfl (op_assign rfl ?_)
  refine WL.nil ?_
  refine WQ.next ?_
  refine WC.block ?_
  refine WC.loop (α := Nat) (fun i => [(0, lv), (2, (.bool false)), (3, (vN (obSum l i))), (4, (vN i))]) (fun i w' => (i ≤ l.length ∧ i ≤ 40) ∧ Own [] w w' []) (fun i => l.length - i) 0 ⟨⟨Nat.zero_le _, by omega⟩, H0⟩ ⟨rfl, rfl, rfl, rfl, trivial⟩ ?_
  rintro i w1 ⟨⟨hi1, hi4⟩, H1⟩
  show WC _ _ _ _ _ [(0, lv), (2, (.bool false)), (3, (vN (obSum l i))), (4, (vN i))] _
  have hso := obSum_le hF i hi4
  have hfo := fitO_getD hF i
  have hfo1 := hfo.1
  refine WC.seq ?_
  refine WC.seq ?_
  refine WC.region ?_
  refine WL.op rfl rfl (op_move rfl ?_)
  refine WL.op rfl rfl (op_move rfl ?_)
  refine WL.op rfl rfl (op_lenA Tryd.underlying78 rfl (H1.arr hA) ?_)
  refine WL.op rfl rfl (op_lssN rfl rfl ?_)
  refine WL.op rfl rfl (op_move rfl ?_)
  refine WL.split (t := 12) rfl (fun (hb2 : (decide (i < l.length)) = true) => ?_) (fun (hb2 : (decide (i < l.length)) = false) => ?_)
  ·
    have hc2 := of_decide_eq_true hb2
    refine WL.yes rfl rfl rfl hb2 rfl (op_move rfl ?_)
    refine WL.yes rfl rfl rfl hb2 rfl (op_lssN (b := 40) rfl rfl ?_)
    refine WL.op rfl rfl (op_pickT rfl hb2 rfl ?_)
    refine WL.nil ?_
    refine WQ.next ?_
    refine WC.cond rfl (fun (hb3 : (decide (i < 40)) = true) => ?_) (fun (hb3 : (decide (i < 40)) = false) => ?_)
    ·
      have hc3 := of_decide_eq_true hb3
      refine WC.skip ?_
      refine WQ.next ?_
      refine WC.seq ?_
      refine WC.block ?_
      refine WC.seq ?_
      refine WC.region ?_
      refine WL.op rfl rfl (op_move rfl ?_)
      refine WL.op rfl rfl (op_move rfl ?_)
      refine WL.op rfl rfl (op_move rfl ?_)
      refine WL.op rfl rfl (op_indexAddr Tryd.underlying78 Fa.I32 rfl (H1.arr hA) rfl (by omega) ?_)
      refine WL.op rfl rfl (op_fieldAddrS rfl Fa.F32_1 ?_)
      refine WL.op rfl rfl (op_load rfl (Arr.atF (k := 1) (H1.arr hA) (fun _ => rfl) (by decide) Ob.zero (by omega) rfl) Tryd.underlying30 rfl ?_)
      refine WL.op rfl rfl (op_lenA Tryd.underlying30 rfl ((ObD_sy (Deep.getD ObD (Deep.fr0 ObD.list hI H1.fr) Ob.zero (ObD_zero _) i))) ?_)
      refine WL.op rfl rfl (op_addN rfl rfl (by omega) ?_)
      refine WL.op rfl rfl (op_assign rfl ?_)
      refine WL.nil ?_
      refine WQ.next ?_
      refine WC.seq ?_
      refine WC.region ?_
      refine WL.op rfl rfl (op_assign rfl ?_)
      refine WL.nil ?_
      refine WQ.next ?_
      refine WC.block ?_
      refine WC.loop (α := Nat) (fun k => [(0, lv), (2, (.bool false)), (3, (vN (obSum l i + (l.getD i Ob.zero).sy.length + sySum (l.getD i Ob.zero).sy k))), (4, (vN i)), (5, (vN k))]) (fun k w' => (k ≤ (l.getD i Ob.zero).sy.length ∧ k ≤ 200) ∧ Own [] w w' []) (fun k => (l.getD i Ob.zero).sy.length - k) 0 ⟨⟨Nat.zero_le _, by omega⟩, H1⟩ ⟨rfl, rfl, rfl, rfl, rfl, trivial⟩ ?_
      rintro k w4 ⟨⟨hk1, hk2⟩, H4⟩
      show WC _ _ _ _ _ [(0, lv), (2, (.bool false)), (3, (vN (obSum l i + (l.getD i Ob.zero).sy.length + sySum (l.getD i Ob.zero).sy k))), (4, (vN i)), (5, (vN k))] _
      have hsk := sySum_le hfo.2 k
      have hfk := fit_getD hfo.2 k
      have hfn := syN_le hfk
      obtain ⟨hf1, hf2, hf3, hf4, hf5⟩ := hfk
      unfold syN at hfn
      refine WC.seq ?_
      refine WC.seq ?_
      refine WC.region ?_
      refine WL.op rfl rfl (op_move rfl ?_)
      refine WL.op rfl rfl (op_move rfl ?_)
      refine WL.op rfl rfl (op_move rfl ?_)
      refine WL.op rfl rfl (op_indexAddr Tryd.underlying78 Fa.I32 rfl (H4.arr hA) rfl (by omega) ?_)
      refine WL.op rfl rfl (op_fieldAddrS rfl Fa.F32_1 ?_)
      refine WL.op rfl rfl (op_load rfl (Arr.atF (k := 1) (H4.arr hA) (fun _ => rfl) (by decide) Ob.zero (by omega) rfl) Tryd.underlying30 rfl ?_)
      refine WL.op rfl rfl (op_lenA Tryd.underlying30 rfl ((ObD_sy (Deep.getD ObD (Deep.fr0 ObD.list hI H4.fr) Ob.zero (ObD_zero _) i))) ?_)
      refine WL.op rfl rfl (op_lssN rfl rfl ?_)
      refine WL.op rfl rfl (op_move rfl ?_)
      refine WL.split (t := 34) rfl (fun (hb5 : (decide (k < (l.getD i Ob.zero).sy.length)) = true) => ?_) (fun (hb5 : (decide (k < (l.getD i Ob.zero).sy.length)) = false) => ?_)
      ·
        have hc5 := of_decide_eq_true hb5
        refine WL.yes rfl rfl rfl hb5 rfl (op_move rfl ?_)
        refine WL.yes rfl rfl rfl hb5 rfl (op_lssN (b := 200) rfl rfl ?_)
        refine WL.op rfl rfl (op_pickT rfl hb5 rfl ?_)
        refine WL.nil ?_
        refine WQ.next ?_
        refine WC.cond rfl (fun (hb6 : (decide (k < 200)) = true) => ?_) (fun (hb6 : (decide (k < 200)) = false) => ?_)
        ·
          have hc6 := of_decide_eq_true hb6
          refine WC.skip ?_
          refine WQ.next ?_
          refine WC.seq ?_
          refine WC.block ?_
          refine WC.seq ?_
          refine WC.region ?_
          refine WL.op rfl rfl (op_move rfl ?_)
          refine WL.op rfl rfl (op_move rfl ?_)
          refine WL.op rfl rfl (op_indexAddr Tryd.underlying78 Fa.I32 rfl (H4.arr hA) rfl (by omega) ?_)
          refine WL.op rfl rfl (op_fieldAddrS rfl Fa.F32_1 ?_)
          refine WL.op rfl rfl (op_load rfl (Arr.atF (k := 1) (H4.arr hA) (fun _ => rfl) (by decide) Ob.zero (by omega) rfl) Tryd.underlying30 rfl ?_)
          refine WL.op rfl rfl (op_move rfl ?_)
          refine WL.op rfl rfl (op_indexAddr Tryd.underlying30 Fa.I26 rfl ((ObD_sy (Deep.getD ObD (Deep.fr0 ObD.list hI H4.fr) Ob.zero (ObD_zero _) i))) rfl (by omega) ?_)
          refine WL.op rfl rfl (op_loadSP (vs := syc ((l.getD i Ob.zero).sy.getD k Sy.zero)) rfl (Arr.atsF ((ObD_sy (Deep.getD ObD (Deep.fr0 ObD.list hI H4.fr) Ob.zero (ObD_zero _) i))) (fun _ => rfl) (by decide) Sy.zero (by omega)) Tryd.underlying26 rfl Fa.I26 rfl ?_)
          refine WL.op rfl rfl (op_alloc H4 Fa.I26 (fun b7 w7 H7 => ?_))
          refine WL.op rfl rfl (op_storeBW (i := 0) H7 rfl rfl rfl rfl (one_cons rfl (one_cons rfl (one_cons rfl (one_cons rfl (one_cons rfl (one_cons (Arr.one ((SyD_rl (Deep.getD SyD (ObD_in (Deep.getD ObD (Deep.fr0 ObD.list hI H7.fr) Ob.zero (ObD_zero _) i)) Sy.zero (SyD_zero _) k)))) (one_cons (Arr.one ((SyD_nt (Deep.getD SyD (ObD_in (Deep.getD ObD (Deep.fr0 ObD.list hI H7.fr) Ob.zero (ObD_zero _) i)) Sy.zero (SyD_zero _) k)))) one_nil))))))) Fa.I26 (fun w8 H8 => ?_))
          refine WL.nil ?_
          refine WQ.next ?_
          refine WC.seq ?_
          refine WC.region ?_
          refine WL.op rfl rfl (op_move rfl ?_)
          refine WL.op rfl rfl (op_fieldAddr rfl Fa.F26_5 ?_)
          refine WL.op rfl rfl (op_load rfl (H8.cell (i := 0) rfl rfl) Tryd.underlying23 rfl ?_)
          refine WL.op rfl rfl (op_lenA Tryd.underlying23 rfl ((SyD_rl (Deep.getD SyD (ObD_in (Deep.getD ObD (Deep.fr0 ObD.list hI H8.fr) Ob.zero (ObD_zero _) i)) Sy.zero (SyD_zero _) k))) ?_)
          refine WL.op rfl rfl (op_quoN (b := 4) rfl rfl (by omega) (by omega) ?_)
          refine WL.op rfl rfl (op_addN rfl rfl (by omega) ?_)
          refine WL.op rfl rfl (op_fieldAddr rfl Fa.F26_6 ?_)
          refine WL.op rfl rfl (op_load rfl (H8.cell (i := 0) rfl rfl) Tryd.underlying24 rfl ?_)
          refine WL.op rfl rfl (op_lenA Tryd.underlying24 rfl ((SyD_nt (Deep.getD SyD (ObD_in (Deep.getD ObD (Deep.fr0 ObD.list hI H8.fr) Ob.zero (ObD_zero _) i)) Sy.zero (SyD_zero _) k))) ?_)
          refine WL.op rfl rfl (op_quoN (b := 4) rfl rfl (by omega) (by omega) ?_)
          refine WL.op rfl rfl (op_addN rfl rfl (by omega) ?_)
          refine WL.op rfl rfl (op_fieldAddr rfl Fa.F26_4 ?_)
          refine WL.op rfl rfl (op_load rfl (H8.cell (i := 0) rfl rfl) Tryd.underlying9 rfl ?_)
          refine WL.op rfl rfl (op_lenStr Tryd.underlying9 rfl ?_)
          refine WL.op rfl rfl (op_quoN (b := 64) rfl rfl (by omega) (by omega) ?_)
          refine WL.op rfl rfl (op_addN rfl rfl (by omega) ?_)
          refine WL.op rfl rfl (op_fieldAddr rfl Fa.F26_0 ?_)
          refine WL.op rfl rfl (op_load rfl (H8.cell (i := 0) rfl rfl) Tryd.underlying9 rfl ?_)
          refine WL.op rfl rfl (op_lenStr Tryd.underlying9 rfl ?_)
          refine WL.op rfl rfl (op_quoN (b := 16) rfl rfl (by omega) (by omega) ?_)
          refine WL.op rfl rfl (op_addN rfl rfl (by omega) ?_)
          refine WL.op rfl rfl (op_assign rfl ?_)
          refine WL.nil ?_
          refine WQ.next ?_
          refine WC.seq ?_
          refine WC.region ?_
          refine WL.op rfl rfl (op_assign rfl ?_)
          refine WL.nil ?_
          refine WQ.next ?_
          refine WC.block ?_
          refine WC.loop (α := Nat) (fun j => [(0, lv), (2, (.bool false)), (3, (vN (obSum l i + (l.getD i Ob.zero).sy.length + sySum (l.getD i Ob.zero).sy k + ((l.getD i Ob.zero).sy.getD k Sy.zero).rl.length / 4 + ((l.getD i Ob.zero).sy.getD k Sy.zero).nt.length / 4 + ((l.getD i Ob.zero).sy.getD k Sy.zero).b.length / 64 + ((l.getD i Ob.zero).sy.getD k Sy.zero).nm.length / 16 + nameSum ((l.getD i Ob.zero).sy.getD k Sy.zero).rl j))), (4, (vN i)), (5, (vN k)), (6, (ptr b7 0)), (7, (vN j))]) (fun j w' => (j ≤ ((l.getD i Ob.zero).sy.getD k Sy.zero).rl.length ∧ j ≤ 1100) ∧ Own [] w w' [.blk b7 [(str ((l.getD i Ob.zero).sy.getD k Sy.zero).nm), (vU8 ((l.getD i Ob.zero).sy.getD k Sy.zero).bind), (vU8 ((l.getD i Ob.zero).sy.getD k Sy.zero).kind), (vU32 ((l.getD i Ob.zero).sy.getD k Sy.zero).size), (str ((l.getD i Ob.zero).sy.getD k Sy.zero).b), ((l.getD i Ob.zero).sy.getD k Sy.zero).rv, ((l.getD i Ob.zero).sy.getD k Sy.zero).nv] 26]) (fun j => ((l.getD i Ob.zero).sy.getD k Sy.zero).rl.length - j) 0 ⟨⟨Nat.zero_le _, by omega⟩, H8⟩ ⟨rfl, rfl, rfl, rfl, rfl, rfl, rfl, trivial⟩ ?_
          rintro j w9 ⟨⟨hj1, hj2⟩, H9⟩
          show WC _ _ _ _ _ [(0, lv), (2, (.bool false)), (3, (vN (obSum l i + (l.getD i Ob.zero).sy.length + sySum (l.getD i Ob.zero).sy k + ((l.getD i Ob.zero).sy.getD k Sy.zero).rl.length / 4 + ((l.getD i Ob.zero).sy.getD k Sy.zero).nt.length / 4 + ((l.getD i Ob.zero).sy.getD k Sy.zero).b.length / 64 + ((l.getD i Ob.zero).sy.getD k Sy.zero).nm.length / 16 + nameSum ((l.getD i Ob.zero).sy.getD k Sy.zero).rl j))), (4, (vN i)), (5, (vN k)), (6, (ptr b7 0)), (7, (vN j))] _
          have hsj := nameSum_le hf5 j
          have hgj := getD_name hf5 j
          refine WC.seq ?_
          refine WC.seq ?_
          refine WC.region ?_
          refine WL.op rfl rfl (op_move rfl ?_)
          refine WL.op rfl rfl (op_fieldAddr rfl Fa.F26_5 ?_)
          refine WL.op rfl rfl (op_load rfl (H9.cell (i := 0) rfl rfl) Tryd.underlying23 rfl ?_)
          refine WL.op rfl rfl (op_lenA Tryd.underlying23 rfl ((SyD_rl (Deep.getD SyD (ObD_in (Deep.getD ObD (Deep.fr0 ObD.list hI H9.fr) Ob.zero (ObD_zero _) i)) Sy.zero (SyD_zero _) k))) ?_)
          refine WL.op rfl rfl (op_lssN rfl rfl ?_)
          refine WL.op rfl rfl (op_move rfl ?_)
          refine WL.split (t := 74) rfl (fun (hb10 : (decide (j < ((l.getD i Ob.zero).sy.getD k Sy.zero).rl.length)) = true) => ?_) (fun (hb10 : (decide (j < ((l.getD i Ob.zero).sy.getD k Sy.zero).rl.length)) = false) => ?_)
          ·
            have hc10 := of_decide_eq_true hb10
            refine WL.yes rfl rfl rfl hb10 rfl (op_move rfl ?_)
            refine WL.yes rfl rfl rfl hb10 rfl (op_lssN (b := 1100) rfl rfl ?_)
            refine WL.op rfl rfl (op_pickT rfl hb10 rfl ?_)
            refine WL.nil ?_
            refine WQ.next ?_
            refine WC.cond rfl (fun (hb11 : (decide (j < 1100)) = true) => ?_) (fun (hb11 : (decide (j < 1100)) = false) => ?_)
            ·
              have hc11 := of_decide_eq_true hb11
              refine WC.skip ?_
              refine WQ.next ?_
              refine WC.seq ?_
              refine WC.block ?_
              refine WC.region ?_
              refine WL.op rfl rfl (op_move rfl ?_)
              refine WL.op rfl rfl (op_fieldAddr rfl Fa.F26_5 ?_)
              refine WL.op rfl rfl (op_load rfl (H9.cell (i := 0) rfl rfl) Tryd.underlying23 rfl ?_)
              refine WL.op rfl rfl (op_move rfl ?_)
              refine WL.op rfl rfl (op_indexAddr Tryd.underlying23 Fa.I44 rfl ((SyD_rl (Deep.getD SyD (ObD_in (Deep.getD ObD (Deep.fr0 ObD.list hI H9.fr) Ob.zero (ObD_zero _) i)) Sy.zero (SyD_zero _) k))) rfl (by omega) ?_)
              refine WL.op rfl rfl (op_fieldAddrS rfl Fa.F44_2 ?_)
              refine WL.op rfl rfl (op_load rfl (Arr.atF (k := 2) ((SyD_rl (Deep.getD SyD (ObD_in (Deep.getD ObD (Deep.fr0 ObD.list hI H9.fr) Ob.zero (ObD_zero _) i)) Sy.zero (SyD_zero _) k))) (fun _ => rfl) (by decide) Rl.zero (by omega) rfl) Tryd.underlying9 rfl ?_)
              refine WL.op rfl rfl (op_lenStr Tryd.underlying9 rfl ?_)
              refine WL.op rfl rfl (op_quoN (b := 64) rfl rfl (by omega) (by omega) ?_)
              refine WL.op rfl rfl (op_addN rfl rfl (by omega) ?_)
              refine WL.op rfl rfl (op_assign rfl ?_)
              refine WL.nil ?_
              refine WQ.inNormal ?_
              refine WQ.next ?_
              refine WC.region ?_
              refine WL.op rfl rfl (op_move rfl ?_)
              refine WL.op rfl rfl (op_addN (b := 1) rfl rfl (by omega) ?_)
              refine WL.op rfl rfl (op_assign rfl ?_)
              refine WL.nil ?_
              exact WQ.round (j + 1) ⟨(by omega), H9⟩ ⟨rfl, rfl, (congrArg (fun x => some (vN x)) (by rw [nameSum]; omega)), rfl, rfl, rfl, rfl, trivial⟩ (by omega)
            ·
              have hc11 := of_decide_eq_false hb11
              refine WC.exit ?_
              refine WQ.thenExit ?_
              refine WQ.thenExit ?_
              refine WQ.inHere ?_
              refine WQ.inNormal ?_
              refine WQ.next ?_
              refine WC.region ?_
              refine WL.op rfl rfl (op_move rfl ?_)
              refine WL.op rfl rfl (op_addN (b := 1) rfl rfl (by omega) ?_)
              refine WL.op rfl rfl (op_assign rfl ?_)
              refine WL.nil ?_
              exact WQ.round (k + 1) ⟨(by omega), (H9.take 0)⟩ ⟨rfl, rfl, (congrArg (fun x => some (vN x)) (by rw [sySum, show min ((l.getD i Ob.zero).sy.getD k Sy.zero).rl.length 1100 = j by omega, syN]; omega)), rfl, rfl, trivial⟩ (by omega)
          ·
            have hc10 := of_decide_eq_false hb10
            refine WL.no rfl rfl rfl hb10 rfl ?_
            refine WL.no rfl rfl rfl hb10 rfl ?_
            refine WL.op rfl rfl (op_pickF rfl hb10 rfl ?_)
            refine WL.nil ?_
            refine WQ.next ?_
            refine WC.no rfl rfl ?_
            refine WC.exit ?_
            refine WQ.thenExit ?_
            refine WQ.thenExit ?_
            refine WQ.inHere ?_
            refine WQ.inNormal ?_
            refine WQ.next ?_
            refine WC.region ?_
            refine WL.op rfl rfl (op_move rfl ?_)
            refine WL.op rfl rfl (op_addN (b := 1) rfl rfl (by omega) ?_)
            refine WL.op rfl rfl (op_assign rfl ?_)
            refine WL.nil ?_
            exact WQ.round (k + 1) ⟨(by omega), (H9.take 0)⟩ ⟨rfl, rfl, (congrArg (fun x => some (vN x)) (by rw [sySum, show min ((l.getD i Ob.zero).sy.getD k Sy.zero).rl.length 1100 = j by omega, syN]; omega)), rfl, rfl, trivial⟩ (by omega)
        ·
          have hc6 := of_decide_eq_false hb6
          refine WC.exit ?_
          refine WQ.thenExit ?_
          refine WQ.thenExit ?_
          refine WQ.inHere ?_
          refine WQ.inNormal ?_
          refine WQ.next ?_
          refine WC.region ?_
          refine WL.op rfl rfl (op_move rfl ?_)
          refine WL.op rfl rfl (op_addN (b := 1) rfl rfl (by omega) ?_)
          refine WL.op rfl rfl (op_assign rfl ?_)
          refine WL.nil ?_
          exact WQ.round (i + 1) ⟨(by omega), H4⟩ ⟨rfl, rfl, (congrArg (fun x => some (vN x)) (by rw [obSum, show min (l.getD i Ob.zero).sy.length 200 = k by omega])), rfl, trivial⟩ (by omega)
      ·
        have hc5 := of_decide_eq_false hb5
        refine WL.no rfl rfl rfl hb5 rfl ?_
        refine WL.no rfl rfl rfl hb5 rfl ?_
        refine WL.op rfl rfl (op_pickF rfl hb5 rfl ?_)
        refine WL.nil ?_
        refine WQ.next ?_
        refine WC.no rfl rfl ?_
        refine WC.exit ?_
        refine WQ.thenExit ?_
        refine WQ.thenExit ?_
        refine WQ.inHere ?_
        refine WQ.inNormal ?_
        refine WQ.next ?_
        refine WC.region ?_
        refine WL.op rfl rfl (op_move rfl ?_)
        refine WL.op rfl rfl (op_addN (b := 1) rfl rfl (by omega) ?_)
        refine WL.op rfl rfl (op_assign rfl ?_)
        refine WL.nil ?_
        exact WQ.round (i + 1) ⟨(by omega), H4⟩ ⟨rfl, rfl, (congrArg (fun x => some (vN x)) (by rw [obSum, show min (l.getD i Ob.zero).sy.length 200 = k by omega])), rfl, trivial⟩ (by omega)
    ·
      have hc3 := of_decide_eq_false hb3
      refine WC.exit ?_
      refine WQ.thenExit ?_
      refine WQ.thenExit ?_
      refine WQ.inHere ?_
      refine WQ.next ?_
      refine WC.seq ?_
      refine WC.region ?_
      refine WL.op rfl rfl (op_move rfl ?_)
      refine WL.op rfl rfl (op_lenA Tryd.underlying78 rfl (H1.arr hA) ?_)
      refine WL.op rfl rfl (op_gtrN (b := 20) rfl rfl ?_)
      refine WL.op rfl rfl (op_move rfl ?_)
      refine WL.split (t := 93) rfl (fun (hb12 : (decide (l.length > 20)) = true) => ?_) (fun (hb12 : (decide (l.length > 20)) = false) => ?_)
      ·
        have hc12 := of_decide_eq_true hb12
        refine WL.no rfl rfl rfl hb12 rfl ?_
        refine WL.no rfl rfl rfl hb12 rfl ?_
        refine WL.op rfl rfl (op_pickT rfl hb12 rfl ?_)
        refine WL.op rfl rfl (op_assign rfl ?_)
        refine WL.nil ?_
        refine WQ.next ?_
        refine WC.ret ?_
        refine WQ.out (.tmp rfl .nil) ?_
        exact ⟨by (rw [lg08, hb12]) <;> rfl, H1.fr⟩
      ·
        have hc12 := of_decide_eq_false hb12
        refine WL.yes rfl rfl rfl hb12 rfl (op_move rfl ?_)
        refine WL.yes rfl rfl rfl hb12 rfl (op_gtrN (b := 2000) rfl rfl ?_)
        refine WL.op rfl rfl (op_pickF rfl hb12 rfl ?_)
        refine WL.op rfl rfl (op_assign rfl ?_)
        refine WL.nil ?_
        refine WQ.next ?_
        refine WC.ret ?_
        refine WQ.out (.tmp rfl .nil) ?_
        exact ⟨by (rw [lg08, hb12, show min l.length 40 = i by omega]) <;> rfl, H1.fr⟩
  ·
    have hc2 := of_decide_eq_false hb2
    refine WL.no rfl rfl rfl hb2 rfl ?_
    refine WL.no rfl rfl rfl hb2 rfl ?_
    refine WL.op rfl rfl (op_pickF rfl hb2 rfl ?_)
    refine WL.nil ?_
    refine WQ.next ?_
    refine WC.no rfl rfl ?_
    refine WC.exit ?_
    refine WQ.thenExit ?_
    refine WQ.thenExit ?_
    refine WQ.inHere ?_
    refine WQ.next ?_
    refine WC.seq ?_
    refine WC.region ?_
    refine WL.op rfl rfl (op_move rfl ?_)
    refine WL.op rfl rfl (op_lenA Tryd.underlying78 rfl (H1.arr hA) ?_)
    refine WL.op rfl rfl (op_gtrN (b := 20) rfl rfl ?_)
    refine WL.op rfl rfl (op_move rfl ?_)
    refine WL.split (t := 93) rfl (fun (hb13 : (decide (l.length > 20)) = true) => ?_) (fun (hb13 : (decide (l.length > 20)) = false) => ?_)
    ·
      have hc13 := of_decide_eq_true hb13
      refine WL.no rfl rfl rfl hb13 rfl ?_
      refine WL.no rfl rfl rfl hb13 rfl ?_
      refine WL.op rfl rfl (op_pickT rfl hb13 rfl ?_)
      refine WL.op rfl rfl (op_assign rfl ?_)
      refine WL.nil ?_
      refine WQ.next ?_
      refine WC.ret ?_
      refine WQ.out (.tmp rfl .nil) ?_
      exact ⟨by (rw [lg08, hb13]) <;> rfl, H1.fr⟩
    ·
      have hc13 := of_decide_eq_false hb13
      refine WL.yes rfl rfl rfl hb13 rfl (op_move rfl ?_)
      refine WL.yes rfl rfl rfl hb13 rfl (op_gtrN (b := 2000) rfl rfl ?_)
      refine WL.op rfl rfl (op_pickF rfl hb13 rfl ?_)
      refine WL.op rfl rfl (op_assign rfl ?_)
      refine WL.nil ?_
      refine WQ.next ?_
      refine WC.ret ?_
      refine WQ.out (.tmp rfl .nil) ?_
      exact ⟨by (rw [lg08, hb13, show min l.length 40 = i by omega]) <;> rfl, H1.fr⟩
end Go.Proofs.YtnngbnenekjffaaDoor
