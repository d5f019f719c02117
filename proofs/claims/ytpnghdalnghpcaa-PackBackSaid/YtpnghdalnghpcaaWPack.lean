import Derived.Test.YtpnghdalnghpcaaFacts
import Derived.Test.YtpnghdalnghpcaaOwl18
import Derived.Test.YtpnghdalnghpcaaSpecPack
namespace Go.Proofs.Ytpnghdalnghpcaa
open Go.Owl Go.Spec
set_option maxRecDepth 100000 in
theorem text_ok (v : Value) (m : Nat) (l : List UInt8) (w : World) (hA : Arr w v 1 m (l.map vU8)) :
    Calls Try.prog 117 #[v] w (fun e w' => e = .returned (str l) ∧ Fr [] w w') := by
  refine enter (args := [v]) Try.func117 rfl rfl ?_
  have H0 : Own [] w w [] := Own.start w []
  refine WC.seq ?_
  refine WC.region ?_
  refine WL.op rfl rfl (op_assign rfl ?_)
  refine WL.nil ?_
  refine WQ.next ?_
  refine WC.seq ?_
  refine WC.region ?_
  refine WL.op rfl rfl (op_move rfl ?_)
  refine WL.op rfl rfl (op_bytesStr (l := l) Try.underlying73 Try.underlying5 Try.underlying9 rfl (H0.arr hA) rfl ?_)
  refine WL.op rfl rfl (op_assign rfl ?_)
  refine WL.nil ?_
  refine WQ.next ?_
  refine WC.ret ?_
  refine WQ.out (.tmp rfl .nil) ?_
  exact ⟨rfl, H0.fr⟩
set_option maxRecDepth 100000 in
theorem get_ok (s : List UInt8) (w : World) :
    Calls Try.prog 76 #[(str s)] w (fun e w' => e = .returned (.tuple #[vU32 (getV s), vN (getE s)]) ∧ Fr [] w w') := by
  refine enter (args := [(str s)]) Try.func76 rfl rfl ?_
  have H0 : Own [] w w [] := Own.start w []
  refine WC.seq ?_
  refine WC.region ?_
  refine WL.op rfl rfl (op_assign rfl ?_)
  refine WL.op rfl rfl (op_assign rfl ?_)
  refine WL.nil ?_
  refine WQ.next ?_
  refine WC.seq ?_
  refine WC.seq ?_
  refine WC.region ?_
  refine WL.op rfl rfl (op_move rfl ?_)
  refine WL.op rfl rfl (op_lenStr Try.underlying9 rfl ?_)
  refine WL.op rfl rfl (op_lssN (b := 1) rfl rfl ?_)
  refine WL.op rfl rfl (op_move rfl ?_)
  refine WL.split (t := 8) rfl (fun (hb1 : (decide (s.length < 1)) = true) => ?_) (fun (hb1 : (decide (s.length < 1)) = false) => ?_)
  ·
    have hc1 := of_decide_eq_true hb1
    refine WL.no rfl rfl rfl hb1 rfl ?_
    refine WL.no rfl rfl rfl hb1 rfl ?_
    refine WL.no rfl rfl rfl hb1 rfl ?_
    refine WL.op rfl rfl (op_pickT rfl hb1 rfl ?_)
    refine WL.nil ?_
    refine WQ.next ?_
    refine WC.yes rfl rfl ?_
    refine WC.seq ?_
    refine WC.region ?_
    refine WL.op rfl rfl (op_assign rfl ?_)
    refine WL.op rfl rfl (op_assign rfl ?_)
    refine WL.nil ?_
    refine WQ.next ?_
    refine WC.ret ?_
    refine WQ.thenRet ?_
    refine WQ.out (.tmp rfl (.tmp rfl .nil)) ?_
    exact ⟨by first | (have hk : k = s.length := (by omega); subst hk; rw [getV, getE, if_neg (by omega), if_neg (by omega)]; rfl) | (rw [getV, getE, if_pos (by omega), if_pos (by omega)]; rfl), H0.fr⟩
  ·
    have hc1 := of_decide_eq_false hb1
    refine WL.yes rfl rfl rfl hb1 rfl (op_move rfl ?_)
    refine WL.yes rfl rfl rfl hb1 rfl (op_lenStr Try.underlying9 rfl ?_)
    refine WL.yes rfl rfl rfl hb1 rfl (op_gtrN (b := 4) rfl rfl ?_)
    refine WL.op rfl rfl (op_pickF rfl hb1 rfl ?_)
    refine WL.nil ?_
    refine WQ.next ?_
    refine WC.cond rfl (fun (hb2 : (decide (s.length > 4)) = true) => ?_) (fun (hb2 : (decide (s.length > 4)) = false) => ?_)
    ·
      have hc2 := of_decide_eq_true hb2
      refine WC.seq ?_
      refine WC.region ?_
      refine WL.op rfl rfl (op_assign rfl ?_)
      refine WL.op rfl rfl (op_assign rfl ?_)
      refine WL.nil ?_
      refine WQ.next ?_
      refine WC.ret ?_
      refine WQ.thenRet ?_
      refine WQ.out (.tmp rfl (.tmp rfl .nil)) ?_
      exact ⟨by first | (have hk : k = s.length := (by omega); subst hk; rw [getV, getE, if_neg (by omega), if_neg (by omega)]; rfl) | (rw [getV, getE, if_pos (by omega), if_pos (by omega)]; rfl), H0.fr⟩
    ·
      have hc2 := of_decide_eq_false hb2
      refine WC.skip ?_
      refine WQ.next ?_
      refine WC.seq ?_
      refine WC.seq ?_
      refine WC.region ?_
      refine WL.op rfl rfl (op_move rfl ?_)
      refine WL.op rfl rfl (op_lenStr Try.underlying9 rfl ?_)
      refine WL.op rfl rfl (op_move rfl ?_)
      refine WL.nil ?_
      refine WQ.next ?_
      refine WC.block ?_
      refine WC.loop (α := Nat) (fun k => [(0, (str s)), (3, (vN 0)), (14, (vN s.length)), (15, (vN k)), (2, (vU32 (getTo s k)))]) (fun k w' => (k ≤ s.length) ∧ Own [] w w' []) (fun k => s.length - k) 0 ⟨(by omega), H0⟩ ⟨rfl, rfl, rfl, rfl, rfl, trivial⟩ ?_
      rintro k w3 ⟨hinv, H3⟩
      show WC _ _ _ _ _ [(0, (str s)), (3, (vN 0)), (14, (vN s.length)), (15, (vN k)), (2, (vU32 (getTo s k)))] _
      refine WC.seq ?_
      refine WC.region ?_
      refine WL.op rfl rfl (op_lssN rfl rfl ?_)
      refine WL.nil ?_
      refine WQ.next ?_
      refine WC.seq ?_
      refine WC.cond rfl (fun (hb4 : (decide (k < s.length)) = true) => ?_) (fun (hb4 : (decide (k < s.length)) = false) => ?_)
      ·
        have hc4 := of_decide_eq_true hb4
        refine WC.skip ?_
        refine WQ.next ?_
        refine WC.seq ?_
        refine WC.block ?_
        refine WC.seq ?_
        refine WC.region ?_
        refine WL.op rfl rfl (op_move rfl ?_)
        refine WL.op rfl rfl (op_assign rfl ?_)
        refine WL.nil ?_
        refine WQ.next ?_
        refine WC.region ?_
        refine WL.op rfl rfl (op_move rfl ?_)
        refine WL.op rfl rfl (op_move rfl ?_)
        refine WL.op rfl rfl (op_move rfl ?_)
        refine WL.op rfl rfl (op_indexStrD Try.underlying9 rfl rfl (by omega) ?_)
        refine WL.op rfl rfl (op_convU8U32 (hs := Try.underlying5) (hd := Try.underlying22) rfl ?_)
        refine WL.op rfl rfl (op_move rfl ?_)
        refine WL.op rfl rfl (op_mulN (a := 8) rfl rfl (by omega) ?_)
        refine WL.op rfl rfl (op_shlU32 rfl rfl ?_)
        refine WL.op rfl rfl (op_orU32 rfl rfl ?_)
        refine WL.op rfl rfl (op_assign rfl ?_)
        refine WL.nil ?_
        refine WQ.inNormal ?_
        refine WQ.next ?_
        refine WC.region ?_
        refine WL.op rfl rfl (op_addN (b := 1) rfl rfl (by omega) ?_)
        refine WL.op rfl rfl (op_move rfl ?_)
        refine WL.nil ?_
        exact WQ.round (k + 1) ⟨(by omega), H3⟩ ⟨rfl, rfl, rfl, rfl, rfl, trivial⟩ (by omega)
      ·
        have hc4 := of_decide_eq_false hb4
        refine WC.exit ?_
        refine WQ.thenExit ?_
        refine WQ.thenExit ?_
        refine WQ.inHere ?_
        refine WQ.next ?_
        refine WC.seq ?_
        refine WC.region ?_
        refine WL.op rfl rfl (op_move rfl ?_)
        refine WL.op rfl rfl (op_assign rfl ?_)
        refine WL.op rfl rfl (op_assign rfl ?_)
        refine WL.nil ?_
        refine WQ.next ?_
        refine WC.ret ?_
        refine WQ.out (.tmp rfl (.tmp rfl .nil)) ?_
        exact ⟨by first | (have hk : k = s.length := (by omega); subst hk; rw [getV, getE, if_neg (by omega), if_neg (by omega)]; rfl) | (rw [getV, getE, if_pos (by omega), if_pos (by omega)]; rfl), H3.fr⟩
set_option maxRecDepth 100000 in
theorem put_ok (v : UInt32) (n : Int) (w : World) :
    Calls Try.prog 73 #[(vU32 v), (vI n)] w (fun e w' => e = .returned (.tuple #[str (numS v n), vN (numE v n)]) ∧ Fr [] w w') := by
  refine enter (args := [(vU32 v), (vI n)]) Try.func73 rfl rfl ?_
  have H0 : Own [] w w [] := Own.start w []
  refine WC.seq ?_
  refine WC.region ?_
  refine WL.op rfl rfl (op_assign rfl ?_)
  refine WL.op rfl rfl (op_assign rfl ?_)
  refine WL.nil ?_
  refine WQ.next ?_
  refine WC.seq ?_
  refine WC.block ?_
  refine WC.seq ?_
  refine WC.region ?_
  refine WL.op rfl rfl (op_move rfl ?_)
  refine WL.op rfl rfl (op_lssI (b := (1 : Int)) rfl rfl ?_)
  refine WL.op rfl rfl (op_move rfl ?_)
  refine WL.split (t := 9) rfl (fun (hb1 : (decide (n < (1 : Int))) = true) => ?_) (fun (hb1 : (decide (n < (1 : Int))) = false) => ?_)
  ·
    have hc1 := of_decide_eq_true hb1
    refine WL.no rfl rfl rfl hb1 rfl ?_
    refine WL.no rfl rfl rfl hb1 rfl ?_
    refine WL.op rfl rfl (op_pickT rfl hb1 rfl ?_)
    refine WL.op rfl rfl (op_assign rfl ?_)
    refine WL.nil ?_
    refine WQ.next ?_
    refine WC.yes rfl rfl ?_
    refine WC.seq ?_
    refine WC.region ?_
    refine WL.op rfl rfl (op_assign rfl ?_)
    refine WL.op rfl rfl (op_assign rfl ?_)
    refine WL.nil ?_
    refine WQ.next ?_
    refine WC.ret ?_
    refine WQ.inRet ?_
    refine WQ.thenRet ?_
    refine WQ.out (.tmp rfl (.tmp rfl .nil)) ?_
    rw [numS, numE, if_pos (show n < 1 ∨ n > 4 from by omega), if_neg (by decide)]
    exact ⟨rfl, H0.fr⟩
  ·
    have hc1 := of_decide_eq_false hb1
    refine WL.yes rfl rfl rfl hb1 rfl (op_move rfl ?_)
    refine WL.yes rfl rfl rfl hb1 rfl (op_gtrI (b := (4 : Int)) rfl rfl ?_)
    refine WL.op rfl rfl (op_pickF rfl hb1 rfl ?_)
    refine WL.op rfl rfl (op_assign rfl ?_)
    refine WL.nil ?_
    refine WQ.next ?_
    refine WC.cond rfl (fun (hb2 : (decide (n > (4 : Int))) = true) => ?_) (fun (hb2 : (decide (n > (4 : Int))) = false) => ?_)
    ·
      have hc2 := of_decide_eq_true hb2
      refine WC.seq ?_
      refine WC.region ?_
      refine WL.op rfl rfl (op_assign rfl ?_)
      refine WL.op rfl rfl (op_assign rfl ?_)
      refine WL.nil ?_
      refine WQ.next ?_
      refine WC.ret ?_
      refine WQ.inRet ?_
      refine WQ.thenRet ?_
      refine WQ.out (.tmp rfl (.tmp rfl .nil)) ?_
      rw [numS, numE, if_pos (show n < 1 ∨ n > 4 from by omega), if_neg (by decide)]
      exact ⟨rfl, H0.fr⟩
    ·
      have hc2 := of_decide_eq_false hb2
      obtain ⟨m, rfl⟩ : ∃ m : Nat, n = (m : Int) := ⟨n.toNat, by omega⟩
      refine WC.seq ?_
      refine WC.region ?_
      refine WL.op rfl rfl (op_move rfl ?_)
      refine WL.op rfl rfl (op_lssN (b := 4) rfl rfl ?_)
      refine WL.op rfl rfl (op_move rfl ?_)
      refine WL.split (t := 16) rfl (fun (hb3 : (decide (m < 4)) = true) => ?_) (fun (hb3 : (decide (m < 4)) = false) => ?_)
      ·
        have hc3 := of_decide_eq_true hb3
        refine WL.yes rfl rfl rfl hb3 rfl (op_move rfl ?_)
        refine WL.yes rfl rfl rfl hb3 rfl (op_move rfl ?_)
        refine WL.yes rfl rfl rfl hb3 rfl (op_mulN (a := 8) rfl rfl (by omega) ?_)
        refine WL.yes rfl rfl rfl hb3 rfl (op_shrU32 rfl rfl ?_)
        refine WL.yes rfl rfl rfl hb3 rfl (op_neqU32 (b := 0) rfl rfl ?_)
        refine WL.op rfl rfl (op_pickT rfl hb3 rfl ?_)
        refine WL.op rfl rfl (op_assign rfl ?_)
        refine WL.nil ?_
        refine WQ.next ?_
        refine WC.cond rfl (fun (hb4 : (decide ((shrU32 v (8 * m)) ≠ (0 : UInt32))) = true) => ?_) (fun (hb4 : (decide ((shrU32 v (8 * m)) ≠ (0 : UInt32))) = false) => ?_)
        ·
          have hc4 := of_decide_eq_true hb4
          refine WC.seq ?_
          refine WC.region ?_
          refine WL.op rfl rfl (op_assign rfl ?_)
          refine WL.op rfl rfl (op_assign rfl ?_)
          refine WL.nil ?_
          refine WQ.next ?_
          refine WC.ret ?_
          refine WQ.inRet ?_
          refine WQ.thenRet ?_
          refine WQ.out (.tmp rfl (.tmp rfl .nil)) ?_
          rw [numS, numE, if_neg (show ¬ ((m : Int) < 1 ∨ (m : Int) > 4) from by omega), Int.toNat_natCast, if_pos (show rV v m ≠ 0 from by rw [← rV_shr]; exact hc4), if_neg (by decide)]
          exact ⟨rfl, H0.fr⟩
        ·
          have hc4 := of_decide_eq_false hb4
          refine WC.skip ?_
          refine WQ.inNormal ?_
          refine WQ.next ?_
          refine WC.seq ?_
          refine WC.region ?_
          refine WL.op rfl rfl (op_move rfl ?_)
          refine WL.op rfl rfl (op_convU32U8 (hs := Try.underlying22) (hd := Try.underlying5) rfl ?_)
          refine WL.op rfl rfl (op_move rfl ?_)
          refine WL.op rfl rfl (op_shrU32 (s := 8) rfl rfl ?_)
          refine WL.op rfl rfl (op_convU32U8 (hs := Try.underlying22) (hd := Try.underlying5) rfl ?_)
          refine WL.op rfl rfl (op_move rfl ?_)
          refine WL.op rfl rfl (op_shrU32 (s := 16) rfl rfl ?_)
          refine WL.op rfl rfl (op_convU32U8 (hs := Try.underlying22) (hd := Try.underlying5) rfl ?_)
          refine WL.op rfl rfl (op_move rfl ?_)
          refine WL.op rfl rfl (op_shrU32 (s := 24) rfl rfl ?_)
          refine WL.op rfl rfl (op_convU32U8 (hs := Try.underlying22) (hd := Try.underlying5) rfl ?_)
          refine WL.op rfl rfl (op_buildSlice (cs := [_, _, _, _]) H0 Try.underlying73 Fa.I5 rfl rfl rfl rfl (by decide) (by decide) (fun b5 w5 H5 => ?_))
          refine WL.op rfl rfl (op_move rfl ?_)
          refine WL.op rfl rfl (op_cutHi Try.underlying73 Fa.I5 rfl (H5.arrR (i := 0) rfl) rfl (by omega) ?_)
          refine WL.op rfl rfl (op_callF Fa.C117 rfl ((text_ok _ _ (([(UInt8.ofNat v.toNat), (UInt8.ofNat (shrU32 v 8).toNat), (UInt8.ofNat (shrU32 v 16).toNat), (UInt8.ofNat (shrU32 v 24).toNat)].take m)) _ (((H5.arrR (i := 0) rfl)).cutHiM (f := vU8) (l := [(UInt8.ofNat v.toNat), (UInt8.ofNat (shrU32 v 8).toNat), (UInt8.ofNat (shrU32 v 16).toNat), (UInt8.ofNat (shrU32 v 24).toNat)]) (b := m) (by omega))).mono (fun e w6 hq => ?_)))
          obtain ⟨rfl, hf6⟩ := hq
          refine ⟨_, rfl, ?_⟩
          have H6 := H5.fr' hf6
          refine WL.op rfl rfl (op_assign rfl ?_)
          refine WL.op rfl rfl (op_assign rfl ?_)
          refine WL.nil ?_
          refine WQ.next ?_
          refine WC.ret ?_
          refine WQ.out (.tmp rfl (.tmp rfl .nil)) ?_
          rw [numS, numE, if_neg (show ¬ ((m : Int) < 1 ∨ (m : Int) > 4) from by omega), Int.toNat_natCast, if_neg (show ¬ (rV v m ≠ 0) from fun h => h (by rw [← rV_shr]; exact Decidable.not_not.mp hc4)), if_pos rfl, ← rB_take v (by omega)]
          exact ⟨rfl, H6.fr⟩
      ·
        have hc3 := of_decide_eq_false hb3
        refine WL.no rfl rfl rfl hb3 rfl ?_
        refine WL.no rfl rfl rfl hb3 rfl ?_
        refine WL.no rfl rfl rfl hb3 rfl ?_
        refine WL.no rfl rfl rfl hb3 rfl ?_
        refine WL.no rfl rfl rfl hb3 rfl ?_
        refine WL.op rfl rfl (op_pickF rfl hb3 rfl ?_)
        refine WL.op rfl rfl (op_assign rfl ?_)
        refine WL.nil ?_
        refine WQ.next ?_
        refine WC.no rfl rfl ?_
        refine WC.skip ?_
        refine WQ.inNormal ?_
        refine WQ.next ?_
        refine WC.seq ?_
        refine WC.region ?_
        refine WL.op rfl rfl (op_move rfl ?_)
        refine WL.op rfl rfl (op_convU32U8 (hs := Try.underlying22) (hd := Try.underlying5) rfl ?_)
        refine WL.op rfl rfl (op_move rfl ?_)
        refine WL.op rfl rfl (op_shrU32 (s := 8) rfl rfl ?_)
        refine WL.op rfl rfl (op_convU32U8 (hs := Try.underlying22) (hd := Try.underlying5) rfl ?_)
        refine WL.op rfl rfl (op_move rfl ?_)
        refine WL.op rfl rfl (op_shrU32 (s := 16) rfl rfl ?_)
        refine WL.op rfl rfl (op_convU32U8 (hs := Try.underlying22) (hd := Try.underlying5) rfl ?_)
        refine WL.op rfl rfl (op_move rfl ?_)
        refine WL.op rfl rfl (op_shrU32 (s := 24) rfl rfl ?_)
        refine WL.op rfl rfl (op_convU32U8 (hs := Try.underlying22) (hd := Try.underlying5) rfl ?_)
        refine WL.op rfl rfl (op_buildSlice (cs := [_, _, _, _]) H0 Try.underlying73 Fa.I5 rfl rfl rfl rfl (by decide) (by decide) (fun b7 w7 H7 => ?_))
        refine WL.op rfl rfl (op_move rfl ?_)
        refine WL.op rfl rfl (op_cutHi Try.underlying73 Fa.I5 rfl (H7.arrR (i := 0) rfl) rfl (by omega) ?_)
        refine WL.op rfl rfl (op_callF Fa.C117 rfl ((text_ok _ _ (([(UInt8.ofNat v.toNat), (UInt8.ofNat (shrU32 v 8).toNat), (UInt8.ofNat (shrU32 v 16).toNat), (UInt8.ofNat (shrU32 v 24).toNat)].take m)) _ (((H7.arrR (i := 0) rfl)).cutHiM (f := vU8) (l := [(UInt8.ofNat v.toNat), (UInt8.ofNat (shrU32 v 8).toNat), (UInt8.ofNat (shrU32 v 16).toNat), (UInt8.ofNat (shrU32 v 24).toNat)]) (b := m) (by omega))).mono (fun e w8 hq => ?_)))
        obtain ⟨rfl, hf8⟩ := hq
        refine ⟨_, rfl, ?_⟩
        have H8 := H7.fr' hf8
        refine WL.op rfl rfl (op_assign rfl ?_)
        refine WL.op rfl rfl (op_assign rfl ?_)
        refine WL.nil ?_
        refine WQ.next ?_
        refine WC.ret ?_
        refine WQ.out (.tmp rfl (.tmp rfl .nil)) ?_
        rw [numS, numE, if_neg (show ¬ ((m : Int) < 1 ∨ (m : Int) > 4) from by omega), Int.toNat_natCast, if_neg (show ¬ (rV v m ≠ 0) from fun h => h (by rw [show m = 4 from by omega]; exact rV_4 v)), if_pos rfl, ← rB_take v (by omega)]
        exact ⟨rfl, H8.fr⟩
set_option maxRecDepth 100000 in
theorem num_ok (v : UInt32) (n : Int) (w : World) :
    Calls Try.prog 17 #[(vU32 v), (vI n)] w (fun e w' => e = .returned (.tuple #[str (numS v n), vN (numE v n)]) ∧ Fr [] w w') := by
  refine enter (args := [(vU32 v), (vI n)]) Try.func17 rfl rfl ?_
  have H0 : Own [] w w [] := Own.start w []
  refine WC.seq ?_
  refine WC.region ?_
  refine WL.op rfl rfl (op_assign rfl ?_)
  refine WL.op rfl rfl (op_assign rfl ?_)
  refine WL.nil ?_
  refine WQ.next ?_
  refine WC.seq ?_
  refine WC.block ?_
  refine WC.seq ?_
  refine WC.region ?_
  refine WL.op rfl rfl (op_move rfl ?_)
  refine WL.op rfl rfl (op_lssI (b := (1 : Int)) rfl rfl ?_)
  refine WL.op rfl rfl (op_move rfl ?_)
  refine WL.split (t := 9) rfl (fun (hb1 : (decide (n < (1 : Int))) = true) => ?_) (fun (hb1 : (decide (n < (1 : Int))) = false) => ?_)
  ·
    have hc1 := of_decide_eq_true hb1
    refine WL.no rfl rfl rfl hb1 rfl ?_
    refine WL.no rfl rfl rfl hb1 rfl ?_
    refine WL.op rfl rfl (op_pickT rfl hb1 rfl ?_)
    refine WL.op rfl rfl (op_assign rfl ?_)
    refine WL.nil ?_
    refine WQ.next ?_
    refine WC.yes rfl rfl ?_
    refine WC.seq ?_
    refine WC.region ?_
    refine WL.op rfl rfl (op_assign rfl ?_)
    refine WL.op rfl rfl (op_assign rfl ?_)
    refine WL.nil ?_
    refine WQ.next ?_
    refine WC.ret ?_
    refine WQ.inRet ?_
    refine WQ.thenRet ?_
    refine WQ.out (.tmp rfl (.tmp rfl .nil)) ?_
    rw [numS, numE, if_pos (show n < 1 ∨ n > 4 from by omega), if_neg (by decide)]
    exact ⟨rfl, H0.fr⟩
  ·
    have hc1 := of_decide_eq_false hb1
    refine WL.yes rfl rfl rfl hb1 rfl (op_move rfl ?_)
    refine WL.yes rfl rfl rfl hb1 rfl (op_gtrI (b := (4 : Int)) rfl rfl ?_)
    refine WL.op rfl rfl (op_pickF rfl hb1 rfl ?_)
    refine WL.op rfl rfl (op_assign rfl ?_)
    refine WL.nil ?_
    refine WQ.next ?_
    refine WC.cond rfl (fun (hb2 : (decide (n > (4 : Int))) = true) => ?_) (fun (hb2 : (decide (n > (4 : Int))) = false) => ?_)
    ·
      have hc2 := of_decide_eq_true hb2
      refine WC.seq ?_
      refine WC.region ?_
      refine WL.op rfl rfl (op_assign rfl ?_)
      refine WL.op rfl rfl (op_assign rfl ?_)
      refine WL.nil ?_
      refine WQ.next ?_
      refine WC.ret ?_
      refine WQ.inRet ?_
      refine WQ.thenRet ?_
      refine WQ.out (.tmp rfl (.tmp rfl .nil)) ?_
      rw [numS, numE, if_pos (show n < 1 ∨ n > 4 from by omega), if_neg (by decide)]
      exact ⟨rfl, H0.fr⟩
    ·
      have hc2 := of_decide_eq_false hb2
      obtain ⟨m, rfl⟩ : ∃ m : Nat, n = (m : Int) := ⟨n.toNat, by omega⟩
      refine WC.seq ?_
      refine WC.region ?_
      refine WL.op rfl rfl (op_move rfl ?_)
      refine WL.op rfl rfl (op_lssN (b := 4) rfl rfl ?_)
      refine WL.op rfl rfl (op_move rfl ?_)
      refine WL.split (t := 16) rfl (fun (hb3 : (decide (m < 4)) = true) => ?_) (fun (hb3 : (decide (m < 4)) = false) => ?_)
      ·
        have hc3 := of_decide_eq_true hb3
        refine WL.yes rfl rfl rfl hb3 rfl (op_move rfl ?_)
        refine WL.yes rfl rfl rfl hb3 rfl (op_move rfl ?_)
        refine WL.yes rfl rfl rfl hb3 rfl (op_mulN (a := 8) rfl rfl (by omega) ?_)
        refine WL.yes rfl rfl rfl hb3 rfl (op_shrU32 rfl rfl ?_)
        refine WL.yes rfl rfl rfl hb3 rfl (op_neqU32 (b := 0) rfl rfl ?_)
        refine WL.op rfl rfl (op_pickT rfl hb3 rfl ?_)
        refine WL.op rfl rfl (op_assign rfl ?_)
        refine WL.nil ?_
        refine WQ.next ?_
        refine WC.cond rfl (fun (hb4 : (decide ((shrU32 v (8 * m)) ≠ (0 : UInt32))) = true) => ?_) (fun (hb4 : (decide ((shrU32 v (8 * m)) ≠ (0 : UInt32))) = false) => ?_)
        ·
          have hc4 := of_decide_eq_true hb4
          refine WC.seq ?_
          refine WC.region ?_
          refine WL.op rfl rfl (op_assign rfl ?_)
          refine WL.op rfl rfl (op_assign rfl ?_)
          refine WL.nil ?_
          refine WQ.next ?_
          refine WC.ret ?_
          refine WQ.inRet ?_
          refine WQ.thenRet ?_
          refine WQ.out (.tmp rfl (.tmp rfl .nil)) ?_
          rw [numS, numE, if_neg (show ¬ ((m : Int) < 1 ∨ (m : Int) > 4) from by omega), Int.toNat_natCast, if_pos (show rV v m ≠ 0 from by rw [← rV_shr]; exact hc4), if_neg (by decide)]
          exact ⟨rfl, H0.fr⟩
        ·
          have hc4 := of_decide_eq_false hb4
          refine WC.skip ?_
          refine WQ.inNormal ?_
          refine WQ.next ?_
          refine WC.seq ?_
          refine WC.region ?_
          refine WL.op rfl rfl (op_move rfl ?_)
          refine WL.op rfl rfl (op_move rfl ?_)
          refine WL.op rfl rfl (op_callF Fa.C73 rfl ((put_ok v ((m : Nat)) _).mono (fun e w5 hq => ?_)))
          obtain ⟨rfl, hf5⟩ := hq
          refine ⟨_, rfl, ?_⟩
          have H5 := H0.fr' hf5
          refine WL.op rfl rfl (op_extract rfl rfl ?_)
          refine WL.op rfl rfl (op_extract rfl rfl ?_)
          refine WL.op rfl rfl (op_assign rfl ?_)
          refine WL.op rfl rfl (op_assign rfl ?_)
          refine WL.nil ?_
          refine WQ.next ?_
          refine WC.ret ?_
          refine WQ.out (.tmp rfl (.tmp rfl .nil)) ?_
          exact ⟨rfl, H5.fr⟩
      ·
        have hc3 := of_decide_eq_false hb3
        refine WL.no rfl rfl rfl hb3 rfl ?_
        refine WL.no rfl rfl rfl hb3 rfl ?_
        refine WL.no rfl rfl rfl hb3 rfl ?_
        refine WL.no rfl rfl rfl hb3 rfl ?_
        refine WL.no rfl rfl rfl hb3 rfl ?_
        refine WL.op rfl rfl (op_pickF rfl hb3 rfl ?_)
        refine WL.op rfl rfl (op_assign rfl ?_)
        refine WL.nil ?_
        refine WQ.next ?_
        refine WC.no rfl rfl ?_
        refine WC.skip ?_
        refine WQ.inNormal ?_
        refine WQ.next ?_
        refine WC.seq ?_
        refine WC.region ?_
        refine WL.op rfl rfl (op_move rfl ?_)
        refine WL.op rfl rfl (op_move rfl ?_)
        refine WL.op rfl rfl (op_callF Fa.C73 rfl ((put_ok v ((m : Nat)) _).mono (fun e w6 hq => ?_)))
        obtain ⟨rfl, hf6⟩ := hq
        refine ⟨_, rfl, ?_⟩
        have H6 := H0.fr' hf6
        refine WL.op rfl rfl (op_extract rfl rfl ?_)
        refine WL.op rfl rfl (op_extract rfl rfl ?_)
        refine WL.op rfl rfl (op_assign rfl ?_)
        refine WL.op rfl rfl (op_assign rfl ?_)
        refine WL.nil ?_
        refine WQ.next ?_
        refine WC.ret ?_
        refine WQ.out (.tmp rfl (.tmp rfl .nil)) ?_
        exact ⟨rfl, H6.fr⟩
set_option maxRecDepth 100000 in
theorem rnum_ok (v : UInt32) (n : Int) (w : World) :
    Calls Try.prog 18 #[(vU32 v), (vI n)] w (fun e w' => e = .returned (.tuple #[str (numS v n), vN (numE v n)]) ∧ Fr [] w w') := by
  refine enter (args := [(vU32 v), (vI n)]) Try.func18 rfl rfl ?_
  have H0 : Own [] w w [] := Own.start w []
  refine WC.seq ?_
  refine WC.region ?_
  refine WL.op rfl rfl (op_assign rfl ?_)
  refine WL.op rfl rfl (op_assign rfl ?_)
  refine WL.nil ?_
  refine WQ.next ?_
  refine WC.seq ?_
  refine WC.seq ?_
  refine WC.region ?_
  refine WL.op rfl rfl (op_move rfl ?_)
  refine WL.op rfl rfl (op_lssI (b := (1 : Int)) rfl rfl ?_)
  refine WL.op rfl rfl (op_move rfl ?_)
  refine WL.split (t := 10) rfl (fun (hb1 : (decide (n < (1 : Int))) = true) => ?_) (fun (hb1 : (decide (n < (1 : Int))) = false) => ?_)
  ·
    have hc1 := of_decide_eq_true hb1
    refine WL.no rfl rfl rfl hb1 rfl ?_
    refine WL.no rfl rfl rfl hb1 rfl ?_
    refine WL.op rfl rfl (op_pickT rfl hb1 rfl ?_)
    refine WL.nil ?_
    refine WQ.next ?_
    refine WC.yes rfl rfl ?_
    refine WC.seq ?_
    refine WC.region ?_
    refine WL.op rfl rfl (op_assign rfl ?_)
    refine WL.op rfl rfl (op_assign rfl ?_)
    refine WL.nil ?_
    refine WQ.next ?_
    refine WC.ret ?_
    refine WQ.thenRet ?_
    refine WQ.out (.tmp rfl (.tmp rfl .nil)) ?_
    rw [numS, numE, if_pos (show n < 1 ∨ n > 4 from by omega), if_neg (by decide)]
    exact ⟨rfl, H0.fr⟩
  ·
    have hc1 := of_decide_eq_false hb1
    refine WL.yes rfl rfl rfl hb1 rfl (op_move rfl ?_)
    refine WL.yes rfl rfl rfl hb1 rfl (op_gtrI (b := (4 : Int)) rfl rfl ?_)
    refine WL.op rfl rfl (op_pickF rfl hb1 rfl ?_)
    refine WL.nil ?_
    refine WQ.next ?_
    refine WC.cond rfl (fun (hb2 : (decide (n > (4 : Int))) = true) => ?_) (fun (hb2 : (decide (n > (4 : Int))) = false) => ?_)
    ·
      have hc2 := of_decide_eq_true hb2
      refine WC.seq ?_
      refine WC.region ?_
      refine WL.op rfl rfl (op_assign rfl ?_)
      refine WL.op rfl rfl (op_assign rfl ?_)
      refine WL.nil ?_
      refine WQ.next ?_
      refine WC.ret ?_
      refine WQ.thenRet ?_
      refine WQ.out (.tmp rfl (.tmp rfl .nil)) ?_
      rw [numS, numE, if_pos (show n < 1 ∨ n > 4 from by omega), if_neg (by decide)]
      exact ⟨rfl, H0.fr⟩
    ·
      have hc2 := of_decide_eq_false hb2
      obtain ⟨m, rfl⟩ : ∃ m : Nat, n = (m : Int) := ⟨n.toNat, by omega⟩
      refine WC.skip ?_
      refine WQ.next ?_
      refine WC.seq ?_
      refine WC.region ?_
      refine WL.op rfl rfl (op_assign rfl ?_)
      have H3 := H0.nilRow 5 1
      refine WL.nil ?_
      refine WQ.next ?_
      refine WC.seq ?_
      refine WC.seq ?_
      refine WC.region ?_
      refine WL.op rfl rfl (op_assign rfl ?_)
      refine WL.nil ?_
      refine WQ.next ?_
      refine WC.block ?_
      refine WC.loop (α := Nat × Value) (fun (k, q) => [(1, (vN m)), (7, (vN k)), (0, (vU32 (rV v k))), (6, q)]) (fun (k, q) w' => (k ≤ m) ∧ Own [] w w' [.row q 5 1 k (List.map vU8 (rB v k))]) (fun (k, q) => m - k) (0, (.slice none 0 0)) ⟨(by omega), H3⟩ ⟨rfl, rfl, rfl, rfl, trivial⟩ ?_
      rintro ⟨k, q⟩ w4 ⟨hinv, H4⟩
      show WC _ _ _ _ _ [(1, (vN m)), (7, (vN k)), (0, (vU32 (rV v k))), (6, q)] _
      refine WC.seq ?_
      refine WC.seq ?_
      refine WC.region ?_
      refine WL.op rfl rfl (op_move rfl ?_)
      refine WL.op rfl rfl (op_move rfl ?_)
      refine WL.op rfl rfl (op_lssN rfl rfl ?_)
      refine WL.nil ?_
      refine WQ.next ?_
      refine WC.cond rfl (fun (hb5 : (decide (k < m)) = true) => ?_) (fun (hb5 : (decide (k < m)) = false) => ?_)
      ·
        have hc5 := of_decide_eq_true hb5
        refine WC.skip ?_
        refine WQ.next ?_
        refine WC.seq ?_
        refine WC.block ?_
        refine WC.seq ?_
        refine WC.region ?_
        refine WL.op rfl rfl (op_move rfl ?_)
        refine WL.op rfl rfl (op_move rfl ?_)
        refine WL.op rfl rfl (op_remU32 (b := 256) rfl rfl (by decide) ?_)
        refine WL.op rfl rfl (op_convU32U8 (hs := Try.underlying22) (hd := Try.underlying5) rfl ?_)
        refine WL.op rfl rfl (op_buildSlice (cs := [_]) H4 Try.underlying73 Fa.I5 rfl rfl rfl rfl (by decide) (by decide) (fun b6 w6 H6 => ?_))
        refine WL.op rfl rfl (op_appendM (f := vU8) (l := (rB v k)) (l' := [(UInt8.ofNat ((rV v k) % (256 : UInt32)).toNat)]) (i := 0) H6 Try.underlying73 Fa.I5 rfl rfl rfl rfl (Src.ofArr Try.underlying73 (H6.arrR (i := 1) rfl)) (one_mapM (fun _ => rfl)) (by omega) (by omega) (fun v7 w7 H7 => ?_))
        refine WL.op rfl rfl (op_assign rfl ?_)
        refine WL.nil ?_
        refine WQ.next ?_
        refine WC.region ?_
        refine WL.op rfl rfl (op_move rfl ?_)
        refine WL.op rfl rfl (op_quoU32 (b := 256) rfl rfl (by decide) ?_)
        refine WL.op rfl rfl (op_assign rfl ?_)
        refine WL.nil ?_
        refine WQ.inNormal ?_
        refine WQ.next ?_
        refine WC.region ?_
        refine WL.op rfl rfl (op_move rfl ?_)
        refine WL.op rfl rfl (op_addN (b := 1) rfl rfl (by omega) ?_)
        refine WL.op rfl rfl (op_assign rfl ?_)
        refine WL.nil ?_
        exact WQ.round (k + 1, v7) ⟨(by omega), (H7.take 1)⟩ ⟨rfl, rfl, rfl, rfl, trivial⟩ (by show m - (k + 1) < m - k; omega)
      ·
        have hc5 := of_decide_eq_false hb5
        refine WC.exit ?_
        refine WQ.thenExit ?_
        refine WQ.thenExit ?_
        refine WQ.inHere ?_
        refine WQ.next ?_
        refine WC.seq ?_
        refine WC.seq ?_
        refine WC.region ?_
        refine WL.op rfl rfl (op_move rfl ?_)
        refine WL.op rfl rfl (op_neqU32 (b := 0) rfl rfl ?_)
        refine WL.nil ?_
        refine WQ.next ?_
        refine WC.cond rfl (fun (hb8 : (decide ((rV v k) ≠ (0 : UInt32))) = true) => ?_) (fun (hb8 : (decide ((rV v k) ≠ (0 : UInt32))) = false) => ?_)
        ·
          have hc8 := of_decide_eq_true hb8
          refine WC.seq ?_
          refine WC.region ?_
          refine WL.op rfl rfl (op_assign rfl ?_)
          refine WL.op rfl rfl (op_assign rfl ?_)
          refine WL.nil ?_
          refine WQ.next ?_
          refine WC.ret ?_
          refine WQ.thenRet ?_
          refine WQ.out (.tmp rfl (.tmp rfl .nil)) ?_
          have hk : k = m := (by omega)
          subst hk
          rw [numS, numE, if_neg (show ¬ ((k : Int) < 1 ∨ (k : Int) > 4) from by omega), Int.toNat_natCast, if_pos hc8, if_neg (by decide)]
          exact ⟨rfl, H4.fr⟩
        ·
          have hc8 := of_decide_eq_false hb8
          refine WC.skip ?_
          refine WQ.next ?_
          refine WC.seq ?_
          refine WC.region ?_
          refine WL.op rfl rfl (op_move rfl ?_)
          refine WL.op rfl rfl (op_bytesStr (l := (rB v k)) Try.underlying73 Try.underlying5 Try.underlying9 rfl (H4.arrR (i := 0) rfl) rfl ?_)
          refine WL.op rfl rfl (op_assign rfl ?_)
          refine WL.op rfl rfl (op_assign rfl ?_)
          refine WL.nil ?_
          refine WQ.next ?_
          refine WC.ret ?_
          refine WQ.out (.tmp rfl (.tmp rfl .nil)) ?_
          have hk : k = m := (by omega)
          subst hk
          rw [numS, numE, if_neg (show ¬ ((k : Int) < 1 ∨ (k : Int) > 4) from by omega), Int.toNat_natCast, if_neg hc8, if_pos rfl]
          exact ⟨rfl, H4.fr⟩
set_option maxRecDepth 100000 in
theorem ptext_ok (s : List UInt8) (w : World) (hs : s.length < 2 ^ 47) :
    Calls Try.prog 19 #[(str s)] w (fun e w' => e = .returned (.tuple #[str (txS s), vN (txE s)]) ∧ Fr [] w w') := by
  refine enter (args := [(str s)]) Try.func19 rfl rfl ?_
  have H0 : Own [] w w [] := Own.start w []
  have he := numE_2 (n := min s.length 65536) (by omega)
  refine WC.seq ?_
  refine WC.region ?_
  refine WL.op rfl rfl (op_assign rfl ?_)
  refine WL.op rfl rfl (op_assign rfl ?_)
  refine WL.nil ?_
  refine WQ.next ?_
  refine WC.seq ?_
  refine WC.region ?_
  refine WL.op rfl rfl (op_move rfl ?_)
  refine WL.op rfl rfl (op_lenStr Try.underlying9 rfl ?_)
  refine WL.op rfl rfl (op_minN (b := 65536) rfl rfl ?_)
  refine WL.op rfl rfl (op_convNU32 (hs := Try.underlying3) (hd := Try.underlying22) rfl ?_)
  refine WL.op rfl rfl (op_callF Fa.C17 rfl ((num_ok (UInt32.ofNat (min s.length 65536)) (2) _).mono (fun e w1 hq => ?_)))
  obtain ⟨rfl, hf1⟩ := hq
  refine ⟨_, rfl, ?_⟩
  have H1 := H0.fr' hf1
  refine WL.op rfl rfl (op_move rfl ?_)
  refine WL.op rfl rfl (op_extract rfl rfl ?_)
  refine WL.op rfl rfl (op_extract rfl rfl ?_)
  refine WL.op rfl rfl (op_assign rfl ?_)
  refine WL.op rfl rfl (op_assign rfl ?_)
  refine WL.nil ?_
  refine WQ.next ?_
  refine WC.seq ?_
  refine WC.seq ?_
  refine WC.region ?_
  refine WL.op rfl rfl (op_move rfl ?_)
  refine WL.op rfl rfl (op_neqN (b := 0) rfl rfl ?_)
  refine WL.nil ?_
  refine WQ.next ?_
  refine WC.cond rfl (fun (hb2 : (decide ((numE (UInt32.ofNat (min s.length 65536)) 2) ≠ 0)) = true) => ?_) (fun (hb2 : (decide ((numE (UInt32.ofNat (min s.length 65536)) 2) ≠ 0)) = false) => ?_)
  ·
    have hc2 := of_decide_eq_true hb2
    refine WC.seq ?_
    refine WC.region ?_
    refine WL.op rfl rfl (op_move rfl ?_)
    refine WL.op rfl rfl (op_assign rfl ?_)
    refine WL.op rfl rfl (op_assign rfl ?_)
    refine WL.nil ?_
    refine WQ.next ?_
    refine WC.ret ?_
    refine WQ.thenRet ?_
    refine WQ.out (.tmp rfl (.tmp rfl .nil)) ?_
    rw [he] at hc2
    rw [he, txS, txE, if_pos (by split at hc2 <;> omega), if_pos (by split at hc2 <;> omega)]
    exact ⟨by rw [if_pos (by split at hc2 <;> omega)]; rfl, H1.fr⟩
  ·
    have hc2 := of_decide_eq_false hb2
    refine WC.skip ?_
    refine WQ.next ?_
    refine WC.seq ?_
    refine WC.region ?_
    refine WL.op rfl rfl (op_move rfl ?_)
    refine WL.op rfl rfl (op_move rfl ?_)
    refine WL.op rfl rfl (op_addStr rfl rfl (by have := numE_len (UInt32.ofNat (min s.length 65536)) 2; omega) ?_)
    refine WL.op rfl rfl (op_assign rfl ?_)
    refine WL.op rfl rfl (op_assign rfl ?_)
    refine WL.nil ?_
    refine WQ.next ?_
    refine WC.ret ?_
    refine WQ.out (.tmp rfl (.tmp rfl .nil)) ?_
    rw [he] at hc2
    have hl : ¬ s.length > 65535 := by split at hc2 <;> omega
    rw [txS, txE, if_neg hl, if_neg hl, numS, if_pos (by rw [he, if_neg (by omega)]), show min s.length 65536 = s.length from by omega]
    exact ⟨rfl, H1.fr⟩
set_option maxRecDepth 100000 in
theorem rtext_ok (s : List UInt8) (w : World) (hs : s.length < 2 ^ 47) :
    Calls Try.prog 20 #[(str s)] w (fun e w' => e = .returned (.tuple #[str (txS s), vN (txE s)]) ∧ Fr [] w w') := by
  refine enter (args := [(str s)]) Try.func20 rfl rfl ?_
  have H0 : Own [] w w [] := Own.start w []
  refine WC.seq ?_
  refine WC.region ?_
  refine WL.op rfl rfl (op_assign rfl ?_)
  refine WL.op rfl rfl (op_assign rfl ?_)
  refine WL.nil ?_
  refine WQ.next ?_
  refine WC.seq ?_
  refine WC.seq ?_
  refine WC.region ?_
  refine WL.op rfl rfl (op_move rfl ?_)
  refine WL.op rfl rfl (op_lenStr Try.underlying9 rfl ?_)
  refine WL.op rfl rfl (op_gtrN (b := 65535) rfl rfl ?_)
  refine WL.nil ?_
  refine WQ.next ?_
  refine WC.cond rfl (fun (hb1 : (decide (s.length > 65535)) = true) => ?_) (fun (hb1 : (decide (s.length > 65535)) = false) => ?_)
  ·
    have hc1 := of_decide_eq_true hb1
    refine WC.seq ?_
    refine WC.region ?_
    refine WL.op rfl rfl (op_assign rfl ?_)
    refine WL.op rfl rfl (op_assign rfl ?_)
    refine WL.nil ?_
    refine WQ.next ?_
    refine WC.ret ?_
    refine WQ.thenRet ?_
    refine WQ.out (.tmp rfl (.tmp rfl .nil)) ?_
    rw [txS, txE, if_pos hc1, if_pos hc1]
    exact ⟨rfl, H0.fr⟩
  ·
    have hc1 := of_decide_eq_false hb1
    refine WC.skip ?_
    refine WQ.next ?_
    refine WC.seq ?_
    refine WC.region ?_
    refine WL.op rfl rfl (op_move rfl ?_)
    refine WL.op rfl rfl (op_lenStr Try.underlying9 rfl ?_)
    refine WL.op rfl rfl (op_remN (b := 256) rfl rfl (by omega) ?_)
    refine WL.op rfl rfl (op_convNU8 (hs := Try.underlying3) (hd := Try.underlying5) rfl ?_)
    refine WL.op rfl rfl (op_move rfl ?_)
    refine WL.op rfl rfl (op_lenStr Try.underlying9 rfl ?_)
    refine WL.op rfl rfl (op_quoN (b := 256) rfl rfl (by omega) (by omega) ?_)
    refine WL.op rfl rfl (op_convNU8 (hs := Try.underlying3) (hd := Try.underlying5) rfl ?_)
    refine WL.op rfl rfl (op_buildSlice (cs := [_, _]) H0 Try.underlying73 Fa.I5 rfl rfl rfl rfl (by decide) (by decide) (fun b2 w2 H2 => ?_))
    refine WL.op rfl rfl (op_bytesStr (l := [(UInt8.ofNat (s.length % 256)), (UInt8.ofNat (s.length / 256))]) Try.underlying73 Try.underlying5 Try.underlying9 rfl (H2.arrR (i := 0) rfl) rfl ?_)
    refine WL.op rfl rfl (op_move rfl ?_)
    refine WL.op rfl rfl (op_addStr rfl rfl (by simp; omega) ?_)
    refine WL.op rfl rfl (op_assign rfl ?_)
    refine WL.op rfl rfl (op_assign rfl ?_)
    refine WL.nil ?_
    refine WQ.next ?_
    refine WC.ret ?_
    refine WQ.out (.tmp rfl (.tmp rfl .nil)) ?_
    rw [txS, txE, if_neg hc1, if_neg hc1, rB_2 (by omega)]
    exact ⟨rfl, H2.fr⟩
set_option maxRecDepth 100000 in
theorem ptexts_ok (lv : Value) (l : List (List UInt8)) (nl : Nat) (w : World) (hA : Arr w lv 1 nl (List.map str l)) (hb : nl < 2 ^ 40 ∧ (∀ x ∈ l, x.length < 2 ^ 47)) :
    Calls Try.prog 21 #[lv] w (fun e w' => e = .returned (.tuple #[str (tsS l), vN (tsE l)]) ∧ Fr [] w w') := by
  refine enter (args := [lv]) Try.func21 rfl rfl ?_
  have H0 : Own [] w w [] := Own.start w []
  obtain rfl := hA.mapLen
  refine WC.seq ?_
  refine WC.region ?_
  refine WL.op rfl rfl (op_assign rfl ?_)
  refine WL.op rfl rfl (op_assign rfl ?_)
  refine WL.nil ?_
  refine WQ.next ?_
  refine WC.seq ?_
  refine WC.seq ?_
  refine WC.region ?_
  refine WL.op rfl rfl (op_move rfl ?_)
  refine WL.op rfl rfl (op_lenA Try.underlying23 rfl (H0.arr hA) ?_)
  refine WL.op rfl rfl (op_gtrN (b := 4096) rfl rfl ?_)
  refine WL.nil ?_
  refine WQ.next ?_
  refine WC.cond rfl (fun (hb1 : (decide (l.length > 4096)) = true) => ?_) (fun (hb1 : (decide (l.length > 4096)) = false) => ?_)
  ·
    have hc1 := of_decide_eq_true hb1
    refine WC.seq ?_
    refine WC.region ?_
    refine WL.op rfl rfl (op_assign rfl ?_)
    refine WL.op rfl rfl (op_assign rfl ?_)
    refine WL.nil ?_
    refine WQ.next ?_
    refine WC.ret ?_
    refine WQ.thenRet ?_
    refine WQ.out (.tmp rfl (.tmp rfl .nil)) ?_
    rw [tsS, tsE, if_pos hc1, if_neg (by decide)]
    exact ⟨rfl, H0.fr⟩
  ·
    have hc1 := of_decide_eq_false hb1
    refine WC.skip ?_
    refine WQ.next ?_
    refine WC.seq ?_
    refine WC.region ?_
    refine WL.op rfl rfl (op_move rfl ?_)
    refine WL.op rfl rfl (op_lenA Try.underlying23 rfl (H0.arr hA) ?_)
    refine WL.op rfl rfl (op_convNU32 (hs := Try.underlying3) (hd := Try.underlying22) rfl ?_)
    refine WL.op rfl rfl (op_callF Fa.C17 rfl ((num_ok (UInt32.ofNat l.length) (2) _).mono (fun e w2 hq => ?_)))
    obtain ⟨rfl, hf2⟩ := hq
    refine ⟨_, rfl, ?_⟩
    have H2 := H0.fr' hf2
    refine WL.op rfl rfl (op_move rfl ?_)
    refine WL.op rfl rfl (op_extract rfl rfl ?_)
    refine WL.op rfl rfl (op_extract rfl rfl ?_)
    refine WL.op rfl rfl (op_assign rfl ?_)
    refine WL.op rfl rfl (op_assign rfl ?_)
    refine WL.nil ?_
    refine WQ.next ?_
    refine WC.seq ?_
    refine WC.seq ?_
    refine WC.region ?_
    refine WL.op rfl rfl (op_move rfl ?_)
    refine WL.op rfl rfl (op_lenA Try.underlying23 rfl (H2.arr hA) ?_)
    refine WL.op rfl rfl (op_move rfl ?_)
    refine WL.nil ?_
    refine WQ.next ?_
    refine WC.block ?_
    refine WC.loop (α := Nat) (fun k => [(20, lv), (21, (vN l.length)), (4, (str (txsTo l k))), (22, (vN k))]) (fun k w' => (k ≤ l.length ∧ (∀ j, j < k → (l.getD j []).length ≤ 65535)) ∧ Own [] w w' []) (fun k => l.length - k) 0 ⟨⟨Nat.zero_le _, fun j h => by omega⟩, H2⟩ ⟨rfl, rfl, (by rw [txsTo, numS, if_pos (by rw [numE_2 (by omega), if_neg (by omega)])]; rfl), rfl, trivial⟩ ?_
    rintro k w3 ⟨⟨hk1, hok⟩, H3⟩
    show WC _ _ _ _ _ [(20, lv), (21, (vN l.length)), (4, (str (txsTo l k))), (22, (vN k))] _
    have hg := getD_mem47 hb.2 k
    have hl := txsTo_len l k hok
    refine WC.seq ?_
    refine WC.region ?_
    refine WL.op rfl rfl (op_lssN rfl rfl ?_)
    refine WL.nil ?_
    refine WQ.next ?_
    refine WC.seq ?_
    refine WC.cond rfl (fun (hb4 : (decide (k < l.length)) = true) => ?_) (fun (hb4 : (decide (k < l.length)) = false) => ?_)
    ·
      have hc4 := of_decide_eq_true hb4
      refine WC.skip ?_
      refine WQ.next ?_
      refine WC.seq ?_
      refine WC.block ?_
      refine WC.seq ?_
      refine WC.region ?_
      refine WL.op rfl rfl (op_indexAddr1 Try.underlying23 Fa.I9 rfl (H3.arr hA) rfl (by omega) ?_)
      refine WL.op rfl rfl (op_load rfl ((H3.arr hA).at (get_map str [] (Arr.ltM (H3.arr hA) (by omega)))) Try.underlying9 rfl ?_)
      refine WL.op rfl rfl (op_assign rfl ?_)
      refine WL.nil ?_
      refine WQ.next ?_
      refine WC.seq ?_
      refine WC.region ?_
      refine WL.op rfl rfl (op_move rfl ?_)
      refine WL.op rfl rfl (op_callF Fa.C19 rfl ((ptext_ok (l.getD k []) _ (by omega)).mono (fun e w5 hq => ?_)))
      obtain ⟨rfl, hf5⟩ := hq
      refine ⟨_, rfl, ?_⟩
      have H5 := H3.fr' hf5
      refine WL.op rfl rfl (op_move rfl ?_)
      refine WL.op rfl rfl (op_extract rfl rfl ?_)
      refine WL.op rfl rfl (op_extract rfl rfl ?_)
      refine WL.op rfl rfl (op_assign rfl ?_)
      refine WL.op rfl rfl (op_assign rfl ?_)
      refine WL.nil ?_
      refine WQ.next ?_
      refine WC.seq ?_
      refine WC.seq ?_
      refine WC.region ?_
      refine WL.op rfl rfl (op_move rfl ?_)
      refine WL.op rfl rfl (op_neqN (b := 0) rfl rfl ?_)
      refine WL.nil ?_
      refine WQ.next ?_
      refine WC.cond rfl (fun (hb6 : (decide ((txE (l.getD k [])) ≠ 0)) = true) => ?_) (fun (hb6 : (decide ((txE (l.getD k [])) ≠ 0)) = false) => ?_)
      ·
        have hc6 := of_decide_eq_true hb6
        refine WC.seq ?_
        refine WC.region ?_
        refine WL.op rfl rfl (op_move rfl ?_)
        refine WL.op rfl rfl (op_assign rfl ?_)
        refine WL.op rfl rfl (op_assign rfl ?_)
        refine WL.nil ?_
        refine WQ.next ?_
        refine WC.ret ?_
        refine WQ.thenRet ?_
        refine WQ.inRet ?_
        refine WQ.thenRet ?_
        refine WQ.thenRet ?_
        refine WQ.inRet ?_
        refine WQ.thenRet ?_
        refine WQ.out (.tmp rfl (.tmp rfl .nil)) ?_
        rw [tsS, tsE, if_neg (show ¬ l.length > 4096 from by omega), tsBad_out (k := k) (by omega) (txE_1 hc6).1, if_pos rfl, if_neg (by decide), (txE_1 hc6).2]
        exact ⟨rfl, H5.fr⟩
      ·
        have hc6 := of_decide_eq_false hb6
        refine WC.skip ?_
        refine WQ.next ?_
        refine WC.region ?_
        refine WL.op rfl rfl (op_move rfl ?_)
        refine WL.op rfl rfl (op_move rfl ?_)
        refine WL.op rfl rfl (op_addStr rfl rfl (by have := txS_len (l.getD k []); omega) ?_)
        refine WL.op rfl rfl (op_assign rfl ?_)
        refine WL.nil ?_
        refine WQ.inNormal ?_
        refine WQ.next ?_
        refine WC.region ?_
        refine WL.op rfl rfl (op_addN (b := 1) rfl rfl (by omega) ?_)
        refine WL.op rfl rfl (op_move rfl ?_)
        refine WL.nil ?_
        exact WQ.round (k + 1) ⟨⟨by omega, nextP hok (txE_0 (Decidable.not_not.mp hc6))⟩, H5⟩ ⟨rfl, rfl, rfl, rfl, trivial⟩ (by omega)
    ·
      have hc4 := of_decide_eq_false hb4
      refine WC.exit ?_
      refine WQ.thenExit ?_
      refine WQ.thenExit ?_
      refine WQ.inHere ?_
      refine WQ.next ?_
      refine WC.seq ?_
      refine WC.region ?_
      refine WL.op rfl rfl (op_move rfl ?_)
      refine WL.op rfl rfl (op_assign rfl ?_)
      refine WL.op rfl rfl (op_assign rfl ?_)
      refine WL.nil ?_
      refine WQ.next ?_
      refine WC.ret ?_
      refine WQ.out (.tmp rfl (.tmp rfl .nil)) ?_
      have hk : k = l.length := (by omega)
      subst hk
      rw [tsS, tsE, if_neg (show ¬ l.length > 4096 from by omega), tsBad_no hok, if_neg (show ¬ (false = true) from by decide), if_pos rfl]
      exact ⟨rfl, H3.fr⟩
set_option maxRecDepth 100000 in
theorem rtexts_ok (lv : Value) (l : List (List UInt8)) (nl : Nat) (w : World) (hA : Arr w lv 1 nl (List.map str l)) (hb : nl < 2 ^ 40 ∧ (∀ x ∈ l, x.length < 2 ^ 47)) :
    Calls Try.prog 22 #[lv] w (fun e w' => e = .returned (.tuple #[str (tsS l), vN (tsE l)]) ∧ Fr [] w w') := by
  refine enter (args := [lv]) Try.func22 rfl rfl ?_
  have H0 : Own [] w w [] := Own.start w []
  obtain rfl := hA.mapLen
  refine WC.seq ?_
  refine WC.region ?_
  refine WL.op rfl rfl (op_assign rfl ?_)
  refine WL.op rfl rfl (op_assign rfl ?_)
  refine WL.nil ?_
  refine WQ.next ?_
  refine WC.seq ?_
  refine WC.seq ?_
  refine WC.region ?_
  refine WL.op rfl rfl (op_move rfl ?_)
  refine WL.op rfl rfl (op_lenA Try.underlying23 rfl (H0.arr hA) ?_)
  refine WL.op rfl rfl (op_gtrN (b := 4096) rfl rfl ?_)
  refine WL.nil ?_
  refine WQ.next ?_
  refine WC.cond rfl (fun (hb1 : (decide (l.length > 4096)) = true) => ?_) (fun (hb1 : (decide (l.length > 4096)) = false) => ?_)
  ·
    have hc1 := of_decide_eq_true hb1
    refine WC.seq ?_
    refine WC.region ?_
    refine WL.op rfl rfl (op_assign rfl ?_)
    refine WL.op rfl rfl (op_assign rfl ?_)
    refine WL.nil ?_
    refine WQ.next ?_
    refine WC.ret ?_
    refine WQ.thenRet ?_
    refine WQ.out (.tmp rfl (.tmp rfl .nil)) ?_
    rw [tsS, tsE, if_pos hc1, if_neg (by decide)]
    exact ⟨rfl, H0.fr⟩
  ·
    have hc1 := of_decide_eq_false hb1
    refine WC.skip ?_
    refine WQ.next ?_
    refine WC.seq ?_
    refine WC.region ?_
    refine WL.op rfl rfl (op_move rfl ?_)
    refine WL.op rfl rfl (op_lenA Try.underlying23 rfl (H0.arr hA) ?_)
    refine WL.op rfl rfl (op_convNU32 (hs := Try.underlying3) (hd := Try.underlying22) rfl ?_)
    refine WL.op rfl rfl (op_callF Fa.C18 rfl ((rnum_ok (UInt32.ofNat l.length) (2) _).mono (fun e w2 hq => ?_)))
    obtain ⟨rfl, hf2⟩ := hq
    refine ⟨_, rfl, ?_⟩
    have H2 := H0.fr' hf2
    refine WL.op rfl rfl (op_move rfl ?_)
    refine WL.op rfl rfl (op_extract rfl rfl ?_)
    refine WL.op rfl rfl (op_extract rfl rfl ?_)
    refine WL.op rfl rfl (op_assign rfl ?_)
    refine WL.op rfl rfl (op_assign rfl ?_)
    refine WL.nil ?_
    refine WQ.next ?_
    refine WC.seq ?_
    refine WC.seq ?_
    refine WC.region ?_
    refine WL.op rfl rfl (op_assign rfl ?_)
    refine WL.nil ?_
    refine WQ.next ?_
    refine WC.block ?_
    refine WC.loop (α := Nat) (fun k => [(0, lv), (4, (str (txsTo l k))), (6, (vN k))]) (fun k w' => (k ≤ l.length ∧ (∀ j, j < k → (l.getD j []).length ≤ 65535)) ∧ Own [] w w' []) (fun k => l.length - k) 0 ⟨⟨Nat.zero_le _, fun j h => by omega⟩, H2⟩ ⟨rfl, (by rw [txsTo, numS, if_pos (by rw [numE_2 (by omega), if_neg (by omega)])]; rfl), rfl, trivial⟩ ?_
    rintro k w3 ⟨⟨hk1, hok⟩, H3⟩
    show WC _ _ _ _ _ [(0, lv), (4, (str (txsTo l k))), (6, (vN k))] _
    have hg := getD_mem47 hb.2 k
    have hl := txsTo_len l k hok
    refine WC.seq ?_
    refine WC.seq ?_
    refine WC.region ?_
    refine WL.op rfl rfl (op_move rfl ?_)
    refine WL.op rfl rfl (op_move rfl ?_)
    refine WL.op rfl rfl (op_lenA Try.underlying23 rfl (H3.arr hA) ?_)
    refine WL.op rfl rfl (op_lssN rfl rfl ?_)
    refine WL.nil ?_
    refine WQ.next ?_
    refine WC.cond rfl (fun (hb4 : (decide (k < l.length)) = true) => ?_) (fun (hb4 : (decide (k < l.length)) = false) => ?_)
    ·
      have hc4 := of_decide_eq_true hb4
      refine WC.skip ?_
      refine WQ.next ?_
      refine WC.seq ?_
      refine WC.block ?_
      refine WC.seq ?_
      refine WC.region ?_
      refine WL.op rfl rfl (op_move rfl ?_)
      refine WL.op rfl rfl (op_move rfl ?_)
      refine WL.op rfl rfl (op_indexAddr1 Try.underlying23 Fa.I9 rfl (H3.arr hA) rfl (by omega) ?_)
      refine WL.op rfl rfl (op_load rfl ((H3.arr hA).at (get_map str [] (Arr.ltM (H3.arr hA) (by omega)))) Try.underlying9 rfl ?_)
      refine WL.op rfl rfl (op_callF Fa.C20 rfl ((rtext_ok (l.getD k []) _ (by omega)).mono (fun e w5 hq => ?_)))
      obtain ⟨rfl, hf5⟩ := hq
      refine ⟨_, rfl, ?_⟩
      have H5 := H3.fr' hf5
      refine WL.op rfl rfl (op_move rfl ?_)
      refine WL.op rfl rfl (op_extract rfl rfl ?_)
      refine WL.op rfl rfl (op_extract rfl rfl ?_)
      refine WL.op rfl rfl (op_assign rfl ?_)
      refine WL.op rfl rfl (op_assign rfl ?_)
      refine WL.nil ?_
      refine WQ.next ?_
      refine WC.seq ?_
      refine WC.seq ?_
      refine WC.region ?_
      refine WL.op rfl rfl (op_move rfl ?_)
      refine WL.op rfl rfl (op_neqN (b := 0) rfl rfl ?_)
      refine WL.nil ?_
      refine WQ.next ?_
      refine WC.cond rfl (fun (hb6 : (decide ((txE (l.getD k [])) ≠ 0)) = true) => ?_) (fun (hb6 : (decide ((txE (l.getD k [])) ≠ 0)) = false) => ?_)
      ·
        have hc6 := of_decide_eq_true hb6
        refine WC.seq ?_
        refine WC.region ?_
        refine WL.op rfl rfl (op_move rfl ?_)
        refine WL.op rfl rfl (op_assign rfl ?_)
        refine WL.op rfl rfl (op_assign rfl ?_)
        refine WL.nil ?_
        refine WQ.next ?_
        refine WC.ret ?_
        refine WQ.thenRet ?_
        refine WQ.inRet ?_
        refine WQ.thenRet ?_
        refine WQ.thenRet ?_
        refine WQ.inRet ?_
        refine WQ.thenRet ?_
        refine WQ.out (.tmp rfl (.tmp rfl .nil)) ?_
        rw [tsS, tsE, if_neg (show ¬ l.length > 4096 from by omega), tsBad_out (k := k) (by omega) (txE_1 hc6).1, if_pos rfl, if_neg (by decide), (txE_1 hc6).2]
        exact ⟨rfl, H5.fr⟩
      ·
        have hc6 := of_decide_eq_false hb6
        refine WC.skip ?_
        refine WQ.next ?_
        refine WC.region ?_
        refine WL.op rfl rfl (op_move rfl ?_)
        refine WL.op rfl rfl (op_move rfl ?_)
        refine WL.op rfl rfl (op_addStr rfl rfl (by have := txS_len (l.getD k []); omega) ?_)
        refine WL.op rfl rfl (op_assign rfl ?_)
        refine WL.nil ?_
        refine WQ.inNormal ?_
        refine WQ.next ?_
        refine WC.region ?_
        refine WL.op rfl rfl (op_move rfl ?_)
        refine WL.op rfl rfl (op_addN (b := 1) rfl rfl (by omega) ?_)
        refine WL.op rfl rfl (op_assign rfl ?_)
        refine WL.nil ?_
        exact WQ.round (k + 1) ⟨⟨by omega, nextP hok (txE_0 (Decidable.not_not.mp hc6))⟩, H5⟩ ⟨rfl, rfl, rfl, trivial⟩ (by omega)
    ·
      have hc4 := of_decide_eq_false hb4
      refine WC.exit ?_
      refine WQ.thenExit ?_
      refine WQ.thenExit ?_
      refine WQ.inHere ?_
      refine WQ.next ?_
      refine WC.seq ?_
      refine WC.region ?_
      refine WL.op rfl rfl (op_move rfl ?_)
      refine WL.op rfl rfl (op_assign rfl ?_)
      refine WL.op rfl rfl (op_assign rfl ?_)
      refine WL.nil ?_
      refine WQ.next ?_
      refine WC.ret ?_
      refine WQ.out (.tmp rfl (.tmp rfl .nil)) ?_
      have hk : k = l.length := (by omega)
      subst hk
      rw [tsS, tsE, if_neg (show ¬ l.length > 4096 from by omega), tsBad_no hok, if_neg (show ¬ (false = true) from by decide), if_pos rfl]
      exact ⟨rfl, H3.fr⟩
set_option maxRecDepth 100000 in
theorem rdnew_ok (s : List UInt8) (w : World) :
    Calls Try.prog 24 #[(str s)] w (fun e w' => ∃ q, e = .returned (ptr q 0) ∧ Own [] w w' [.blk q [str s, vN 0, vN 0] 107]) := by
  refine enter (args := [(str s)]) Try.func24 rfl rfl ?_
  have H0 : Own [] w w [] := Own.start w []
  refine WC.seq ?_
  refine WC.region ?_
  refine WL.op rfl rfl (op_assign rfl ?_)
  refine WL.nil ?_
  refine WQ.next ?_
  refine WC.seq ?_
  refine WC.region ?_
  refine WL.op rfl rfl (op_move rfl ?_)
  refine WL.op rfl rfl (op_build (cs := [_, _, _]) Fa.I105 Fa.PL105 rfl rfl ?_)
  refine WL.op rfl rfl (op_build (cs := [_, _, _]) Fa.I107 Fa.PL107 rfl rfl ?_)
  refine WL.op rfl rfl (op_box H0 rfl rfl (fun b1 w1 H1 => ?_))
  refine WL.op rfl rfl (op_assign rfl ?_)
  refine WL.nil ?_
  refine WQ.next ?_
  refine WC.ret ?_
  refine WQ.out (.tmp rfl .nil) ?_
  exact ⟨_, rfl, H1⟩
set_option maxRecDepth 100000 in
theorem spoilt_ok (q : Nat) (r : Rd) (x : Nat) (TR : TypeId) (T : List Nat) (w : World) (H : Own T w w [.blk q [(str r.s), (vN r.at_), (vN r.f)] TR]) :
    Calls Try.prog 74 #[(ptr q 0), (vN x)] w (fun e w' => e = .returned (vN x) ∧ Own T w w' [.blk q [str (r.bad x).s, vN (r.bad x).at_, vN (r.bad x).f] TR]) := by
  refine enter (args := [(ptr q 0), (vN x)]) Try.func74 rfl rfl ?_
  refine WC.seq ?_
  refine WC.region ?_
  refine WL.op rfl rfl (op_assign rfl ?_)
  refine WL.nil ?_
  refine WQ.next ?_
  refine WC.seq ?_
  refine WC.region ?_
  refine WL.op rfl rfl (op_move rfl ?_)
  refine WL.op rfl rfl (op_move rfl ?_)
  refine WL.op rfl rfl (op_nilCheck rfl ?_)
  refine WL.op rfl rfl (op_fieldAddr rfl Fa.F105_2 ?_)
  refine WL.op rfl rfl (op_storeB (i := 0) H rfl rfl rfl rfl rfl Fa.I26 (fun w1 H1 => ?_))
  refine WL.nil ?_
  refine WQ.next ?_
  refine WC.seq ?_
  refine WC.region ?_
  refine WL.op rfl rfl (op_move rfl ?_)
  refine WL.op rfl rfl (op_assign rfl ?_)
  refine WL.nil ?_
  refine WQ.next ?_
  refine WC.ret ?_
  refine WQ.out (.tmp rfl .nil) ?_
  exact ⟨rfl, H1⟩
set_option maxRecDepth 100000 in
theorem left_ok (q : Nat) (r : Rd) (w : World) (hQ : cellsAt w q [(str r.s), (vN r.at_), (vN r.f)]) (hr : r.s.length < 2 ^ 47) :
    Calls Try.prog 77 #[(ptr q 0)] w (fun e w' => e = .returned (vN (r.s.length - r.at_)) ∧ Fr [] w w') := by
  refine enter (args := [(ptr q 0)]) Try.func77 rfl rfl ?_
  have H0 : Own [] w w [Ent.bo q [(str r.s), (vN r.at_), (vN r.f)]] := ((Own.start w []).oldB hQ)
  have hrh := r.h
  refine WC.seq ?_
  refine WC.region ?_
  refine WL.op rfl rfl (op_assign rfl ?_)
  refine WL.nil ?_
  refine WQ.next ?_
  refine WC.seq ?_
  refine WC.draw 11 Fa.M H0 (HW.op rfl (fun w1 H1 => op_move rfl ⟨rfl, Fr.refl _ _⟩) (HW.op rfl (fun w1 H1 => op_nilCheck rfl ⟨rfl, Fr.refl _ _⟩) (HW.op rfl (fun w1 H1 => op_fieldAddr rfl Fa.F105_0 ⟨rfl, Fr.refl _ _⟩) (HW.op rfl (fun w1 H1 => op_load rfl (H1.cellO (i := 0) rfl rfl) Try.underlying9 rfl ⟨rfl, Fr.refl _ _⟩) (HW.op rfl (fun w1 H1 => op_lenStr Try.underlying9 rfl ⟨rfl, Fr.refl _ _⟩) (HW.op rfl (fun w1 H1 => op_move rfl ⟨rfl, Fr.refl _ _⟩) (HW.op rfl (fun w1 H1 => op_nilCheck rfl ⟨rfl, Fr.refl _ _⟩) (HW.op rfl (fun w1 H1 => op_fieldAddr rfl Fa.F105_1 ⟨rfl, Fr.refl _ _⟩) (HW.op rfl (fun w1 H1 => op_load rfl (H1.cellO (i := 0) rfl rfl) Try.underlying3 rfl ⟨rfl, Fr.refl _ _⟩) (HW.op rfl (fun w1 H1 => op_subN rfl rfl (by omega) (by omega) ⟨rfl, Fr.refl _ _⟩) (HW.op rfl (fun w1 H1 => op_assign rfl ⟨rfl, Fr.refl _ _⟩)  HW.nil))))))))))) (by kernel_rfl) ?_
  intro β1 w1 H1
  refine WL.nil ?_
  refine WQ.next ?_
  refine WC.ret ?_
  refine WQ.out (.tmp rfl .nil) ?_
  exact ⟨rfl, H1.fr⟩
set_option maxRecDepth 100000 in
theorem fault_ok (q : Nat) (r : Rd) (w : World) (hQ : cellsAt w q [(str r.s), (vN r.at_), (vN r.f)]) :
    Calls Try.prog 36 #[(ptr q 0)] w (fun e w' => e = .returned (vN r.f) ∧ Fr [] w w') := by
  refine enter (args := [(ptr q 0)]) Try.func36 rfl rfl ?_
  have H0 : Own [] w w [Ent.bo q [(str r.s), (vN r.at_), (vN r.f)]] := ((Own.start w []).oldB hQ)
  refine WC.seq ?_
  refine WC.region ?_
  refine WL.op rfl rfl (op_assign rfl ?_)
  refine WL.nil ?_
  refine WQ.next ?_
  refine WC.seq ?_
  refine WC.seq ?_
  refine WC.region ?_
  refine WL.op rfl rfl (op_move rfl ?_)
  refine WL.op rfl rfl (op_eqlPN Fa.PT34 rfl rfl ?_)
  refine WL.nil ?_
  refine WQ.next ?_
  refine WC.no rfl rfl ?_
  refine WC.skip ?_
  refine WQ.next ?_
  refine WC.seq ?_
  refine WC.region ?_
  refine WL.op rfl rfl (op_move rfl ?_)
  refine WL.op rfl rfl (op_nilCheck rfl ?_)
  refine WL.op rfl rfl (op_fieldAddr rfl Fa.F107_0 ?_)
  refine WL.op rfl rfl (op_fieldAddr rfl Fa.F105_2 ?_)
  refine WL.op rfl rfl (op_load rfl (H0.cellO (i := 0) rfl rfl) Try.underlying26 rfl ?_)
  refine WL.op rfl rfl (op_assign rfl ?_)
  refine WL.nil ?_
  refine WQ.next ?_
  refine WC.ret ?_
  refine WQ.out (.tmp rfl .nil) ?_
  exact ⟨rfl, H0.fr⟩
set_option maxRecDepth 100000 in
theorem rleft_ok (q : Nat) (r : Rd) (w : World) (hQ : cellsAt w q [(str r.s), (vN r.at_), (vN r.f)]) (hr : r.s.length < 2 ^ 47) :
    Calls Try.prog 28 #[(ptr q 0)] w (fun e w' => e = .returned (vN (r.s.length - r.at_)) ∧ Fr [] w w') := by
  refine enter (args := [(ptr q 0)]) Try.func28 rfl rfl ?_
  have H0 : Own [] w w [Ent.bo q [(str r.s), (vN r.at_), (vN r.f)]] := ((Own.start w []).oldB hQ)
  refine WC.seq ?_
  refine WC.region ?_
  refine WL.op rfl rfl (op_assign rfl ?_)
  refine WL.nil ?_
  refine WQ.next ?_
  refine WC.seq ?_
  refine WC.seq ?_
  refine WC.region ?_
  refine WL.op rfl rfl (op_move rfl ?_)
  refine WL.op rfl rfl (op_eqlPN Fa.PT34 rfl rfl ?_)
  refine WL.nil ?_
  refine WQ.next ?_
  refine WC.no rfl rfl ?_
  refine WC.skip ?_
  refine WQ.next ?_
  refine WC.seq ?_
  refine WC.region ?_
  refine WL.op rfl rfl (op_move rfl ?_)
  refine WL.op rfl rfl (op_nilCheck rfl ?_)
  refine WL.op rfl rfl (op_fieldAddr rfl Fa.F107_0 ?_)
  refine WL.op rfl rfl (op_callF Fa.C77 rfl ((left_ok q r _ (H0.cellsAtO (i := 0) rfl) hr).mono (fun e w1 hq => ?_)))
  obtain ⟨rfl, hf1⟩ := hq
  refine ⟨_, rfl, ?_⟩
  have H1 := H0.fr' hf1
  refine WL.op rfl rfl (op_assign rfl ?_)
  refine WL.nil ?_
  refine WQ.next ?_
  refine WC.ret ?_
  refine WQ.out (.tmp rfl .nil) ?_
  exact ⟨rfl, H1.fr⟩
set_option maxRecDepth 100000 in
theorem rtake_ok (q : Nat) (r : Rd) (n : Nat) (TR : TypeId) (T : List Nat) (w : World) (H : Own T w w [.blk q [(str r.s), (vN r.at_), (vN r.f)] TR]) (hr : r.s.length < 2 ^ 47) :
    Calls Try.prog 75 #[(ptr q 0), (vN n)] w (fun e w' => e = .returned (.tuple #[str (rawR r n).1.1, vN (rawR r n).1.2]) ∧ Own T w w' [.blk q [str (rawR r n).2.s, vN (rawR r n).2.at_, vN (rawR r n).2.f] TR]) := by
  refine enter (args := [(ptr q 0), (vN n)]) Try.func75 rfl rfl ?_
  have hrh := r.h
  refine WC.seq ?_
  refine WC.region ?_
  refine WL.op rfl rfl (op_assign rfl ?_)
  refine WL.op rfl rfl (op_assign rfl ?_)
  refine WL.nil ?_
  refine WQ.next ?_
  refine WC.seq ?_
  refine WC.seq ?_
  refine WC.region ?_
  refine WL.op rfl rfl (op_move rfl ?_)
  refine WL.op rfl rfl (op_move rfl ?_)
  refine WL.op rfl rfl (op_callF Fa.C77 rfl ((left_ok q r _ (H.cellsAt (i := 0) rfl) (by first | assumption | omega)).mono (fun e w1 hq => ?_)))
  obtain ⟨rfl, hf1⟩ := hq
  refine ⟨_, rfl, ?_⟩
  have H1 := H.fr' hf1
  refine WL.op rfl rfl (op_gtrN rfl rfl ?_)
  refine WL.nil ?_
  refine WQ.next ?_
  refine WC.cond rfl (fun (hb2 : (decide (n > (r.s.length - r.at_))) = true) => ?_) (fun (hb2 : (decide (n > (r.s.length - r.at_))) = false) => ?_)
  ·
    have hc2 := of_decide_eq_true hb2
    refine WC.seq ?_
    refine WC.region ?_
    refine WL.op rfl rfl (op_move rfl ?_)
    refine WL.op rfl rfl (op_callF Fa.C74 rfl ((spoilt_ok q r 6 TR _ _ (H1.part [0] rfl rfl)).mono (fun e w3 hq => ?_)))
    obtain ⟨rfl, hq3⟩ := hq
    refine ⟨_, rfl, ?_⟩
    have H3 : Own T w w3 [.blk q [(str (r.bad 6).s), (vN (r.bad 6).at_), (vN (r.bad 6).f)] TR] := H1.splice [0] [.blk q [(str (r.bad 6).s), (vN (r.bad 6).at_), (vN (r.bad 6).f)] TR] [] rfl rfl hq3 (Fits.solid True.intro Fits.nil)
    refine WL.op rfl rfl (op_assign rfl ?_)
    refine WL.op rfl rfl (op_assign rfl ?_)
    refine WL.nil ?_
    refine WQ.next ?_
    refine WC.ret ?_
    refine WQ.thenRet ?_
    refine WQ.out (.tmp rfl (.tmp rfl .nil)) ?_
    rw [rawR_1 hc2]
    exact ⟨rfl, H3⟩
  ·
    have hc2 := of_decide_eq_false hb2
    refine WC.skip ?_
    refine WQ.next ?_
    refine WC.seq ?_
    refine WC.region ?_
    refine WL.op rfl rfl (op_move rfl ?_)
    refine WL.op rfl rfl (op_nilCheck rfl ?_)
    refine WL.op rfl rfl (op_fieldAddr rfl Fa.F105_1 ?_)
    refine WL.op rfl rfl (op_load rfl (H1.cell (i := 0) rfl rfl) Try.underlying3 rfl ?_)
    refine WL.op rfl rfl (op_move rfl ?_)
    refine WL.op rfl rfl (op_addN rfl rfl (by omega) ?_)
    refine WL.op rfl rfl (op_nilCheck rfl ?_)
    refine WL.op rfl rfl (op_fieldAddr rfl Fa.F105_1 ?_)
    refine WL.op rfl rfl (op_storeB (i := 0) H1 rfl rfl rfl rfl rfl Fa.I3 (fun w4 H4 => ?_))
    refine WL.nil ?_
    refine WQ.next ?_
    refine WC.seq ?_
    refine WC.draw 17 Fa.M H4 (HW.op rfl (fun w1 H1 => op_move rfl ⟨rfl, Fr.refl _ _⟩) (HW.op rfl (fun w1 H1 => op_nilCheck rfl ⟨rfl, Fr.refl _ _⟩) (HW.op rfl (fun w1 H1 => op_fieldAddr rfl Fa.F105_0 ⟨rfl, Fr.refl _ _⟩) (HW.op rfl (fun w1 H1 => op_load rfl (H1.cell (i := 0) rfl rfl) Try.underlying9 rfl ⟨rfl, Fr.refl _ _⟩) (HW.op rfl (fun w1 H1 => op_move rfl ⟨rfl, Fr.refl _ _⟩) (HW.op rfl (fun w1 H1 => op_nilCheck rfl ⟨rfl, Fr.refl _ _⟩) (HW.op rfl (fun w1 H1 => op_fieldAddr rfl Fa.F105_1 ⟨rfl, Fr.refl _ _⟩) (HW.op rfl (fun w1 H1 => op_load rfl (H1.cell (i := 0) rfl rfl) Try.underlying3 rfl ⟨rfl, Fr.refl _ _⟩) (HW.op rfl (fun w1 H1 => op_move rfl ⟨rfl, Fr.refl _ _⟩) (HW.op rfl (fun w1 H1 => op_subN rfl rfl (by omega) (by omega) ⟨rfl, Fr.refl _ _⟩) (HW.op rfl (fun w1 H1 => op_move rfl ⟨rfl, Fr.refl _ _⟩) (HW.op rfl (fun w1 H1 => op_nilCheck rfl ⟨rfl, Fr.refl _ _⟩) (HW.op rfl (fun w1 H1 => op_fieldAddr rfl Fa.F105_1 ⟨rfl, Fr.refl _ _⟩) (HW.op rfl (fun w1 H1 => op_load rfl (H1.cell (i := 0) rfl rfl) Try.underlying3 rfl ⟨rfl, Fr.refl _ _⟩) (HW.op rfl (fun w1 H1 => op_sliceStr Try.underlying9 rfl rfl rfl (by omega) (by omega) ⟨rfl, Fr.refl _ _⟩) (HW.op rfl (fun w1 H1 => op_assign rfl ⟨rfl, Fr.refl _ _⟩) (HW.op rfl (fun w1 H1 => op_assign rfl ⟨rfl, Fr.refl _ _⟩)  HW.nil))))))))))))))))) (by kernel_rfl) ?_
    intro β5 w5 H5
    refine WL.nil ?_
    refine WQ.next ?_
    refine WC.ret ?_
    refine WQ.out (.tmp rfl (.tmp rfl .nil)) ?_
    rw [rawR_2 hc2]
    exact ⟨by show _ = Ending.returned (.tuple #[str ((r.s.drop r.at_).take n), vN 0]); rw [show r.at_ + n - n = r.at_ from by omega, show r.at_ + n - r.at_ = n from by omega]; rfl, H5⟩
set_option maxRecDepth 100000 in
theorem take_ok (q : Nat) (r : Rd) (n : Int) (TR : TypeId) (T : List Nat) (w : World) (H : Own T w w [.blk q [(str r.s), (vN r.at_), (vN r.f)] TR]) (hr : r.s.length < 2 ^ 47) :
    Calls Try.prog 30 #[(ptr q 0), (vI n)] w (fun e w' => e = .returned (.tuple #[str (takeR r n).1.1, vN (takeR r n).1.2]) ∧ Own T w w' [.blk q [str (takeR r n).2.s, vN (takeR r n).2.at_, vN (takeR r n).2.f] TR]) := by
  refine enter (args := [(ptr q 0), (vI n)]) Try.func30 rfl rfl ?_
  refine WC.seq ?_
  refine WC.region ?_
  refine WL.op rfl rfl (op_assign rfl ?_)
  refine WL.op rfl rfl (op_assign rfl ?_)
  refine WL.nil ?_
  refine WQ.next ?_
  refine WC.seq ?_
  refine WC.seq ?_
  refine WC.region ?_
  refine WL.op rfl rfl (op_move rfl ?_)
  refine WL.op rfl rfl (op_callF Fa.C36 rfl ((fault_ok q r _ (H.cellsAt (i := 0) rfl)).mono (fun e w1 hq => ?_)))
  obtain ⟨rfl, hf1⟩ := hq
  refine ⟨_, rfl, ?_⟩
  have H1 := H.fr' hf1
  refine WL.op rfl rfl (op_assign rfl ?_)
  refine WL.nil ?_
  refine WQ.next ?_
  refine WC.seq ?_
  refine WC.region ?_
  refine WL.op rfl rfl (op_move rfl ?_)
  refine WL.op rfl rfl (op_neqN (b := 0) rfl rfl ?_)
  refine WL.nil ?_
  refine WQ.next ?_
  refine WC.cond rfl (fun (hb2 : (decide (r.f ≠ 0)) = true) => ?_) (fun (hb2 : (decide (r.f ≠ 0)) = false) => ?_)
  ·
    have hc2 := of_decide_eq_true hb2
    refine WC.seq ?_
    refine WC.region ?_
    refine WL.op rfl rfl (op_move rfl ?_)
    refine WL.op rfl rfl (op_assign rfl ?_)
    refine WL.op rfl rfl (op_assign rfl ?_)
    refine WL.nil ?_
    refine WQ.next ?_
    refine WC.ret ?_
    refine WQ.thenRet ?_
    refine WQ.out (.tmp rfl (.tmp rfl .nil)) ?_
    rw [takeR, if_pos hc2]
    exact ⟨rfl, H1⟩
  ·
    have hc2 := of_decide_eq_false hb2
    refine WC.skip ?_
    refine WQ.next ?_
    refine WC.seq ?_
    refine WC.seq ?_
    refine WC.region ?_
    refine WL.op rfl rfl (op_move rfl ?_)
    refine WL.op rfl rfl (op_lssI (b := (0 : Int)) rfl rfl ?_)
    refine WL.nil ?_
    refine WQ.next ?_
    refine WC.cond rfl (fun (hb3 : (decide (n < (0 : Int))) = true) => ?_) (fun (hb3 : (decide (n < (0 : Int))) = false) => ?_)
    ·
      have hc3 := of_decide_eq_true hb3
      refine WC.seq ?_
      refine WC.region ?_
      refine WL.op rfl rfl (op_move rfl ?_)
      refine WL.op rfl rfl (op_nilCheck rfl ?_)
      refine WL.op rfl rfl (op_fieldAddr rfl Fa.F107_0 ?_)
      refine WL.op rfl rfl (op_callF Fa.C74 rfl ((spoilt_ok q r 2 TR _ _ (H1.part [0] rfl rfl)).mono (fun e w4 hq => ?_)))
      obtain ⟨rfl, hq4⟩ := hq
      refine ⟨_, rfl, ?_⟩
      have H4 : Own T w w4 [.blk q [(str (r.bad 2).s), (vN (r.bad 2).at_), (vN (r.bad 2).f)] TR] := H1.splice [0] [.blk q [(str (r.bad 2).s), (vN (r.bad 2).at_), (vN (r.bad 2).f)] TR] [] rfl rfl hq4 (Fits.solid True.intro Fits.nil)
      refine WL.op rfl rfl (op_assign rfl ?_)
      refine WL.op rfl rfl (op_assign rfl ?_)
      refine WL.nil ?_
      refine WQ.next ?_
      refine WC.ret ?_
      refine WQ.thenRet ?_
      refine WQ.out (.tmp rfl (.tmp rfl .nil)) ?_
      rw [takeR, if_neg hc2, if_pos hc3]
      exact ⟨rfl, H4⟩
    ·
      have hc3 := of_decide_eq_false hb3
      obtain ⟨m, rfl⟩ : ∃ m : Nat, n = (m : Int) := ⟨n.toNat, by omega⟩
      refine WC.skip ?_
      refine WQ.next ?_
      refine WC.seq ?_
      refine WC.region ?_
      refine WL.op rfl rfl (op_move rfl ?_)
      refine WL.op rfl rfl (op_nilCheck rfl ?_)
      refine WL.op rfl rfl (op_fieldAddr rfl Fa.F107_0 ?_)
      refine WL.op rfl rfl (op_move rfl ?_)
      refine WL.op rfl rfl (op_callF Fa.C75 rfl ((rtake_ok q r ((m : Nat)) TR _ _ (H1.part [0] rfl rfl) (by first | assumption | omega)).mono (fun e w5 hq => ?_)))
      obtain ⟨rfl, hq5⟩ := hq
      refine ⟨_, rfl, ?_⟩
      have H5 : Own T w w5 [.blk q [(str ((rawR r (m : Nat)).2).s), (vN ((rawR r (m : Nat)).2).at_), (vN ((rawR r (m : Nat)).2).f)] TR] := H1.splice [0] [.blk q [(str ((rawR r (m : Nat)).2).s), (vN ((rawR r (m : Nat)).2).at_), (vN ((rawR r (m : Nat)).2).f)] TR] [] rfl rfl hq5 (Fits.solid True.intro Fits.nil)
      refine WL.op rfl rfl (op_extract rfl rfl ?_)
      refine WL.op rfl rfl (op_extract rfl rfl ?_)
      refine WL.op rfl rfl (op_assign rfl ?_)
      refine WL.op rfl rfl (op_assign rfl ?_)
      refine WL.nil ?_
      refine WQ.next ?_
      refine WC.ret ?_
      refine WQ.out (.tmp rfl (.tmp rfl .nil)) ?_
      rw [takeR, if_neg hc2, if_neg (show ¬ ((m : Int) < 0) from by omega), Int.toNat_natCast]
      exact ⟨rfl, H5⟩
set_option maxRecDepth 100000 in
theorem rdnum_ok (q : Nat) (r : Rd) (n : Int) (TR : TypeId) (T : List Nat) (w : World) (H : Own T w w [.blk q [(str r.s), (vN r.at_), (vN r.f)] TR]) (hr : r.s.length < 2 ^ 47) :
    Calls Try.prog 25 #[(ptr q 0), (vI n)] w (fun e w' => e = .returned (.tuple #[vU32 (numR r n).1.1, vN (numR r n).1.2]) ∧ Own T w w' [.blk q [str (numR r n).2.s, vN (numR r n).2.at_, vN (numR r n).2.f] TR]) := by
  refine enter (args := [(ptr q 0), (vI n)]) Try.func25 rfl rfl ?_
  refine WC.seq ?_
  refine WC.region ?_
  refine WL.op rfl rfl (op_assign rfl ?_)
  refine WL.op rfl rfl (op_assign rfl ?_)
  refine WL.nil ?_
  refine WQ.next ?_
  refine WC.seq ?_
  refine WC.seq ?_
  refine WC.region ?_
  refine WL.op rfl rfl (op_move rfl ?_)
  refine WL.op rfl rfl (op_callF Fa.C36 rfl ((fault_ok q r _ (H.cellsAt (i := 0) rfl)).mono (fun e w1 hq => ?_)))
  obtain ⟨rfl, hf1⟩ := hq
  refine ⟨_, rfl, ?_⟩
  have H1 := H.fr' hf1
  refine WL.op rfl rfl (op_assign rfl ?_)
  refine WL.nil ?_
  refine WQ.next ?_
  refine WC.seq ?_
  refine WC.region ?_
  refine WL.op rfl rfl (op_move rfl ?_)
  refine WL.op rfl rfl (op_neqN (b := 0) rfl rfl ?_)
  refine WL.nil ?_
  refine WQ.next ?_
  refine WC.cond rfl (fun (hb2 : (decide (r.f ≠ 0)) = true) => ?_) (fun (hb2 : (decide (r.f ≠ 0)) = false) => ?_)
  ·
    have hc2 := of_decide_eq_true hb2
    refine WC.seq ?_
    refine WC.region ?_
    refine WL.op rfl rfl (op_move rfl ?_)
    refine WL.op rfl rfl (op_assign rfl ?_)
    refine WL.op rfl rfl (op_assign rfl ?_)
    refine WL.nil ?_
    refine WQ.next ?_
    refine WC.ret ?_
    refine WQ.thenRet ?_
    refine WQ.out (.tmp rfl (.tmp rfl .nil)) ?_
    rw [numR, if_pos hc2]
    exact ⟨rfl, H1⟩
  ·
    have hc2 := of_decide_eq_false hb2
    refine WC.skip ?_
    refine WQ.next ?_
    refine WC.seq ?_
    refine WC.seq ?_
    refine WC.region ?_
    refine WL.op rfl rfl (op_move rfl ?_)
    refine WL.op rfl rfl (op_lssI (b := (1 : Int)) rfl rfl ?_)
    refine WL.op rfl rfl (op_move rfl ?_)
    refine WL.split (t := 16) rfl (fun (hb3 : (decide (n < (1 : Int))) = true) => ?_) (fun (hb3 : (decide (n < (1 : Int))) = false) => ?_)
    ·
      have hc3 := of_decide_eq_true hb3
      refine WL.no rfl rfl rfl hb3 rfl ?_
      refine WL.no rfl rfl rfl hb3 rfl ?_
      refine WL.op rfl rfl (op_pickT rfl hb3 rfl ?_)
      refine WL.nil ?_
      refine WQ.next ?_
      refine WC.yes rfl rfl ?_
      refine WC.seq ?_
      refine WC.region ?_
      refine WL.op rfl rfl (op_move rfl ?_)
      refine WL.op rfl rfl (op_nilCheck rfl ?_)
      refine WL.op rfl rfl (op_fieldAddr rfl Fa.F107_0 ?_)
      refine WL.op rfl rfl (op_callF Fa.C74 rfl ((spoilt_ok q r 2 TR _ _ (H1.part [0] rfl rfl)).mono (fun e w4 hq => ?_)))
      obtain ⟨rfl, hq4⟩ := hq
      refine ⟨_, rfl, ?_⟩
      have H4 : Own T w w4 [.blk q [(str (r.bad 2).s), (vN (r.bad 2).at_), (vN (r.bad 2).f)] TR] := H1.splice [0] [.blk q [(str (r.bad 2).s), (vN (r.bad 2).at_), (vN (r.bad 2).f)] TR] [] rfl rfl hq4 (Fits.solid True.intro Fits.nil)
      refine WL.op rfl rfl (op_assign rfl ?_)
      refine WL.op rfl rfl (op_assign rfl ?_)
      refine WL.nil ?_
      refine WQ.next ?_
      refine WC.ret ?_
      refine WQ.thenRet ?_
      refine WQ.out (.tmp rfl (.tmp rfl .nil)) ?_
      rw [numR, if_neg hc2, if_pos (show n < 1 ∨ n > 4 from by omega)]
      exact ⟨rfl, H4⟩
    ·
      have hc3 := of_decide_eq_false hb3
      refine WL.yes rfl rfl rfl hb3 rfl (op_move rfl ?_)
      refine WL.yes rfl rfl rfl hb3 rfl (op_gtrI (b := (4 : Int)) rfl rfl ?_)
      refine WL.op rfl rfl (op_pickF rfl hb3 rfl ?_)
      refine WL.nil ?_
      refine WQ.next ?_
      refine WC.cond rfl (fun (hb5 : (decide (n > (4 : Int))) = true) => ?_) (fun (hb5 : (decide (n > (4 : Int))) = false) => ?_)
      ·
        have hc5 := of_decide_eq_true hb5
        refine WC.seq ?_
        refine WC.region ?_
        refine WL.op rfl rfl (op_move rfl ?_)
        refine WL.op rfl rfl (op_nilCheck rfl ?_)
        refine WL.op rfl rfl (op_fieldAddr rfl Fa.F107_0 ?_)
        refine WL.op rfl rfl (op_callF Fa.C74 rfl ((spoilt_ok q r 2 TR _ _ (H1.part [0] rfl rfl)).mono (fun e w6 hq => ?_)))
        obtain ⟨rfl, hq6⟩ := hq
        refine ⟨_, rfl, ?_⟩
        have H6 : Own T w w6 [.blk q [(str (r.bad 2).s), (vN (r.bad 2).at_), (vN (r.bad 2).f)] TR] := H1.splice [0] [.blk q [(str (r.bad 2).s), (vN (r.bad 2).at_), (vN (r.bad 2).f)] TR] [] rfl rfl hq6 (Fits.solid True.intro Fits.nil)
        refine WL.op rfl rfl (op_assign rfl ?_)
        refine WL.op rfl rfl (op_assign rfl ?_)
        refine WL.nil ?_
        refine WQ.next ?_
        refine WC.ret ?_
        refine WQ.thenRet ?_
        refine WQ.out (.tmp rfl (.tmp rfl .nil)) ?_
        rw [numR, if_neg hc2, if_pos (show n < 1 ∨ n > 4 from by omega)]
        exact ⟨rfl, H6⟩
      ·
        have hc5 := of_decide_eq_false hb5
        obtain ⟨m, rfl⟩ : ∃ m : Nat, n = (m : Int) := ⟨n.toNat, by omega⟩
        refine WC.skip ?_
        refine WQ.next ?_
        refine WC.seq ?_
        refine WC.region ?_
        refine WL.op rfl rfl (op_move rfl ?_)
        refine WL.op rfl rfl (op_nilCheck rfl ?_)
        refine WL.op rfl rfl (op_fieldAddr rfl Fa.F107_0 ?_)
        refine WL.op rfl rfl (op_move rfl ?_)
        refine WL.op rfl rfl (op_callF Fa.C75 rfl ((rtake_ok q r ((m : Nat)) TR _ _ (H1.part [0] rfl rfl) (by first | assumption | omega)).mono (fun e w7 hq => ?_)))
        obtain ⟨rfl, hq7⟩ := hq
        refine ⟨_, rfl, ?_⟩
        have H7 : Own T w w7 [.blk q [(str ((rawR r (m : Nat)).2).s), (vN ((rawR r (m : Nat)).2).at_), (vN ((rawR r (m : Nat)).2).f)] TR] := H1.splice [0] [.blk q [(str ((rawR r (m : Nat)).2).s), (vN ((rawR r (m : Nat)).2).at_), (vN ((rawR r (m : Nat)).2).f)] TR] [] rfl rfl hq7 (Fits.solid True.intro Fits.nil)
        refine WL.op rfl rfl (op_move rfl ?_)
        refine WL.op rfl rfl (op_extract rfl rfl ?_)
        refine WL.op rfl rfl (op_extract rfl rfl ?_)
        refine WL.op rfl rfl (op_assign rfl ?_)
        refine WL.op rfl rfl (op_assign rfl ?_)
        refine WL.nil ?_
        refine WQ.next ?_
        refine WC.seq ?_
        refine WC.seq ?_
        refine WC.region ?_
        refine WL.op rfl rfl (op_move rfl ?_)
        refine WL.op rfl rfl (op_neqN (b := 0) rfl rfl ?_)
        refine WL.nil ?_
        refine WQ.next ?_
        refine WC.cond rfl (fun (hb8 : (decide ((rawR r (m : Nat)).1.2 ≠ 0)) = true) => ?_) (fun (hb8 : (decide ((rawR r (m : Nat)).1.2 ≠ 0)) = false) => ?_)
        ·
          have hc8 := of_decide_eq_true hb8
          refine WC.seq ?_
          refine WC.region ?_
          refine WL.op rfl rfl (op_move rfl ?_)
          refine WL.op rfl rfl (op_assign rfl ?_)
          refine WL.op rfl rfl (op_assign rfl ?_)
          refine WL.nil ?_
          refine WQ.next ?_
          refine WC.ret ?_
          refine WQ.thenRet ?_
          refine WQ.out (.tmp rfl (.tmp rfl .nil)) ?_
          rw [numR, if_neg hc2, if_neg (show ¬ ((m : Int) < 1 ∨ (m : Int) > 4) from by omega), Int.toNat_natCast, if_pos hc8]
          exact ⟨rfl, H7⟩
        ·
          have hc8 := of_decide_eq_false hb8
          refine WC.skip ?_
          refine WQ.next ?_
          refine WC.seq ?_
          refine WC.region ?_
          refine WL.op rfl rfl (op_move rfl ?_)
          refine WL.op rfl rfl (op_callF Fa.C76 rfl ((get_ok ((rawR r (m : Nat)).1.1) _).mono (fun e w9 hq => ?_)))
          obtain ⟨rfl, hf9⟩ := hq
          refine ⟨_, rfl, ?_⟩
          have H9 := H7.fr' hf9
          refine WL.op rfl rfl (op_extract rfl rfl ?_)
          refine WL.op rfl rfl (op_extract rfl rfl ?_)
          refine WL.op rfl rfl (op_assign rfl ?_)
          refine WL.op rfl rfl (op_assign rfl ?_)
          refine WL.nil ?_
          refine WQ.next ?_
          refine WC.ret ?_
          refine WQ.out (.tmp rfl (.tmp rfl .nil)) ?_
          have hl := rawR_len (Decidable.not_not.mp hc8)
          rw [numR, if_neg hc2, if_neg (show ¬ ((m : Int) < 1 ∨ (m : Int) > 4) from by omega), Int.toNat_natCast, if_neg hc8]
          exact ⟨by rw [getE, if_neg (by omega)]; rfl, H9⟩
set_option maxRecDepth 100000 in
theorem rdtext_ok (q : Nat) (r : Rd) (TR : TypeId) (T : List Nat) (w : World) (H : Own T w w [.blk q [(str r.s), (vN r.at_), (vN r.f)] TR]) (hr : r.s.length < 2 ^ 47) :
    Calls Try.prog 26 #[(ptr q 0)] w (fun e w' => e = .returned (.tuple #[str (textR r).1.1, vN (textR r).1.2]) ∧ Own T w w' [.blk q [str (textR r).2.s, vN (textR r).2.at_, vN (textR r).2.f] TR]) := by
  refine enter (args := [(ptr q 0)]) Try.func26 rfl rfl ?_
  refine WC.seq ?_
  refine WC.region ?_
  refine WL.op rfl rfl (op_assign rfl ?_)
  refine WL.op rfl rfl (op_assign rfl ?_)
  refine WL.nil ?_
  refine WQ.next ?_
  refine WC.seq ?_
  refine WC.region ?_
  refine WL.op rfl rfl (op_move rfl ?_)
  refine WL.op rfl rfl (op_callF Fa.C25 rfl ((rdnum_ok q r (2) TR _ _ (H.part [0] rfl rfl) (by first | exact hr | (rw [numR_s]; exact hr))).mono (fun e w1 hq => ?_)))
  obtain ⟨rfl, hq1⟩ := hq
  refine ⟨_, rfl, ?_⟩
  have H1 : Own T w w1 [.blk q [(str ((numR r 2).2).s), (vN ((numR r 2).2).at_), (vN ((numR r 2).2).f)] TR] := H.splice [0] [.blk q [(str ((numR r 2).2).s), (vN ((numR r 2).2).at_), (vN ((numR r 2).2).f)] TR] [] rfl rfl hq1 (Fits.solid True.intro Fits.nil)
  refine WL.op rfl rfl (op_move rfl ?_)
  refine WL.op rfl rfl (op_extract rfl rfl ?_)
  refine WL.op rfl rfl (op_extract rfl rfl ?_)
  refine WL.op rfl rfl (op_assign rfl ?_)
  refine WL.op rfl rfl (op_assign rfl ?_)
  refine WL.nil ?_
  refine WQ.next ?_
  refine WC.seq ?_
  refine WC.seq ?_
  refine WC.region ?_
  refine WL.op rfl rfl (op_move rfl ?_)
  refine WL.op rfl rfl (op_neqN (b := 0) rfl rfl ?_)
  refine WL.nil ?_
  refine WQ.next ?_
  refine WC.cond rfl (fun (hb2 : (decide ((numR r 2).1.2 ≠ 0)) = true) => ?_) (fun (hb2 : (decide ((numR r 2).1.2 ≠ 0)) = false) => ?_)
  ·
    have hc2 := of_decide_eq_true hb2
    refine WC.seq ?_
    refine WC.region ?_
    refine WL.op rfl rfl (op_move rfl ?_)
    refine WL.op rfl rfl (op_assign rfl ?_)
    refine WL.op rfl rfl (op_assign rfl ?_)
    refine WL.nil ?_
    refine WQ.next ?_
    refine WC.ret ?_
    refine WQ.thenRet ?_
    refine WQ.out (.tmp rfl (.tmp rfl .nil)) ?_
    rw [textR, if_pos hc2]
    exact ⟨rfl, H1⟩
  ·
    have hc2 := of_decide_eq_false hb2
    refine WC.skip ?_
    refine WQ.next ?_
    refine WC.seq ?_
    refine WC.region ?_
    refine WL.op rfl rfl (op_move rfl ?_)
    refine WL.op rfl rfl (op_nilCheck rfl ?_)
    refine WL.op rfl rfl (op_fieldAddr rfl Fa.F107_0 ?_)
    refine WL.op rfl rfl (op_move rfl ?_)
    refine WL.op rfl rfl (op_convU32N (hs := Try.underlying22) (hd := Try.underlying3) rfl ?_)
    refine WL.op rfl rfl (op_callF Fa.C75 rfl ((rtake_ok q ((numR r 2).2) (((numR r 2).1.1.toNat : Nat)) TR _ _ (H1.part [0] rfl rfl) (by first | exact hr | (rw [numR_s]; exact hr))).mono (fun e w3 hq => ?_)))
    obtain ⟨rfl, hq3⟩ := hq
    refine ⟨_, rfl, ?_⟩
    have H3 : Own T w w3 [.blk q [(str ((rawR ((numR r 2).2) ((numR r 2).1.1.toNat : Nat)).2).s), (vN ((rawR ((numR r 2).2) ((numR r 2).1.1.toNat : Nat)).2).at_), (vN ((rawR ((numR r 2).2) ((numR r 2).1.1.toNat : Nat)).2).f)] TR] := H1.splice [0] [.blk q [(str ((rawR ((numR r 2).2) ((numR r 2).1.1.toNat : Nat)).2).s), (vN ((rawR ((numR r 2).2) ((numR r 2).1.1.toNat : Nat)).2).at_), (vN ((rawR ((numR r 2).2) ((numR r 2).1.1.toNat : Nat)).2).f)] TR] [] rfl rfl hq3 (Fits.solid True.intro Fits.nil)
    refine WL.op rfl rfl (op_move rfl ?_)
    refine WL.op rfl rfl (op_extract rfl rfl ?_)
    refine WL.op rfl rfl (op_extract rfl rfl ?_)
    refine WL.op rfl rfl (op_assign rfl ?_)
    refine WL.op rfl rfl (op_assign rfl ?_)
    refine WL.nil ?_
    refine WQ.next ?_
    refine WC.seq ?_
    refine WC.seq ?_
    refine WC.region ?_
    refine WL.op rfl rfl (op_move rfl ?_)
    refine WL.op rfl rfl (op_neqN (b := 0) rfl rfl ?_)
    refine WL.nil ?_
    refine WQ.next ?_
    refine WC.cond rfl (fun (hb4 : (decide ((rawR ((numR r 2).2) ((numR r 2).1.1.toNat : Nat)).1.2 ≠ 0)) = true) => ?_) (fun (hb4 : (decide ((rawR ((numR r 2).2) ((numR r 2).1.1.toNat : Nat)).1.2 ≠ 0)) = false) => ?_)
    ·
      have hc4 := of_decide_eq_true hb4
      refine WC.region ?_
      refine WL.op rfl rfl (op_move rfl ?_)
      refine WL.op rfl rfl (op_nilCheck rfl ?_)
      refine WL.op rfl rfl (op_fieldAddr rfl Fa.F107_0 ?_)
      refine WL.op rfl rfl (op_fieldAddr rfl Fa.F105_1 ?_)
      refine WL.op rfl rfl (op_load rfl (H3.cell (i := 0) rfl rfl) Try.underlying3 rfl ?_)
      refine WL.op rfl rfl (op_subN (b := 2) rfl rfl (by rw [(rawR_at6 hc4).1, numR_at2 (Decidable.not_not.mp hc2)]; omega) (by have := (rawR (numR r 2).2 (numR r 2).1.1.toNat).2.h; rw [rawR_s, numR_s] at this; omega) ?_)
      refine WL.op rfl rfl (op_nilCheck rfl ?_)
      refine WL.op rfl rfl (op_fieldAddr rfl Fa.F107_0 ?_)
      refine WL.op rfl rfl (op_fieldAddr rfl Fa.F105_1 ?_)
      refine WL.op rfl rfl (op_storeB (i := 0) H3 rfl rfl rfl rfl rfl Fa.I3 (fun w5 H5 => ?_))
      refine WL.nil ?_
      refine WQ.next ?_
      refine WC.seq ?_
      refine WC.region ?_
      refine WL.op rfl rfl (op_move rfl ?_)
      refine WL.op rfl rfl (op_move rfl ?_)
      refine WL.op rfl rfl (op_assign rfl ?_)
      refine WL.op rfl rfl (op_assign rfl ?_)
      refine WL.nil ?_
      refine WQ.next ?_
      refine WC.ret ?_
      refine WQ.out (.tmp rfl (.tmp rfl .nil)) ?_
      rw [textR, if_neg hc2, if_pos hc4]
      exact ⟨rfl, (by have h := (show Own T w w5 [.blk q [(str ((rawR ((numR r 2).2) ((numR r 2).1.1.toNat : Nat)).2).s), (vN (((rawR ((numR r 2).2) ((numR r 2).1.1.toNat : Nat)).2).at_ - 2)), (vN ((rawR ((numR r 2).2) ((numR r 2).1.1.toNat : Nat)).2).f)] TR] from H5); rw [rawR_s, numR_s, (rawR_at6 hc4).1, numR_at2 (Decidable.not_not.mp hc2), Nat.add_sub_cancel] at h; exact h)⟩
    ·
      have hc4 := of_decide_eq_false hb4
      refine WC.skip ?_
      refine WQ.next ?_
      refine WC.seq ?_
      refine WC.region ?_
      refine WL.op rfl rfl (op_move rfl ?_)
      refine WL.op rfl rfl (op_move rfl ?_)
      refine WL.op rfl rfl (op_assign rfl ?_)
      refine WL.op rfl rfl (op_assign rfl ?_)
      refine WL.nil ?_
      refine WQ.next ?_
      refine WC.ret ?_
      refine WQ.out (.tmp rfl (.tmp rfl .nil)) ?_
      rw [textR, if_neg hc2, if_neg hc4]
      exact ⟨rfl, H3⟩
set_option maxRecDepth 100000 in
theorem rdend_ok (q : Nat) (r : Rd) (TR : TypeId) (T : List Nat) (w : World) (H : Own T w w [.blk q [(str r.s), (vN r.at_), (vN r.f)] TR]) (hr : r.s.length < 2 ^ 47) :
    Calls Try.prog 29 #[(ptr q 0)] w (fun e w' => e = .returned (vN (endR r).1) ∧ Own T w w' [.blk q [str (endR r).2.s, vN (endR r).2.at_, vN (endR r).2.f] TR]) := by
  refine enter (args := [(ptr q 0)]) Try.func29 rfl rfl ?_
  refine WC.seq ?_
  refine WC.region ?_
  refine WL.op rfl rfl (op_assign rfl ?_)
  refine WL.nil ?_
  refine WQ.next ?_
  refine WC.seq ?_
  refine WC.seq ?_
  refine WC.region ?_
  refine WL.op rfl rfl (op_move rfl ?_)
  refine WL.op rfl rfl (op_callF Fa.C36 rfl ((fault_ok q r _ (H.cellsAt (i := 0) rfl)).mono (fun e w1 hq => ?_)))
  obtain ⟨rfl, hf1⟩ := hq
  refine ⟨_, rfl, ?_⟩
  have H1 := H.fr' hf1
  refine WL.op rfl rfl (op_assign rfl ?_)
  refine WL.nil ?_
  refine WQ.next ?_
  refine WC.seq ?_
  refine WC.region ?_
  refine WL.op rfl rfl (op_move rfl ?_)
  refine WL.op rfl rfl (op_neqN (b := 0) rfl rfl ?_)
  refine WL.nil ?_
  refine WQ.next ?_
  refine WC.cond rfl (fun (hb2 : (decide (r.f ≠ 0)) = true) => ?_) (fun (hb2 : (decide (r.f ≠ 0)) = false) => ?_)
  ·
    have hc2 := of_decide_eq_true hb2
    refine WC.seq ?_
    refine WC.region ?_
    refine WL.op rfl rfl (op_move rfl ?_)
    refine WL.op rfl rfl (op_assign rfl ?_)
    refine WL.nil ?_
    refine WQ.next ?_
    refine WC.ret ?_
    refine WQ.thenRet ?_
    refine WQ.out (.tmp rfl .nil) ?_
    rw [endR, if_pos hc2]
    exact ⟨rfl, H1⟩
  ·
    have hc2 := of_decide_eq_false hb2
    refine WC.skip ?_
    refine WQ.next ?_
    refine WC.seq ?_
    refine WC.seq ?_
    refine WC.region ?_
    refine WL.op rfl rfl (op_move rfl ?_)
    refine WL.op rfl rfl (op_nilCheck rfl ?_)
    refine WL.op rfl rfl (op_fieldAddr rfl Fa.F107_0 ?_)
    refine WL.op rfl rfl (op_callF Fa.C77 rfl ((left_ok q r _ (H1.cellsAt (i := 0) rfl) hr).mono (fun e w3 hq => ?_)))
    obtain ⟨rfl, hf3⟩ := hq
    refine ⟨_, rfl, ?_⟩
    have H3 := H1.fr' hf3
    refine WL.op rfl rfl (op_gtrN (b := 0) rfl rfl ?_)
    refine WL.nil ?_
    refine WQ.next ?_
    refine WC.cond rfl (fun (hb4 : (decide ((r.s.length - r.at_) > 0)) = true) => ?_) (fun (hb4 : (decide ((r.s.length - r.at_) > 0)) = false) => ?_)
    ·
      have hc4 := of_decide_eq_true hb4
      refine WC.seq ?_
      refine WC.region ?_
      refine WL.op rfl rfl (op_move rfl ?_)
      refine WL.op rfl rfl (op_nilCheck rfl ?_)
      refine WL.op rfl rfl (op_fieldAddr rfl Fa.F107_0 ?_)
      refine WL.op rfl rfl (op_callF Fa.C74 rfl ((spoilt_ok q r 7 TR _ _ (H3.part [0] rfl rfl)).mono (fun e w5 hq => ?_)))
      obtain ⟨rfl, hq5⟩ := hq
      refine ⟨_, rfl, ?_⟩
      have H5 : Own T w w5 [.blk q [(str (r.bad 7).s), (vN (r.bad 7).at_), (vN (r.bad 7).f)] TR] := H3.splice [0] [.blk q [(str (r.bad 7).s), (vN (r.bad 7).at_), (vN (r.bad 7).f)] TR] [] rfl rfl hq5 (Fits.solid True.intro Fits.nil)
      refine WL.op rfl rfl (op_assign rfl ?_)
      refine WL.nil ?_
      refine WQ.next ?_
      refine WC.ret ?_
      refine WQ.thenRet ?_
      refine WQ.out (.tmp rfl .nil) ?_
      rw [endR, if_neg hc2, if_pos hc4]
      exact ⟨rfl, H5⟩
    ·
      have hc4 := of_decide_eq_false hb4
      refine WC.skip ?_
      refine WQ.next ?_
      refine WC.seq ?_
      refine WC.region ?_
      refine WL.op rfl rfl (op_assign rfl ?_)
      refine WL.nil ?_
      refine WQ.next ?_
      refine WC.ret ?_
      refine WQ.out (.tmp rfl .nil) ?_
      rw [endR, if_neg hc2, if_neg hc4]
      exact ⟨rfl, H3⟩
end Go.Proofs.Ytpnghdalnghpcaa
