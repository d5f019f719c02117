/- General lemmas and walks: DRel, DRel2, DRel3, DRel4, DRel5. No condition but what each theorem names. -/
import Derived.Test.YtnngbnenekjffaaDoorQ968dcb6e
import Derived.Test.YtnngbnenekjffaaDoorQ71a7a5fd
/-! from DRel -/
namespace Go.Proofs.YtnngbnenekjffaaDoor
open Go.Owl Go.Spec
set_option maxRecDepth 100000 in
theorem text_ok (v : Value) (m : Nat) (l : List UInt8) (w : World) (hA : Arr w v 1 m (l.map vU8)) :
    Calls Tryd.prog 89 #[v] w (fun e w' => e = .returned (str l) ∧ Fr [] w w') := by
  refine enter (args := [v]) Tryd.func89 rfl rfl ?_
  have H0 : Own [] w w [] := Own.start w []
  refine WC.seq ?_
  refine WC.region ?_
  refine WL.op rfl rfl (op_assign rfl ?_)
  refine WL.nil ?_
  refine WQ.next ?_
  refine WC.seq ?_
  refine WC.region ?_
  refine WL.op rfl rfl (op_move rfl ?_)
  refine WL.op rfl rfl (op_bytesStr (l := l) Tryd.underlying58 Tryd.underlying5 Tryd.underlying9 rfl (H0.arr hA) rfl ?_)
  refine WL.op rfl rfl (op_assign rfl ?_)
  refine WL.nil ?_
  refine WQ.next ?_
  refine WC.ret ?_
  refine WQ.out (.tmp rfl .nil) ?_
  exact ⟨rfl, H0.fr⟩
set_option maxRecDepth 100000 in
theorem get_ok (s : List UInt8) (w : World) :
    Calls Tryd.prog 44 #[(str s)] w (fun e w' => e = .returned (.tuple #[vU32 (getV s), vN (getE s)]) ∧ Fr [] w w') := by
  refine enter (args := [(str s)]) Tryd.func44 rfl rfl ?_
  have H0 : Own [] w w [] := Own.start w []
  refine WC.seq ?_
  refine WC.region ?_
  refine WL.op rfl rfl (op_assign rfl ?_)
  refine WL.op rfl rfl (op_assign rfl ?_)
  refine WL.nil ?_
  refine WQ.next ?_
  refine WC.seq ?_
  refine WC.seq ?_
  refine WC.region ?_
  refine WL.op rfl rfl (op_move rfl ?_)
  refine WL.op rfl rfl (op_lenStr Tryd.underlying9 rfl ?_)
  refine WL.op rfl rfl (op_lssN (b := 1) rfl rfl ?_)
  refine WL.op rfl rfl (op_move rfl ?_)
  refine WL.split (t := 8) rfl (fun (hb1 : (decide (s.length < 1)) = true) => ?_) (fun (hb1 : (decide (s.length < 1)) = false) => ?_)
  ·
    have hc1 := of_decide_eq_true hb1
    refine WL.no rfl rfl rfl hb1 rfl ?_
    refine WL.no rfl rfl rfl hb1 rfl ?_
    refine WL.no rfl rfl rfl hb1 rfl ?_
    refine WL.op rfl rfl (op_pickT rfl hb1 rfl ?_)
    refine WL.nil ?_
    refine WQ.next ?_
    refine WC.yes rfl rfl ?_
    refine WC.seq ?_
    refine WC.region ?_
    refine WL.op rfl rfl (op_assign rfl ?_)
    refine WL.op rfl rfl (op_assign rfl ?_)
    refine WL.nil ?_
    refine WQ.next ?_
    refine WC.ret ?_
    refine WQ.thenRet ?_
    refine WQ.out (.tmp rfl (.tmp rfl .nil)) ?_
    exact ⟨by first | (have hk : k = s.length := (by omega); subst hk; rw [getV, getE, if_neg (by omega), if_neg (by omega)]; rfl) | (rw [getV, getE, if_pos (by omega), if_pos (by omega)]; rfl), H0.fr⟩
  ·
    have hc1 := of_decide_eq_false hb1
    refine WL.yes rfl rfl rfl hb1 rfl (op_move rfl ?_)
    refine WL.yes rfl rfl rfl hb1 rfl (op_lenStr Tryd.underlying9 rfl ?_)
    refine WL.yes rfl rfl rfl hb1 rfl (op_gtrN (b := 4) rfl rfl ?_)
    refine WL.op rfl rfl (op_pickF rfl hb1 rfl ?_)
    refine WL.nil ?_
    refine WQ.next ?_
    refine WC.cond rfl (fun (hb2 : (decide (s.length > 4)) = true) => ?_) (fun (hb2 : (decide (s.length > 4)) = false) => ?_)
    ·
      have hc2 := of_decide_eq_true hb2
      refine WC.seq ?_
      refine WC.region ?_
      refine WL.op rfl rfl (op_assign rfl ?_)
      refine WL.op rfl rfl (op_assign rfl ?_)
      refine WL.nil ?_
      refine WQ.next ?_
      refine WC.ret ?_
      refine WQ.thenRet ?_
      refine WQ.out (.tmp rfl (.tmp rfl .nil)) ?_
      exact ⟨by first | (have hk : k = s.length := (by omega); subst hk; rw [getV, getE, if_neg (by omega), if_neg (by omega)]; rfl) | (rw [getV, getE, if_pos (by omega), if_pos (by omega)]; rfl), H0.fr⟩
    ·
      have hc2 := of_decide_eq_false hb2
      refine WC.skip ?_
      refine WQ.next ?_
      refine WC.seq ?_
      refine WC.seq ?_
      refine WC.region ?_
      refine WL.op rfl rfl (op_move rfl ?_)
      refine WL.op rfl rfl (op_lenStr Tryd.underlying9 rfl ?_)
      refine WL.op rfl rfl (op_move rfl ?_)
      refine WL.nil ?_
      refine WQ.next ?_
      refine WC.block ?_
      refine WC.loop (α := Nat) (fun k => [(0, (str s)), (3, (vN 0)), (14, (vN s.length)), (15, (vN k)), (2, (vU32 (getTo s k)))]) (fun k w' => (k ≤ s.length) ∧ Own [] w w' []) (fun k => s.length - k) 0 ⟨(by omega), H0⟩ ⟨rfl, rfl, rfl, rfl, rfl, trivial⟩ ?_
      rintro k w3 ⟨hinv, H3⟩
      show WC _ _ _ _ _ [(0, (str s)), (3, (vN 0)), (14, (vN s.length)), (15, (vN k)), (2, (vU32 (getTo s k)))] _
      refine WC.seq ?_
      refine WC.region ?_
      refine WL.op rfl rfl (op_lssN rfl rfl ?_)
      refine WL.nil ?_
      refine WQ.next ?_
      refine WC.seq ?_
      refine WC.cond rfl (fun (hb4 : (decide (k < s.length)) = true) => ?_) (fun (hb4 : (decide (k < s.length)) = false) => ?_)
      ·
        have hc4 := of_decide_eq_true hb4
        refine WC.skip ?_
        refine WQ.next ?_
        refine WC.seq ?_
        refine WC.block ?_
        refine WC.seq ?_
        refine WC.region ?_
        refine WL.op rfl rfl (op_move rfl ?_)
        refine WL.op rfl rfl (op_assign rfl ?_)
        refine WL.nil ?_
        refine WQ.next ?_
        refine WC.region ?_
        refine WL.op rfl rfl (op_move rfl ?_)
        refine WL.op rfl rfl (op_move rfl ?_)
        refine WL.op rfl rfl (op_move rfl ?_)
        refine WL.op rfl rfl (op_indexStrD Tryd.underlying9 rfl rfl (by omega) ?_)
        refine WL.op rfl rfl (op_convU8U32 (hs := Tryd.underlying5) (hd := Tryd.underlying22) rfl ?_)
        refine WL.op rfl rfl (op_move rfl ?_)
        refine WL.op rfl rfl (op_mulN (a := 8) rfl rfl (by omega) ?_)
        refine WL.op rfl rfl (op_shlU32 rfl rfl ?_)
        refine WL.op rfl rfl (op_orU32 rfl rfl ?_)
        refine WL.op rfl rfl (op_assign rfl ?_)
        refine WL.nil ?_
        refine WQ.inNormal ?_
        refine WQ.next ?_
        refine WC.region ?_
        refine WL.op rfl rfl (op_addN (b := 1) rfl rfl (by omega) ?_)
        refine WL.op rfl rfl (op_move rfl ?_)
        refine WL.nil ?_
        exact WQ.round (k + 1) ⟨(by omega), H3⟩ ⟨rfl, rfl, rfl, rfl, rfl, trivial⟩ (by omega)
      ·
        have hc4 := of_decide_eq_false hb4
        refine WC.exit ?_
        refine WQ.thenExit ?_
        refine WQ.thenExit ?_
        refine WQ.inHere ?_
        refine WQ.next ?_
        refine WC.seq ?_
        refine WC.region ?_
        refine WL.op rfl rfl (op_move rfl ?_)
        refine WL.op rfl rfl (op_assign rfl ?_)
        refine WL.op rfl rfl (op_assign rfl ?_)
        refine WL.nil ?_
        refine WQ.next ?_
        refine WC.ret ?_
        refine WQ.out (.tmp rfl (.tmp rfl .nil)) ?_
        exact ⟨by first | (have hk : k = s.length := (by omega); subst hk; rw [getV, getE, if_neg (by omega), if_neg (by omega)]; rfl) | (rw [getV, getE, if_pos (by omega), if_pos (by omega)]; rfl), H3.fr⟩
set_option maxRecDepth 100000 in
theorem put_ok (v : UInt32) (n : Int) (w : World) :
    Calls Tryd.prog 70 #[(vU32 v), (vI n)] w (fun e w' => e = .returned (.tuple #[str (numS v n), vN (numE v n)]) ∧ Fr [] w w') := by
  refine enter (args := [(vU32 v), (vI n)]) Tryd.func70 rfl rfl ?_
  have H0 : Own [] w w [] := Own.start w []
  refine WC.seq ?_
  refine WC.region ?_
  refine WL.op rfl rfl (op_assign rfl ?_)
  refine WL.op rfl rfl (op_assign rfl ?_)
  refine WL.nil ?_
  refine WQ.next ?_
  refine WC.seq ?_
  refine WC.block ?_
  refine WC.seq ?_
  refine WC.region ?_
  refine WL.op rfl rfl (op_move rfl ?_)
  refine WL.op rfl rfl (op_lssI (b := (1 : Int)) rfl rfl ?_)
  refine WL.op rfl rfl (op_move rfl ?_)
  refine WL.split (t := 9) rfl (fun (hb1 : (decide (n < (1 : Int))) = true) => ?_) (fun (hb1 : (decide (n < (1 : Int))) = false) => ?_)
  ·
    have hc1 := of_decide_eq_true hb1
    refine WL.no rfl rfl rfl hb1 rfl ?_
    refine WL.no rfl rfl rfl hb1 rfl ?_
    refine WL.op rfl rfl (op_pickT rfl hb1 rfl ?_)
    refine WL.op rfl rfl (op_assign rfl ?_)
    refine WL.nil ?_
    refine WQ.next ?_
    refine WC.yes rfl rfl ?_
    refine WC.seq ?_
    refine WC.region ?_
    refine WL.op rfl rfl (op_assign rfl ?_)
    refine WL.op rfl rfl (op_assign rfl ?_)
    refine WL.nil ?_
    refine WQ.next ?_
    refine WC.ret ?_
    refine WQ.inRet ?_
    refine WQ.thenRet ?_
    refine WQ.out (.tmp rfl (.tmp rfl .nil)) ?_
    rw [numS, numE, if_pos (show n < 1 ∨ n > 4 from by omega), if_neg (by decide)]
    exact ⟨rfl, H0.fr⟩
  ·
    have hc1 := of_decide_eq_false hb1
    refine WL.yes rfl rfl rfl hb1 rfl (op_move rfl ?_)
    refine WL.yes rfl rfl rfl hb1 rfl (op_gtrI (b := (4 : Int)) rfl rfl ?_)
    refine WL.op rfl rfl (op_pickF rfl hb1 rfl ?_)
    refine WL.op rfl rfl (op_assign rfl ?_)
    refine WL.nil ?_
    refine WQ.next ?_
    refine WC.cond rfl (fun (hb2 : (decide (n > (4 : Int))) = true) => ?_) (fun (hb2 : (decide (n > (4 : Int))) = false) => ?_)
    ·
      have hc2 := of_decide_eq_true hb2
      refine WC.seq ?_
      refine WC.region ?_
      refine WL.op rfl rfl (op_assign rfl ?_)
      refine WL.op rfl rfl (op_assign rfl ?_)
      refine WL.nil ?_
      refine WQ.next ?_
      refine WC.ret ?_
      refine WQ.inRet ?_
      refine WQ.thenRet ?_
      refine WQ.out (.tmp rfl (.tmp rfl .nil)) ?_
      rw [numS, numE, if_pos (show n < 1 ∨ n > 4 from by omega), if_neg (by decide)]
      exact ⟨rfl, H0.fr⟩
    ·
      have hc2 := of_decide_eq_false hb2
      obtain ⟨m, rfl⟩ : ∃ m : Nat, n = (m : Int) := ⟨n.toNat, by omega⟩
      refine WC.seq ?_
      refine WC.region ?_
      refine WL.op rfl rfl (op_move rfl ?_)
      refine WL.op rfl rfl (op_lssN (b := 4) rfl rfl ?_)
      refine WL.op rfl rfl (op_move rfl ?_)
      refine WL.split (t := 16) rfl (fun (hb3 : (decide (m < 4)) = true) => ?_) (fun (hb3 : (decide (m < 4)) = false) => ?_)
      ·
        have hc3 := of_decide_eq_true hb3
        refine WL.yes rfl rfl rfl hb3 rfl (op_move rfl ?_)
        refine WL.yes rfl rfl rfl hb3 rfl (op_move rfl ?_)
        refine WL.yes rfl rfl rfl hb3 rfl (op_mulN (a := 8) rfl rfl (by omega) ?_)
        refine WL.yes rfl rfl rfl hb3 rfl (op_shrU32 rfl rfl ?_)
        refine WL.yes rfl rfl rfl hb3 rfl (op_neqU32 (b := 0) rfl rfl ?_)
        refine WL.op rfl rfl (op_pickT rfl hb3 rfl ?_)
        refine WL.op rfl rfl (op_assign rfl ?_)
        refine WL.nil ?_
        refine WQ.next ?_
        refine WC.cond rfl (fun (hb4 : (decide ((shrU32 v (8 * m)) ≠ (0 : UInt32))) = true) => ?_) (fun (hb4 : (decide ((shrU32 v (8 * m)) ≠ (0 : UInt32))) = false) => ?_)
        ·
          have hc4 := of_decide_eq_true hb4
          refine WC.seq ?_
          refine WC.region ?_
          refine WL.op rfl rfl (op_assign rfl ?_)
          refine WL.op rfl rfl (op_assign rfl ?_)
          refine WL.nil ?_
          refine WQ.next ?_
          refine WC.ret ?_
          refine WQ.inRet ?_
          refine WQ.thenRet ?_
          refine WQ.out (.tmp rfl (.tmp rfl .nil)) ?_
          rw [numS, numE, if_neg (show ¬ ((m : Int) < 1 ∨ (m : Int) > 4) from by omega), Int.toNat_natCast, if_pos (show rV v m ≠ 0 from by rw [← rV_shr]; exact hc4), if_neg (by decide)]
          exact ⟨rfl, H0.fr⟩
        ·
          have hc4 := of_decide_eq_false hb4
          refine WC.skip ?_
          refine WQ.inNormal ?_
          refine WQ.next ?_
          refine WC.seq ?_
          refine WC.region ?_
          refine WL.op rfl rfl (op_move rfl ?_)
          refine WL.op rfl rfl (op_convU32U8 (hs := Tryd.underlying22) (hd := Tryd.underlying5) rfl ?_)
          refine WL.op rfl rfl (op_move rfl ?_)
          refine WL.op rfl rfl (op_shrU32 (s := 8) rfl rfl ?_)
          refine WL.op rfl rfl (op_convU32U8 (hs := Tryd.underlying22) (hd := Tryd.underlying5) rfl ?_)
          refine WL.op rfl rfl (op_move rfl ?_)
          refine WL.op rfl rfl (op_shrU32 (s := 16) rfl rfl ?_)
          refine WL.op rfl rfl (op_convU32U8 (hs := Tryd.underlying22) (hd := Tryd.underlying5) rfl ?_)
          refine WL.op rfl rfl (op_move rfl ?_)
          refine WL.op rfl rfl (op_shrU32 (s := 24) rfl rfl ?_)
          refine WL.op rfl rfl (op_convU32U8 (hs := Tryd.underlying22) (hd := Tryd.underlying5) rfl ?_)
          refine WL.op rfl rfl (op_buildSlice (cs := [_, _, _, _]) H0 Tryd.underlying58 Fa.I5 rfl rfl rfl rfl (by decide) (by decide) (fun b5 w5 H5 => ?_))
          refine WL.op rfl rfl (op_move rfl ?_)
          refine WL.op rfl rfl (op_cutHi Tryd.underlying58 Fa.I5 rfl (H5.arrR (i := 0) rfl) rfl (by omega) ?_)
          refine WL.op rfl rfl (op_callF Fa.C89 rfl ((text_ok _ _ (([(UInt8.ofNat v.toNat), (UInt8.ofNat (shrU32 v 8).toNat), (UInt8.ofNat (shrU32 v 16).toNat), (UInt8.ofNat (shrU32 v 24).toNat)].take m)) _ (((H5.arrR (i := 0) rfl)).cutHiM (f := vU8) (l := [(UInt8.ofNat v.toNat), (UInt8.ofNat (shrU32 v 8).toNat), (UInt8.ofNat (shrU32 v 16).toNat), (UInt8.ofNat (shrU32 v 24).toNat)]) (b := m) (by omega))).mono (fun e w6 hq => ?_)))
          obtain ⟨rfl, hf6⟩ := hq
          refine ⟨_, rfl, ?_⟩
          have H6 := H5.fr' hf6
          refine WL.op rfl rfl (op_assign rfl ?_)
          refine WL.op rfl rfl (op_assign rfl ?_)
          refine WL.nil ?_
          refine WQ.next ?_
          refine WC.ret ?_
          refine WQ.out (.tmp rfl (.tmp rfl .nil)) ?_
          rw [numS, numE, if_neg (show ¬ ((m : Int) < 1 ∨ (m : Int) > 4) from by omega), Int.toNat_natCast, if_neg (show ¬ (rV v m ≠ 0) from fun h => h (by rw [← rV_shr]; exact Decidable.not_not.mp hc4)), if_pos rfl, ← rB_take v (by omega)]
          exact ⟨rfl, H6.fr⟩
      ·
        have hc3 := of_decide_eq_false hb3
        refine WL.no rfl rfl rfl hb3 rfl ?_
        refine WL.no rfl rfl rfl hb3 rfl ?_
        refine WL.no rfl rfl rfl hb3 rfl ?_
        refine WL.no rfl rfl rfl hb3 rfl ?_
        refine WL.no rfl rfl rfl hb3 rfl ?_
        refine WL.op rfl rfl (op_pickF rfl hb3 rfl ?_)
        refine WL.op rfl rfl (op_assign rfl ?_)
        refine WL.nil ?_
        refine WQ.next ?_
        refine WC.no rfl rfl ?_
        refine WC.skip ?_
        refine WQ.inNormal ?_
        refine WQ.next ?_
        refine WC.seq ?_
        refine WC.region ?_
        refine WL.op rfl rfl (op_move rfl ?_)
        refine WL.op rfl rfl (op_convU32U8 (hs := Tryd.underlying22) (hd := Tryd.underlying5) rfl ?_)
        refine WL.op rfl rfl (op_move rfl ?_)
        refine WL.op rfl rfl (op_shrU32 (s := 8) rfl rfl ?_)
        refine WL.op rfl rfl (op_convU32U8 (hs := Tryd.underlying22) (hd := Tryd.underlying5) rfl ?_)
        refine WL.op rfl rfl (op_move rfl ?_)
        refine WL.op rfl rfl (op_shrU32 (s := 16) rfl rfl ?_)
        refine WL.op rfl rfl (op_convU32U8 (hs := Tryd.underlying22) (hd := Tryd.underlying5) rfl ?_)
        refine WL.op rfl rfl (op_move rfl ?_)
        refine WL.op rfl rfl (op_shrU32 (s := 24) rfl rfl ?_)
        refine WL.op rfl rfl (op_convU32U8 (hs := Tryd.underlying22) (hd := Tryd.underlying5) rfl ?_)
        refine WL.op rfl rfl (op_buildSlice (cs := [_, _, _, _]) H0 Tryd.underlying58 Fa.I5 rfl rfl rfl rfl (by decide) (by decide) (fun b7 w7 H7 => ?_))
        refine WL.op rfl rfl (op_move rfl ?_)
        refine WL.op rfl rfl (op_cutHi Tryd.underlying58 Fa.I5 rfl (H7.arrR (i := 0) rfl) rfl (by omega) ?_)
        refine WL.op rfl rfl (op_callF Fa.C89 rfl ((text_ok _ _ (([(UInt8.ofNat v.toNat), (UInt8.ofNat (shrU32 v 8).toNat), (UInt8.ofNat (shrU32 v 16).toNat), (UInt8.ofNat (shrU32 v 24).toNat)].take m)) _ (((H7.arrR (i := 0) rfl)).cutHiM (f := vU8) (l := [(UInt8.ofNat v.toNat), (UInt8.ofNat (shrU32 v 8).toNat), (UInt8.ofNat (shrU32 v 16).toNat), (UInt8.ofNat (shrU32 v 24).toNat)]) (b := m) (by omega))).mono (fun e w8 hq => ?_)))
        obtain ⟨rfl, hf8⟩ := hq
        refine ⟨_, rfl, ?_⟩
        have H8 := H7.fr' hf8
        refine WL.op rfl rfl (op_assign rfl ?_)
        refine WL.op rfl rfl (op_assign rfl ?_)
        refine WL.nil ?_
        refine WQ.next ?_
        refine WC.ret ?_
        refine WQ.out (.tmp rfl (.tmp rfl .nil)) ?_
        rw [numS, numE, if_neg (show ¬ ((m : Int) < 1 ∨ (m : Int) > 4) from by omega), Int.toNat_natCast, if_neg (show ¬ (rV v m ≠ 0) from fun h => h (by rw [show m = 4 from by omega]; exact rV_4 v)), if_pos rfl, ← rB_take v (by omega)]
        exact ⟨rfl, H8.fr⟩
set_option maxRecDepth 100000 in
theorem begin_yes (x : Sy) (bs : List UInt8) (w : World) (hI : SyD.ok w x) (hn : x.nm.length < 2 ^ 47) (hb : x.b.length < 2 ^ 32) (hr : ∀ y ∈ x.rl, y.nm.length < 2 ^ 47) (hm : x.rl.length < 2 ^ 40) (hq : x.nt.length < 2 ^ 40) (hsy : symB x = true) :
    Calls Tryd.prog 41 #[(.agg #[(str x.nm), (vU8 x.bind), (vU8 x.kind), (vU32 x.size), (str x.b), x.rv, x.nv]), (str bs)] w (fun e w' => ∃ q v, e = .returned (.tuple #[ptr q 0, vN 0]) ∧ Own [] w w' [.blk q [str x.nm, vU8 x.bind, vU8 x.kind, vU32 x.size, str x.b, x.rv, x.nv, v] 88, .row v 5 1 x.size.toNat (List.map vU8 (begB x.size.toNat bs))]) := by
  refine enter (args := [(.agg #[(str x.nm), (vU8 x.bind), (vU8 x.kind), (vU32 x.size), (str x.b), x.rv, x.nv]), (str bs)]) Tryd.func41 rfl rfl ?_
  have H0 : Own [] w w [] := Own.start w []
  refine WC.seq ?_
  refine WC.region ?_
  refine WL.op rfl rfl (op_box H0 rfl rfl (fun b1 w1 H1 => ?_))
  refine WL.op rfl rfl (op_assign rfl ?_)
  refine WL.op rfl rfl (op_assign rfl ?_)
  refine WL.nil ?_
  refine WQ.next ?_
  refine WC.seq ?_
  refine WC.seq ?_
  refine WC.region ?_
  refine WL.op rfl rfl (op_loadS (vs := [_, _, _, _, _, _, _]) rfl (H1.cells (i := 0) rfl rfl) Tryd.underlying26 rfl Fa.I26 rfl ?_)
  refine WL.op rfl rfl (op_callF Fa.C27 rfl ((osym_ok x _ (SyD_mk (x := x) ((SyD_rl (SyD.fr0 hI H1.fr))) ((SyD_nt (SyD.fr0 hI H1.fr)))) hn hb hr hm hq).mono (fun e w2 hq => ?_)))
  obtain ⟨rfl, hf2⟩ := hq
  refine ⟨_, rfl, ?_⟩
  have H2 := H1.fr' hf2
  refine WL.op rfl rfl (op_assign rfl ?_)
  refine WL.nil ?_
  refine WQ.next ?_
  refine WC.seq ?_
  refine WC.region ?_
  refine WL.op rfl rfl (op_move rfl ?_)
  refine WL.op rfl rfl (op_neqN (b := 0) rfl rfl ?_)
  refine WL.nil ?_
  refine WQ.next ?_
  refine WC.no rfl (decide_eq_false (fun h => h (by rw [symE, hsy]; rfl))) ?_
  refine WC.skip ?_
  refine WQ.next ?_
  refine WC.seq ?_
  refine WC.drawn 7 rfl Fa.M H2 ?_
  intro w3 H3
  refine WD.named (fun W hW => ?_)
  let e4 : List (Nat × Value) → List (Nat × Value) := fun r => (0, (.agg #[(str x.nm), (vU8 x.bind), (vU8 x.kind), (vU32 x.size), (str x.b), x.rv, x.nv])) :: (1, (str bs)) :: (2, (ptr b1 0)) :: (4, (.pointer none)) :: (5, (vN 0)) :: (6, (vN (symE x))) :: (8, (.agg #[(str x.nm), (vU8 x.bind), (vU8 x.kind), (vU32 x.size), (str x.b), x.rv, x.nv])) :: (9, (vN (symE x))) :: (10, (vN (symE x))) :: (11, (.bool (decide ((symE x) ≠ 0)))) :: r
  let l4 : List Ent → List Ent := fun r => (.blk b1 [(str x.nm), (vU8 x.bind), (vU8 x.kind), (vU32 x.size), (str x.b), x.rv, x.nv] 26) :: r
  have st4_10 : ∀ (b14101 : _) (b14061 : _) (wS : World), Own [] w wS (l4 [.row (.slice (some ⟨b14061, 0, none⟩) x.size.toNat x.size.toNat) 5 1 x.size.toNat (List.map vU8 (List.replicate x.size.toNat 0)), .blk b14101 [(str x.nm), (vU8 x.bind), (vU8 x.kind), (vU32 x.size), (str x.b), x.rv, x.nv, (.slice (some ⟨b14061, 0, none⟩) x.size.toNat x.size.toNat)] 88]) → W 0 #[true, true, true, true, true, true, true] (e4 [(7, (ptr b14101 0)), (13, (.agg #[(str x.nm), (vU8 x.bind), (vU8 x.kind), (vU32 x.size), (str x.b), x.rv, x.nv])), (14, (ptr b1 3)), (15, (vU32 x.size)), (16, (.slice (some ⟨b14061, 0, none⟩) x.size.toNat x.size.toNat)), (17, (.agg #[(str x.nm), (vU8 x.bind), (vU8 x.kind), (vU32 x.size), (str x.b), x.rv, x.nv, (.slice (some ⟨b14061, 0, none⟩) x.size.toNat x.size.toNat)])), (18, (ptr b14101 0))]) wS := by
    intro b14101 b14061 wS HS
    rw [hW]
    refine WD.done (by kernel_rfl) ?_
    refine WQ.next ?_
    refine WC.seq ?_
    refine WC.region ?_
    refine WL.op rfl rfl (op_move rfl ?_)
    refine WL.op rfl rfl (op_nilCheck rfl ?_)
    refine WL.op rfl rfl (op_fieldAddr rfl Fa.F88_1 ?_)
    refine WL.op rfl rfl (op_load rfl (HS.cell (i := 2) rfl rfl) Tryd.underlying58 rfl ?_)
    refine WL.op rfl rfl (op_move rfl ?_)
    refine WL.op rfl rfl (op_copyM (i := 1) (f := vU8) (l := (List.replicate x.size.toNat 0)) (r := bs) HS Tryd.underlying58 Fa.I5 rfl rfl SrcC.ofStr rfl (Sub.self (HS.arrR (i := 1) rfl)) (by omega) rfl (fun _ => rfl) (fun w5 H5 => ?_))
    refine WL.nil ?_
    refine WQ.next ?_
    refine WC.seq ?_
    refine WC.region ?_
    refine WL.op rfl rfl (op_move rfl ?_)
    refine WL.op rfl rfl (op_assign rfl ?_)
    refine WL.op rfl rfl (op_assign rfl ?_)
    refine WL.nil ?_
    refine WQ.next ?_
    refine WC.ret ?_
    refine WQ.out (.tmp rfl (.tmp rfl .nil)) ?_
    exact ⟨_, _, rfl, H5.sel [2, 1] rfl rfl⟩
  have st4_9 : ∀ (b14061 : _) (b14101 : _) (wS : World), Own [] w wS (l4 [.row (.slice (some ⟨b14061, 0, none⟩) x.size.toNat x.size.toNat) 5 1 x.size.toNat (List.map vU8 (List.replicate x.size.toNat 0)), .blk b14101 [(str x.nm), (vU8 x.bind), (vU8 x.kind), (vU32 x.size), (str x.b), x.rv, x.nv, (.slice (some ⟨b14061, 0, none⟩) x.size.toNat x.size.toNat)] 88]) → W 1 #[true, true, true, true, true, true, false] (e4 [(13, (.agg #[(str x.nm), (vU8 x.bind), (vU8 x.kind), (vU32 x.size), (str x.b), x.rv, x.nv])), (14, (ptr b1 3)), (15, (vU32 x.size)), (16, (.slice (some ⟨b14061, 0, none⟩) x.size.toNat x.size.toNat)), (17, (.agg #[(str x.nm), (vU8 x.bind), (vU8 x.kind), (vU32 x.size), (str x.b), x.rv, x.nv, (.slice (some ⟨b14061, 0, none⟩) x.size.toNat x.size.toNat)])), (18, (ptr b14101 0))]) wS := by
    intro b14061 b14101 wS HS
    rw [hW]
    refine WD.all1 (i := 6) (by kernel_rfl) ?_
    ·
      refine WS.op (i := 6) rfl rfl rfl (op_assign rfl ?_)
      have hq := st4_10 b14101 b14061 wS HS
      rw [hW] at hq
      refine WD.cov ?_ hq
      exact by repeat (first | exact trivial | refine ⟨rfl, ?_⟩)
  have st4_8 : ∀ (b14061 : _) (wS : World), Own [] w wS (l4 [.row (.slice (some ⟨b14061, 0, none⟩) x.size.toNat x.size.toNat) 5 1 x.size.toNat (List.map vU8 (List.replicate x.size.toNat 0))]) → W 2 #[true, true, true, true, true, false, false] (e4 [(13, (.agg #[(str x.nm), (vU8 x.bind), (vU8 x.kind), (vU32 x.size), (str x.b), x.rv, x.nv])), (14, (ptr b1 3)), (15, (vU32 x.size)), (16, (.slice (some ⟨b14061, 0, none⟩) x.size.toNat x.size.toNat)), (17, (.agg #[(str x.nm), (vU8 x.bind), (vU8 x.kind), (vU32 x.size), (str x.b), x.rv, x.nv, (.slice (some ⟨b14061, 0, none⟩) x.size.toNat x.size.toNat)]))]) wS := by
    intro b14061 wS HS
    rw [hW]
    refine WD.all1 (i := 5) (by kernel_rfl) ?_
    ·
      refine WS.op (i := 5) rfl rfl rfl (op_box HS rfl rfl (fun b14101 w14101 H14101 => ?_))
      have hq := st4_9 b14061 b14101 w14101 H14101
      rw [hW] at hq
      refine WD.cov ?_ hq
      exact by repeat (first | exact trivial | refine ⟨rfl, ?_⟩)
  have st4_7 : ∀ (b14061 : _) (wS : World), Own [] w wS (l4 [.row (.slice (some ⟨b14061, 0, none⟩) x.size.toNat x.size.toNat) 5 1 x.size.toNat (List.map vU8 (List.replicate x.size.toNat 0))]) → W 3 #[true, true, true, true, false, false, false] (e4 [(13, (.agg #[(str x.nm), (vU8 x.bind), (vU8 x.kind), (vU32 x.size), (str x.b), x.rv, x.nv])), (14, (ptr b1 3)), (15, (vU32 x.size)), (16, (.slice (some ⟨b14061, 0, none⟩) x.size.toNat x.size.toNat))]) wS := by
    intro b14061 wS HS
    rw [hW]
    refine WD.all1 (i := 4) (by kernel_rfl) ?_
    ·
      refine WS.op (i := 4) rfl rfl rfl (op_build (cs := [_, _, _, _, _, _, _, _]) Fa.I88 Fa.PL88 rfl rfl ?_)
      have hq := st4_8 b14061 wS HS
      rw [hW] at hq
      refine WD.cov ?_ hq
      exact by repeat (first | exact trivial | refine ⟨rfl, ?_⟩)
  have st4_5 : ∀ (wS : World), Own [] w wS (l4 []) → W 4 #[true, true, true, false, false, false, false] (e4 [(13, (.agg #[(str x.nm), (vU8 x.bind), (vU8 x.kind), (vU32 x.size), (str x.b), x.rv, x.nv])), (14, (ptr b1 3)), (15, (vU32 x.size))]) wS := by
    intro wS HS
    rw [hW]
    refine WD.all1 (i := 3) (by kernel_rfl) ?_
    ·
      refine WS.op (i := 3) rfl rfl rfl (op_makeSliceM (f := vU8) (c := 0) (m := x.size.toNat) HS Tryd.underlying58 Fa.I5 rfl rfl (by have := (sym_fits hsy).2.1; omega) (by have := (sym_fits hsy).2.1; omega) (fun b14061 w14061 H14061 => ?_))
      have hq := st4_7 b14061 w14061 H14061
      rw [hW] at hq
      refine WD.cov ?_ hq
      exact by repeat (first | exact trivial | refine ⟨rfl, ?_⟩)
  have st4_6 : ∀ (b14061 : _) (wS : World), Own [] w wS (l4 [.row (.slice (some ⟨b14061, 0, none⟩) x.size.toNat x.size.toNat) 5 1 x.size.toNat (List.map vU8 (List.replicate x.size.toNat 0))]) → W 4 #[false, true, true, true, false, false, false] (e4 [(14, (ptr b1 3)), (15, (vU32 x.size)), (16, (.slice (some ⟨b14061, 0, none⟩) x.size.toNat x.size.toNat))]) wS := by
    intro b14061 wS HS
    rw [hW]
    refine WD.all1 (i := 0) (by kernel_rfl) ?_
    ·
      refine WS.op (i := 0) rfl rfl rfl (op_loadS (vs := [_, _, _, _, _, _, _]) rfl (HS.cells (i := 0) rfl rfl) Tryd.underlying26 rfl Fa.I26 rfl ?_)
      have hq := st4_7 b14061 wS HS
      rw [hW] at hq
      refine WD.cov ?_ hq
      exact by repeat (first | exact trivial | refine ⟨rfl, ?_⟩)
  have st4_3 : ∀ (wS : World), Own [] w wS (l4 []) → W 5 #[true, true, false, false, false, false, false] (e4 [(13, (.agg #[(str x.nm), (vU8 x.bind), (vU8 x.kind), (vU32 x.size), (str x.b), x.rv, x.nv])), (14, (ptr b1 3))]) wS := by
    intro wS HS
    rw [hW]
    refine WD.all1 (i := 2) (by kernel_rfl) ?_
    ·
      refine WS.op (i := 2) rfl rfl rfl (op_load rfl (HS.cell (i := 0) rfl rfl) Tryd.underlying22 rfl ?_)
      have hq := st4_5 wS HS
      rw [hW] at hq
      refine WD.cov ?_ hq
      exact by repeat (first | exact trivial | refine ⟨rfl, ?_⟩)
  have st4_4 : ∀ (wS : World), Own [] w wS (l4 []) → W 5 #[false, true, true, false, false, false, false] (e4 [(14, (ptr b1 3)), (15, (vU32 x.size))]) wS := by
    intro wS HS
    rw [hW]
    refine WD.all2 (i := 0) (j := 3) (by kernel_rfl) ?_ ?_
    ·
      refine WS.op (i := 0) rfl rfl rfl (op_loadS (vs := [_, _, _, _, _, _, _]) rfl (HS.cells (i := 0) rfl rfl) Tryd.underlying26 rfl Fa.I26 rfl ?_)
      have hq := st4_5 wS HS
      rw [hW] at hq
      refine WD.cov ?_ hq
      exact by repeat (first | exact trivial | refine ⟨rfl, ?_⟩)
    ·
      refine WS.op (i := 3) rfl rfl rfl (op_makeSliceM (f := vU8) (c := 0) (m := x.size.toNat) HS Tryd.underlying58 Fa.I5 rfl rfl (by have := (sym_fits hsy).2.1; omega) (by have := (sym_fits hsy).2.1; omega) (fun b14061 w14061 H14061 => ?_))
      have hq := st4_6 b14061 w14061 H14061
      rw [hW] at hq
      refine WD.cov ?_ hq
      exact by repeat (first | exact trivial | refine ⟨rfl, ?_⟩)
  have st4_1 : ∀ (wS : World), Own [] w wS (l4 []) → W 6 #[true, false, false, false, false, false, false] (e4 [(13, (.agg #[(str x.nm), (vU8 x.bind), (vU8 x.kind), (vU32 x.size), (str x.b), x.rv, x.nv]))]) wS := by
    intro wS HS
    rw [hW]
    refine WD.all1 (i := 1) (by kernel_rfl) ?_
    ·
      refine WS.op (i := 1) rfl rfl rfl (op_fieldAddr rfl Fa.F26_3 ?_)
      have hq := st4_3 wS HS
      rw [hW] at hq
      refine WD.cov ?_ hq
      exact by repeat (first | exact trivial | refine ⟨rfl, ?_⟩)
  have st4_2 : ∀ (wS : World), Own [] w wS (l4 []) → W 6 #[false, true, false, false, false, false, false] (e4 [(14, (ptr b1 3))]) wS := by
    intro wS HS
    rw [hW]
    refine WD.all2 (i := 0) (j := 2) (by kernel_rfl) ?_ ?_
    ·
      refine WS.op (i := 0) rfl rfl rfl (op_loadS (vs := [_, _, _, _, _, _, _]) rfl (HS.cells (i := 0) rfl rfl) Tryd.underlying26 rfl Fa.I26 rfl ?_)
      have hq := st4_3 wS HS
      rw [hW] at hq
      refine WD.cov ?_ hq
      exact by repeat (first | exact trivial | refine ⟨rfl, ?_⟩)
    ·
      refine WS.op (i := 2) rfl rfl rfl (op_load rfl (HS.cell (i := 0) rfl rfl) Tryd.underlying22 rfl ?_)
      have hq := st4_4 wS HS
      rw [hW] at hq
      refine WD.cov ?_ hq
      exact by repeat (first | exact trivial | refine ⟨rfl, ?_⟩)
  have st4_0 : ∀ (wS : World), Own [] w wS (l4 []) → W 7 #[false, false, false, false, false, false, false] (e4 []) wS := by
    intro wS HS
    rw [hW]
    refine WD.all2 (i := 0) (j := 1) (by kernel_rfl) ?_ ?_
    ·
      refine WS.op (i := 0) rfl rfl rfl (op_loadS (vs := [_, _, _, _, _, _, _]) rfl (HS.cells (i := 0) rfl rfl) Tryd.underlying26 rfl Fa.I26 rfl ?_)
      have hq := st4_1 wS HS
      rw [hW] at hq
      refine WD.cov ?_ hq
      exact by repeat (first | exact trivial | refine ⟨rfl, ?_⟩)
    ·
      refine WS.op (i := 1) rfl rfl rfl (op_fieldAddr rfl Fa.F26_3 ?_)
      have hq := st4_2 wS HS
      rw [hW] at hq
      refine WD.cov ?_ hq
      exact by repeat (first | exact trivial | refine ⟨rfl, ?_⟩)
  have hq := st4_0 w3 H3
  rw [hW] at hq ⊢
  refine WD.cov ?_ hq
  exact by repeat (first | exact trivial | refine ⟨rfl, ?_⟩)
set_option maxRecDepth 100000 in
theorem begin_no (x : Sy) (bs : List UInt8) (w : World) (hI : SyD.ok w x) (hn : x.nm.length < 2 ^ 47) (hb : x.b.length < 2 ^ 32) (hr : ∀ y ∈ x.rl, y.nm.length < 2 ^ 47) (hm : x.rl.length < 2 ^ 40) (hq : x.nt.length < 2 ^ 40) (hsy : symB x = false) :
    Calls Tryd.prog 41 #[(.agg #[(str x.nm), (vU8 x.bind), (vU8 x.kind), (vU32 x.size), (str x.b), x.rv, x.nv]), (str bs)] w (fun e w' => e = .returned (.tuple #[.pointer none, vN 2]) ∧ Fr [] w w') := by
  refine enter (args := [(.agg #[(str x.nm), (vU8 x.bind), (vU8 x.kind), (vU32 x.size), (str x.b), x.rv, x.nv]), (str bs)]) Tryd.func41 rfl rfl ?_
  have H0 : Own [] w w [] := Own.start w []
  refine WC.seq ?_
  refine WC.region ?_
  refine WL.op rfl rfl (op_box H0 rfl rfl (fun b1 w1 H1 => ?_))
  refine WL.op rfl rfl (op_assign rfl ?_)
  refine WL.op rfl rfl (op_assign rfl ?_)
  refine WL.nil ?_
  refine WQ.next ?_
  refine WC.seq ?_
  refine WC.seq ?_
  refine WC.region ?_
  refine WL.op rfl rfl (op_loadS (vs := [_, _, _, _, _, _, _]) rfl (H1.cells (i := 0) rfl rfl) Tryd.underlying26 rfl Fa.I26 rfl ?_)
  refine WL.op rfl rfl (op_callF Fa.C27 rfl ((osym_ok x _ (SyD_mk (x := x) ((SyD_rl (SyD.fr0 hI H1.fr))) ((SyD_nt (SyD.fr0 hI H1.fr)))) hn hb hr hm hq).mono (fun e w2 hq => ?_)))
  obtain ⟨rfl, hf2⟩ := hq
  refine ⟨_, rfl, ?_⟩
  have H2 := H1.fr' hf2
  refine WL.op rfl rfl (op_assign rfl ?_)
  refine WL.nil ?_
  refine WQ.next ?_
  refine WC.seq ?_
  refine WC.region ?_
  refine WL.op rfl rfl (op_move rfl ?_)
  refine WL.op rfl rfl (op_neqN (b := 0) rfl rfl ?_)
  refine WL.nil ?_
  refine WQ.next ?_
  refine WC.yes rfl (decide_eq_true (fun h => by rw [symE, hsy] at h; cases h)) ?_
  refine WC.seq ?_
  refine WC.region ?_
  refine WL.op rfl rfl (op_move rfl ?_)
  refine WL.op rfl rfl (op_assign rfl ?_)
  refine WL.op rfl rfl (op_assign rfl ?_)
  refine WL.nil ?_
  refine WQ.next ?_
  refine WC.ret ?_
  refine WQ.thenRet ?_
  refine WQ.out (.tmp rfl (.tmp rfl .nil)) ?_
  exact ⟨by rw [symE, hsy]; rfl, H2.fr⟩
set_option maxRecDepth 100000 in
theorem at_ok (q : Nat) (c0 c1 c2 c3 c4 c5 c6 vb : Value) (n : Nat) (l : List UInt8) (r : Rl) (w : World) (hQ : cellsAt w q [c0, c1, c2, c3, c4, c5, c6, vb]) (hV : Arr w vb 1 n (List.map vU8 l)) (h0 : widthN r.kind ≠ 0) (ho : r.off.toNat ≤ 8192) (hbd : endOf r ≤ n) :
    Calls Tryd.prog 45 #[(ptr q 0), (.agg #[(vU32 r.off), (vU8 r.kind), (str r.nm), (vU32 r.add)])] w (fun e w' => e = .returned (placeV vb r) ∧ Fr [] w w') := by
  refine enter (args := [(ptr q 0), (.agg #[(vU32 r.off), (vU8 r.kind), (str r.nm), (vU32 r.add)])]) Tryd.func45 rfl rfl ?_
  have H0 : Own [] w w [Ent.bo q [c0, c1, c2, c3, c4, c5, c6, vb], Ent.ar vb 1 n (List.map vU8 l)] := (((Own.start w []).oldB hQ).oldA hV)
  refine WC.seq ?_
  refine WC.region ?_
  refine WL.op rfl rfl (op_box H0 rfl rfl (fun b1 w1 H1 => ?_))
  refine WL.op rfl rfl (op_assign rfl ?_)
  refine WL.nil ?_
  refine WQ.next ?_
  refine WC.seq ?_
  refine WC.region ?_
  refine WL.op rfl rfl (op_fieldAddr rfl Fa.F44_0 ?_)
  refine WL.op rfl rfl (op_load rfl (H1.cell (i := 2) rfl rfl) Tryd.underlying22 rfl ?_)
  refine WL.op rfl rfl (op_addU32 (b := 4) rfl rfl ?_)
  refine WL.op rfl rfl (op_assign rfl ?_)
  refine WL.nil ?_
  refine WQ.next ?_
  refine WC.seq ?_
  refine WC.seq ?_
  refine WC.region ?_
  refine WL.op rfl rfl (op_fieldAddr rfl Fa.F44_1 ?_)
  refine WL.op rfl rfl (op_load rfl (H1.cell (i := 2) rfl rfl) Tryd.underlying5 rfl ?_)
  refine WL.op rfl rfl (op_eqlU8 (b := 2) rfl rfl ?_)
  refine WL.nil ?_
  refine WQ.next ?_
  refine WC.cond rfl (fun (hb2 : (decide (r.kind = (2 : UInt8))) = true) => ?_) (fun (hb2 : (decide (r.kind = (2 : UInt8))) = false) => ?_)
  ·
    have hc2 := of_decide_eq_true hb2
    have he : (r.off + 2).toNat = endOf r := end2 hb2 ho
    refine WC.region ?_
    refine WL.op rfl rfl (op_fieldAddr rfl Fa.F44_0 ?_)
    refine WL.op rfl rfl (op_load rfl (H1.cell (i := 2) rfl rfl) Tryd.underlying22 rfl ?_)
    refine WL.op rfl rfl (op_addU32 (b := 2) rfl rfl ?_)
    refine WL.op rfl rfl (op_assign rfl ?_)
    refine WL.nil ?_
    refine WQ.next ?_
    refine WC.seq ?_
    refine WC.draw 10 Fa.M H1 (HW.op rfl (fun w1 H1 => op_move rfl ⟨rfl, Fr.refl _ _⟩) (HW.op rfl (fun w1 H1 => op_nilCheck rfl ⟨rfl, Fr.refl _ _⟩) (HW.op rfl (fun w1 H1 => op_fieldAddr rfl Fa.F88_1 ⟨rfl, Fr.refl _ _⟩) (HW.op rfl (fun w1 H1 => op_load rfl (H1.cellO (i := 0) rfl rfl) Tryd.underlying58 rfl ⟨rfl, Fr.refl _ _⟩) (HW.op rfl (fun w1 H1 => op_fieldAddr rfl Fa.F44_0 ⟨rfl, Fr.refl _ _⟩) (HW.op rfl (fun w1 H1 => op_load rfl (H1.cell (i := 2) rfl rfl) Tryd.underlying22 rfl ⟨rfl, Fr.refl _ _⟩) (HW.op rfl (fun w1 H1 => op_move rfl ⟨rfl, Fr.refl _ _⟩) (HW.op rfl (fun w1 H1 => op_move rfl ⟨rfl, Fr.refl _ _⟩) (HW.op rfl (fun w1 H1 => op_cut3 Tryd.underlying58 Fa.I5 rfl (H1.arrO (i := 1) rfl) rfl rfl rfl (by rw [he, endOf]; omega) (Nat.le_refl _) (by rw [he]; exact hbd) ⟨rfl, Fr.refl _ _⟩) (HW.op rfl (fun w1 H1 => op_assign rfl ⟨rfl, Fr.refl _ _⟩)  HW.nil)))))))))) (by kernel_rfl) ?_
    intro β3 w3 H3
    refine WL.nil ?_
    refine WQ.next ?_
    refine WC.ret ?_
    refine WQ.out (.tmp rfl .nil) ?_
    exact ⟨by rw [placeV, ← he]; rfl, H3.fr⟩
  ·
    have hc2 := of_decide_eq_false hb2
    have he : (r.off + 4).toNat = endOf r := end4 hb2 h0 ho
    refine WC.skip ?_
    refine WQ.next ?_
    refine WC.seq ?_
    refine WC.draw 10 Fa.M H1 (HW.op rfl (fun w1 H1 => op_move rfl ⟨rfl, Fr.refl _ _⟩) (HW.op rfl (fun w1 H1 => op_nilCheck rfl ⟨rfl, Fr.refl _ _⟩) (HW.op rfl (fun w1 H1 => op_fieldAddr rfl Fa.F88_1 ⟨rfl, Fr.refl _ _⟩) (HW.op rfl (fun w1 H1 => op_load rfl (H1.cellO (i := 0) rfl rfl) Tryd.underlying58 rfl ⟨rfl, Fr.refl _ _⟩) (HW.op rfl (fun w1 H1 => op_fieldAddr rfl Fa.F44_0 ⟨rfl, Fr.refl _ _⟩) (HW.op rfl (fun w1 H1 => op_load rfl (H1.cell (i := 2) rfl rfl) Tryd.underlying22 rfl ⟨rfl, Fr.refl _ _⟩) (HW.op rfl (fun w1 H1 => op_move rfl ⟨rfl, Fr.refl _ _⟩) (HW.op rfl (fun w1 H1 => op_move rfl ⟨rfl, Fr.refl _ _⟩) (HW.op rfl (fun w1 H1 => op_cut3 Tryd.underlying58 Fa.I5 rfl (H1.arrO (i := 1) rfl) rfl rfl rfl (by rw [he, endOf]; omega) (Nat.le_refl _) (by rw [he]; exact hbd) ⟨rfl, Fr.refl _ _⟩) (HW.op rfl (fun w1 H1 => op_assign rfl ⟨rfl, Fr.refl _ _⟩)  HW.nil)))))))))) (by kernel_rfl) ?_
    intro β4 w4 H4
    refine WL.nil ?_
    refine WQ.next ?_
    refine WC.ret ?_
    refine WQ.out (.tmp rfl .nil) ?_
    exact ⟨by rw [placeV, ← he]; rfl, H4.fr⟩
set_option maxRecDepth 100000 in
theorem fput_ok (q : Nat) (c0 c1 c2 c3 c4 c5 c6 vb : Value) (n : Nat) (l : List UInt8) (r : Rl) (v : UInt32) (FT : TypeId) (T : List Nat) (w : World) (H : Own T w w [.blk q [c0, c1, c2, c3, c4, c5, c6, vb] FT, .row vb 5 1 n (List.map vU8 l)]) (h0 : widthN r.kind ≠ 0) (ho : r.off.toNat ≤ 8192) (hbd : endOf r ≤ n) :
    Calls Tryd.prog 42 #[(ptr q 0), (.agg #[(vU32 r.off), (vU8 r.kind), (str r.nm), (vU32 r.add)]), (vU32 v)] w (fun e w' => e = .returned (vN (putE r v)) ∧ Own T w w' [.blk q [c0, c1, c2, c3, c4, c5, c6, vb] FT, .row vb 5 1 n (List.map vU8 (putL l r v))]) := by
  refine enter (args := [(ptr q 0), (.agg #[(vU32 r.off), (vU8 r.kind), (str r.nm), (vU32 r.add)]), (vU32 v)]) Tryd.func42 rfl rfl ?_
  refine WC.seq ?_
  refine WC.region ?_
  refine WL.op rfl rfl (op_box H rfl rfl (fun b1 w1 H1 => ?_))
  refine WL.op rfl rfl (op_assign rfl ?_)
  refine WL.nil ?_
  refine WQ.next ?_
  refine WC.seq ?_
  refine WC.region ?_
  refine WL.op rfl rfl (op_move rfl ?_)
  refine WL.op rfl rfl (op_loadS (vs := [_, _, _, _]) rfl (H1.cells (i := 2) rfl rfl) Tryd.underlying44 rfl Fa.I44 rfl ?_)
  refine WL.op rfl rfl (op_callF Fa.C45 rfl ((at_ok q c0 c1 c2 c3 c4 c5 c6 vb n l r _ (H1.cellsAt (i := 0) rfl) (H1.arrR (i := 1) rfl) h0 ho hbd).mono (fun e w2 hq => ?_)))
  obtain ⟨rfl, hf2⟩ := hq
  refine ⟨_, rfl, ?_⟩
  have H2 := H1.fr' hf2
  refine WL.op rfl rfl (op_assign rfl ?_)
  refine WL.nil ?_
  refine WQ.next ?_
  refine WC.seq ?_
  refine WC.seq ?_
  refine WC.region ?_
  refine WL.op rfl rfl (op_move rfl ?_)
  refine WL.op rfl rfl (op_lenA Tryd.underlying58 rfl ((Arr.place (H2.arrR (i := 1) rfl) hbd)) ?_)
  refine WL.op rfl rfl (op_eqlN (b := 2) rfl rfl ?_)
  refine WL.op rfl rfl (op_move rfl ?_)
  refine WL.split (t := 16) rfl (fun (hb3 : (decide ((widthN r.kind) = 2)) = true) => ?_) (fun (hb3 : (decide ((widthN r.kind) = 2)) = false) => ?_)
  ·
    have hc3 := of_decide_eq_true hb3
    refine WL.yes rfl rfl rfl hb3 rfl (op_move rfl ?_)
    refine WL.yes rfl rfl rfl hb3 rfl (op_shrU32 (s := 16) rfl rfl ?_)
    refine WL.yes rfl rfl rfl hb3 rfl (op_neqU32 (b := 0) rfl rfl ?_)
    refine WL.op rfl rfl (op_pickT rfl hb3 rfl ?_)
    refine WL.nil ?_
    refine WQ.next ?_
    refine WC.cond rfl (fun (hb4 : (decide ((shrU32 v 16) ≠ (0 : UInt32))) = true) => ?_) (fun (hb4 : (decide ((shrU32 v 16) ≠ (0 : UInt32))) = false) => ?_)
    ·
      have hc4 := of_decide_eq_true hb4
      refine WC.seq ?_
      refine WC.region ?_
      refine WL.op rfl rfl (op_assign rfl ?_)
      refine WL.nil ?_
      refine WQ.next ?_
      refine WC.ret ?_
      refine WQ.thenRet ?_
      refine WQ.out (.tmp rfl .nil) ?_
      have hov : ovB r v = true := by rw [ovB, ← shr16, hb3, hb4]; rfl
      exact ⟨by rw [putE_1 hov]; rfl, by rw [putL, hov]; exact H2.sel [0, 1] rfl rfl⟩
    ·
      have hc4 := of_decide_eq_false hb4
      have hov : ovB r v = false := by (rw [ovB, ← shr16, hb3, hb4]) <;> first | rfl | simp
      have hmn : min (numS v (widthN r.kind : Int)).length (widthN r.kind) = widthN r.kind := by rw [numS_w h0 hov, rB_length, Nat.min_self]
      refine WC.skip ?_
      refine WQ.next ?_
      refine WC.seq ?_
      refine WC.region ?_
      refine WL.op rfl rfl (op_move rfl ?_)
      refine WL.op rfl rfl (op_move rfl ?_)
      refine WL.op rfl rfl (op_lenA Tryd.underlying58 rfl ((Arr.place (H2.arrR (i := 1) rfl) hbd)) ?_)
      refine WL.op rfl rfl (op_callF Fa.C70 rfl ((put_ok v (((widthN r.kind) : Nat)) _).mono (fun e w5 hq => ?_)))
      obtain ⟨rfl, hf5⟩ := hq
      refine ⟨_, rfl, ?_⟩
      have H5 := H2.fr' hf5
      refine WL.op rfl rfl (op_move rfl ?_)
      refine WL.op rfl rfl (op_extract rfl rfl ?_)
      refine WL.op rfl rfl (op_extract rfl rfl ?_)
      refine WL.op rfl rfl (op_assign rfl ?_)
      refine WL.op rfl rfl (op_assign rfl ?_)
      refine WL.nil ?_
      refine WQ.next ?_
      refine WC.seq ?_
      refine WC.region ?_
      refine WL.op rfl rfl (op_move rfl ?_)
      refine WL.op rfl rfl (op_move rfl ?_)
      refine WL.op rfl rfl (op_copyM (i := 1) (f := vU8) (l := l) (r := (numS v ((widthN r.kind) : Nat))) H5 Tryd.underlying58 Fa.I5 rfl rfl SrcC.ofStr rfl (Sub.place (H5.arrR (i := 1) rfl) hbd) (by unfold endOf at hbd; omega) hmn (fun _ => rfl) (fun w6 H6 => ?_))
      refine WL.nil ?_
      refine WQ.next ?_
      refine WC.seq ?_
      refine WC.region ?_
      refine WL.op rfl rfl (op_assign rfl ?_)
      refine WL.nil ?_
      refine WQ.next ?_
      refine WC.ret ?_
      refine WQ.out (.tmp rfl .nil) ?_
      exact ⟨by rw [putE_0 hov]; rfl, Own.rowEqN (i := 1) (f := vU8) (H6.sel [0, 1] rfl rfl) rfl (put_row h0 hov) rfl⟩
  ·
    have hc3 := of_decide_eq_false hb3
    have hov : ovB r v = false := by (rw [ovB, ← shr16, hb3]) <;> first | rfl | simp
    have hmn : min (numS v (widthN r.kind : Int)).length (widthN r.kind) = widthN r.kind := by rw [numS_w h0 hov, rB_length, Nat.min_self]
    refine WL.no rfl rfl rfl hb3 rfl ?_
    refine WL.no rfl rfl rfl hb3 rfl ?_
    refine WL.no rfl rfl rfl hb3 rfl ?_
    refine WL.op rfl rfl (op_pickF rfl hb3 rfl ?_)
    refine WL.nil ?_
    refine WQ.next ?_
    refine WC.no rfl rfl ?_
    refine WC.skip ?_
    refine WQ.next ?_
    refine WC.seq ?_
    refine WC.region ?_
    refine WL.op rfl rfl (op_move rfl ?_)
    refine WL.op rfl rfl (op_move rfl ?_)
    refine WL.op rfl rfl (op_lenA Tryd.underlying58 rfl ((Arr.place (H2.arrR (i := 1) rfl) hbd)) ?_)
    refine WL.op rfl rfl (op_callF Fa.C70 rfl ((put_ok v (((widthN r.kind) : Nat)) _).mono (fun e w7 hq => ?_)))
    obtain ⟨rfl, hf7⟩ := hq
    refine ⟨_, rfl, ?_⟩
    have H7 := H2.fr' hf7
    refine WL.op rfl rfl (op_move rfl ?_)
    refine WL.op rfl rfl (op_extract rfl rfl ?_)
    refine WL.op rfl rfl (op_extract rfl rfl ?_)
    refine WL.op rfl rfl (op_assign rfl ?_)
    refine WL.op rfl rfl (op_assign rfl ?_)
    refine WL.nil ?_
    refine WQ.next ?_
    refine WC.seq ?_
    refine WC.region ?_
    refine WL.op rfl rfl (op_move rfl ?_)
    refine WL.op rfl rfl (op_move rfl ?_)
    refine WL.op rfl rfl (op_copyM (i := 1) (f := vU8) (l := l) (r := (numS v ((widthN r.kind) : Nat))) H7 Tryd.underlying58 Fa.I5 rfl rfl SrcC.ofStr rfl (Sub.place (H7.arrR (i := 1) rfl) hbd) (by unfold endOf at hbd; omega) hmn (fun _ => rfl) (fun w8 H8 => ?_))
    refine WL.nil ?_
    refine WQ.next ?_
    refine WC.seq ?_
    refine WC.region ?_
    refine WL.op rfl rfl (op_assign rfl ?_)
    refine WL.nil ?_
    refine WQ.next ?_
    refine WC.ret ?_
    refine WQ.out (.tmp rfl .nil) ?_
    exact ⟨by rw [putE_0 hov]; rfl, Own.rowEqN (i := 1) (f := vU8) (H8.sel [0, 1] rfl rfl) rfl (put_row h0 hov) rfl⟩
end Go.Proofs.YtnngbnenekjffaaDoor
/-! from DRel2 -/
namespace Go.Proofs.YtnngbnenekjffaaDoor
open Go.Owl Go.Spec
set_option maxRecDepth 100000 in
theorem ofill_yes (x : Sy) (av : Value) (ads : List UInt32) (w : World) (hI : SyD.ok w x) (hn : x.nm.length < 2 ^ 47) (hb : x.b.length < 2 ^ 32) (hr : ∀ y ∈ x.rl, y.nm.length < 2 ^ 47) (hm : x.rl.length < 2 ^ 40) (hq : x.nt.length < 2 ^ 40) (hA : Arr w av 1 ads.length (List.map vU32 ads)) (hz : ads.length < 2 ^ 40) (hsy : symB x = true) :
    Calls Tryd.prog 14 #[(.agg #[(str x.nm), (vU8 x.bind), (vU8 x.kind), (vU32 x.size), (str x.b), x.rv, x.nv]), av] w (fun e w' => e = .returned (.tuple #[str (fillS x ads), vN (fillE x ads)]) ∧ Fr [] w w') := by
  refine enter (args := [(.agg #[(str x.nm), (vU8 x.bind), (vU8 x.kind), (vU32 x.size), (str x.b), x.rv, x.nv]), av]) Tryd.func14 rfl rfl ?_
  have H0 : Own [] w w [] := Own.start w []
  refine WC.seq ?_
  refine WC.region ?_
  refine WL.op rfl rfl (op_box H0 rfl rfl (fun b1 w1 H1 => ?_))
  refine WL.op rfl rfl (op_assign rfl ?_)
  refine WL.op rfl rfl (op_assign rfl ?_)
  refine WL.nil ?_
  refine WQ.next ?_
  refine WC.seq ?_
  refine WC.region ?_
  refine WL.op rfl rfl (op_loadS (vs := [_, _, _, _, _, _, _]) rfl (H1.cells (i := 0) rfl rfl) Tryd.underlying26 rfl Fa.I26 rfl ?_)
  refine WL.op rfl rfl (op_fieldAddr rfl Fa.F26_4 ?_)
  refine WL.op rfl rfl (op_load rfl (H1.cell (i := 0) rfl rfl) Tryd.underlying9 rfl ?_)
  refine WL.op rfl rfl (op_callF Fa.C41 rfl ((begin_yes x x.b _ (SyD_mk (x := x) ((SyD_rl (SyD.fr0 hI H1.fr))) ((SyD_nt (SyD.fr0 hI H1.fr)))) hn hb hr hm hq hsy).mono (fun e w2 hq => ?_)))
  obtain ⟨q2, v2, rfl, hq2⟩ := hq
  refine ⟨_, rfl, ?_⟩
  have H2 : Own [] w w2 [.blk b1 [(str x.nm), (vU8 x.bind), (vU8 x.kind), (vU32 x.size), (str x.b), x.rv, x.nv] 26, .blk q2 [(str x.nm), (vU8 x.bind), (vU8 x.kind), (vU32 x.size), (str x.b), x.rv, x.nv, v2] 88, .row v2 5 1 x.size.toNat (List.map vU8 (begB x.size.toNat x.b))] := H1.splice [] [] [.blk q2 [(str x.nm), (vU8 x.bind), (vU8 x.kind), (vU32 x.size), (str x.b), x.rv, x.nv, v2] 88, .row v2 5 1 x.size.toNat (List.map vU8 (begB x.size.toNat x.b))] rfl rfl hq2 (Fits.solid True.intro (Fits.solid True.intro Fits.nil))
  refine WL.op rfl rfl (op_move rfl ?_)
  refine WL.op rfl rfl (op_extract rfl rfl ?_)
  refine WL.op rfl rfl (op_extract rfl rfl ?_)
  refine WL.op rfl rfl (op_assign rfl ?_)
  refine WL.op rfl rfl (op_assign rfl ?_)
  refine WL.nil ?_
  refine WQ.next ?_
  refine WC.seq ?_
  refine WC.seq ?_
  refine WC.region ?_
  refine WL.op rfl rfl (op_move rfl ?_)
  refine WL.op rfl rfl (op_neqN (b := 0) rfl rfl ?_)
  refine WL.nil ?_
  refine WQ.next ?_
  refine WC.no rfl (by decide) ?_
  refine WC.skip ?_
  refine WQ.next ?_
  refine WC.seq ?_
  refine WC.seq ?_
  refine WC.region ?_
  refine WL.op rfl rfl (op_move rfl ?_)
  refine WL.op rfl rfl (op_lenA Tryd.underlying27 rfl (H2.arr hA) ?_)
  refine WL.op rfl rfl (op_move rfl ?_)
  refine WL.op rfl rfl (op_nilCheck rfl ?_)
  refine WL.op rfl rfl (op_fieldAddr rfl Fa.F88_0 ?_)
  refine WL.op rfl rfl (op_fieldAddr rfl Fa.F26_5 ?_)
  refine WL.op rfl rfl (op_load rfl (H2.cell (i := 1) rfl rfl) Tryd.underlying23 rfl ?_)
  refine WL.op rfl rfl (op_lenA Tryd.underlying23 rfl ((SyD_rl (SyD.fr0 hI H2.fr))) ?_)
  refine WL.op rfl rfl (op_neqN rfl rfl ?_)
  refine WL.nil ?_
  refine WQ.next ?_
  refine WC.cond rfl (fun (hb3 : (decide (ads.length ≠ x.rl.length)) = true) => ?_) (fun (hb3 : (decide (ads.length ≠ x.rl.length)) = false) => ?_)
  ·
    have hc3 := of_decide_eq_true hb3
    refine WC.seq ?_
    refine WC.region ?_
    refine WL.op rfl rfl (op_assign rfl ?_)
    refine WL.op rfl rfl (op_assign rfl ?_)
    refine WL.nil ?_
    refine WQ.next ?_
    refine WC.ret ?_
    refine WQ.thenRet ?_
    refine WQ.out (.tmp rfl (.tmp rfl .nil)) ?_
    have hf := fill_arg (x := x) (ads := ads) (fun h => hc3 h.2)
    exact ⟨by rw [hf.1, hf.2]; rfl, H2.fr⟩
  ·
    have hc3 := of_decide_eq_false hb3
    have hal : ads.length = x.rl.length := Decidable.not_not.mp hc3
    refine WC.skip ?_
    refine WQ.next ?_
    refine WC.seq ?_
    refine WC.seq ?_
    refine WC.region ?_
    refine WL.op rfl rfl (op_move rfl ?_)
    refine WL.op rfl rfl (op_nilCheck rfl ?_)
    refine WL.op rfl rfl (op_fieldAddr rfl Fa.F88_0 ?_)
    refine WL.op rfl rfl (op_fieldAddr rfl Fa.F26_5 ?_)
    refine WL.op rfl rfl (op_load rfl (H2.cell (i := 1) rfl rfl) Tryd.underlying23 rfl ?_)
    refine WL.op rfl rfl (op_lenA Tryd.underlying23 rfl ((SyD_rl (SyD.fr0 hI H2.fr))) ?_)
    refine WL.op rfl rfl (op_move rfl ?_)
    refine WL.nil ?_
    refine WQ.next ?_
    refine WC.block ?_
    refine WC.loop (α := Nat) (fun k => [(1, av), (4, (str [])), (5, (vN 0)), (6, (ptr q2 0)), (34, x.rv), (35, (vN x.rl.length)), (36, (vN k))]) (fun k w' => (k ≤ x.rl.length ∧ (∀ j, j < k → overB (x.rl.getD j Rl.zero) (ads.getD j 0) = false)) ∧ Own [] w w' [.blk b1 [(str x.nm), (vU8 x.bind), (vU8 x.kind), (vU32 x.size), (str x.b), x.rv, x.nv] 26, .blk q2 [(str x.nm), (vU8 x.bind), (vU8 x.kind), (vU32 x.size), (str x.b), x.rv, x.nv, v2] 88, .row v2 5 1 x.size.toNat (List.map vU8 (fillN (begB x.size.toNat x.b) x.rl ads k))]) (fun k => x.rl.length - k) 0 ⟨⟨Nat.zero_le _, fun j h => by omega⟩, H2⟩ ⟨rfl, rfl, rfl, rfl, rfl, rfl, rfl, trivial⟩ ?_
    rintro k w4 ⟨⟨hk1, hok⟩, H4⟩
    show WC _ _ _ _ _ [(1, av), (4, (str [])), (5, (vN 0)), (6, (ptr q2 0)), (34, x.rv), (35, (vN x.rl.length)), (36, (vN k))] _
    refine WC.seq ?_
    refine WC.region ?_
    refine WL.op rfl rfl (op_lssN rfl rfl ?_)
    refine WL.nil ?_
    refine WQ.next ?_
    refine WC.seq ?_
    refine WC.cond rfl (fun (hb5 : (decide (k < x.rl.length)) = true) => ?_) (fun (hb5 : (decide (k < x.rl.length)) = false) => ?_)
    ·
      have hc5 := of_decide_eq_true hb5
      have hpl := sym_place hsy hc5
      refine WC.skip ?_
      refine WQ.next ?_
      refine WC.seq ?_
      refine WC.block ?_
      refine WC.seq ?_
      refine WC.region ?_
      refine WL.op rfl rfl (op_move rfl ?_)
      refine WL.op rfl rfl (op_indexAddr Tryd.underlying23 Fa.I44 rfl ((SyD_rl (SyD.fr0 hI H4.fr))) rfl (by omega) ?_)
      refine WL.op rfl rfl (op_loadSP (vs := rlc (x.rl.getD k Rl.zero)) rfl (Arr.atsF ((SyD_rl (SyD.fr0 hI H4.fr))) (fun _ => rfl) (by decide) Rl.zero (by omega)) Tryd.underlying44 rfl Fa.I44 rfl ?_)
      refine WL.op rfl rfl (op_alloc H4 Fa.I44 (fun b6 w6 H6 => ?_))
      refine WL.op rfl rfl (op_assign rfl ?_)
      refine WL.op rfl rfl (op_storeBW (i := 3) H6 rfl rfl rfl rfl rfl Fa.I44 (fun w7 H7 => ?_))
      refine WL.nil ?_
      refine WQ.next ?_
      refine WC.seq ?_
      refine WC.draw 9 Fa.M H7 (HW.op rfl (fun w1 H1 => op_move rfl ⟨rfl, Fr.refl _ _⟩) (HW.op rfl (fun w1 H1 => op_loadS (vs := [_, _, _, _]) rfl (H1.cells (i := 3) rfl rfl) Tryd.underlying44 rfl Fa.I44 rfl ⟨rfl, Fr.refl _ _⟩) (HW.op rfl (fun w1 H1 => op_move rfl ⟨rfl, Fr.refl _ _⟩) (HW.op rfl (fun w1 H1 => op_move rfl ⟨rfl, Fr.refl _ _⟩) (HW.op rfl (fun w1 H1 => op_indexAddr1 Tryd.underlying27 Fa.I22 rfl (H1.arr hA) rfl (by omega) ⟨rfl, Fr.refl _ _⟩) (HW.op rfl (fun w1 H1 => op_load rfl ((H1.arr hA).at (get_map vU32 0 (Arr.ltM (H1.arr hA) (by omega)))) Tryd.underlying22 rfl ⟨rfl, Fr.refl _ _⟩) (HW.op rfl (fun w1 H1 => op_fieldAddr rfl Fa.F44_3 ⟨rfl, Fr.refl _ _⟩) (HW.op rfl (fun w1 H1 => op_load rfl (H1.cell (i := 3) rfl rfl) Tryd.underlying22 rfl ⟨rfl, Fr.refl _ _⟩) (HW.op rfl (fun w1 H1 => op_addU32 rfl rfl ⟨rfl, Fr.refl _ _⟩)  HW.nil))))))))) (by kernel_rfl) ?_
      intro β8 w8 H8
      refine WL.op rfl rfl (op_callF Fa.C42 rfl ((fput_ok q2 (str x.nm) (vU8 x.bind) (vU8 x.kind) (vU32 x.size) (str x.b) x.rv x.nv v2 x.size.toNat (fillN (begB x.size.toNat x.b) x.rl ads k) (x.rl.getD k Rl.zero) ((ads.getD k 0) + (x.rl.getD k Rl.zero).add) 88 _ _ (H8.part [1, 2] rfl rfl) hpl.1 hpl.2.1 hpl.2.2).mono (fun e w9 hq => ?_)))
      obtain ⟨rfl, hq9⟩ := hq
      refine ⟨_, rfl, ?_⟩
      have H9 : Own [] w w9 [.blk b1 [(str x.nm), (vU8 x.bind), (vU8 x.kind), (vU32 x.size), (str x.b), x.rv, x.nv] 26, .blk q2 [(str x.nm), (vU8 x.bind), (vU8 x.kind), (vU32 x.size), (str x.b), x.rv, x.nv, v2] 88, .row v2 5 1 x.size.toNat (List.map vU8 (putL (fillN (begB x.size.toNat x.b) x.rl ads k) (x.rl.getD k Rl.zero) ((ads.getD k 0) + (x.rl.getD k Rl.zero).add))), .blk b6 [(vU32 (x.rl.getD k Rl.zero).off), (vU8 (x.rl.getD k Rl.zero).kind), (str (x.rl.getD k Rl.zero).nm), (vU32 (x.rl.getD k Rl.zero).add)] 44] := H8.splice [1, 2] [.blk q2 [(str x.nm), (vU8 x.bind), (vU8 x.kind), (vU32 x.size), (str x.b), x.rv, x.nv, v2] 88, .row v2 5 1 x.size.toNat (List.map vU8 (putL (fillN (begB x.size.toNat x.b) x.rl ads k) (x.rl.getD k Rl.zero) ((ads.getD k 0) + (x.rl.getD k Rl.zero).add)))] [] rfl rfl hq9 (Fits.solid True.intro (Fits.solid True.intro Fits.nil))
      refine WL.op rfl rfl (op_assign rfl ?_)
      refine WL.nil ?_
      refine WQ.next ?_
      refine WC.seq ?_
      refine WC.region ?_
      refine WL.op rfl rfl (op_move rfl ?_)
      refine WL.op rfl rfl (op_neqN (b := 0) rfl rfl ?_)
      refine WL.nil ?_
      refine WQ.next ?_
      refine WC.cond rfl (fun (hb10 : (decide ((putE (x.rl.getD k Rl.zero) ((ads.getD k 0) + (x.rl.getD k Rl.zero).add)) ≠ 0)) = true) => ?_) (fun (hb10 : (decide ((putE (x.rl.getD k Rl.zero) ((ads.getD k 0) + (x.rl.getD k Rl.zero).add)) ≠ 0)) = false) => ?_)
      ·
        have hc10 := of_decide_eq_true hb10
        refine WC.seq ?_
        refine WC.region ?_
        refine WL.op rfl rfl (op_move rfl ?_)
        refine WL.op rfl rfl (op_assign rfl ?_)
        refine WL.op rfl rfl (op_assign rfl ?_)
        refine WL.nil ?_
        refine WQ.next ?_
        refine WC.ret ?_
        refine WQ.inRet ?_
        refine WQ.thenRet ?_
        refine WQ.thenRet ?_
        refine WQ.inRet ?_
        refine WQ.thenRet ?_
        refine WQ.out (.tmp rfl (.tmp rfl .nil)) ?_
        have hov := putE_ne hc10
        have hf := fill_bad hsy hal (by omega) hov
        exact ⟨by rw [hf.1, hf.2, putE_1 hov]; rfl, H9.fr⟩
      ·
        have hc10 := of_decide_eq_false hb10
        have hov : ovB (x.rl.getD k Rl.zero) (ads.getD k 0 + (x.rl.getD k Rl.zero).add) = false := putE_eq (Decidable.not_not.mp hc10)
        refine WC.skip ?_
        refine WQ.inNormal ?_
        refine WQ.next ?_
        refine WC.region ?_
        refine WL.op rfl rfl (op_addN (b := 1) rfl rfl (by omega) ?_)
        refine WL.op rfl rfl (op_move rfl ?_)
        refine WL.nil ?_
        exact WQ.round (k + 1) ⟨⟨by omega, allPrev hok hov⟩, (Own.rowEq (i := 2) (f := vU8) (show Own [] w w9 [.blk b1 [(str x.nm), (vU8 x.bind), (vU8 x.kind), (vU32 x.size), (str x.b), x.rv, x.nv] 26, .blk q2 [(str x.nm), (vU8 x.bind), (vU8 x.kind), (vU32 x.size), (str x.b), x.rv, x.nv, v2] 88, .row v2 5 1 x.size.toNat (List.map vU8 (putL (fillN (begB x.size.toNat x.b) x.rl ads k) (x.rl.getD k Rl.zero) ((ads.getD k 0) + (x.rl.getD k Rl.zero).add)))] from (H9.take 3)) rfl (fill_step hov))⟩ ⟨rfl, rfl, rfl, rfl, rfl, rfl, rfl, trivial⟩ (by omega)
    ·
      have hc5 := of_decide_eq_false hb5
      refine WC.exit ?_
      refine WQ.thenExit ?_
      refine WQ.thenExit ?_
      refine WQ.inHere ?_
      refine WQ.next ?_
      refine WC.seq ?_
      refine WC.region ?_
      refine WL.op rfl rfl (op_move rfl ?_)
      refine WL.op rfl rfl (op_nilCheck rfl ?_)
      refine WL.op rfl rfl (op_fieldAddr rfl Fa.F88_1 ?_)
      refine WL.op rfl rfl (op_load rfl (H4.cell (i := 1) rfl rfl) Tryd.underlying58 rfl ?_)
      refine WL.op rfl rfl (op_bytesStr (l := (fillN (begB x.size.toNat x.b) x.rl ads k)) Tryd.underlying58 Tryd.underlying5 Tryd.underlying9 rfl (H4.arrR (i := 2) rfl) rfl ?_)
      refine WL.op rfl rfl (op_assign rfl ?_)
      refine WL.op rfl rfl (op_assign rfl ?_)
      refine WL.nil ?_
      refine WQ.next ?_
      refine WC.ret ?_
      refine WQ.out (.tmp rfl (.tmp rfl .nil)) ?_
      have hk : k = x.rl.length := by omega
      have hf := fill_end hsy hal (fun j hj => hok j (by omega))
      exact ⟨by rw [hf.1, hf.2, hk, begB_base (sym_fits hsy).1]; rfl, H4.fr⟩
set_option maxRecDepth 100000 in
theorem ofill_no (x : Sy) (av : Value) (ads : List UInt32) (w : World) (hI : SyD.ok w x) (hn : x.nm.length < 2 ^ 47) (hb : x.b.length < 2 ^ 32) (hr : ∀ y ∈ x.rl, y.nm.length < 2 ^ 47) (hm : x.rl.length < 2 ^ 40) (hq : x.nt.length < 2 ^ 40) (hA : Arr w av 1 ads.length (List.map vU32 ads)) (hz : ads.length < 2 ^ 40) (hsy : symB x = false) :
    Calls Tryd.prog 14 #[(.agg #[(str x.nm), (vU8 x.bind), (vU8 x.kind), (vU32 x.size), (str x.b), x.rv, x.nv]), av] w (fun e w' => e = .returned (.tuple #[str (fillS x ads), vN (fillE x ads)]) ∧ Fr [] w w') := by
  refine enter (args := [(.agg #[(str x.nm), (vU8 x.bind), (vU8 x.kind), (vU32 x.size), (str x.b), x.rv, x.nv]), av]) Tryd.func14 rfl rfl ?_
  have H0 : Own [] w w [] := Own.start w []
  refine WC.seq ?_
  refine WC.region ?_
  refine WL.op rfl rfl (op_box H0 rfl rfl (fun b1 w1 H1 => ?_))
  refine WL.op rfl rfl (op_assign rfl ?_)
  refine WL.op rfl rfl (op_assign rfl ?_)
  refine WL.nil ?_
  refine WQ.next ?_
  refine WC.seq ?_
  refine WC.region ?_
  refine WL.op rfl rfl (op_loadS (vs := [_, _, _, _, _, _, _]) rfl (H1.cells (i := 0) rfl rfl) Tryd.underlying26 rfl Fa.I26 rfl ?_)
  refine WL.op rfl rfl (op_fieldAddr rfl Fa.F26_4 ?_)
  refine WL.op rfl rfl (op_load rfl (H1.cell (i := 0) rfl rfl) Tryd.underlying9 rfl ?_)
  refine WL.op rfl rfl (op_callF Fa.C41 rfl ((begin_no x x.b _ (SyD_mk (x := x) ((SyD_rl (SyD.fr0 hI H1.fr))) ((SyD_nt (SyD.fr0 hI H1.fr)))) hn hb hr hm hq hsy).mono (fun e w2 hq => ?_)))
  obtain ⟨rfl, hf2⟩ := hq
  refine ⟨_, rfl, ?_⟩
  have H2 := H1.fr' hf2
  refine WL.op rfl rfl (op_move rfl ?_)
  refine WL.op rfl rfl (op_extract rfl rfl ?_)
  refine WL.op rfl rfl (op_extract rfl rfl ?_)
  refine WL.op rfl rfl (op_assign rfl ?_)
  refine WL.op rfl rfl (op_assign rfl ?_)
  refine WL.nil ?_
  refine WQ.next ?_
  refine WC.seq ?_
  refine WC.seq ?_
  refine WC.region ?_
  refine WL.op rfl rfl (op_move rfl ?_)
  refine WL.op rfl rfl (op_neqN (b := 0) rfl rfl ?_)
  refine WL.nil ?_
  refine WQ.next ?_
  refine WC.yes rfl (by decide) ?_
  refine WC.seq ?_
  refine WC.region ?_
  refine WL.op rfl rfl (op_move rfl ?_)
  refine WL.op rfl rfl (op_assign rfl ?_)
  refine WL.op rfl rfl (op_assign rfl ?_)
  refine WL.nil ?_
  refine WQ.next ?_
  refine WC.ret ?_
  refine WQ.thenRet ?_
  refine WQ.out (.tmp rfl (.tmp rfl .nil)) ?_
  exact ⟨by rw [(fill_arg (x := x) (ads := ads) (fun h => by rw [hsy] at h; cases h.1)).1, (fill_arg (x := x) (ads := ads) (fun h => by rw [hsy] at h; cases h.1)).2]; rfl, H2.fr⟩
theorem ofill_ok (x : Sy) (av : Value) (ads : List UInt32) (w : World) (hI : SyD.ok w x) (hn : x.nm.length < 2 ^ 47) (hb : x.b.length < 2 ^ 32) (hr : ∀ y ∈ x.rl, y.nm.length < 2 ^ 47) (hm : x.rl.length < 2 ^ 40) (hq : x.nt.length < 2 ^ 40) (hA : Arr w av 1 ads.length (List.map vU32 ads)) (hz : ads.length < 2 ^ 40) :
    Calls Tryd.prog 14 #[.agg #[str x.nm, vU8 x.bind, vU8 x.kind, vU32 x.size, str x.b, x.rv, x.nv], av] w (fun e w' => e = .returned (.tuple #[str (fillS x ads), vN (fillE x ads)]) ∧ Fr [] w w') := by
  cases h : symB x with
  | true => exact ofill_yes x av ads w hI hn hb hr hm hq hA hz h
  | false => exact ofill_no x av ads w hI hn hb hr hm hq hA hz h
set_option maxRecDepth 100000 in
theorem olook_yes (x : Sy) (s : List UInt8) (w : World) (hI : SyD.ok w x) (hn : x.nm.length < 2 ^ 47) (hb : x.b.length < 2 ^ 32) (hr : ∀ y ∈ x.rl, y.nm.length < 2 ^ 47) (hm : x.rl.length < 2 ^ 40) (hq : x.nt.length < 2 ^ 40) (hs : s.length < 2 ^ 47) (hsy : symB x = true) :
    Calls Tryd.prog 16 #[(.agg #[(str x.nm), (vU8 x.bind), (vU8 x.kind), (vU32 x.size), (str x.b), x.rv, x.nv]), (str s)] w (fun e w' => ∃ v, e = .returned (.tuple #[v, vN (lookE x s)]) ∧ Own [] w w' [.row v 22 1 (lookL x s).length (List.map vU32 (lookL x s))]) := by
  refine enter (args := [(.agg #[(str x.nm), (vU8 x.bind), (vU8 x.kind), (vU32 x.size), (str x.b), x.rv, x.nv]), (str s)]) Tryd.func16 rfl rfl ?_
  have H0 : Own [] w w [] := Own.start w []
  refine WC.seq ?_
  refine WC.region ?_
  refine WL.op rfl rfl (op_box H0 rfl rfl (fun b1 w1 H1 => ?_))
  refine WL.op rfl rfl (op_assign rfl ?_)
  refine WL.op rfl rfl (op_assign rfl ?_)
  refine WL.nil ?_
  refine WQ.next ?_
  refine WC.seq ?_
  refine WC.region ?_
  refine WL.op rfl rfl (op_loadS (vs := [_, _, _, _, _, _, _]) rfl (H1.cells (i := 0) rfl rfl) Tryd.underlying26 rfl Fa.I26 rfl ?_)
  refine WL.op rfl rfl (op_move rfl ?_)
  refine WL.op rfl rfl (op_callF Fa.C41 rfl ((begin_yes x s _ (SyD_mk (x := x) ((SyD_rl (SyD.fr0 hI H1.fr))) ((SyD_nt (SyD.fr0 hI H1.fr)))) hn hb hr hm hq hsy).mono (fun e w2 hq => ?_)))
  obtain ⟨q2, v2, rfl, hq2⟩ := hq
  refine ⟨_, rfl, ?_⟩
  have H2 : Own [] w w2 [.blk b1 [(str x.nm), (vU8 x.bind), (vU8 x.kind), (vU32 x.size), (str x.b), x.rv, x.nv] 26, .blk q2 [(str x.nm), (vU8 x.bind), (vU8 x.kind), (vU32 x.size), (str x.b), x.rv, x.nv, v2] 88, .row v2 5 1 x.size.toNat (List.map vU8 (begB x.size.toNat s))] := H1.splice [] [] [.blk q2 [(str x.nm), (vU8 x.bind), (vU8 x.kind), (vU32 x.size), (str x.b), x.rv, x.nv, v2] 88, .row v2 5 1 x.size.toNat (List.map vU8 (begB x.size.toNat s))] rfl rfl hq2 (Fits.solid True.intro (Fits.solid True.intro Fits.nil))
  refine WL.op rfl rfl (op_move rfl ?_)
  refine WL.op rfl rfl (op_extract rfl rfl ?_)
  refine WL.op rfl rfl (op_extract rfl rfl ?_)
  refine WL.op rfl rfl (op_assign rfl ?_)
  refine WL.op rfl rfl (op_assign rfl ?_)
  refine WL.nil ?_
  refine WQ.next ?_
  refine WC.seq ?_
  refine WC.seq ?_
  refine WC.region ?_
  refine WL.op rfl rfl (op_move rfl ?_)
  refine WL.op rfl rfl (op_neqN (b := 0) rfl rfl ?_)
  refine WL.nil ?_
  refine WQ.next ?_
  refine WC.no rfl (by decide) ?_
  refine WC.skip ?_
  refine WQ.next ?_
  refine WC.seq ?_
  refine WC.seq ?_
  refine WC.region ?_
  refine WL.op rfl rfl (op_move rfl ?_)
  refine WL.op rfl rfl (op_lenStr Tryd.underlying9 rfl ?_)
  refine WL.op rfl rfl (op_move rfl ?_)
  refine WL.op rfl rfl (op_nilCheck rfl ?_)
  refine WL.op rfl rfl (op_fieldAddr rfl Fa.F88_1 ?_)
  refine WL.op rfl rfl (op_load rfl (H2.cell (i := 1) rfl rfl) Tryd.underlying58 rfl ?_)
  refine WL.op rfl rfl (op_lenA Tryd.underlying58 rfl (H2.arrR (i := 2) rfl) ?_)
  refine WL.op rfl rfl (op_neqN rfl rfl ?_)
  refine WL.nil ?_
  refine WQ.next ?_
  refine WC.cond rfl (fun (hb3 : (decide (s.length ≠ x.size.toNat)) = true) => ?_) (fun (hb3 : (decide (s.length ≠ x.size.toNat)) = false) => ?_)
  ·
    have hc3 := of_decide_eq_true hb3
    refine WC.seq ?_
    refine WC.region ?_
    refine WL.op rfl rfl (op_assign rfl ?_)
    refine WL.op rfl rfl (op_assign rfl ?_)
    refine WL.nil ?_
    refine WQ.next ?_
    refine WC.ret ?_
    refine WQ.thenRet ?_
    refine WQ.out (.tmp rfl (.tmp rfl .nil)) ?_
    have hf := look_2 (x := x) (s := s) (fun h => hc3 h.2)
    rw [hf.1, hf.2]
    exact ⟨.slice none 0 0, rfl, (H2.sel [] rfl rfl).nilRow 22 1⟩
  ·
    have hc3 := of_decide_eq_false hb3
    have hal : s.length = x.size.toNat := Decidable.not_not.mp hc3
    refine WC.skip ?_
    refine WQ.next ?_
    refine WC.seq ?_
    refine WC.region ?_
    refine WL.op rfl rfl (op_assign rfl ?_)
    have H4 := H2.nilRow 22 1
    refine WL.nil ?_
    refine WQ.next ?_
    refine WC.seq ?_
    refine WC.seq ?_
    refine WC.region ?_
    have H5 : Own [] w w2 [.blk b1 [(str x.nm), (vU8 x.bind), (vU8 x.kind), (vU32 x.size), (str x.b), x.rv, x.nv] 26, .blk q2 [(str x.nm), (vU8 x.bind), (vU8 x.kind), (vU32 x.size), (str x.b), x.rv, x.nv, v2] 88, .row v2 5 1 x.size.toNat (List.map vU8 s), .row (.slice none 0 0) 22 1 0 (List.map vU32 [])] := Own.rowEq (i := 2) (f := vU8) (show Own [] w w2 [.blk b1 [(str x.nm), (vU8 x.bind), (vU8 x.kind), (vU32 x.size), (str x.b), x.rv, x.nv] 26, .blk q2 [(str x.nm), (vU8 x.bind), (vU8 x.kind), (vU32 x.size), (str x.b), x.rv, x.nv, v2] 88, .row v2 5 1 x.size.toNat (List.map vU8 (begB x.size.toNat s)), .row (.slice none 0 0) 22 1 0 (List.map vU32 [])] from H4) rfl (begB_full hal)
    refine WL.op rfl rfl (op_move rfl ?_)
    refine WL.op rfl rfl (op_nilCheck rfl ?_)
    refine WL.op rfl rfl (op_fieldAddr rfl Fa.F88_0 ?_)
    refine WL.op rfl rfl (op_fieldAddr rfl Fa.F26_5 ?_)
    refine WL.op rfl rfl (op_load rfl (H5.cell (i := 1) rfl rfl) Tryd.underlying23 rfl ?_)
    refine WL.op rfl rfl (op_lenA Tryd.underlying23 rfl ((SyD_rl (SyD.fr0 hI H5.fr))) ?_)
    refine WL.op rfl rfl (op_move rfl ?_)
    refine WL.nil ?_
    refine WQ.next ?_
    refine WC.block ?_
    refine WC.loop (α := Nat × Value) (fun (k, v) => [(4, (.slice none 0 0)), (5, (vN 0)), (6, (ptr q2 0)), (8, v), (34, x.rv), (35, (vN x.rl.length)), (36, (vN k))]) (fun (k, v) w' => (k ≤ x.rl.length) ∧ Own [] w w' [.blk b1 [(str x.nm), (vU8 x.bind), (vU8 x.kind), (vU32 x.size), (str x.b), x.rv, x.nv] 26, .blk q2 [(str x.nm), (vU8 x.bind), (vU8 x.kind), (vU32 x.size), (str x.b), x.rv, x.nv, v2] 88, .row v2 5 1 x.size.toNat (List.map vU8 s), .row v 22 1 k (List.map vU32 ((x.rl.take k).map (seenR s)))]) (fun (k, v) => x.rl.length - k) (0, (.slice none 0 0)) ⟨(Nat.zero_le _), H5⟩ ⟨rfl, rfl, rfl, rfl, rfl, rfl, rfl, trivial⟩ ?_
    rintro ⟨k, v⟩ w6 ⟨hk1, H6⟩
    show WC _ _ _ _ _ [(4, (.slice none 0 0)), (5, (vN 0)), (6, (ptr q2 0)), (8, v), (34, x.rv), (35, (vN x.rl.length)), (36, (vN k))] _
    refine WC.seq ?_
    refine WC.region ?_
    refine WL.op rfl rfl (op_lssN rfl rfl ?_)
    refine WL.nil ?_
    refine WQ.next ?_
    refine WC.seq ?_
    refine WC.cond rfl (fun (hb7 : (decide (k < x.rl.length)) = true) => ?_) (fun (hb7 : (decide (k < x.rl.length)) = false) => ?_)
    ·
      have hc7 := of_decide_eq_true hb7
      have hpl := sym_place hsy hc7
      refine WC.skip ?_
      refine WQ.next ?_
      refine WC.seq ?_
      refine WC.block ?_
      refine WC.seq ?_
      refine WC.region ?_
      refine WL.op rfl rfl (op_indexAddr Tryd.underlying23 Fa.I44 rfl ((SyD_rl (SyD.fr0 hI H6.fr))) rfl (by omega) ?_)
      refine WL.op rfl rfl (op_loadSP (vs := rlc (x.rl.getD k Rl.zero)) rfl (Arr.atsF ((SyD_rl (SyD.fr0 hI H6.fr))) (fun _ => rfl) (by decide) Rl.zero (by omega)) Tryd.underlying44 rfl Fa.I44 rfl ?_)
      refine WL.op rfl rfl (op_alloc H6 Fa.I44 (fun b8 w8 H8 => ?_))
      refine WL.op rfl rfl (op_storeBW (i := 4) H8 rfl rfl rfl rfl rfl Fa.I44 (fun w9 H9 => ?_))
      refine WL.nil ?_
      refine WQ.next ?_
      refine WC.seq ?_
      refine WC.region ?_
      refine WL.op rfl rfl (op_move rfl ?_)
      refine WL.op rfl rfl (op_loadS (vs := [_, _, _, _]) rfl (H9.cells (i := 4) rfl rfl) Tryd.underlying44 rfl Fa.I44 rfl ?_)
      refine WL.op rfl rfl (op_callF Fa.C45 rfl ((at_ok q2 (str x.nm) (vU8 x.bind) (vU8 x.kind) (vU32 x.size) (str x.b) x.rv x.nv v2 x.size.toNat s (x.rl.getD k Rl.zero) _ (H9.cellsAt (i := 1) rfl) (H9.arrR (i := 2) rfl) hpl.1 hpl.2.1 hpl.2.2).mono (fun e w10 hq => ?_)))
      obtain ⟨rfl, hf10⟩ := hq
      refine ⟨_, rfl, ?_⟩
      have H10 := H9.fr' hf10
      refine WL.op rfl rfl (op_bytesStr (l := ((s.drop (x.rl.getD k Rl.zero).off.toNat).take (widthN (x.rl.getD k Rl.zero).kind))) Tryd.underlying58 Tryd.underlying5 Tryd.underlying9 rfl ((Arr.place (H10.arrR (i := 2) rfl) hpl.2.2)) rfl ?_)
      refine WL.op rfl rfl (op_callF Fa.C44 rfl ((get_ok ((s.drop (x.rl.getD k Rl.zero).off.toNat).take (widthN (x.rl.getD k Rl.zero).kind)) _).mono (fun e w11 hq => ?_)))
      obtain ⟨rfl, hf11⟩ := hq
      refine ⟨_, rfl, ?_⟩
      have H11 := H10.fr' hf11
      refine WL.op rfl rfl (op_move rfl ?_)
      refine WL.op rfl rfl (op_extract rfl rfl ?_)
      refine WL.op rfl rfl (op_extract rfl rfl ?_)
      refine WL.op rfl rfl (op_assign rfl ?_)
      refine WL.op rfl rfl (op_assign rfl ?_)
      refine WL.nil ?_
      refine WQ.next ?_
      refine WC.region ?_
      refine WL.op rfl rfl (op_move rfl ?_)
      refine WL.op rfl rfl (op_move rfl ?_)
      refine WL.op rfl rfl (op_fieldAddr rfl Fa.F44_3 ?_)
      refine WL.op rfl rfl (op_load rfl (H11.cell (i := 4) rfl rfl) Tryd.underlying22 rfl ?_)
      refine WL.op rfl rfl (op_subU32 rfl rfl ?_)
      refine WL.op rfl rfl (op_buildSlice (cs := [_]) H11 Tryd.underlying27 Fa.I22 rfl rfl rfl rfl (by decide) (by decide) (fun b12 w12 H12 => ?_))
      refine WL.op rfl rfl (op_appendM (f := vU32) (l := ((x.rl.take k).map (seenR s))) (l' := [((getV ((s.drop (x.rl.getD k Rl.zero).off.toNat).take (widthN (x.rl.getD k Rl.zero).kind))) - (x.rl.getD k Rl.zero).add)]) (i := 3) H12 Tryd.underlying27 Fa.I22 rfl rfl rfl rfl (Src.ofArr Tryd.underlying27 (H12.arrR (i := 5) rfl)) (one_mapM (fun _ => rfl)) (by omega) (by omega) (fun v13 w13 H13 => ?_))
      refine WL.op rfl rfl (op_assign rfl ?_)
      refine WL.nil ?_
      refine WQ.inNormal ?_
      refine WQ.next ?_
      refine WC.region ?_
      refine WL.op rfl rfl (op_addN (b := 1) rfl rfl (by omega) ?_)
      refine WL.op rfl rfl (op_move rfl ?_)
      refine WL.nil ?_
      exact WQ.round (k + 1, v13) ⟨(by omega), (Own.rowEqN (i := 3) (f := vU32) (show Own [] w w13 [.blk b1 [(str x.nm), (vU8 x.bind), (vU8 x.kind), (vU32 x.size), (str x.b), x.rv, x.nv] 26, .blk q2 [(str x.nm), (vU8 x.bind), (vU8 x.kind), (vU32 x.size), (str x.b), x.rv, x.nv, v2] 88, .row v2 5 1 x.size.toNat (List.map vU8 s), .row v13 22 1 (k + 1) (List.map vU32 (((x.rl.take k).map (seenR s)) ++ [((getV ((s.drop (x.rl.getD k Rl.zero).off.toNat).take (widthN (x.rl.getD k Rl.zero).kind))) - (x.rl.getD k Rl.zero).add)]))] from (H13.take 4)) rfl (seen_step hpl.1 (by omega) (by omega)) rfl)⟩ ⟨rfl, rfl, rfl, rfl, rfl, rfl, rfl, trivial⟩ (by show x.rl.length - (k + 1) < x.rl.length - k; omega)
    ·
      have hc7 := of_decide_eq_false hb7
      refine WC.exit ?_
      refine WQ.thenExit ?_
      refine WQ.thenExit ?_
      refine WQ.inHere ?_
      refine WQ.next ?_
      refine WC.seq ?_
      refine WC.region ?_
      refine WL.op rfl rfl (op_move rfl ?_)
      refine WL.op rfl rfl (op_assign rfl ?_)
      refine WL.op rfl rfl (op_assign rfl ?_)
      refine WL.nil ?_
      refine WQ.next ?_
      refine WC.ret ?_
      refine WQ.out (.tmp rfl (.tmp rfl .nil)) ?_
      have hk : k = x.rl.length := by omega
      have hf := look_0 (s := s) hsy hal
      rw [hf.1, hf.2]
      exact ⟨_, rfl, Own.rowEqN (i := 0) (f := vU32) (H6.sel [3] rfl rfl) rfl (by rw [hk, List.take_length]) (by rw [List.length_map]; exact hk)⟩
set_option maxRecDepth 100000 in
theorem olook_no (x : Sy) (s : List UInt8) (w : World) (hI : SyD.ok w x) (hn : x.nm.length < 2 ^ 47) (hb : x.b.length < 2 ^ 32) (hr : ∀ y ∈ x.rl, y.nm.length < 2 ^ 47) (hm : x.rl.length < 2 ^ 40) (hq : x.nt.length < 2 ^ 40) (hs : s.length < 2 ^ 47) (hsy : symB x = false) :
    Calls Tryd.prog 16 #[(.agg #[(str x.nm), (vU8 x.bind), (vU8 x.kind), (vU32 x.size), (str x.b), x.rv, x.nv]), (str s)] w (fun e w' => ∃ v, e = .returned (.tuple #[v, vN (lookE x s)]) ∧ Own [] w w' [.row v 22 1 (lookL x s).length (List.map vU32 (lookL x s))]) := by
  refine enter (args := [(.agg #[(str x.nm), (vU8 x.bind), (vU8 x.kind), (vU32 x.size), (str x.b), x.rv, x.nv]), (str s)]) Tryd.func16 rfl rfl ?_
  have H0 : Own [] w w [] := Own.start w []
  refine WC.seq ?_
  refine WC.region ?_
  refine WL.op rfl rfl (op_box H0 rfl rfl (fun b1 w1 H1 => ?_))
  refine WL.op rfl rfl (op_assign rfl ?_)
  refine WL.op rfl rfl (op_assign rfl ?_)
  refine WL.nil ?_
  refine WQ.next ?_
  refine WC.seq ?_
  refine WC.region ?_
  refine WL.op rfl rfl (op_loadS (vs := [_, _, _, _, _, _, _]) rfl (H1.cells (i := 0) rfl rfl) Tryd.underlying26 rfl Fa.I26 rfl ?_)
  refine WL.op rfl rfl (op_move rfl ?_)
  refine WL.op rfl rfl (op_callF Fa.C41 rfl ((begin_no x s _ (SyD_mk (x := x) ((SyD_rl (SyD.fr0 hI H1.fr))) ((SyD_nt (SyD.fr0 hI H1.fr)))) hn hb hr hm hq hsy).mono (fun e w2 hq => ?_)))
  obtain ⟨rfl, hf2⟩ := hq
  refine ⟨_, rfl, ?_⟩
  have H2 := H1.fr' hf2
  refine WL.op rfl rfl (op_move rfl ?_)
  refine WL.op rfl rfl (op_extract rfl rfl ?_)
  refine WL.op rfl rfl (op_extract rfl rfl ?_)
  refine WL.op rfl rfl (op_assign rfl ?_)
  refine WL.op rfl rfl (op_assign rfl ?_)
  refine WL.nil ?_
  refine WQ.next ?_
  refine WC.seq ?_
  refine WC.seq ?_
  refine WC.region ?_
  refine WL.op rfl rfl (op_move rfl ?_)
  refine WL.op rfl rfl (op_neqN (b := 0) rfl rfl ?_)
  refine WL.nil ?_
  refine WQ.next ?_
  refine WC.yes rfl (by decide) ?_
  refine WC.seq ?_
  refine WC.region ?_
  refine WL.op rfl rfl (op_move rfl ?_)
  refine WL.op rfl rfl (op_assign rfl ?_)
  refine WL.op rfl rfl (op_assign rfl ?_)
  refine WL.nil ?_
  refine WQ.next ?_
  refine WC.ret ?_
  refine WQ.thenRet ?_
  refine WQ.out (.tmp rfl (.tmp rfl .nil)) ?_
  have hf := look_2 (x := x) (s := s) (fun h => by rw [hsy] at h; cases h.1)
  rw [hf.1, hf.2]
  exact ⟨.slice none 0 0, rfl, (H2.sel [] rfl rfl).nilRow 22 1⟩
theorem olook_ok (x : Sy) (s : List UInt8) (w : World) (hI : SyD.ok w x) (hn : x.nm.length < 2 ^ 47) (hb : x.b.length < 2 ^ 32) (hr : ∀ y ∈ x.rl, y.nm.length < 2 ^ 47) (hm : x.rl.length < 2 ^ 40) (hq : x.nt.length < 2 ^ 40) (hs : s.length < 2 ^ 47) :
    Calls Tryd.prog 16 #[.agg #[str x.nm, vU8 x.bind, vU8 x.kind, vU32 x.size, str x.b, x.rv, x.nv], str s] w (fun e w' => ∃ v, e = .returned (.tuple #[v, vN (lookE x s)]) ∧ Own [] w w' [.row v 22 1 (lookL x s).length (List.map vU32 (lookL x s))]) := by
  cases h : symB x with
  | true => exact olook_yes x s w hI hn hb hr hm hq hs h
  | false => exact olook_no x s w hI hn hb hr hm hq hs h
end Go.Proofs.YtnngbnenekjffaaDoor
/-! from DRel3 -/
namespace Go.Proofs.YtnngbnenekjffaaDoor
open Go.Owl Go.Spec
set_option maxRecDepth 100000 in
theorem rfill_ok (x : Sy) (av : Value) (ads : List UInt32) (w : World) (hI : SyD.ok w x) (hn : x.nm.length < 2 ^ 47) (hb : x.b.length < 2 ^ 32) (hr : ∀ y ∈ x.rl, y.nm.length < 2 ^ 47) (hm : x.rl.length < 2 ^ 40) (hq : x.nt.length < 2 ^ 40) (hA : Arr w av 1 ads.length (List.map vU32 ads)) (hz : ads.length < 2 ^ 40) :
    Calls Tryd.prog 15 #[(.agg #[(str x.nm), (vU8 x.bind), (vU8 x.kind), (vU32 x.size), (str x.b), x.rv, x.nv]), av] w (fun e w' => e = .returned (.tuple #[str (fillS x ads), vN (fillE x ads)]) ∧ Fr [] w w') := by
  refine enter (args := [(.agg #[(str x.nm), (vU8 x.bind), (vU8 x.kind), (vU32 x.size), (str x.b), x.rv, x.nv]), av]) Tryd.func15 rfl rfl ?_
  have H0 : Own [] w w [] := Own.start w []
  refine WC.seq ?_
  refine WC.region ?_
  refine WL.op rfl rfl (op_box H0 rfl rfl (fun b1 w1 H1 => ?_))
  refine WL.op rfl rfl (op_assign rfl ?_)
  refine WL.op rfl rfl (op_assign rfl ?_)
  refine WL.nil ?_
  refine WQ.next ?_
  refine WC.seq ?_
  refine WC.seq ?_
  refine WC.region ?_
  refine WL.op rfl rfl (op_loadS (vs := [_, _, _, _, _, _, _]) rfl (H1.cells (i := 0) rfl rfl) Tryd.underlying26 rfl Fa.I26 rfl ?_)
  refine WL.op rfl rfl (op_callF Fa.C26 rfl ((rsym_ok x _ (SyD_mk (x := x) ((SyD_rl (SyD.fr0 hI H1.fr))) ((SyD_nt (SyD.fr0 hI H1.fr)))) hn hb hr hm hq).mono (fun e w2 hq => ?_)))
  obtain ⟨rfl, hf2⟩ := hq
  refine ⟨_, rfl, ?_⟩
  have H2 := H1.fr' hf2
  refine WL.op rfl rfl (op_not rfl ?_)
  refine WL.op rfl rfl (op_move rfl ?_)
  refine WL.split (t := 15) rfl (fun (hb3 : (!(symB x)) = true) => ?_) (fun (hb3 : (!(symB x)) = false) => ?_)
  ·
    have hn3 := (Bool.not_eq_true' _).mp hb3
    refine WL.no rfl rfl rfl hb3 rfl ?_
    refine WL.no rfl rfl rfl hb3 rfl ?_
    refine WL.no rfl rfl rfl hb3 rfl ?_
    refine WL.no rfl rfl rfl hb3 rfl ?_
    refine WL.no rfl rfl rfl hb3 rfl ?_
    refine WL.no rfl rfl rfl hb3 rfl ?_
    refine WL.op rfl rfl (op_pickT rfl hb3 rfl ?_)
    refine WL.nil ?_
    refine WQ.next ?_
    refine WC.yes rfl rfl ?_
    refine WC.seq ?_
    refine WC.region ?_
    refine WL.op rfl rfl (op_assign rfl ?_)
    refine WL.op rfl rfl (op_assign rfl ?_)
    refine WL.nil ?_
    refine WQ.next ?_
    refine WC.ret ?_
    refine WQ.thenRet ?_
    refine WQ.out (.tmp rfl (.tmp rfl .nil)) ?_
    have hf := fill_arg (x := x) (ads := ads) (fun h => by rw [hn3] at h; cases h.1)
    exact ⟨by rw [hf.1, hf.2]; rfl, H2.fr⟩
  ·
    have hn3 := (Bool.not_eq_false' _).mp hb3
    have hsy := hn3
    have hfit := sym_fits hsy
    refine WL.yes rfl rfl rfl hb3 rfl (op_move rfl ?_)
    refine WL.yes rfl rfl rfl hb3 rfl (op_lenA Tryd.underlying27 rfl (H2.arr hA) ?_)
    refine WL.yes rfl rfl rfl hb3 rfl (op_fieldAddr rfl Fa.F26_5 ?_)
    refine WL.yes rfl rfl rfl hb3 rfl (op_load rfl (H2.cell (i := 0) rfl rfl) Tryd.underlying23 rfl ?_)
    refine WL.yes rfl rfl rfl hb3 rfl (op_lenA Tryd.underlying23 rfl ((SyD_rl (SyD.fr0 hI H2.fr))) ?_)
    refine WL.yes rfl rfl rfl hb3 rfl (op_neqN rfl rfl ?_)
    refine WL.op rfl rfl (op_pickF rfl hb3 rfl ?_)
    refine WL.nil ?_
    refine WQ.next ?_
    refine WC.cond rfl (fun (hb4 : (decide (ads.length ≠ x.rl.length)) = true) => ?_) (fun (hb4 : (decide (ads.length ≠ x.rl.length)) = false) => ?_)
    ·
      have hc4 := of_decide_eq_true hb4
      refine WC.seq ?_
      refine WC.region ?_
      refine WL.op rfl rfl (op_assign rfl ?_)
      refine WL.op rfl rfl (op_assign rfl ?_)
      refine WL.nil ?_
      refine WQ.next ?_
      refine WC.ret ?_
      refine WQ.thenRet ?_
      refine WQ.out (.tmp rfl (.tmp rfl .nil)) ?_
      have hf := fill_arg (x := x) (ads := ads) (fun h => hc4 h.2)
      exact ⟨by rw [hf.1, hf.2]; rfl, H2.fr⟩
    ·
      have hc4 := of_decide_eq_false hb4
      have hal : ads.length = x.rl.length := Decidable.not_not.mp hc4
      refine WC.skip ?_
      refine WQ.next ?_
      refine WC.seq ?_
      refine WC.region ?_
      refine WL.op rfl rfl (op_fieldAddr rfl Fa.F26_3 ?_)
      refine WL.op rfl rfl (op_load rfl (H2.cell (i := 0) rfl rfl) Tryd.underlying22 rfl ?_)
      refine WL.op rfl rfl (op_makeSliceM (f := vU8) (c := 0) (m := x.size.toNat) H2 Tryd.underlying58 Fa.I5 rfl rfl (by omega) (by omega) (fun b5 w5 H5 => ?_))
      refine WL.op rfl rfl (op_assign rfl ?_)
      refine WL.nil ?_
      refine WQ.next ?_
      refine WC.seq ?_
      refine WC.seq ?_
      refine WC.region ?_
      refine WL.op rfl rfl (op_assign rfl ?_)
      refine WL.nil ?_
      refine WQ.next ?_
      refine WC.block ?_
      refine WC.loop (α := Nat) (fun k => [(1, av), (2, (ptr b1 0)), (4, (str [])), (5, (vN 0)), (6, (.slice (some ⟨b5, 0, none⟩) x.size.toNat x.size.toNat)), (7, (vN k))]) (fun k w' => (k ≤ x.b.length) ∧ Own [] w w' [.blk b1 [(str x.nm), (vU8 x.bind), (vU8 x.kind), (vU32 x.size), (str x.b), x.rv, x.nv] 26, .row (.slice (some ⟨b5, 0, none⟩) x.size.toNat x.size.toNat) 5 1 x.size.toNat (List.map vU8 (baseK x k))]) (fun k => x.b.length - k) 0 ⟨(by omega), (Own.rowEq (i := 1) (f := vU8) H5 rfl (baseK_0 x))⟩ ⟨rfl, rfl, rfl, rfl, rfl, rfl, trivial⟩ ?_
      rintro k w6 ⟨hinv, H6⟩
      show WC _ _ _ _ _ [(1, av), (2, (ptr b1 0)), (4, (str [])), (5, (vN 0)), (6, (.slice (some ⟨b5, 0, none⟩) x.size.toNat x.size.toNat)), (7, (vN k))] _
      refine WC.seq ?_
      refine WC.seq ?_
      refine WC.region ?_
      refine WL.op rfl rfl (op_move rfl ?_)
      refine WL.op rfl rfl (op_fieldAddr rfl Fa.F26_4 ?_)
      refine WL.op rfl rfl (op_load rfl (H6.cell (i := 0) rfl rfl) Tryd.underlying9 rfl ?_)
      refine WL.op rfl rfl (op_lenStr Tryd.underlying9 rfl ?_)
      refine WL.op rfl rfl (op_lssN rfl rfl ?_)
      refine WL.nil ?_
      refine WQ.next ?_
      refine WC.cond rfl (fun (hb7 : (decide (k < x.b.length)) = true) => ?_) (fun (hb7 : (decide (k < x.b.length)) = false) => ?_)
      ·
        have hc7 := of_decide_eq_true hb7
        refine WC.skip ?_
        refine WQ.next ?_
        refine WC.seq ?_
        refine WC.block ?_
        refine WC.region ?_
        refine WL.op rfl rfl (op_move rfl ?_)
        refine WL.op rfl rfl (op_move rfl ?_)
        refine WL.op rfl rfl (op_fieldAddr rfl Fa.F26_4 ?_)
        refine WL.op rfl rfl (op_load rfl (H6.cell (i := 0) rfl rfl) Tryd.underlying9 rfl ?_)
        refine WL.op rfl rfl (op_move rfl ?_)
        refine WL.op rfl rfl (op_indexStrD Tryd.underlying9 rfl rfl (by omega) ?_)
        refine WL.op rfl rfl (op_indexAddr1 Tryd.underlying58 Fa.I5 rfl (H6.arrR (i := 1) rfl) rfl (by omega) ?_)
        refine WL.op rfl rfl (op_storeRM (i := 1) (f := vU8) (l := (baseK x k)) (c := (x.b.getD k 0)) H6 rfl rfl rfl (by omega) rfl Fa.I5 (fun w8 H8 => ?_))
        refine WL.nil ?_
        refine WQ.inNormal ?_
        refine WQ.next ?_
        refine WC.region ?_
        refine WL.op rfl rfl (op_move rfl ?_)
        refine WL.op rfl rfl (op_addN (b := 1) rfl rfl (by omega) ?_)
        refine WL.op rfl rfl (op_assign rfl ?_)
        refine WL.nil ?_
        exact WQ.round (k + 1) ⟨(by omega), (Own.rowEq (i := 1) (f := vU8) (show Own [] w w8 [.blk b1 [(str x.nm), (vU8 x.bind), (vU8 x.kind), (vU32 x.size), (str x.b), x.rv, x.nv] 26, .row (.slice (some ⟨b5, 0, none⟩) x.size.toNat x.size.toNat) 5 1 x.size.toNat (List.map vU8 ((baseK x k).set k (x.b.getD k 0)))] from H8) rfl (baseK_step (by omega) hfit.1))⟩ ⟨rfl, rfl, rfl, rfl, rfl, rfl, trivial⟩ (by omega)
      ·
        have hc7 := of_decide_eq_false hb7
        refine WC.exit ?_
        refine WQ.thenExit ?_
        refine WQ.thenExit ?_
        refine WQ.inHere ?_
        refine WQ.next ?_
        refine WC.seq ?_
        refine WC.seq ?_
        refine WC.region ?_
        have H9 : Own [] w w6 [.blk b1 [(str x.nm), (vU8 x.bind), (vU8 x.kind), (vU32 x.size), (str x.b), x.rv, x.nv] 26, .row (.slice (some ⟨b5, 0, none⟩) x.size.toNat x.size.toNat) 5 1 x.size.toNat (List.map vU8 (fillN (baseB x) x.rl ads 0))] := Own.rowEq (i := 1) (f := vU8) (show Own [] w w6 [.blk b1 [(str x.nm), (vU8 x.bind), (vU8 x.kind), (vU32 x.size), (str x.b), x.rv, x.nv] 26, .row (.slice (some ⟨b5, 0, none⟩) x.size.toNat x.size.toNat) 5 1 x.size.toNat (List.map vU8 (baseK x k))] from H6) rfl (show baseK x k = baseB x by rw [show k = x.b.length by omega]; exact baseK_end x)
        refine WL.op rfl rfl (op_assign rfl ?_)
        refine WL.nil ?_
        refine WQ.next ?_
        refine WC.block ?_
        refine WC.loop (α := Nat) (fun k => [(1, av), (2, (ptr b1 0)), (4, (str [])), (5, (vN 0)), (6, (.slice (some ⟨b5, 0, none⟩) x.size.toNat x.size.toNat)), (8, (vN k))]) (fun k w' => (k ≤ x.rl.length ∧ (∀ j, j < k → overB (x.rl.getD j Rl.zero) (ads.getD j 0) = false)) ∧ Own [] w w' [.blk b1 [(str x.nm), (vU8 x.bind), (vU8 x.kind), (vU32 x.size), (str x.b), x.rv, x.nv] 26, .row (.slice (some ⟨b5, 0, none⟩) x.size.toNat x.size.toNat) 5 1 x.size.toNat (List.map vU8 (fillN (baseB x) x.rl ads k))]) (fun k => x.rl.length - k) 0 ⟨⟨Nat.zero_le _, fun j h => by omega⟩, H9⟩ ⟨rfl, rfl, rfl, rfl, rfl, rfl, trivial⟩ ?_
        rintro k w10 ⟨⟨hk1, hok⟩, H10⟩
        show WC _ _ _ _ _ [(1, av), (2, (ptr b1 0)), (4, (str [])), (5, (vN 0)), (6, (.slice (some ⟨b5, 0, none⟩) x.size.toNat x.size.toNat)), (8, (vN k))] _
        refine WC.seq ?_
        refine WC.seq ?_
        refine WC.region ?_
        refine WL.op rfl rfl (op_move rfl ?_)
        refine WL.op rfl rfl (op_fieldAddr rfl Fa.F26_5 ?_)
        refine WL.op rfl rfl (op_load rfl (H10.cell (i := 0) rfl rfl) Tryd.underlying23 rfl ?_)
        refine WL.op rfl rfl (op_lenA Tryd.underlying23 rfl ((SyD_rl (SyD.fr0 hI H10.fr))) ?_)
        refine WL.op rfl rfl (op_lssN rfl rfl ?_)
        refine WL.nil ?_
        refine WQ.next ?_
        refine WC.cond rfl (fun (hb11 : (decide (k < x.rl.length)) = true) => ?_) (fun (hb11 : (decide (k < x.rl.length)) = false) => ?_)
        ·
          have hc11 := of_decide_eq_true hb11
          have hpl := sym_place hsy hc11
          have hfl := fill_lenB (ads := ads) (k := k) hsy (by omega)
          have hwd := width_le (x.rl.getD k Rl.zero).kind
          refine WC.skip ?_
          refine WQ.next ?_
          refine WC.seq ?_
          refine WC.block ?_
          refine WC.seq ?_
          refine WC.draw 12 Fa.M H10 (HW.op rfl (fun w1 H1 => op_move rfl ⟨rfl, Fr.refl _ _⟩) (HW.op rfl (fun w1 H1 => op_move rfl ⟨rfl, Fr.refl _ _⟩) (HW.op rfl (fun w1 H1 => op_indexAddr1 Tryd.underlying27 Fa.I22 rfl (H1.arr hA) rfl (by omega) ⟨rfl, Fr.refl _ _⟩) (HW.op rfl (fun w1 H1 => op_load rfl ((H1.arr hA).at (get_map vU32 0 (Arr.ltM (H1.arr hA) (by omega)))) Tryd.underlying22 rfl ⟨rfl, Fr.refl _ _⟩) (HW.op rfl (fun w1 H1 => op_fieldAddr rfl Fa.F26_5 ⟨rfl, Fr.refl _ _⟩) (HW.op rfl (fun w1 H1 => op_load rfl (H1.cell (i := 0) rfl rfl) Tryd.underlying23 rfl ⟨rfl, Fr.refl _ _⟩) (HW.op rfl (fun w1 H1 => op_move rfl ⟨rfl, Fr.refl _ _⟩) (HW.op rfl (fun w1 H1 => op_indexAddr Tryd.underlying23 Fa.I44 rfl ((SyD_rl (SyD.fr0 hI H1.fr))) rfl (by omega) ⟨rfl, Fr.refl _ _⟩) (HW.op rfl (fun w1 H1 => op_fieldAddrS rfl Fa.F44_3 ⟨rfl, Fr.refl _ _⟩) (HW.op rfl (fun w1 H1 => op_load rfl (Arr.atF (k := 3) ((SyD_rl (SyD.fr0 hI H1.fr))) (fun _ => rfl) (by decide) Rl.zero (by omega) rfl) Tryd.underlying22 rfl ⟨rfl, Fr.refl _ _⟩) (HW.op rfl (fun w1 H1 => op_addU32 rfl rfl ⟨rfl, Fr.refl _ _⟩) (HW.op rfl (fun w1 H1 => op_assign rfl ⟨rfl, Fr.refl _ _⟩)  HW.nil)))))))))))) (by kernel_rfl) ?_
          intro β12 w12 H12
          refine WL.nil ?_
          refine WQ.next ?_
          refine WC.seq ?_
          refine WC.region ?_
          refine WL.op rfl rfl (op_fieldAddr rfl Fa.F26_5 ?_)
          refine WL.op rfl rfl (op_load rfl (H12.cell (i := 0) rfl rfl) Tryd.underlying23 rfl ?_)
          refine WL.op rfl rfl (op_move rfl ?_)
          refine WL.op rfl rfl (op_indexAddr Tryd.underlying23 Fa.I44 rfl ((SyD_rl (SyD.fr0 hI H12.fr))) rfl (by omega) ?_)
          refine WL.op rfl rfl (op_fieldAddrS rfl Fa.F44_1 ?_)
          refine WL.op rfl rfl (op_load rfl (Arr.atF (k := 1) ((SyD_rl (SyD.fr0 hI H12.fr))) (fun _ => rfl) (by decide) Rl.zero (by omega) rfl) Tryd.underlying5 rfl ?_)
          refine WL.op rfl rfl (op_callF Fa.C43 rfl ((width_ok ((x.rl.getD k Rl.zero).kind) _).mono (fun e w13 hq => ?_)))
          obtain ⟨rfl, hf13⟩ := hq
          refine ⟨_, rfl, ?_⟩
          have H13 := H12.fr' hf13
          refine WL.op rfl rfl (op_assign rfl ?_)
          refine WL.nil ?_
          refine WQ.next ?_
          refine WC.seq ?_
          refine WC.seq ?_
          refine WC.region ?_
          refine WL.op rfl rfl (op_move rfl ?_)
          refine WL.op rfl rfl (op_eqlN (b := 2) rfl rfl ?_)
          refine WL.op rfl rfl (op_move rfl ?_)
          refine WL.split (t := 67) rfl (fun (hb14 : (decide ((widthN ((x.rl.getD k Rl.zero).kind)) = 2)) = true) => ?_) (fun (hb14 : (decide ((widthN ((x.rl.getD k Rl.zero).kind)) = 2)) = false) => ?_)
          ·
            have hc14 := of_decide_eq_true hb14
            refine WL.yes rfl rfl rfl hb14 rfl (op_move rfl ?_)
            refine WL.yes rfl rfl rfl hb14 rfl (op_gtrU32 (b := 65535) rfl rfl ?_)
            refine WL.op rfl rfl (op_pickT rfl hb14 rfl ?_)
            refine WL.nil ?_
            refine WQ.next ?_
            refine WC.cond rfl (fun (hb15 : (decide (((ads.getD k 0) + (x.rl.getD k Rl.zero).add) > (65535 : UInt32))) = true) => ?_) (fun (hb15 : (decide (((ads.getD k 0) + (x.rl.getD k Rl.zero).add) > (65535 : UInt32))) = false) => ?_)
            ·
              have hc15 := of_decide_eq_true hb15
              refine WC.seq ?_
              refine WC.region ?_
              refine WL.op rfl rfl (op_assign rfl ?_)
              refine WL.op rfl rfl (op_assign rfl ?_)
              refine WL.nil ?_
              refine WQ.next ?_
              refine WC.ret ?_
              refine WQ.thenRet ?_
              refine WQ.inRet ?_
              refine WQ.thenRet ?_
              refine WQ.thenRet ?_
              refine WQ.inRet ?_
              refine WQ.thenRet ?_
              refine WQ.out (.tmp rfl (.tmp rfl .nil)) ?_
              have hov : ovB (x.rl.getD k Rl.zero) (ads.getD k 0 + (x.rl.getD k Rl.zero).add) = true := by rw [ovB, hb14, hb15]; rfl
              have hf := fill_bad hsy hal (by omega) hov
              exact ⟨by rw [hf.1, hf.2]; rfl, H13.fr⟩
            ·
              have hc15 := of_decide_eq_false hb15
              have hov : ovB (x.rl.getD k Rl.zero) (ads.getD k 0 + (x.rl.getD k Rl.zero).add) = false := by (rw [ovB, hb14, hb15]) <;> first | rfl | simp
              refine WC.skip ?_
              refine WQ.next ?_
              refine WC.seq ?_
              refine WC.region ?_
              refine WL.op rfl rfl (op_assign rfl ?_)
              refine WL.nil ?_
              refine WQ.next ?_
              refine WC.block ?_
              refine WC.loop (α := Nat) (fun j => [(1, av), (2, (ptr b1 0)), (4, (str [])), (5, (vN 0)), (6, (.slice (some ⟨b5, 0, none⟩) x.size.toNat x.size.toNat)), (8, (vN k)), (9, (vU32 (rV (ads.getD k 0 + (x.rl.getD k Rl.zero).add) j))), (10, (vN (widthN ((x.rl.getD k Rl.zero).kind)))), (11, (vN j))]) (fun j w' => (j ≤ widthN (x.rl.getD k Rl.zero).kind) ∧ Own [] w w' [.blk b1 [(str x.nm), (vU8 x.bind), (vU8 x.kind), (vU32 x.size), (str x.b), x.rv, x.nv] 26, .row (.slice (some ⟨b5, 0, none⟩) x.size.toNat x.size.toNat) 5 1 x.size.toNat (List.map vU8 (putAt (fillN (baseB x) x.rl ads k) (x.rl.getD k Rl.zero).off.toNat (rB (ads.getD k 0 + (x.rl.getD k Rl.zero).add) j)))]) (fun j => widthN (x.rl.getD k Rl.zero).kind - j) 0 ⟨(Nat.zero_le _), (Own.rowEq (i := 1) (f := vU8) H13 rfl putAt_nil.symm)⟩ ⟨rfl, rfl, rfl, rfl, rfl, rfl, rfl, rfl, rfl, trivial⟩ ?_
              rintro j w16 ⟨hj1, H16⟩
              show WC _ _ _ _ _ [(1, av), (2, (ptr b1 0)), (4, (str [])), (5, (vN 0)), (6, (.slice (some ⟨b5, 0, none⟩) x.size.toNat x.size.toNat)), (8, (vN k)), (9, (vU32 (rV (ads.getD k 0 + (x.rl.getD k Rl.zero).add) j))), (10, (vN (widthN ((x.rl.getD k Rl.zero).kind)))), (11, (vN j))] _
              refine WC.seq ?_
              refine WC.seq ?_
              refine WC.region ?_
              refine WL.op rfl rfl (op_move rfl ?_)
              refine WL.op rfl rfl (op_move rfl ?_)
              refine WL.op rfl rfl (op_lssN rfl rfl ?_)
              refine WL.nil ?_
              refine WQ.next ?_
              refine WC.cond rfl (fun (hb17 : (decide (j < (widthN ((x.rl.getD k Rl.zero).kind)))) = true) => ?_) (fun (hb17 : (decide (j < (widthN ((x.rl.getD k Rl.zero).kind)))) = false) => ?_)
              ·
                have hc17 := of_decide_eq_true hb17
                refine WC.skip ?_
                refine WQ.next ?_
                refine WC.seq ?_
                refine WC.block ?_
                refine WC.seq ?_
                refine WC.region ?_
                refine WL.op rfl rfl (op_move rfl ?_)
                refine WL.op rfl rfl (op_fieldAddr rfl Fa.F26_5 ?_)
                refine WL.op rfl rfl (op_load rfl (H16.cell (i := 0) rfl rfl) Tryd.underlying23 rfl ?_)
                refine WL.op rfl rfl (op_move rfl ?_)
                refine WL.op rfl rfl (op_indexAddr Tryd.underlying23 Fa.I44 rfl ((SyD_rl (SyD.fr0 hI H16.fr))) rfl (by omega) ?_)
                refine WL.op rfl rfl (op_fieldAddrS rfl Fa.F44_0 ?_)
                refine WL.op rfl rfl (op_load rfl (Arr.atF (k := 0) ((SyD_rl (SyD.fr0 hI H16.fr))) (fun _ => rfl) (by decide) Rl.zero (by omega) rfl) Tryd.underlying22 rfl ?_)
                refine WL.op rfl rfl (op_convU32N (hs := Tryd.underlying22) (hd := Tryd.underlying3) rfl ?_)
                refine WL.op rfl rfl (op_move rfl ?_)
                refine WL.op rfl rfl (op_addN rfl rfl (by omega) ?_)
                refine WL.op rfl rfl (op_move rfl ?_)
                refine WL.op rfl rfl (op_remU32 (b := 256) rfl rfl (by decide) ?_)
                refine WL.op rfl rfl (op_convU32U8 (hs := Tryd.underlying22) (hd := Tryd.underlying5) rfl ?_)
                refine WL.op rfl rfl (op_indexAddr1 Tryd.underlying58 Fa.I5 rfl (H16.arrR (i := 1) rfl) rfl (by have := hpl.2.2; unfold endOf at this; omega) ?_)
                refine WL.op rfl rfl (op_storeRM (i := 1) (f := vU8) (l := (putAt (fillN (baseB x) x.rl ads k) (x.rl.getD k Rl.zero).off.toNat (rB (ads.getD k 0 + (x.rl.getD k Rl.zero).add) j))) (c := (UInt8.ofNat ((rV (ads.getD k 0 + (x.rl.getD k Rl.zero).add) j) % (256 : UInt32)).toNat)) H16 rfl rfl rfl (by have := hpl.2.2; unfold endOf at this; omega) rfl Fa.I5 (fun w18 H18 => ?_))
                refine WL.nil ?_
                refine WQ.next ?_
                refine WC.region ?_
                refine WL.op rfl rfl (op_move rfl ?_)
                refine WL.op rfl rfl (op_quoU32 (b := 256) rfl rfl (by decide) ?_)
                refine WL.op rfl rfl (op_assign rfl ?_)
                refine WL.nil ?_
                refine WQ.inNormal ?_
                refine WQ.next ?_
                refine WC.region ?_
                refine WL.op rfl rfl (op_move rfl ?_)
                refine WL.op rfl rfl (op_addN (b := 1) rfl rfl (by omega) ?_)
                refine WL.op rfl rfl (op_assign rfl ?_)
                refine WL.nil ?_
                exact WQ.round (j + 1) ⟨(by omega), (Own.rowEq (i := 1) (f := vU8) (show Own [] w w18 [.blk b1 [(str x.nm), (vU8 x.bind), (vU8 x.kind), (vU32 x.size), (str x.b), x.rv, x.nv] 26, .row (.slice (some ⟨b5, 0, none⟩) x.size.toNat x.size.toNat) 5 1 x.size.toNat (List.map vU8 ((putAt (fillN (baseB x) x.rl ads k) (x.rl.getD k Rl.zero).off.toNat (rB (ads.getD k 0 + (x.rl.getD k Rl.zero).add) j)).set ((x.rl.getD k Rl.zero).off.toNat + j) (UInt8.ofNat ((rV (ads.getD k 0 + (x.rl.getD k Rl.zero).add) j) % (256 : UInt32)).toNat)))] from H18) rfl (put_snoc (by rw [hfl]; have := hpl.2.2; unfold endOf at this; omega)))⟩ ⟨rfl, rfl, rfl, rfl, rfl, rfl, rfl, rfl, rfl, trivial⟩ (by omega)
              ·
                have hc17 := of_decide_eq_false hb17
                refine WC.exit ?_
                refine WQ.thenExit ?_
                refine WQ.thenExit ?_
                refine WQ.inHere ?_
                refine WQ.inNormal ?_
                refine WQ.next ?_
                refine WC.region ?_
                refine WL.op rfl rfl (op_move rfl ?_)
                refine WL.op rfl rfl (op_addN (b := 1) rfl rfl (by omega) ?_)
                refine WL.op rfl rfl (op_assign rfl ?_)
                refine WL.nil ?_
                exact WQ.round (k + 1) ⟨⟨by omega, allPrev hok hov⟩, (by have h := (show Own [] w w16 [.blk b1 [(str x.nm), (vU8 x.bind), (vU8 x.kind), (vU32 x.size), (str x.b), x.rv, x.nv] 26, .row (.slice (some ⟨b5, 0, none⟩) x.size.toNat x.size.toNat) 5 1 x.size.toNat (List.map vU8 (putAt (fillN (baseB x) x.rl ads k) (x.rl.getD k Rl.zero).off.toNat (rB (ads.getD k 0 + (x.rl.getD k Rl.zero).add) j)))] from H16); rw [show j = widthN (x.rl.getD k Rl.zero).kind by omega] at h; exact h)⟩ ⟨rfl, rfl, rfl, rfl, rfl, rfl, trivial⟩ (by omega)
          ·
            have hc14 := of_decide_eq_false hb14
            have hov : ovB (x.rl.getD k Rl.zero) (ads.getD k 0 + (x.rl.getD k Rl.zero).add) = false := by (rw [ovB, hb14]) <;> first | rfl | simp
            refine WL.no rfl rfl rfl hb14 rfl ?_
            refine WL.no rfl rfl rfl hb14 rfl ?_
            refine WL.op rfl rfl (op_pickF rfl hb14 rfl ?_)
            refine WL.nil ?_
            refine WQ.next ?_
            refine WC.no rfl rfl ?_
            refine WC.skip ?_
            refine WQ.next ?_
            refine WC.seq ?_
            refine WC.region ?_
            refine WL.op rfl rfl (op_assign rfl ?_)
            refine WL.nil ?_
            refine WQ.next ?_
            refine WC.block ?_
            refine WC.loop (α := Nat) (fun j => [(1, av), (2, (ptr b1 0)), (4, (str [])), (5, (vN 0)), (6, (.slice (some ⟨b5, 0, none⟩) x.size.toNat x.size.toNat)), (8, (vN k)), (9, (vU32 (rV (ads.getD k 0 + (x.rl.getD k Rl.zero).add) j))), (10, (vN (widthN ((x.rl.getD k Rl.zero).kind)))), (11, (vN j))]) (fun j w' => (j ≤ widthN (x.rl.getD k Rl.zero).kind) ∧ Own [] w w' [.blk b1 [(str x.nm), (vU8 x.bind), (vU8 x.kind), (vU32 x.size), (str x.b), x.rv, x.nv] 26, .row (.slice (some ⟨b5, 0, none⟩) x.size.toNat x.size.toNat) 5 1 x.size.toNat (List.map vU8 (putAt (fillN (baseB x) x.rl ads k) (x.rl.getD k Rl.zero).off.toNat (rB (ads.getD k 0 + (x.rl.getD k Rl.zero).add) j)))]) (fun j => widthN (x.rl.getD k Rl.zero).kind - j) 0 ⟨(Nat.zero_le _), (Own.rowEq (i := 1) (f := vU8) H13 rfl putAt_nil.symm)⟩ ⟨rfl, rfl, rfl, rfl, rfl, rfl, rfl, rfl, rfl, trivial⟩ ?_
            rintro j w19 ⟨hj1, H19⟩
            show WC _ _ _ _ _ [(1, av), (2, (ptr b1 0)), (4, (str [])), (5, (vN 0)), (6, (.slice (some ⟨b5, 0, none⟩) x.size.toNat x.size.toNat)), (8, (vN k)), (9, (vU32 (rV (ads.getD k 0 + (x.rl.getD k Rl.zero).add) j))), (10, (vN (widthN ((x.rl.getD k Rl.zero).kind)))), (11, (vN j))] _
            refine WC.seq ?_
            refine WC.seq ?_
            refine WC.region ?_
            refine WL.op rfl rfl (op_move rfl ?_)
            refine WL.op rfl rfl (op_move rfl ?_)
            refine WL.op rfl rfl (op_lssN rfl rfl ?_)
            refine WL.nil ?_
            refine WQ.next ?_
            refine WC.cond rfl (fun (hb20 : (decide (j < (widthN ((x.rl.getD k Rl.zero).kind)))) = true) => ?_) (fun (hb20 : (decide (j < (widthN ((x.rl.getD k Rl.zero).kind)))) = false) => ?_)
            ·
              have hc20 := of_decide_eq_true hb20
              refine WC.skip ?_
              refine WQ.next ?_
              refine WC.seq ?_
              refine WC.block ?_
              refine WC.seq ?_
              refine WC.region ?_
              refine WL.op rfl rfl (op_move rfl ?_)
              refine WL.op rfl rfl (op_fieldAddr rfl Fa.F26_5 ?_)
              refine WL.op rfl rfl (op_load rfl (H19.cell (i := 0) rfl rfl) Tryd.underlying23 rfl ?_)
              refine WL.op rfl rfl (op_move rfl ?_)
              refine WL.op rfl rfl (op_indexAddr Tryd.underlying23 Fa.I44 rfl ((SyD_rl (SyD.fr0 hI H19.fr))) rfl (by omega) ?_)
              refine WL.op rfl rfl (op_fieldAddrS rfl Fa.F44_0 ?_)
              refine WL.op rfl rfl (op_load rfl (Arr.atF (k := 0) ((SyD_rl (SyD.fr0 hI H19.fr))) (fun _ => rfl) (by decide) Rl.zero (by omega) rfl) Tryd.underlying22 rfl ?_)
              refine WL.op rfl rfl (op_convU32N (hs := Tryd.underlying22) (hd := Tryd.underlying3) rfl ?_)
              refine WL.op rfl rfl (op_move rfl ?_)
              refine WL.op rfl rfl (op_addN rfl rfl (by omega) ?_)
              refine WL.op rfl rfl (op_move rfl ?_)
              refine WL.op rfl rfl (op_remU32 (b := 256) rfl rfl (by decide) ?_)
              refine WL.op rfl rfl (op_convU32U8 (hs := Tryd.underlying22) (hd := Tryd.underlying5) rfl ?_)
              refine WL.op rfl rfl (op_indexAddr1 Tryd.underlying58 Fa.I5 rfl (H19.arrR (i := 1) rfl) rfl (by have := hpl.2.2; unfold endOf at this; omega) ?_)
              refine WL.op rfl rfl (op_storeRM (i := 1) (f := vU8) (l := (putAt (fillN (baseB x) x.rl ads k) (x.rl.getD k Rl.zero).off.toNat (rB (ads.getD k 0 + (x.rl.getD k Rl.zero).add) j))) (c := (UInt8.ofNat ((rV (ads.getD k 0 + (x.rl.getD k Rl.zero).add) j) % (256 : UInt32)).toNat)) H19 rfl rfl rfl (by have := hpl.2.2; unfold endOf at this; omega) rfl Fa.I5 (fun w21 H21 => ?_))
              refine WL.nil ?_
              refine WQ.next ?_
              refine WC.region ?_
              refine WL.op rfl rfl (op_move rfl ?_)
              refine WL.op rfl rfl (op_quoU32 (b := 256) rfl rfl (by decide) ?_)
              refine WL.op rfl rfl (op_assign rfl ?_)
              refine WL.nil ?_
              refine WQ.inNormal ?_
              refine WQ.next ?_
              refine WC.region ?_
              refine WL.op rfl rfl (op_move rfl ?_)
              refine WL.op rfl rfl (op_addN (b := 1) rfl rfl (by omega) ?_)
              refine WL.op rfl rfl (op_assign rfl ?_)
              refine WL.nil ?_
              exact WQ.round (j + 1) ⟨(by omega), (Own.rowEq (i := 1) (f := vU8) (show Own [] w w21 [.blk b1 [(str x.nm), (vU8 x.bind), (vU8 x.kind), (vU32 x.size), (str x.b), x.rv, x.nv] 26, .row (.slice (some ⟨b5, 0, none⟩) x.size.toNat x.size.toNat) 5 1 x.size.toNat (List.map vU8 ((putAt (fillN (baseB x) x.rl ads k) (x.rl.getD k Rl.zero).off.toNat (rB (ads.getD k 0 + (x.rl.getD k Rl.zero).add) j)).set ((x.rl.getD k Rl.zero).off.toNat + j) (UInt8.ofNat ((rV (ads.getD k 0 + (x.rl.getD k Rl.zero).add) j) % (256 : UInt32)).toNat)))] from H21) rfl (put_snoc (by rw [hfl]; have := hpl.2.2; unfold endOf at this; omega)))⟩ ⟨rfl, rfl, rfl, rfl, rfl, rfl, rfl, rfl, rfl, trivial⟩ (by omega)
            ·
              have hc20 := of_decide_eq_false hb20
              refine WC.exit ?_
              refine WQ.thenExit ?_
              refine WQ.thenExit ?_
              refine WQ.inHere ?_
              refine WQ.inNormal ?_
              refine WQ.next ?_
              refine WC.region ?_
              refine WL.op rfl rfl (op_move rfl ?_)
              refine WL.op rfl rfl (op_addN (b := 1) rfl rfl (by omega) ?_)
              refine WL.op rfl rfl (op_assign rfl ?_)
              refine WL.nil ?_
              exact WQ.round (k + 1) ⟨⟨by omega, allPrev hok hov⟩, (by have h := (show Own [] w w19 [.blk b1 [(str x.nm), (vU8 x.bind), (vU8 x.kind), (vU32 x.size), (str x.b), x.rv, x.nv] 26, .row (.slice (some ⟨b5, 0, none⟩) x.size.toNat x.size.toNat) 5 1 x.size.toNat (List.map vU8 (putAt (fillN (baseB x) x.rl ads k) (x.rl.getD k Rl.zero).off.toNat (rB (ads.getD k 0 + (x.rl.getD k Rl.zero).add) j)))] from H19); rw [show j = widthN (x.rl.getD k Rl.zero).kind by omega] at h; exact h)⟩ ⟨rfl, rfl, rfl, rfl, rfl, rfl, trivial⟩ (by omega)
        ·
          have hc11 := of_decide_eq_false hb11
          refine WC.exit ?_
          refine WQ.thenExit ?_
          refine WQ.thenExit ?_
          refine WQ.inHere ?_
          refine WQ.next ?_
          refine WC.seq ?_
          refine WC.region ?_
          refine WL.op rfl rfl (op_move rfl ?_)
          refine WL.op rfl rfl (op_bytesStr (l := (fillN (baseB x) x.rl ads k)) Tryd.underlying58 Tryd.underlying5 Tryd.underlying9 rfl (H10.arrR (i := 1) rfl) rfl ?_)
          refine WL.op rfl rfl (op_assign rfl ?_)
          refine WL.op rfl rfl (op_assign rfl ?_)
          refine WL.nil ?_
          refine WQ.next ?_
          refine WC.ret ?_
          refine WQ.out (.tmp rfl (.tmp rfl .nil)) ?_
          have hf := fill_end hsy hal (fun j hj => hok j (by omega))
          exact ⟨by rw [hf.1, hf.2, show k = x.rl.length by omega]; rfl, H10.fr⟩
set_option maxRecDepth 100000 in
theorem rlook_ok (x : Sy) (s : List UInt8) (w : World) (hI : SyD.ok w x) (hn : x.nm.length < 2 ^ 47) (hb : x.b.length < 2 ^ 32) (hr : ∀ y ∈ x.rl, y.nm.length < 2 ^ 47) (hm : x.rl.length < 2 ^ 40) (hq : x.nt.length < 2 ^ 40) (hs : s.length < 2 ^ 47) :
    Calls Tryd.prog 17 #[(.agg #[(str x.nm), (vU8 x.bind), (vU8 x.kind), (vU32 x.size), (str x.b), x.rv, x.nv]), (str s)] w (fun e w' => ∃ v, e = .returned (.tuple #[v, vN (lookE x s)]) ∧ Own [] w w' [.row v 22 1 (lookL x s).length (List.map vU32 (lookL x s))]) := by
  refine enter (args := [(.agg #[(str x.nm), (vU8 x.bind), (vU8 x.kind), (vU32 x.size), (str x.b), x.rv, x.nv]), (str s)]) Tryd.func17 rfl rfl ?_
  have H0 : Own [] w w [] := Own.start w []
  refine WC.seq ?_
  refine WC.region ?_
  refine WL.op rfl rfl (op_box H0 rfl rfl (fun b1 w1 H1 => ?_))
  refine WL.op rfl rfl (op_assign rfl ?_)
  refine WL.op rfl rfl (op_assign rfl ?_)
  refine WL.nil ?_
  refine WQ.next ?_
  refine WC.seq ?_
  refine WC.seq ?_
  refine WC.region ?_
  refine WL.op rfl rfl (op_loadS (vs := [_, _, _, _, _, _, _]) rfl (H1.cells (i := 0) rfl rfl) Tryd.underlying26 rfl Fa.I26 rfl ?_)
  refine WL.op rfl rfl (op_callF Fa.C26 rfl ((rsym_ok x _ (SyD_mk (x := x) ((SyD_rl (SyD.fr0 hI H1.fr))) ((SyD_nt (SyD.fr0 hI H1.fr)))) hn hb hr hm hq).mono (fun e w2 hq => ?_)))
  obtain ⟨rfl, hf2⟩ := hq
  refine ⟨_, rfl, ?_⟩
  have H2 := H1.fr' hf2
  refine WL.op rfl rfl (op_not rfl ?_)
  refine WL.op rfl rfl (op_move rfl ?_)
  refine WL.split (t := 13) rfl (fun (hb3 : (!(symB x)) = true) => ?_) (fun (hb3 : (!(symB x)) = false) => ?_)
  ·
    have hn3 := (Bool.not_eq_true' _).mp hb3
    refine WL.no rfl rfl rfl hb3 rfl ?_
    refine WL.no rfl rfl rfl hb3 rfl ?_
    refine WL.no rfl rfl rfl hb3 rfl ?_
    refine WL.no rfl rfl rfl hb3 rfl ?_
    refine WL.no rfl rfl rfl hb3 rfl ?_
    refine WL.no rfl rfl rfl hb3 rfl ?_
    refine WL.op rfl rfl (op_pickT rfl hb3 rfl ?_)
    refine WL.nil ?_
    refine WQ.next ?_
    refine WC.yes rfl rfl ?_
    refine WC.seq ?_
    refine WC.region ?_
    refine WL.op rfl rfl (op_assign rfl ?_)
    refine WL.op rfl rfl (op_assign rfl ?_)
    refine WL.nil ?_
    refine WQ.next ?_
    refine WC.ret ?_
    refine WQ.thenRet ?_
    refine WQ.out (.tmp rfl (.tmp rfl .nil)) ?_
    have hf := look_2 (x := x) (s := s) (fun h => by rw [hn3] at h; cases h.1)
    rw [hf.1, hf.2]
    exact ⟨.slice none 0 0, rfl, (H2.sel [] rfl rfl).nilRow 22 1⟩
  ·
    have hn3 := (Bool.not_eq_false' _).mp hb3
    have hsy := hn3
    have hfit := sym_fits hsy
    refine WL.yes rfl rfl rfl hb3 rfl (op_move rfl ?_)
    refine WL.yes rfl rfl rfl hb3 rfl (op_lenStr Tryd.underlying9 rfl ?_)
    refine WL.yes rfl rfl rfl hb3 rfl (op_fieldAddr rfl Fa.F26_3 ?_)
    refine WL.yes rfl rfl rfl hb3 rfl (op_load rfl (H2.cell (i := 0) rfl rfl) Tryd.underlying22 rfl ?_)
    refine WL.yes rfl rfl rfl hb3 rfl (op_convU32N (hs := Tryd.underlying22) (hd := Tryd.underlying3) rfl ?_)
    refine WL.yes rfl rfl rfl hb3 rfl (op_neqN rfl rfl ?_)
    refine WL.op rfl rfl (op_pickF rfl hb3 rfl ?_)
    refine WL.nil ?_
    refine WQ.next ?_
    refine WC.cond rfl (fun (hb4 : (decide (s.length ≠ x.size.toNat)) = true) => ?_) (fun (hb4 : (decide (s.length ≠ x.size.toNat)) = false) => ?_)
    ·
      have hc4 := of_decide_eq_true hb4
      refine WC.seq ?_
      refine WC.region ?_
      refine WL.op rfl rfl (op_assign rfl ?_)
      refine WL.op rfl rfl (op_assign rfl ?_)
      refine WL.nil ?_
      refine WQ.next ?_
      refine WC.ret ?_
      refine WQ.thenRet ?_
      refine WQ.out (.tmp rfl (.tmp rfl .nil)) ?_
      have hf := look_2 (x := x) (s := s) (fun h => hc4 h.2)
      rw [hf.1, hf.2]
      exact ⟨.slice none 0 0, rfl, (H2.sel [] rfl rfl).nilRow 22 1⟩
    ·
      have hc4 := of_decide_eq_false hb4
      have hal : s.length = x.size.toNat := Decidable.not_not.mp hc4
      refine WC.skip ?_
      refine WQ.next ?_
      refine WC.seq ?_
      refine WC.region ?_
      refine WL.op rfl rfl (op_assign rfl ?_)
      have H5 := H2.nilRow 22 1
      refine WL.nil ?_
      refine WQ.next ?_
      refine WC.seq ?_
      refine WC.seq ?_
      refine WC.region ?_
      refine WL.op rfl rfl (op_assign rfl ?_)
      refine WL.nil ?_
      refine WQ.next ?_
      refine WC.block ?_
      refine WC.loop (α := Nat × Value) (fun (k, v) => [(1, (str s)), (2, (ptr b1 0)), (4, (.slice none 0 0)), (5, (vN 0)), (6, v), (7, (vN k))]) (fun (k, v) w' => (k ≤ x.rl.length) ∧ Own [] w w' [.blk b1 [(str x.nm), (vU8 x.bind), (vU8 x.kind), (vU32 x.size), (str x.b), x.rv, x.nv] 26, .row v 22 1 k (List.map vU32 ((x.rl.take k).map (seenR s)))]) (fun (k, v) => x.rl.length - k) (0, (.slice none 0 0)) ⟨(Nat.zero_le _), H5⟩ ⟨rfl, rfl, rfl, rfl, rfl, rfl, trivial⟩ ?_
      rintro ⟨k, v⟩ w6 ⟨hk1, H6⟩
      show WC _ _ _ _ _ [(1, (str s)), (2, (ptr b1 0)), (4, (.slice none 0 0)), (5, (vN 0)), (6, v), (7, (vN k))] _
      refine WC.seq ?_
      refine WC.seq ?_
      refine WC.region ?_
      refine WL.op rfl rfl (op_move rfl ?_)
      refine WL.op rfl rfl (op_fieldAddr rfl Fa.F26_5 ?_)
      refine WL.op rfl rfl (op_load rfl (H6.cell (i := 0) rfl rfl) Tryd.underlying23 rfl ?_)
      refine WL.op rfl rfl (op_lenA Tryd.underlying23 rfl ((SyD_rl (SyD.fr0 hI H6.fr))) ?_)
      refine WL.op rfl rfl (op_lssN rfl rfl ?_)
      refine WL.nil ?_
      refine WQ.next ?_
      refine WC.cond rfl (fun (hb7 : (decide (k < x.rl.length)) = true) => ?_) (fun (hb7 : (decide (k < x.rl.length)) = false) => ?_)
      ·
        have hc7 := of_decide_eq_true hb7
        have hpl := sym_place hsy hc7
        have hend : endOf (x.rl.getD k Rl.zero) ≤ s.length := by rw [hal]; exact hpl.2.2
        have hwd := width_le (x.rl.getD k Rl.zero).kind
        refine WC.skip ?_
        refine WQ.next ?_
        refine WC.seq ?_
        refine WC.block ?_
        refine WC.seq ?_
        refine WC.region ?_
        refine WL.op rfl rfl (op_assign rfl ?_)
        refine WL.nil ?_
        refine WQ.next ?_
        refine WC.seq ?_
        refine WC.seq ?_
        refine WC.region ?_
        refine WL.op rfl rfl (op_fieldAddr rfl Fa.F26_5 ?_)
        refine WL.op rfl rfl (op_load rfl (H6.cell (i := 0) rfl rfl) Tryd.underlying23 rfl ?_)
        refine WL.op rfl rfl (op_move rfl ?_)
        refine WL.op rfl rfl (op_indexAddr Tryd.underlying23 Fa.I44 rfl ((SyD_rl (SyD.fr0 hI H6.fr))) rfl (by omega) ?_)
        refine WL.op rfl rfl (op_fieldAddrS rfl Fa.F44_1 ?_)
        refine WL.op rfl rfl (op_load rfl (Arr.atF (k := 1) ((SyD_rl (SyD.fr0 hI H6.fr))) (fun _ => rfl) (by decide) Rl.zero (by omega) rfl) Tryd.underlying5 rfl ?_)
        refine WL.op rfl rfl (op_callF Fa.C43 rfl ((width_ok ((x.rl.getD k Rl.zero).kind) _).mono (fun e w8 hq => ?_)))
        obtain ⟨rfl, hf8⟩ := hq
        refine ⟨_, rfl, ?_⟩
        have H8 := H6.fr' hf8
        refine WL.op rfl rfl (op_subI (a := (((widthN ((x.rl.getD k Rl.zero).kind)) : Nat) : Int)) (b := ((1 : Nat) : Int)) rfl rfl (by omega) ?_)
        refine WL.op rfl rfl (op_assign rfl ?_)
        refine WL.nil ?_
        refine WQ.next ?_
        refine WC.block ?_
        refine WC.loop (α := Nat) (fun j => [(1, (str s)), (2, (ptr b1 0)), (4, (.slice none 0 0)), (5, (vN 0)), (6, v), (7, (vN k)), (8, (vU32 (gF (((s.drop (x.rl.getD k Rl.zero).off.toNat).take (widthN (x.rl.getD k Rl.zero).kind)).drop j)))), (9, (vI ((j : Int) - (1 : Int))))]) (fun j w' => (j ≤ widthN (x.rl.getD k Rl.zero).kind) ∧ Own [] w w' [.blk b1 [(str x.nm), (vU8 x.bind), (vU8 x.kind), (vU32 x.size), (str x.b), x.rv, x.nv] 26, .row v 22 1 k (List.map vU32 ((x.rl.take k).map (seenR s)))]) (fun j => j) (widthN (x.rl.getD k Rl.zero).kind) ⟨(Nat.le_refl _), H8⟩ ⟨rfl, rfl, rfl, rfl, rfl, rfl, (congrArg (fun x => some (vU32 x)) (seen_end hend)), rfl, trivial⟩ ?_
        rintro j w9 ⟨hj1, H9⟩
        show WC _ _ _ _ _ [(1, (str s)), (2, (ptr b1 0)), (4, (.slice none 0 0)), (5, (vN 0)), (6, v), (7, (vN k)), (8, (vU32 (gF (((s.drop (x.rl.getD k Rl.zero).off.toNat).take (widthN (x.rl.getD k Rl.zero).kind)).drop j)))), (9, (vI ((j : Int) - (1 : Int))))] _
        refine WC.seq ?_
        refine WC.seq ?_
        refine WC.region ?_
        refine WL.op rfl rfl (op_move rfl ?_)
        refine WL.op rfl rfl (op_geqI (b := (0 : Int)) rfl rfl ?_)
        refine WL.nil ?_
        refine WQ.next ?_
        refine WC.cond rfl (fun (hb10 : (decide (((j : Int) - (1 : Int)) ≥ (0 : Int))) = true) => ?_) (fun (hb10 : (decide (((j : Int) - (1 : Int)) ≥ (0 : Int))) = false) => ?_)
        ·
          have hc10 := of_decide_eq_true hb10
          obtain ⟨m, hm⟩ : ∃ m, j = m + 1 := ⟨j - 1, by omega⟩
          subst hm
          rw [show (((m + 1 : Nat) : Int) - (1 : Int)) = (m : Int) from by omega]
          refine WC.skip ?_
          refine WQ.next ?_
          refine WC.seq ?_
          refine WC.block ?_
          refine WC.region ?_
          refine WL.op rfl rfl (op_move rfl ?_)
          refine WL.op rfl rfl (op_mulU32 (a := 256) rfl rfl ?_)
          refine WL.op rfl rfl (op_move rfl ?_)
          refine WL.op rfl rfl (op_fieldAddr rfl Fa.F26_5 ?_)
          refine WL.op rfl rfl (op_load rfl (H9.cell (i := 0) rfl rfl) Tryd.underlying23 rfl ?_)
          refine WL.op rfl rfl (op_move rfl ?_)
          refine WL.op rfl rfl (op_indexAddr Tryd.underlying23 Fa.I44 rfl ((SyD_rl (SyD.fr0 hI H9.fr))) rfl (by omega) ?_)
          refine WL.op rfl rfl (op_fieldAddrS rfl Fa.F44_0 ?_)
          refine WL.op rfl rfl (op_load rfl (Arr.atF (k := 0) ((SyD_rl (SyD.fr0 hI H9.fr))) (fun _ => rfl) (by decide) Rl.zero (by omega) rfl) Tryd.underlying22 rfl ?_)
          refine WL.op rfl rfl (op_convU32N (hs := Tryd.underlying22) (hd := Tryd.underlying3) rfl ?_)
          refine WL.op rfl rfl (op_move rfl ?_)
          refine WL.op rfl rfl (op_addN rfl rfl (by have := hpl.2.1; omega) ?_)
          refine WL.op rfl rfl (op_indexStrD Tryd.underlying9 rfl rfl (by have := hend; unfold endOf at this; omega) ?_)
          refine WL.op rfl rfl (op_convU8U32 (hs := Tryd.underlying5) (hd := Tryd.underlying22) rfl ?_)
          refine WL.op rfl rfl (op_addU32 rfl rfl ?_)
          refine WL.op rfl rfl (op_assign rfl ?_)
          refine WL.nil ?_
          refine WQ.inNormal ?_
          refine WQ.next ?_
          refine WC.region ?_
          refine WL.op rfl rfl (op_move rfl ?_)
          refine WL.op rfl rfl (op_subI (a := ((m : Nat) : Int)) (b := ((1 : Nat) : Int)) rfl rfl (by omega) ?_)
          refine WL.op rfl rfl (op_assign rfl ?_)
          refine WL.nil ?_
          exact WQ.round m ⟨(by omega), H9⟩ ⟨rfl, rfl, rfl, rfl, rfl, rfl, (congrArg (fun x => some (vU32 x)) (seen_drop hend (by omega)).symm), rfl, trivial⟩ (by omega)
        ·
          have hc10 := of_decide_eq_false hb10
          refine WC.exit ?_
          refine WQ.thenExit ?_
          refine WQ.thenExit ?_
          refine WQ.inHere ?_
          refine WQ.next ?_
          refine WC.region ?_
          refine WL.op rfl rfl (op_move rfl ?_)
          refine WL.op rfl rfl (op_move rfl ?_)
          refine WL.op rfl rfl (op_fieldAddr rfl Fa.F26_5 ?_)
          refine WL.op rfl rfl (op_load rfl (H9.cell (i := 0) rfl rfl) Tryd.underlying23 rfl ?_)
          refine WL.op rfl rfl (op_move rfl ?_)
          refine WL.op rfl rfl (op_indexAddr Tryd.underlying23 Fa.I44 rfl ((SyD_rl (SyD.fr0 hI H9.fr))) rfl (by omega) ?_)
          refine WL.op rfl rfl (op_fieldAddrS rfl Fa.F44_3 ?_)
          refine WL.op rfl rfl (op_load rfl (Arr.atF (k := 3) ((SyD_rl (SyD.fr0 hI H9.fr))) (fun _ => rfl) (by decide) Rl.zero (by omega) rfl) Tryd.underlying22 rfl ?_)
          refine WL.op rfl rfl (op_subU32 rfl rfl ?_)
          refine WL.op rfl rfl (op_buildSlice (cs := [_]) H9 Tryd.underlying27 Fa.I22 rfl rfl rfl rfl (by decide) (by decide) (fun b11 w11 H11 => ?_))
          refine WL.op rfl rfl (op_appendM (f := vU32) (l := ((x.rl.take k).map (seenR s))) (l' := [((gF (((s.drop (x.rl.getD k Rl.zero).off.toNat).take (widthN (x.rl.getD k Rl.zero).kind)).drop j)) - (x.rl.getD k Rl.zero).add)]) (i := 1) H11 Tryd.underlying27 Fa.I22 rfl rfl rfl rfl (Src.ofArr Tryd.underlying27 (H11.arrR (i := 2) rfl)) (one_mapM (fun _ => rfl)) (by omega) (by omega) (fun v12 w12 H12 => ?_))
          refine WL.op rfl rfl (op_assign rfl ?_)
          refine WL.nil ?_
          refine WQ.inNormal ?_
          refine WQ.next ?_
          refine WC.region ?_
          refine WL.op rfl rfl (op_move rfl ?_)
          refine WL.op rfl rfl (op_addN (b := 1) rfl rfl (by omega) ?_)
          refine WL.op rfl rfl (op_assign rfl ?_)
          refine WL.nil ?_
          exact WQ.round (k + 1, v12) ⟨(by omega), (Own.rowEqN (i := 1) (f := vU32) (show Own [] w w12 [.blk b1 [(str x.nm), (vU8 x.bind), (vU8 x.kind), (vU32 x.size), (str x.b), x.rv, x.nv] 26, .row v12 22 1 (k + 1) (List.map vU32 (((x.rl.take k).map (seenR s)) ++ [((gF (((s.drop (x.rl.getD k Rl.zero).off.toNat).take (widthN (x.rl.getD k Rl.zero).kind)).drop j)) - (x.rl.getD k Rl.zero).add)]))] from (H12.take 2)) rfl (by rw [show j = 0 by omega]; exact seen_next (by omega)) rfl)⟩ ⟨rfl, rfl, rfl, rfl, rfl, rfl, trivial⟩ (by show x.rl.length - (k + 1) < x.rl.length - k; omega)
      ·
        have hc7 := of_decide_eq_false hb7
        refine WC.exit ?_
        refine WQ.thenExit ?_
        refine WQ.thenExit ?_
        refine WQ.inHere ?_
        refine WQ.next ?_
        refine WC.seq ?_
        refine WC.region ?_
        refine WL.op rfl rfl (op_move rfl ?_)
        refine WL.op rfl rfl (op_assign rfl ?_)
        refine WL.op rfl rfl (op_assign rfl ?_)
        refine WL.nil ?_
        refine WQ.next ?_
        refine WC.ret ?_
        refine WQ.out (.tmp rfl (.tmp rfl .nil)) ?_
        have hk : k = x.rl.length := by omega
        have hf := look_0 (s := s) hsy hal
        rw [hf.1, hf.2]
        exact ⟨_, rfl, Own.rowEqN (i := 0) (f := vU32) (H6.sel [1] rfl rfl) rfl (by rw [hk, List.take_length]) (by rw [List.length_map]; exact hk)⟩
end Go.Proofs.YtnngbnenekjffaaDoor
/-! from DRel4 -/
namespace Go.Proofs.YtnngbnenekjffaaDoor
open Go.Owl Go.Spec
set_option maxRecDepth 100000 in
theorem same15_ok (va vb : Value) (a b : List UInt32) (w : World) (hA : Arr w va 1 a.length (List.map vU32 a)) (hB : Arr w vb 1 b.length (List.map vU32 b)) (hn : a.length < 2 ^ 47) :
    Calls Tryd.prog 18 #[va, vb] w (fun e w' => e = .returned (.bool (decide (a = b))) ∧ Fr [] w w') := by
  refine enter (args := [va, vb]) Tryd.func18 rfl rfl ?_
  have H0 : Own [] w w [] := Own.start w []
  refine WC.seq ?_
  refine WC.region ?_
  refine WL.op rfl rfl (op_assign rfl ?_)
  refine WL.nil ?_
  refine WQ.next ?_
  refine WC.seq ?_
  refine WC.seq ?_
  refine WC.region ?_
  refine WL.op rfl rfl (op_move rfl ?_)
  refine WL.op rfl rfl (op_lenA Tryd.underlying27 rfl (H0.arr hA) ?_)
  refine WL.op rfl rfl (op_move rfl ?_)
  refine WL.op rfl rfl (op_lenA Tryd.underlying27 rfl (H0.arr hB) ?_)
  refine WL.op rfl rfl (op_neqN rfl rfl ?_)
  refine WL.nil ?_
  refine WQ.next ?_
  refine WC.cond rfl (fun (hb1 : (decide (a.length ≠ b.length)) = true) => ?_) (fun (hb1 : (decide (a.length ≠ b.length)) = false) => ?_)
  ·
    have hc1 := of_decide_eq_true hb1
    refine WC.seq ?_
    refine WC.region ?_
    refine WL.op rfl rfl (op_assign rfl ?_)
    refine WL.nil ?_
    refine WQ.next ?_
    refine WC.ret ?_
    refine WQ.thenRet ?_
    refine WQ.out (.tmp rfl .nil) ?_
    exact ⟨by rw [decide_eq_false (fun h : a = b => hc1 (by rw [h]))]; rfl, H0.fr⟩
  ·
    have hc1 := of_decide_eq_false hb1
    refine WC.skip ?_
    refine WQ.next ?_
    refine WC.seq ?_
    refine WC.seq ?_
    refine WC.region ?_
    refine WL.op rfl rfl (op_assign rfl ?_)
    refine WL.nil ?_
    refine WQ.next ?_
    refine WC.block ?_
    refine WC.loop (α := Nat) (fun k => [(0, va), (1, vb), (5, (vN k))]) (fun k w' => (k ≤ a.length ∧ (∀ j, j < k → a.getD j 0 = b.getD j 0)) ∧ Own [] w w' []) (fun k => a.length - k) 0 ⟨⟨Nat.zero_le _, fun j h => by omega⟩, H0⟩ ⟨rfl, rfl, rfl, trivial⟩ ?_
    rintro k w2 ⟨⟨hk1, hok⟩, H2⟩
    show WC _ _ _ _ _ [(0, va), (1, vb), (5, (vN k))] _
    refine WC.seq ?_
    refine WC.seq ?_
    refine WC.region ?_
    refine WL.op rfl rfl (op_move rfl ?_)
    refine WL.op rfl rfl (op_move rfl ?_)
    refine WL.op rfl rfl (op_lenA Tryd.underlying27 rfl (H2.arr hA) ?_)
    refine WL.op rfl rfl (op_lssN rfl rfl ?_)
    refine WL.nil ?_
    refine WQ.next ?_
    refine WC.cond rfl (fun (hb3 : (decide (k < a.length)) = true) => ?_) (fun (hb3 : (decide (k < a.length)) = false) => ?_)
    ·
      have hc3 := of_decide_eq_true hb3
      refine WC.skip ?_
      refine WQ.next ?_
      refine WC.seq ?_
      refine WC.block ?_
      refine WC.seq ?_
      refine WC.draw 9 Fa.M H2 (HW.op rfl (fun w1 H1 => op_move rfl ⟨rfl, Fr.refl _ _⟩) (HW.op rfl (fun w1 H1 => op_move rfl ⟨rfl, Fr.refl _ _⟩) (HW.op rfl (fun w1 H1 => op_indexAddr1 Tryd.underlying27 Fa.I22 rfl (H1.arr hA) rfl (by omega) ⟨rfl, Fr.refl _ _⟩) (HW.op rfl (fun w1 H1 => op_load rfl ((H1.arr hA).at (get_map vU32 0 (Arr.ltM (H1.arr hA) (by omega)))) Tryd.underlying22 rfl ⟨rfl, Fr.refl _ _⟩) (HW.op rfl (fun w1 H1 => op_move rfl ⟨rfl, Fr.refl _ _⟩) (HW.op rfl (fun w1 H1 => op_move rfl ⟨rfl, Fr.refl _ _⟩) (HW.op rfl (fun w1 H1 => op_indexAddr1 Tryd.underlying27 Fa.I22 rfl (H1.arr hB) rfl (by omega) ⟨rfl, Fr.refl _ _⟩) (HW.op rfl (fun w1 H1 => op_load rfl ((H1.arr hB).at (get_map vU32 0 (Arr.ltM (H1.arr hB) (by omega)))) Tryd.underlying22 rfl ⟨rfl, Fr.refl _ _⟩) (HW.op rfl (fun w1 H1 => op_neqU32 rfl rfl ⟨rfl, Fr.refl _ _⟩)  HW.nil))))))))) (by kernel_rfl) ?_
      intro β4 w4 H4
      refine WL.nil ?_
      refine WQ.next ?_
      refine WC.cond rfl (fun (hb5 : (decide ((a.getD k 0) ≠ (b.getD k 0))) = true) => ?_) (fun (hb5 : (decide ((a.getD k 0) ≠ (b.getD k 0))) = false) => ?_)
      ·
        have hc5 := of_decide_eq_true hb5
        refine WC.seq ?_
        refine WC.region ?_
        refine WL.op rfl rfl (op_assign rfl ?_)
        refine WL.nil ?_
        refine WQ.next ?_
        refine WC.ret ?_
        refine WQ.inRet ?_
        refine WQ.thenRet ?_
        refine WQ.thenRet ?_
        refine WQ.inRet ?_
        refine WQ.thenRet ?_
        refine WQ.out (.tmp rfl .nil) ?_
        exact ⟨by rw [decide_eq_false (fun h : a = b => hc5 (by rw [h]))]; rfl, H4.fr⟩
      ·
        have hc5 := of_decide_eq_false hb5
        refine WC.skip ?_
        refine WQ.inNormal ?_
        refine WQ.next ?_
        refine WC.region ?_
        refine WL.op rfl rfl (op_move rfl ?_)
        refine WL.op rfl rfl (op_addN (b := 1) rfl rfl (by omega) ?_)
        refine WL.op rfl rfl (op_assign rfl ?_)
        refine WL.nil ?_
        exact WQ.round (k + 1) ⟨⟨by omega, allPrev hok (Decidable.not_not.mp hc5)⟩, H4⟩ ⟨rfl, rfl, rfl, trivial⟩ (by omega)
    ·
      have hc3 := of_decide_eq_false hb3
      refine WC.exit ?_
      refine WQ.thenExit ?_
      refine WQ.thenExit ?_
      refine WQ.inHere ?_
      refine WQ.next ?_
      refine WC.seq ?_
      refine WC.region ?_
      refine WL.op rfl rfl (op_assign rfl ?_)
      refine WL.nil ?_
      refine WQ.next ?_
      refine WC.ret ?_
      refine WQ.out (.tmp rfl .nil) ?_
      exact ⟨by rw [decide_eq_true (list_eqD (by omega) (fun j hj => hok j (by omega)))]; rfl, H2.fr⟩
set_option maxRecDepth 100000 in
theorem samesy_ok (x y : Sy) (w : World) (hI : SyD.ok w x) (hJ : SyD.ok w y) (hm : x.rl.length < 2 ^ 47) (hq : x.nt.length < 2 ^ 47) :
    Calls Tryd.prog 19 #[(.agg #[(str x.nm), (vU8 x.bind), (vU8 x.kind), (vU32 x.size), (str x.b), x.rv, x.nv]), (.agg #[(str y.nm), (vU8 y.bind), (vU8 y.kind), (vU32 y.size), (str y.b), y.rv, y.nv])] w (fun e w' => e = .returned (.bool (sameY x y)) ∧ Fr [] w w') := by
  refine enter (args := [(.agg #[(str x.nm), (vU8 x.bind), (vU8 x.kind), (vU32 x.size), (str x.b), x.rv, x.nv]), (.agg #[(str y.nm), (vU8 y.bind), (vU8 y.kind), (vU32 y.size), (str y.b), y.rv, y.nv])]) Tryd.func19 rfl rfl ?_
  have H0 : Own [] w w [] := Own.start w []
  refine WC.seq ?_
  refine WC.region ?_
  refine WL.op rfl rfl (op_box H0 rfl rfl (fun b1 w1 H1 => ?_))
  refine WL.op rfl rfl (op_box H1 rfl rfl (fun b2 w2 H2 => ?_))
  refine WL.op rfl rfl (op_assign rfl ?_)
  refine WL.nil ?_
  refine WQ.next ?_
  refine WC.seq ?_
  refine WC.seq ?_
  refine WC.region ?_
  refine WL.op rfl rfl (op_fieldAddr rfl Fa.F26_0 ?_)
  refine WL.op rfl rfl (op_load rfl (H2.cell (i := 0) rfl rfl) Tryd.underlying9 rfl ?_)
  refine WL.op rfl rfl (op_fieldAddr rfl Fa.F26_0 ?_)
  refine WL.op rfl rfl (op_load rfl (H2.cell (i := 1) rfl rfl) Tryd.underlying9 rfl ?_)
  refine WL.op rfl rfl (op_neqStr rfl rfl ?_)
  refine WL.op rfl rfl (op_move rfl ?_)
  refine WL.split (t := 12) rfl (fun (hb3 : (decide (x.nm ≠ y.nm)) = true) => ?_) (fun (hb3 : (decide (x.nm ≠ y.nm)) = false) => ?_)
  ·
    have hc3 := of_decide_eq_true hb3
    refine WL.no rfl rfl rfl hb3 rfl ?_
    refine WL.no rfl rfl rfl hb3 rfl ?_
    refine WL.no rfl rfl rfl hb3 rfl ?_
    refine WL.no rfl rfl rfl hb3 rfl ?_
    refine WL.no rfl rfl rfl hb3 rfl ?_
    refine WL.op rfl rfl (op_pickT rfl hb3 rfl ?_)
    refine WL.op rfl rfl (op_move rfl ?_)
    refine WL.no rfl rfl rfl rfl rfl ?_
    refine WL.no rfl rfl rfl rfl rfl ?_
    refine WL.no rfl rfl rfl rfl rfl ?_
    refine WL.no rfl rfl rfl rfl rfl ?_
    refine WL.no rfl rfl rfl rfl rfl ?_
    refine WL.op rfl rfl (op_pickT rfl rfl rfl ?_)
    refine WL.op rfl rfl (op_move rfl ?_)
    refine WL.no rfl rfl rfl rfl rfl ?_
    refine WL.no rfl rfl rfl rfl rfl ?_
    refine WL.no rfl rfl rfl rfl rfl ?_
    refine WL.no rfl rfl rfl rfl rfl ?_
    refine WL.no rfl rfl rfl rfl rfl ?_
    refine WL.op rfl rfl (op_pickT rfl rfl rfl ?_)
    refine WL.op rfl rfl (op_move rfl ?_)
    refine WL.no rfl rfl rfl rfl rfl ?_
    refine WL.no rfl rfl rfl rfl rfl ?_
    refine WL.no rfl rfl rfl rfl rfl ?_
    refine WL.no rfl rfl rfl rfl rfl ?_
    refine WL.no rfl rfl rfl rfl rfl ?_
    refine WL.op rfl rfl (op_pickT rfl rfl rfl ?_)
    refine WL.op rfl rfl (op_move rfl ?_)
    refine WL.no rfl rfl rfl rfl rfl ?_
    refine WL.no rfl rfl rfl rfl rfl ?_
    refine WL.no rfl rfl rfl rfl rfl ?_
    refine WL.no rfl rfl rfl rfl rfl ?_
    refine WL.no rfl rfl rfl rfl rfl ?_
    refine WL.no rfl rfl rfl rfl rfl ?_
    refine WL.no rfl rfl rfl rfl rfl ?_
    refine WL.op rfl rfl (op_pickT rfl rfl rfl ?_)
    refine WL.op rfl rfl (op_move rfl ?_)
    refine WL.no rfl rfl rfl rfl rfl ?_
    refine WL.no rfl rfl rfl rfl rfl ?_
    refine WL.no rfl rfl rfl rfl rfl ?_
    refine WL.no rfl rfl rfl rfl rfl ?_
    refine WL.no rfl rfl rfl rfl rfl ?_
    refine WL.no rfl rfl rfl rfl rfl ?_
    refine WL.no rfl rfl rfl rfl rfl ?_
    refine WL.op rfl rfl (op_pickT rfl rfl rfl ?_)
    refine WL.nil ?_
    refine WQ.next ?_
    refine WC.yes rfl rfl ?_
    refine WC.seq ?_
    refine WC.region ?_
    refine WL.op rfl rfl (op_assign rfl ?_)
    refine WL.nil ?_
    refine WQ.next ?_
    refine WC.ret ?_
    refine WQ.thenRet ?_
    refine WQ.out (.tmp rfl .nil) ?_
    exact ⟨by rw [sameY_no (fun h => hc3 h.1)]; rfl, H2.fr⟩
  ·
    have hc3 := of_decide_eq_false hb3
    refine WL.yes rfl rfl rfl hb3 rfl (op_fieldAddr rfl Fa.F26_1 ?_)
    refine WL.yes rfl rfl rfl hb3 rfl (op_load rfl (H2.cell (i := 0) rfl rfl) Tryd.underlying5 rfl ?_)
    refine WL.yes rfl rfl rfl hb3 rfl (op_fieldAddr rfl Fa.F26_1 ?_)
    refine WL.yes rfl rfl rfl hb3 rfl (op_load rfl (H2.cell (i := 1) rfl rfl) Tryd.underlying5 rfl ?_)
    refine WL.yes rfl rfl rfl hb3 rfl (op_neqU8 rfl rfl ?_)
    refine WL.op rfl rfl (op_pickF rfl hb3 rfl ?_)
    refine WL.op rfl rfl (op_move rfl ?_)
    refine WL.split (t := 19) rfl (fun (hb4 : (decide (x.bind ≠ y.bind)) = true) => ?_) (fun (hb4 : (decide (x.bind ≠ y.bind)) = false) => ?_)
    ·
      have hc4 := of_decide_eq_true hb4
      refine WL.no rfl rfl rfl hb4 rfl ?_
      refine WL.no rfl rfl rfl hb4 rfl ?_
      refine WL.no rfl rfl rfl hb4 rfl ?_
      refine WL.no rfl rfl rfl hb4 rfl ?_
      refine WL.no rfl rfl rfl hb4 rfl ?_
      refine WL.op rfl rfl (op_pickT rfl hb4 rfl ?_)
      refine WL.op rfl rfl (op_move rfl ?_)
      refine WL.no rfl rfl rfl rfl rfl ?_
      refine WL.no rfl rfl rfl rfl rfl ?_
      refine WL.no rfl rfl rfl rfl rfl ?_
      refine WL.no rfl rfl rfl rfl rfl ?_
      refine WL.no rfl rfl rfl rfl rfl ?_
      refine WL.op rfl rfl (op_pickT rfl rfl rfl ?_)
      refine WL.op rfl rfl (op_move rfl ?_)
      refine WL.no rfl rfl rfl rfl rfl ?_
      refine WL.no rfl rfl rfl rfl rfl ?_
      refine WL.no rfl rfl rfl rfl rfl ?_
      refine WL.no rfl rfl rfl rfl rfl ?_
      refine WL.no rfl rfl rfl rfl rfl ?_
      refine WL.op rfl rfl (op_pickT rfl rfl rfl ?_)
      refine WL.op rfl rfl (op_move rfl ?_)
      refine WL.no rfl rfl rfl rfl rfl ?_
      refine WL.no rfl rfl rfl rfl rfl ?_
      refine WL.no rfl rfl rfl rfl rfl ?_
      refine WL.no rfl rfl rfl rfl rfl ?_
      refine WL.no rfl rfl rfl rfl rfl ?_
      refine WL.no rfl rfl rfl rfl rfl ?_
      refine WL.no rfl rfl rfl rfl rfl ?_
      refine WL.op rfl rfl (op_pickT rfl rfl rfl ?_)
      refine WL.op rfl rfl (op_move rfl ?_)
      refine WL.no rfl rfl rfl rfl rfl ?_
      refine WL.no rfl rfl rfl rfl rfl ?_
      refine WL.no rfl rfl rfl rfl rfl ?_
      refine WL.no rfl rfl rfl rfl rfl ?_
      refine WL.no rfl rfl rfl rfl rfl ?_
      refine WL.no rfl rfl rfl rfl rfl ?_
      refine WL.no rfl rfl rfl rfl rfl ?_
      refine WL.op rfl rfl (op_pickT rfl rfl rfl ?_)
      refine WL.nil ?_
      refine WQ.next ?_
      refine WC.yes rfl rfl ?_
      refine WC.seq ?_
      refine WC.region ?_
      refine WL.op rfl rfl (op_assign rfl ?_)
      refine WL.nil ?_
      refine WQ.next ?_
      refine WC.ret ?_
      refine WQ.thenRet ?_
      refine WQ.out (.tmp rfl .nil) ?_
      exact ⟨by rw [sameY_no (fun h => hc4 h.2.1)]; rfl, H2.fr⟩
    ·
      have hc4 := of_decide_eq_false hb4
      refine WL.yes rfl rfl rfl hb4 rfl (op_fieldAddr rfl Fa.F26_2 ?_)
      refine WL.yes rfl rfl rfl hb4 rfl (op_load rfl (H2.cell (i := 0) rfl rfl) Tryd.underlying5 rfl ?_)
      refine WL.yes rfl rfl rfl hb4 rfl (op_fieldAddr rfl Fa.F26_2 ?_)
      refine WL.yes rfl rfl rfl hb4 rfl (op_load rfl (H2.cell (i := 1) rfl rfl) Tryd.underlying5 rfl ?_)
      refine WL.yes rfl rfl rfl hb4 rfl (op_neqU8 rfl rfl ?_)
      refine WL.op rfl rfl (op_pickF rfl hb4 rfl ?_)
      refine WL.op rfl rfl (op_move rfl ?_)
      refine WL.split (t := 26) rfl (fun (hb5 : (decide (x.kind ≠ y.kind)) = true) => ?_) (fun (hb5 : (decide (x.kind ≠ y.kind)) = false) => ?_)
      ·
        have hc5 := of_decide_eq_true hb5
        refine WL.no rfl rfl rfl hb5 rfl ?_
        refine WL.no rfl rfl rfl hb5 rfl ?_
        refine WL.no rfl rfl rfl hb5 rfl ?_
        refine WL.no rfl rfl rfl hb5 rfl ?_
        refine WL.no rfl rfl rfl hb5 rfl ?_
        refine WL.op rfl rfl (op_pickT rfl hb5 rfl ?_)
        refine WL.op rfl rfl (op_move rfl ?_)
        refine WL.no rfl rfl rfl rfl rfl ?_
        refine WL.no rfl rfl rfl rfl rfl ?_
        refine WL.no rfl rfl rfl rfl rfl ?_
        refine WL.no rfl rfl rfl rfl rfl ?_
        refine WL.no rfl rfl rfl rfl rfl ?_
        refine WL.op rfl rfl (op_pickT rfl rfl rfl ?_)
        refine WL.op rfl rfl (op_move rfl ?_)
        refine WL.no rfl rfl rfl rfl rfl ?_
        refine WL.no rfl rfl rfl rfl rfl ?_
        refine WL.no rfl rfl rfl rfl rfl ?_
        refine WL.no rfl rfl rfl rfl rfl ?_
        refine WL.no rfl rfl rfl rfl rfl ?_
        refine WL.no rfl rfl rfl rfl rfl ?_
        refine WL.no rfl rfl rfl rfl rfl ?_
        refine WL.op rfl rfl (op_pickT rfl rfl rfl ?_)
        refine WL.op rfl rfl (op_move rfl ?_)
        refine WL.no rfl rfl rfl rfl rfl ?_
        refine WL.no rfl rfl rfl rfl rfl ?_
        refine WL.no rfl rfl rfl rfl rfl ?_
        refine WL.no rfl rfl rfl rfl rfl ?_
        refine WL.no rfl rfl rfl rfl rfl ?_
        refine WL.no rfl rfl rfl rfl rfl ?_
        refine WL.no rfl rfl rfl rfl rfl ?_
        refine WL.op rfl rfl (op_pickT rfl rfl rfl ?_)
        refine WL.nil ?_
        refine WQ.next ?_
        refine WC.yes rfl rfl ?_
        refine WC.seq ?_
        refine WC.region ?_
        refine WL.op rfl rfl (op_assign rfl ?_)
        refine WL.nil ?_
        refine WQ.next ?_
        refine WC.ret ?_
        refine WQ.thenRet ?_
        refine WQ.out (.tmp rfl .nil) ?_
        exact ⟨by rw [sameY_no (fun h => hc5 h.2.2.1)]; rfl, H2.fr⟩
      ·
        have hc5 := of_decide_eq_false hb5
        refine WL.yes rfl rfl rfl hb5 rfl (op_fieldAddr rfl Fa.F26_3 ?_)
        refine WL.yes rfl rfl rfl hb5 rfl (op_load rfl (H2.cell (i := 0) rfl rfl) Tryd.underlying22 rfl ?_)
        refine WL.yes rfl rfl rfl hb5 rfl (op_fieldAddr rfl Fa.F26_3 ?_)
        refine WL.yes rfl rfl rfl hb5 rfl (op_load rfl (H2.cell (i := 1) rfl rfl) Tryd.underlying22 rfl ?_)
        refine WL.yes rfl rfl rfl hb5 rfl (op_neqU32 rfl rfl ?_)
        refine WL.op rfl rfl (op_pickF rfl hb5 rfl ?_)
        refine WL.op rfl rfl (op_move rfl ?_)
        refine WL.split (t := 33) rfl (fun (hb6 : (decide (x.size ≠ y.size)) = true) => ?_) (fun (hb6 : (decide (x.size ≠ y.size)) = false) => ?_)
        ·
          have hc6 := of_decide_eq_true hb6
          refine WL.no rfl rfl rfl hb6 rfl ?_
          refine WL.no rfl rfl rfl hb6 rfl ?_
          refine WL.no rfl rfl rfl hb6 rfl ?_
          refine WL.no rfl rfl rfl hb6 rfl ?_
          refine WL.no rfl rfl rfl hb6 rfl ?_
          refine WL.op rfl rfl (op_pickT rfl hb6 rfl ?_)
          refine WL.op rfl rfl (op_move rfl ?_)
          refine WL.no rfl rfl rfl rfl rfl ?_
          refine WL.no rfl rfl rfl rfl rfl ?_
          refine WL.no rfl rfl rfl rfl rfl ?_
          refine WL.no rfl rfl rfl rfl rfl ?_
          refine WL.no rfl rfl rfl rfl rfl ?_
          refine WL.no rfl rfl rfl rfl rfl ?_
          refine WL.no rfl rfl rfl rfl rfl ?_
          refine WL.op rfl rfl (op_pickT rfl rfl rfl ?_)
          refine WL.op rfl rfl (op_move rfl ?_)
          refine WL.no rfl rfl rfl rfl rfl ?_
          refine WL.no rfl rfl rfl rfl rfl ?_
          refine WL.no rfl rfl rfl rfl rfl ?_
          refine WL.no rfl rfl rfl rfl rfl ?_
          refine WL.no rfl rfl rfl rfl rfl ?_
          refine WL.no rfl rfl rfl rfl rfl ?_
          refine WL.no rfl rfl rfl rfl rfl ?_
          refine WL.op rfl rfl (op_pickT rfl rfl rfl ?_)
          refine WL.nil ?_
          refine WQ.next ?_
          refine WC.yes rfl rfl ?_
          refine WC.seq ?_
          refine WC.region ?_
          refine WL.op rfl rfl (op_assign rfl ?_)
          refine WL.nil ?_
          refine WQ.next ?_
          refine WC.ret ?_
          refine WQ.thenRet ?_
          refine WQ.out (.tmp rfl .nil) ?_
          exact ⟨by rw [sameY_no (fun h => hc6 h.2.2.2.1)]; rfl, H2.fr⟩
        ·
          have hc6 := of_decide_eq_false hb6
          refine WL.yes rfl rfl rfl hb6 rfl (op_fieldAddr rfl Fa.F26_4 ?_)
          refine WL.yes rfl rfl rfl hb6 rfl (op_load rfl (H2.cell (i := 0) rfl rfl) Tryd.underlying9 rfl ?_)
          refine WL.yes rfl rfl rfl hb6 rfl (op_fieldAddr rfl Fa.F26_4 ?_)
          refine WL.yes rfl rfl rfl hb6 rfl (op_load rfl (H2.cell (i := 1) rfl rfl) Tryd.underlying9 rfl ?_)
          refine WL.yes rfl rfl rfl hb6 rfl (op_neqStr rfl rfl ?_)
          refine WL.op rfl rfl (op_pickF rfl hb6 rfl ?_)
          refine WL.op rfl rfl (op_move rfl ?_)
          refine WL.split (t := 40) rfl (fun (hb7 : (decide (x.b ≠ y.b)) = true) => ?_) (fun (hb7 : (decide (x.b ≠ y.b)) = false) => ?_)
          ·
            have hc7 := of_decide_eq_true hb7
            refine WL.no rfl rfl rfl hb7 rfl ?_
            refine WL.no rfl rfl rfl hb7 rfl ?_
            refine WL.no rfl rfl rfl hb7 rfl ?_
            refine WL.no rfl rfl rfl hb7 rfl ?_
            refine WL.no rfl rfl rfl hb7 rfl ?_
            refine WL.no rfl rfl rfl hb7 rfl ?_
            refine WL.no rfl rfl rfl hb7 rfl ?_
            refine WL.op rfl rfl (op_pickT rfl hb7 rfl ?_)
            refine WL.op rfl rfl (op_move rfl ?_)
            refine WL.no rfl rfl rfl rfl rfl ?_
            refine WL.no rfl rfl rfl rfl rfl ?_
            refine WL.no rfl rfl rfl rfl rfl ?_
            refine WL.no rfl rfl rfl rfl rfl ?_
            refine WL.no rfl rfl rfl rfl rfl ?_
            refine WL.no rfl rfl rfl rfl rfl ?_
            refine WL.no rfl rfl rfl rfl rfl ?_
            refine WL.op rfl rfl (op_pickT rfl rfl rfl ?_)
            refine WL.nil ?_
            refine WQ.next ?_
            refine WC.yes rfl rfl ?_
            refine WC.seq ?_
            refine WC.region ?_
            refine WL.op rfl rfl (op_assign rfl ?_)
            refine WL.nil ?_
            refine WQ.next ?_
            refine WC.ret ?_
            refine WQ.thenRet ?_
            refine WQ.out (.tmp rfl .nil) ?_
            exact ⟨by rw [sameY_no (fun h => hc7 h.2.2.2.2.1)]; rfl, H2.fr⟩
          ·
            have hc7 := of_decide_eq_false hb7
            refine WL.yes rfl rfl rfl hb7 rfl (op_fieldAddr rfl Fa.F26_5 ?_)
            refine WL.yes rfl rfl rfl hb7 rfl (op_load rfl (H2.cell (i := 0) rfl rfl) Tryd.underlying23 rfl ?_)
            refine WL.yes rfl rfl rfl hb7 rfl (op_lenA Tryd.underlying23 rfl ((SyD_rl (SyD.fr0 hI H2.fr))) ?_)
            refine WL.yes rfl rfl rfl hb7 rfl (op_fieldAddr rfl Fa.F26_5 ?_)
            refine WL.yes rfl rfl rfl hb7 rfl (op_load rfl (H2.cell (i := 1) rfl rfl) Tryd.underlying23 rfl ?_)
            refine WL.yes rfl rfl rfl hb7 rfl (op_lenA Tryd.underlying23 rfl ((SyD_rl (SyD.fr0 hJ H2.fr))) ?_)
            refine WL.yes rfl rfl rfl hb7 rfl (op_neqN rfl rfl ?_)
            refine WL.op rfl rfl (op_pickF rfl hb7 rfl ?_)
            refine WL.op rfl rfl (op_move rfl ?_)
            refine WL.split (t := 49) rfl (fun (hb8 : (decide (x.rl.length ≠ y.rl.length)) = true) => ?_) (fun (hb8 : (decide (x.rl.length ≠ y.rl.length)) = false) => ?_)
            ·
              have hc8 := of_decide_eq_true hb8
              refine WL.no rfl rfl rfl hb8 rfl ?_
              refine WL.no rfl rfl rfl hb8 rfl ?_
              refine WL.no rfl rfl rfl hb8 rfl ?_
              refine WL.no rfl rfl rfl hb8 rfl ?_
              refine WL.no rfl rfl rfl hb8 rfl ?_
              refine WL.no rfl rfl rfl hb8 rfl ?_
              refine WL.no rfl rfl rfl hb8 rfl ?_
              refine WL.op rfl rfl (op_pickT rfl hb8 rfl ?_)
              refine WL.nil ?_
              refine WQ.next ?_
              refine WC.yes rfl rfl ?_
              refine WC.seq ?_
              refine WC.region ?_
              refine WL.op rfl rfl (op_assign rfl ?_)
              refine WL.nil ?_
              refine WQ.next ?_
              refine WC.ret ?_
              refine WQ.thenRet ?_
              refine WQ.out (.tmp rfl .nil) ?_
              exact ⟨by rw [sameY_no (fun h => hc8 (by rw [h.2.2.2.2.2.1]))]; rfl, H2.fr⟩
            ·
              have hc8 := of_decide_eq_false hb8
              refine WL.yes rfl rfl rfl hb8 rfl (op_fieldAddr rfl Fa.F26_6 ?_)
              refine WL.yes rfl rfl rfl hb8 rfl (op_load rfl (H2.cell (i := 0) rfl rfl) Tryd.underlying24 rfl ?_)
              refine WL.yes rfl rfl rfl hb8 rfl (op_lenA Tryd.underlying24 rfl ((SyD_nt (SyD.fr0 hI H2.fr))) ?_)
              refine WL.yes rfl rfl rfl hb8 rfl (op_fieldAddr rfl Fa.F26_6 ?_)
              refine WL.yes rfl rfl rfl hb8 rfl (op_load rfl (H2.cell (i := 1) rfl rfl) Tryd.underlying24 rfl ?_)
              refine WL.yes rfl rfl rfl hb8 rfl (op_lenA Tryd.underlying24 rfl ((SyD_nt (SyD.fr0 hJ H2.fr))) ?_)
              refine WL.yes rfl rfl rfl hb8 rfl (op_neqN rfl rfl ?_)
              refine WL.op rfl rfl (op_pickF rfl hb8 rfl ?_)
              refine WL.nil ?_
              refine WQ.next ?_
              refine WC.cond rfl (fun (hb9 : (decide (x.nt.length ≠ y.nt.length)) = true) => ?_) (fun (hb9 : (decide (x.nt.length ≠ y.nt.length)) = false) => ?_)
              ·
                have hc9 := of_decide_eq_true hb9
                refine WC.seq ?_
                refine WC.region ?_
                refine WL.op rfl rfl (op_assign rfl ?_)
                refine WL.nil ?_
                refine WQ.next ?_
                refine WC.ret ?_
                refine WQ.thenRet ?_
                refine WQ.out (.tmp rfl .nil) ?_
                exact ⟨by rw [sameY_no (fun h => hc9 (by rw [h.2.2.2.2.2.2]))]; rfl, H2.fr⟩
              ·
                have hc9 := of_decide_eq_false hb9
                refine WC.skip ?_
                refine WQ.next ?_
                refine WC.seq ?_
                refine WC.seq ?_
                refine WC.region ?_
                refine WL.op rfl rfl (op_assign rfl ?_)
                refine WL.nil ?_
                refine WQ.next ?_
                refine WC.block ?_
                refine WC.loop (α := Nat) (fun k => [(2, (ptr b1 0)), (3, (ptr b2 0)), (4, (.bool false)), (5, (vN k))]) (fun k w' => (k ≤ x.rl.length ∧ (∀ j, j < k → x.rl.getD j Rl.zero = y.rl.getD j Rl.zero)) ∧ Own [] w w' [.blk b1 [(str x.nm), (vU8 x.bind), (vU8 x.kind), (vU32 x.size), (str x.b), x.rv, x.nv] 26, .blk b2 [(str y.nm), (vU8 y.bind), (vU8 y.kind), (vU32 y.size), (str y.b), y.rv, y.nv] 26]) (fun k => x.rl.length - k) 0 ⟨⟨Nat.zero_le _, fun j h => by omega⟩, H2⟩ ⟨rfl, rfl, rfl, rfl, trivial⟩ ?_
                rintro k w10 ⟨⟨hk1, hok⟩, H10⟩
                show WC _ _ _ _ _ [(2, (ptr b1 0)), (3, (ptr b2 0)), (4, (.bool false)), (5, (vN k))] _
                refine WC.seq ?_
                refine WC.seq ?_
                refine WC.region ?_
                refine WL.op rfl rfl (op_move rfl ?_)
                refine WL.op rfl rfl (op_fieldAddr rfl Fa.F26_5 ?_)
                refine WL.op rfl rfl (op_load rfl (H10.cell (i := 0) rfl rfl) Tryd.underlying23 rfl ?_)
                refine WL.op rfl rfl (op_lenA Tryd.underlying23 rfl ((SyD_rl (SyD.fr0 hI H10.fr))) ?_)
                refine WL.op rfl rfl (op_lssN rfl rfl ?_)
                refine WL.nil ?_
                refine WQ.next ?_
                refine WC.cond rfl (fun (hb11 : (decide (k < x.rl.length)) = true) => ?_) (fun (hb11 : (decide (k < x.rl.length)) = false) => ?_)
                ·
                  have hc11 := of_decide_eq_true hb11
                  refine WC.skip ?_
                  refine WQ.next ?_
                  refine WC.seq ?_
                  refine WC.block ?_
                  refine WC.seq ?_
                  refine WC.draw 11 Fa.M H10 (HW.op rfl (fun w1 H1 => op_fieldAddr rfl Fa.F26_5 ⟨rfl, Fr.refl _ _⟩) (HW.op rfl (fun w1 H1 => op_load rfl (H1.cell (i := 0) rfl rfl) Tryd.underlying23 rfl ⟨rfl, Fr.refl _ _⟩) (HW.op rfl (fun w1 H1 => op_move rfl ⟨rfl, Fr.refl _ _⟩) (HW.op rfl (fun w1 H1 => op_indexAddr Tryd.underlying23 Fa.I44 rfl ((SyD_rl (SyD.fr0 hI H1.fr))) rfl (by omega) ⟨rfl, Fr.refl _ _⟩) (HW.op rfl (fun w1 H1 => op_loadSP (vs := rlc (x.rl.getD k Rl.zero)) rfl (Arr.atsF ((SyD_rl (SyD.fr0 hI H1.fr))) (fun _ => rfl) (by decide) Rl.zero (by omega)) Tryd.underlying44 rfl Fa.I44 rfl ⟨rfl, Fr.refl _ _⟩) (HW.op rfl (fun w1 H1 => op_fieldAddr rfl Fa.F26_5 ⟨rfl, Fr.refl _ _⟩) (HW.op rfl (fun w1 H1 => op_load rfl (H1.cell (i := 1) rfl rfl) Tryd.underlying23 rfl ⟨rfl, Fr.refl _ _⟩) (HW.op rfl (fun w1 H1 => op_move rfl ⟨rfl, Fr.refl _ _⟩) (HW.op rfl (fun w1 H1 => op_indexAddr Tryd.underlying23 Fa.I44 rfl ((SyD_rl (SyD.fr0 hJ H1.fr))) rfl (by omega) ⟨rfl, Fr.refl _ _⟩) (HW.op rfl (fun w1 H1 => op_loadSP (vs := rlc (y.rl.getD k Rl.zero)) rfl (Arr.atsF ((SyD_rl (SyD.fr0 hJ H1.fr))) (fun _ => rfl) (by decide) Rl.zero (by omega)) Tryd.underlying44 rfl Fa.I44 rfl ⟨rfl, Fr.refl _ _⟩) (HW.op rfl (fun w1 H1 => op_neqS (xs := [_, _, _, _]) (ys := [_, _, _, _]) (b := (!((decide ((x.rl.getD k Rl.zero).off = (y.rl.getD k Rl.zero).off)) && ((decide ((x.rl.getD k Rl.zero).kind = (y.rl.getD k Rl.zero).kind)) && ((decide ((x.rl.getD k Rl.zero).nm = (y.rl.getD k Rl.zero).nm)) && (decide ((x.rl.getD k Rl.zero).add = (y.rl.getD k Rl.zero).add))))))) Fa.FL44 rfl rfl rfl (by simp [eqAll, veqStr, veqU32, veqU8]) ⟨rfl, Fr.refl _ _⟩)  HW.nil))))))))))) (by kernel_rfl) ?_
                  intro β12 w12 H12
                  refine WL.nil ?_
                  refine WQ.next ?_
                  refine WC.cond rfl (fun (hb13 : (!((decide ((x.rl.getD k Rl.zero).off = (y.rl.getD k Rl.zero).off)) && ((decide ((x.rl.getD k Rl.zero).kind = (y.rl.getD k Rl.zero).kind)) && ((decide ((x.rl.getD k Rl.zero).nm = (y.rl.getD k Rl.zero).nm)) && (decide ((x.rl.getD k Rl.zero).add = (y.rl.getD k Rl.zero).add)))))) = true) => ?_) (fun (hb13 : (!((decide ((x.rl.getD k Rl.zero).off = (y.rl.getD k Rl.zero).off)) && ((decide ((x.rl.getD k Rl.zero).kind = (y.rl.getD k Rl.zero).kind)) && ((decide ((x.rl.getD k Rl.zero).nm = (y.rl.getD k Rl.zero).nm)) && (decide ((x.rl.getD k Rl.zero).add = (y.rl.getD k Rl.zero).add)))))) = false) => ?_)
                  ·
                    have hn13 := (Bool.not_eq_true' _).mp hb13
                    refine WC.seq ?_
                    refine WC.region ?_
                    refine WL.op rfl rfl (op_assign rfl ?_)
                    refine WL.nil ?_
                    refine WQ.next ?_
                    refine WC.ret ?_
                    refine WQ.inRet ?_
                    refine WQ.thenRet ?_
                    refine WQ.thenRet ?_
                    refine WQ.inRet ?_
                    refine WQ.thenRet ?_
                    refine WQ.out (.tmp rfl .nil) ?_
                    exact ⟨by rw [sameY_no (fun h => of_decide_eq_false ((rl_eq _ _).symm.trans hn13) (by rw [h.2.2.2.2.2.1]))]; rfl, H12.fr⟩
                  ·
                    have hn13 := (Bool.not_eq_false' _).mp hb13
                    refine WC.skip ?_
                    refine WQ.inNormal ?_
                    refine WQ.next ?_
                    refine WC.region ?_
                    refine WL.op rfl rfl (op_move rfl ?_)
                    refine WL.op rfl rfl (op_addN (b := 1) rfl rfl (by omega) ?_)
                    refine WL.op rfl rfl (op_assign rfl ?_)
                    refine WL.nil ?_
                    exact WQ.round (k + 1) ⟨⟨by omega, allPrev hok (of_decide_eq_true ((rl_eq _ _).symm.trans hn13))⟩, H12⟩ ⟨rfl, rfl, rfl, rfl, trivial⟩ (by omega)
                ·
                  have hc11 := of_decide_eq_false hb11
                  refine WC.exit ?_
                  refine WQ.thenExit ?_
                  refine WQ.thenExit ?_
                  refine WQ.inHere ?_
                  refine WQ.next ?_
                  refine WC.seq ?_
                  refine WC.seq ?_
                  refine WC.region ?_
                  refine WL.op rfl rfl (op_assign rfl ?_)
                  refine WL.nil ?_
                  refine WQ.next ?_
                  refine WC.block ?_
                  refine WC.loop (α := Nat) (fun i => [(2, (ptr b1 0)), (3, (ptr b2 0)), (4, (.bool false)), (6, (vN i))]) (fun i w' => (i ≤ x.nt.length ∧ (∀ j, j < i → x.nt.getD j Nt.zero = y.nt.getD j Nt.zero)) ∧ Own [] w w' [.blk b1 [(str x.nm), (vU8 x.bind), (vU8 x.kind), (vU32 x.size), (str x.b), x.rv, x.nv] 26, .blk b2 [(str y.nm), (vU8 y.bind), (vU8 y.kind), (vU32 y.size), (str y.b), y.rv, y.nv] 26]) (fun i => x.nt.length - i) 0 ⟨⟨Nat.zero_le _, fun j h => by omega⟩, H10⟩ ⟨rfl, rfl, rfl, rfl, trivial⟩ ?_
                  rintro i w14 ⟨⟨hi1, hoi⟩, H14⟩
                  show WC _ _ _ _ _ [(2, (ptr b1 0)), (3, (ptr b2 0)), (4, (.bool false)), (6, (vN i))] _
                  refine WC.seq ?_
                  refine WC.seq ?_
                  refine WC.region ?_
                  refine WL.op rfl rfl (op_move rfl ?_)
                  refine WL.op rfl rfl (op_fieldAddr rfl Fa.F26_6 ?_)
                  refine WL.op rfl rfl (op_load rfl (H14.cell (i := 0) rfl rfl) Tryd.underlying24 rfl ?_)
                  refine WL.op rfl rfl (op_lenA Tryd.underlying24 rfl ((SyD_nt (SyD.fr0 hI H14.fr))) ?_)
                  refine WL.op rfl rfl (op_lssN rfl rfl ?_)
                  refine WL.nil ?_
                  refine WQ.next ?_
                  refine WC.cond rfl (fun (hb15 : (decide (i < x.nt.length)) = true) => ?_) (fun (hb15 : (decide (i < x.nt.length)) = false) => ?_)
                  ·
                    have hc15 := of_decide_eq_true hb15
                    refine WC.skip ?_
                    refine WQ.next ?_
                    refine WC.seq ?_
                    refine WC.block ?_
                    refine WC.seq ?_
                    refine WC.draw 11 Fa.M H14 (HW.op rfl (fun w1 H1 => op_fieldAddr rfl Fa.F26_6 ⟨rfl, Fr.refl _ _⟩) (HW.op rfl (fun w1 H1 => op_load rfl (H1.cell (i := 0) rfl rfl) Tryd.underlying24 rfl ⟨rfl, Fr.refl _ _⟩) (HW.op rfl (fun w1 H1 => op_move rfl ⟨rfl, Fr.refl _ _⟩) (HW.op rfl (fun w1 H1 => op_indexAddr Tryd.underlying24 Fa.I68 rfl ((SyD_nt (SyD.fr0 hI H1.fr))) rfl (by omega) ⟨rfl, Fr.refl _ _⟩) (HW.op rfl (fun w1 H1 => op_loadSP (vs := ntc (x.nt.getD i Nt.zero)) rfl (Arr.atsF ((SyD_nt (SyD.fr0 hI H1.fr))) (fun _ => rfl) (by decide) Nt.zero (by omega)) Tryd.underlying68 rfl Fa.I68 rfl ⟨rfl, Fr.refl _ _⟩) (HW.op rfl (fun w1 H1 => op_fieldAddr rfl Fa.F26_6 ⟨rfl, Fr.refl _ _⟩) (HW.op rfl (fun w1 H1 => op_load rfl (H1.cell (i := 1) rfl rfl) Tryd.underlying24 rfl ⟨rfl, Fr.refl _ _⟩) (HW.op rfl (fun w1 H1 => op_move rfl ⟨rfl, Fr.refl _ _⟩) (HW.op rfl (fun w1 H1 => op_indexAddr Tryd.underlying24 Fa.I68 rfl ((SyD_nt (SyD.fr0 hJ H1.fr))) rfl (by omega) ⟨rfl, Fr.refl _ _⟩) (HW.op rfl (fun w1 H1 => op_loadSP (vs := ntc (y.nt.getD i Nt.zero)) rfl (Arr.atsF ((SyD_nt (SyD.fr0 hJ H1.fr))) (fun _ => rfl) (by decide) Nt.zero (by omega)) Tryd.underlying68 rfl Fa.I68 rfl ⟨rfl, Fr.refl _ _⟩) (HW.op rfl (fun w1 H1 => op_neqS (xs := [_, _, _]) (ys := [_, _, _]) (b := (!((decide ((x.nt.getD i Nt.zero).kind = (y.nt.getD i Nt.zero).kind)) && ((decide ((x.nt.getD i Nt.zero).n = (y.nt.getD i Nt.zero).n)) && (decide ((x.nt.getD i Nt.zero).m = (y.nt.getD i Nt.zero).m)))))) Fa.FL68 rfl rfl rfl (by simp [eqAll, veqU32, veqU8]) ⟨rfl, Fr.refl _ _⟩)  HW.nil))))))))))) (by kernel_rfl) ?_
                    intro β16 w16 H16
                    refine WL.nil ?_
                    refine WQ.next ?_
                    refine WC.cond rfl (fun (hb17 : (!((decide ((x.nt.getD i Nt.zero).kind = (y.nt.getD i Nt.zero).kind)) && ((decide ((x.nt.getD i Nt.zero).n = (y.nt.getD i Nt.zero).n)) && (decide ((x.nt.getD i Nt.zero).m = (y.nt.getD i Nt.zero).m))))) = true) => ?_) (fun (hb17 : (!((decide ((x.nt.getD i Nt.zero).kind = (y.nt.getD i Nt.zero).kind)) && ((decide ((x.nt.getD i Nt.zero).n = (y.nt.getD i Nt.zero).n)) && (decide ((x.nt.getD i Nt.zero).m = (y.nt.getD i Nt.zero).m))))) = false) => ?_)
                    ·
                      have hn17 := (Bool.not_eq_true' _).mp hb17
                      refine WC.seq ?_
                      refine WC.region ?_
                      refine WL.op rfl rfl (op_assign rfl ?_)
                      refine WL.nil ?_
                      refine WQ.next ?_
                      refine WC.ret ?_
                      refine WQ.inRet ?_
                      refine WQ.thenRet ?_
                      refine WQ.thenRet ?_
                      refine WQ.inRet ?_
                      refine WQ.thenRet ?_
                      refine WQ.out (.tmp rfl .nil) ?_
                      exact ⟨by rw [sameY_no (fun h => of_decide_eq_false ((nt_eq _ _).symm.trans hn17) (by rw [h.2.2.2.2.2.2]))]; rfl, H16.fr⟩
                    ·
                      have hn17 := (Bool.not_eq_false' _).mp hb17
                      refine WC.skip ?_
                      refine WQ.inNormal ?_
                      refine WQ.next ?_
                      refine WC.region ?_
                      refine WL.op rfl rfl (op_move rfl ?_)
                      refine WL.op rfl rfl (op_addN (b := 1) rfl rfl (by omega) ?_)
                      refine WL.op rfl rfl (op_assign rfl ?_)
                      refine WL.nil ?_
                      exact WQ.round (i + 1) ⟨⟨by omega, allPrev hoi (of_decide_eq_true ((nt_eq _ _).symm.trans hn17))⟩, H16⟩ ⟨rfl, rfl, rfl, rfl, trivial⟩ (by omega)
                  ·
                    have hc15 := of_decide_eq_false hb15
                    refine WC.exit ?_
                    refine WQ.thenExit ?_
                    refine WQ.thenExit ?_
                    refine WQ.inHere ?_
                    refine WQ.next ?_
                    refine WC.seq ?_
                    refine WC.region ?_
                    refine WL.op rfl rfl (op_assign rfl ?_)
                    refine WL.nil ?_
                    refine WQ.next ?_
                    refine WC.ret ?_
                    refine WQ.out (.tmp rfl .nil) ?_
                    exact ⟨by rw [sameY_iff.2 ⟨Decidable.not_not.mp (of_decide_eq_false hb3), Decidable.not_not.mp (of_decide_eq_false hb4), Decidable.not_not.mp (of_decide_eq_false hb5), Decidable.not_not.mp (of_decide_eq_false hb6), Decidable.not_not.mp (of_decide_eq_false hb7), ext_getD (by omega) (fun j hj => hok j (by omega)), ext_getD (by omega) (fun j hj => hoi j (by omega))⟩]; rfl, H14.fr⟩
set_option maxRecDepth 100000 in
theorem copy08_ok (nm : List UInt8) (lv : Value) (l : List Sy) (w : World) (hA : Arr w lv 7 l.length (List.flatMap syc l)) (hI : SyD.list.ok w l) (hn : l.length < 2 ^ 40) (hr : ∀ k, (l.getD k Sy.zero).rl.length < 2 ^ 40 ∧ (l.getD k Sy.zero).nt.length < 2 ^ 40) :
    Calls Tryd.prog 13 #[(.agg #[(str nm), lv])] w (fun e w' => ∃ v l', e = .returned (.agg #[str nm, v]) ∧ l'.map Sy.bare = l.map Sy.bare ∧ (∀ b ∈ SyD.list.ft l', w.heap.size ≤ b) ∧ Own [] w w' [.row v 26 7 l'.length (List.flatMap syc l'), Ent.dp SyD.list l']) := by
  refine enter (args := [(.agg #[(str nm), lv])]) Tryd.func13 rfl rfl ?_
  have H0 : Own [] w w [] := Own.start w []
  refine WC.seq ?_
  refine WC.region ?_
  refine WL.op rfl rfl (op_box H0 rfl rfl (fun b1 w1 H1 => ?_))
  refine WL.op rfl rfl (op_alloc H1 Fa.I32 (fun b2 w2 H2 => ?_))
  refine WL.nil ?_
  refine WQ.next ?_
  refine WC.seq ?_
  refine WC.region ?_
  refine WL.op rfl rfl (op_assign rfl ?_)
  have H3 := H2.nilRow 26 7
  refine WL.nil ?_
  refine WQ.next ?_
  refine WC.seq ?_
  refine WC.seq ?_
  refine WC.region ?_
  have H4 : Own [] w w2 [.blk b1 [(str nm), lv] 32, .blk b2 [(str []), (.slice none 0 0)] 32, .row (.slice none 0 0) 26 7 0 (List.flatMap syc []), Ent.dp SyD.list []] := (show Own [] w w2 [.blk b1 [(str nm), lv] 32, .blk b2 [(str []), (.slice none 0 0)] 32, .row (.slice none 0 0) 26 7 0 (List.flatMap syc [])] from H3).dpNil SyD
  refine WL.op rfl rfl (op_assign rfl ?_)
  refine WL.nil ?_
  refine WQ.next ?_
  refine WC.block ?_
  refine WC.loop (α := Nat × Value × List Sy) (fun (k, v, m) => [(1, (ptr b1 0)), (2, (ptr b2 0)), (3, v), (4, (vN k))]) (fun (k, v, m) w' => (k ≤ l.length ∧ m.length = k ∧ m.map Sy.bare = (l.take k).map Sy.bare ∧ ∀ b ∈ SyD.list.ft m, w.heap.size ≤ b) ∧ Own [] w w' [.blk b1 [(str nm), lv] 32, .blk b2 [(str []), (.slice none 0 0)] 32, .row v 26 7 k (List.flatMap syc m), Ent.dp SyD.list m]) (fun (k, v, m) => l.length - k) (0, (.slice none 0 0), []) ⟨⟨Nat.zero_le _, rfl, rfl, fun b hb => by cases hb⟩, H4⟩ ⟨rfl, rfl, rfl, rfl, trivial⟩ ?_
  rintro ⟨k, v, m⟩ w5 ⟨⟨hk1, hml, hmb, hmf⟩, H5⟩
  show WC _ _ _ _ _ [(1, (ptr b1 0)), (2, (ptr b2 0)), (3, v), (4, (vN k))] _
  have hfk := hr k
  refine WC.seq ?_
  refine WC.seq ?_
  refine WC.region ?_
  refine WL.op rfl rfl (op_move rfl ?_)
  refine WL.op rfl rfl (op_fieldAddr rfl Fa.F32_1 ?_)
  refine WL.op rfl rfl (op_load rfl (H5.cell (i := 0) rfl rfl) Tryd.underlying30 rfl ?_)
  refine WL.op rfl rfl (op_lenA Tryd.underlying30 rfl (H5.arr hA) ?_)
  refine WL.op rfl rfl (op_lssN rfl rfl ?_)
  refine WL.nil ?_
  refine WQ.next ?_
  refine WC.cond rfl (fun (hb6 : (decide (k < l.length)) = true) => ?_) (fun (hb6 : (decide (k < l.length)) = false) => ?_)
  ·
    have hc6 := of_decide_eq_true hb6
    refine WC.skip ?_
    refine WQ.next ?_
    refine WC.seq ?_
    refine WC.block ?_
    refine WC.seq ?_
    refine WC.region ?_
    refine WL.op rfl rfl (op_fieldAddr rfl Fa.F32_1 ?_)
    refine WL.op rfl rfl (op_load rfl (H5.cell (i := 0) rfl rfl) Tryd.underlying30 rfl ?_)
    refine WL.op rfl rfl (op_move rfl ?_)
    refine WL.op rfl rfl (op_indexAddr Tryd.underlying30 Fa.I26 rfl (H5.arr hA) rfl (by omega) ?_)
    refine WL.op rfl rfl (op_loadSP (vs := syc (l.getD k Sy.zero)) rfl (Arr.atsF (H5.arr hA) (fun _ => rfl) (by decide) Sy.zero (by omega)) Tryd.underlying26 rfl Fa.I26 rfl ?_)
    refine WL.op rfl rfl (op_alloc H5 Fa.I26 (fun b7 w7 H7 => ?_))
    refine WL.op rfl rfl (op_storeBW (i := 4) H7 rfl rfl rfl rfl (one_cons rfl (one_cons rfl (one_cons rfl (one_cons rfl (one_cons rfl (one_cons (Arr.one ((SyD_rl (Deep.getD SyD (Deep.fr0 SyD.list hI H7.fr) Sy.zero (SyD_zero _) k)))) (one_cons (Arr.one ((SyD_nt (Deep.getD SyD (Deep.fr0 SyD.list hI H7.fr) Sy.zero (SyD_zero _) k)))) one_nil))))))) Fa.I26 (fun w8 H8 => ?_))
    refine WL.nil ?_
    refine WQ.next ?_
    refine WC.seq ?_
    refine WC.region ?_
    refine WL.op rfl rfl (op_fieldAddr rfl Fa.F26_5 ?_)
    refine WL.op rfl rfl (op_load rfl (H8.cell (i := 4) rfl rfl) Tryd.underlying23 rfl ?_)
    have H10 := H8.nilRow 44 4
    refine WL.op rfl rfl (op_appendF (f := rlc) (l := []) (l' := (l.getD k Sy.zero).rl) (i := 5) H10 Tryd.underlying23 Fa.I44 rfl rfl rfl rfl (Src.ofArr Tryd.underlying23 ((SyD_rl (Deep.getD SyD (Deep.fr0 SyD.list hI H10.fr) Sy.zero (SyD_zero _) k)))) (one_flat (fun _ => by simp [rlc, Value.oneCell'])) (by omega) (by omega) (fun v9 w9 H9 => ?_))
    refine WL.op rfl rfl (op_fieldAddr rfl Fa.F26_5 ?_)
    refine WL.op rfl rfl (op_storeB (i := 4) H9 rfl rfl rfl rfl (Arr.one (H9.arrR (i := 5) rfl)) Fa.I23 (fun w11 H11 => ?_))
    refine WL.nil ?_
    refine WQ.next ?_
    refine WC.seq ?_
    refine WC.region ?_
    refine WL.op rfl rfl (op_fieldAddr rfl Fa.F26_6 ?_)
    refine WL.op rfl rfl (op_load rfl (H11.cell (i := 4) rfl rfl) Tryd.underlying24 rfl ?_)
    have H13 := H11.nilRow 68 3
    refine WL.op rfl rfl (op_appendF (f := ntc) (l := []) (l' := (l.getD k Sy.zero).nt) (i := 6) H13 Tryd.underlying24 Fa.I68 rfl rfl rfl rfl (Src.ofArr Tryd.underlying24 ((SyD_nt (Deep.getD SyD (Deep.fr0 SyD.list hI H13.fr) Sy.zero (SyD_zero _) k)))) (one_flat (fun _ => by simp [ntc, Value.oneCell'])) (by omega) (by omega) (fun v12 w12 H12 => ?_))
    refine WL.op rfl rfl (op_fieldAddr rfl Fa.F26_6 ?_)
    refine WL.op rfl rfl (op_storeB (i := 4) H12 rfl rfl rfl rfl (Arr.one (H12.arrR (i := 6) rfl)) Fa.I24 (fun w14 H14 => ?_))
    refine WL.nil ?_
    refine WQ.next ?_
    refine WC.region ?_
    refine WL.op rfl rfl (op_move rfl ?_)
    refine WL.op rfl rfl (op_loadS (vs := [_, _, _, _, _, _, _]) rfl (H14.cells (i := 4) rfl rfl) Tryd.underlying26 rfl Fa.I26 rfl ?_)
    refine WL.op rfl rfl (op_buildSlice (cs := [_, _, _, _, _, _, _]) H14 Tryd.underlying30 Fa.I26 rfl rfl rfl rfl (by decide) (by decide) (fun b15 w15 H15 => ?_))
    refine WL.op rfl rfl (op_appendF (f := syc) (l := m) (l' := [(Sy.mk ((l.getD k Sy.zero).nm) ((l.getD k Sy.zero).bind) ((l.getD k Sy.zero).kind) ((l.getD k Sy.zero).size) ((l.getD k Sy.zero).b) v9 ([] ++ (l.getD k Sy.zero).rl) v12 ([] ++ (l.getD k Sy.zero).nt))]) (i := 2) H15 Tryd.underlying30 Fa.I26 rfl rfl rfl rfl (Src.ofArr Tryd.underlying30 (H15.arrR (i := 7) rfl)) (sy_one (Arr.one (H15.arrR (i := 5) rfl)) (Arr.one (H15.arrR (i := 6) rfl))) (by omega) (by omega) (fun v16 w16 H16 => ?_))
    refine WL.op rfl rfl (op_assign rfl ?_)
    refine WL.nil ?_
    refine WQ.inNormal ?_
    refine WQ.next ?_
    refine WC.region ?_
    refine WL.op rfl rfl (op_move rfl ?_)
    refine WL.op rfl rfl (op_addN (b := 1) rfl rfl (by omega) ?_)
    refine WL.op rfl rfl (op_assign rfl ?_)
    refine WL.nil ?_
    have hfa := Own.rowFresh (i := 5) H16 rfl
    have hfb := Own.rowFresh (i := 6) H16 rfl
    have Hx1 : Own [] w w16 [.blk b1 [(str nm), lv] 32, .blk b2 [(str []), (.slice none 0 0)] 32, .row v16 26 7 (k + 1) (List.flatMap syc (m ++ [(Sy.mk ((l.getD k Sy.zero).nm) ((l.getD k Sy.zero).bind) ((l.getD k Sy.zero).kind) ((l.getD k Sy.zero).size) ((l.getD k Sy.zero).b) v9 ([] ++ (l.getD k Sy.zero).rl) v12 ([] ++ (l.getD k Sy.zero).nt))])), Ent.dp SyD.list m, .blk b7 [(str (l.getD k Sy.zero).nm), (vU8 (l.getD k Sy.zero).bind), (vU8 (l.getD k Sy.zero).kind), (vU32 (l.getD k Sy.zero).size), (str (l.getD k Sy.zero).b), v9, v12] 26, Ent.ar v9 4 (0 + (l.getD k Sy.zero).rl.length) (List.flatMap rlc ([] ++ (l.getD k Sy.zero).rl)), .row v12 68 3 (0 + (l.getD k Sy.zero).nt.length) (List.flatMap ntc ([] ++ (l.getD k Sy.zero).nt)), .row (.slice (some ⟨b15, 0, none⟩) 1 1) 26 7 1 (List.flatMap syc [(Sy.mk ((l.getD k Sy.zero).nm) ((l.getD k Sy.zero).bind) ((l.getD k Sy.zero).kind) ((l.getD k Sy.zero).size) ((l.getD k Sy.zero).b) v9 ([] ++ (l.getD k Sy.zero).rl) v12 ([] ++ (l.getD k Sy.zero).nt))])] := H16.freeze (i := 5) rfl
    have Hx2 : Own [] w w16 [.blk b1 [(str nm), lv] 32, .blk b2 [(str []), (.slice none 0 0)] 32, .row v16 26 7 (k + 1) (List.flatMap syc (m ++ [(Sy.mk ((l.getD k Sy.zero).nm) ((l.getD k Sy.zero).bind) ((l.getD k Sy.zero).kind) ((l.getD k Sy.zero).size) ((l.getD k Sy.zero).b) v9 ([] ++ (l.getD k Sy.zero).rl) v12 ([] ++ (l.getD k Sy.zero).nt))])), Ent.dp SyD.list m, .blk b7 [(str (l.getD k Sy.zero).nm), (vU8 (l.getD k Sy.zero).bind), (vU8 (l.getD k Sy.zero).kind), (vU32 (l.getD k Sy.zero).size), (str (l.getD k Sy.zero).b), v9, v12] 26, Ent.ar v9 4 (0 + (l.getD k Sy.zero).rl.length) (List.flatMap rlc ([] ++ (l.getD k Sy.zero).rl)), Ent.ar v12 3 (0 + (l.getD k Sy.zero).nt.length) (List.flatMap ntc ([] ++ (l.getD k Sy.zero).nt)), .row (.slice (some ⟨b15, 0, none⟩) 1 1) 26 7 1 (List.flatMap syc [(Sy.mk ((l.getD k Sy.zero).nm) ((l.getD k Sy.zero).bind) ((l.getD k Sy.zero).kind) ((l.getD k Sy.zero).size) ((l.getD k Sy.zero).b) v9 ([] ++ (l.getD k Sy.zero).rl) v12 ([] ++ (l.getD k Sy.zero).nt))])] := Hx1.freeze (i := 6) rfl
    have Hx3 := own_sy (a := 5) (b := 6) (Sy.mk ((l.getD k Sy.zero).nm) ((l.getD k Sy.zero).bind) ((l.getD k Sy.zero).kind) ((l.getD k Sy.zero).size) ((l.getD k Sy.zero).b) v9 ([] ++ (l.getD k Sy.zero).rl) v12 ([] ++ (l.getD k Sy.zero).nt)) Hx2 rfl rfl
    have Hx4 := Own.dpSnoc (i := 3) (j := 8) Hx3 rfl rfl
    exact WQ.round (k + 1, v16, m ++ [(Sy.mk ((l.getD k Sy.zero).nm) ((l.getD k Sy.zero).bind) ((l.getD k Sy.zero).kind) ((l.getD k Sy.zero).size) ((l.getD k Sy.zero).b) v9 ([] ++ (l.getD k Sy.zero).rl) v12 ([] ++ (l.getD k Sy.zero).nt))]) ⟨⟨by omega, by rw [List.length_append, hml]; rfl, bare_snoc (by omega) hmb rfl, sy_fresh hmf hfa hfb⟩, (Hx4.sel [0, 1, 2, 9] rfl rfl)⟩ ⟨rfl, rfl, rfl, rfl, trivial⟩ (by show l.length - (k + 1) < l.length - k; omega)
  ·
    have hc6 := of_decide_eq_false hb6
    refine WC.exit ?_
    refine WQ.thenExit ?_
    refine WQ.thenExit ?_
    refine WQ.inHere ?_
    refine WQ.next ?_
    refine WC.seq ?_
    refine WC.region ?_
    refine WL.op rfl rfl (op_move rfl ?_)
    refine WL.op rfl rfl (op_fieldAddr rfl Fa.F32_1 ?_)
    refine WL.op rfl rfl (op_storeB (i := 0) H5 rfl rfl rfl rfl (Arr.one (H5.arrR (i := 2) rfl)) Fa.I30 (fun w17 H17 => ?_))
    refine WL.nil ?_
    refine WQ.next ?_
    refine WC.seq ?_
    refine WC.region ?_
    refine WL.op rfl rfl (op_loadS (vs := [_, _]) rfl (H17.cells (i := 0) rfl rfl) Tryd.underlying32 rfl Fa.I32 rfl ?_)
    refine WL.op rfl rfl (op_storeBW (i := 1) H17 rfl rfl rfl rfl (one_cons rfl (one_cons (Arr.one (H17.arrR (i := 2) rfl)) one_nil)) Fa.I32 (fun w18 H18 => ?_))
    refine WL.nil ?_
    refine WQ.next ?_
    refine WC.ret ?_
    refine WQ.out (.cell rfl (run_loadVarS (vs := [_, _]) (H18.cells (i := 1) rfl rfl) Tryd.underlying32 rfl Fa.I32 rfl) .nil) ?_
    subst hml
    exact ⟨v, m, rfl, by rw [hmb, show m.length = l.length by omega, List.take_length], hmf, H18.sel [2, 3] rfl rfl⟩
set_option maxRecDepth 100000 in
theorem lg08_ok (lv : Value) (l : List Ob) (w : World) (hA : Arr w lv 2 l.length (List.flatMap obc l)) (hI : ObD.list.ok w l) (hF : ∀ x ∈ l, FitO x) (hn : l.length ≤ 1) :
    Calls Tryd.prog 29 #[lv] w (fun e w' => e = .returned (.bool (lg08 l)) ∧ Fr [] w w') := by
  refine enter (args := [lv]) Tryd.func29 rfl rfl ?_
  have H0 : Own [] w w [] := Own.start w []
  refine WC.seq ?_
  refine WC.region ?_
  refine WL.op rfl rfl (op_assign rfl ?_)
  refine WL.nil ?_
  refine WQ.next ?_
  refine WC.seq ?_
  refine WC.region ?_
  refine WL.op rfl rfl (op_assign rfl ?_)
  refine WL.nil ?_
  refine WQ.next ?_
  refine WC.seq ?_
  refine WC.seq ?_
  refine WC.region ?_
  refine WL.op rfl rfl (op_assign rfl ?_)
  refine WL.nil ?_
  refine WQ.next ?_
  refine WC.block ?_
  refine WC.loop (α := Nat) (fun i => [(0, lv), (2, (.bool false)), (3, (vN (obSum l i))), (4, (vN i))]) (fun i w' => (i ≤ l.length ∧ i ≤ 40) ∧ Own [] w w' []) (fun i => l.length - i) 0 ⟨⟨Nat.zero_le _, by omega⟩, H0⟩ ⟨rfl, rfl, rfl, rfl, trivial⟩ ?_
  rintro i w1 ⟨⟨hi1, hi4⟩, H1⟩
  show WC _ _ _ _ _ [(0, lv), (2, (.bool false)), (3, (vN (obSum l i))), (4, (vN i))] _
  have hso := obSum_le hF i hi4
  have hfo := fitO_getD hF i
  have hfo1 := hfo.1
  refine WC.seq ?_
  refine WC.seq ?_
  refine WC.region ?_
  refine WL.op rfl rfl (op_move rfl ?_)
  refine WL.op rfl rfl (op_move rfl ?_)
  refine WL.op rfl rfl (op_lenA Tryd.underlying78 rfl (H1.arr hA) ?_)
  refine WL.op rfl rfl (op_lssN rfl rfl ?_)
  refine WL.op rfl rfl (op_move rfl ?_)
  refine WL.split (t := 12) rfl (fun (hb2 : (decide (i < l.length)) = true) => ?_) (fun (hb2 : (decide (i < l.length)) = false) => ?_)
  ·
    have hc2 := of_decide_eq_true hb2
    refine WL.yes rfl rfl rfl hb2 rfl (op_move rfl ?_)
    refine WL.yes rfl rfl rfl hb2 rfl (op_lssN (b := 40) rfl rfl ?_)
    refine WL.op rfl rfl (op_pickT rfl hb2 rfl ?_)
    refine WL.nil ?_
    refine WQ.next ?_
    refine WC.cond rfl (fun (hb3 : (decide (i < 40)) = true) => ?_) (fun (hb3 : (decide (i < 40)) = false) => ?_)
    ·
      have hc3 := of_decide_eq_true hb3
      refine WC.skip ?_
      refine WQ.next ?_
      refine WC.seq ?_
      refine WC.block ?_
      refine WC.seq ?_
      refine WC.region ?_
      refine WL.op rfl rfl (op_move rfl ?_)
      refine WL.op rfl rfl (op_move rfl ?_)
      refine WL.op rfl rfl (op_move rfl ?_)
      refine WL.op rfl rfl (op_indexAddr Tryd.underlying78 Fa.I32 rfl (H1.arr hA) rfl (by omega) ?_)
      refine WL.op rfl rfl (op_fieldAddrS rfl Fa.F32_1 ?_)
      refine WL.op rfl rfl (op_load rfl (Arr.atF (k := 1) (H1.arr hA) (fun _ => rfl) (by decide) Ob.zero (by omega) rfl) Tryd.underlying30 rfl ?_)
      refine WL.op rfl rfl (op_lenA Tryd.underlying30 rfl ((ObD_sy (Deep.getD ObD (Deep.fr0 ObD.list hI H1.fr) Ob.zero (ObD_zero _) i))) ?_)
      refine WL.op rfl rfl (op_addN rfl rfl (by omega) ?_)
      refine WL.op rfl rfl (op_assign rfl ?_)
      refine WL.nil ?_
      refine WQ.next ?_
      refine WC.seq ?_
      refine WC.region ?_
      refine WL.op rfl rfl (op_assign rfl ?_)
      refine WL.nil ?_
      refine WQ.next ?_
      refine WC.block ?_
      refine WC.loop (α := Nat) (fun k => [(0, lv), (2, (.bool false)), (3, (vN (obSum l i + (l.getD i Ob.zero).sy.length + sySum (l.getD i Ob.zero).sy k))), (4, (vN i)), (5, (vN k))]) (fun k w' => (k ≤ (l.getD i Ob.zero).sy.length ∧ k ≤ 200) ∧ Own [] w w' []) (fun k => (l.getD i Ob.zero).sy.length - k) 0 ⟨⟨Nat.zero_le _, by omega⟩, H1⟩ ⟨rfl, rfl, rfl, rfl, rfl, trivial⟩ ?_
      rintro k w4 ⟨⟨hk1, hk2⟩, H4⟩
      show WC _ _ _ _ _ [(0, lv), (2, (.bool false)), (3, (vN (obSum l i + (l.getD i Ob.zero).sy.length + sySum (l.getD i Ob.zero).sy k))), (4, (vN i)), (5, (vN k))] _
      have hsk := sySum_le hfo.2 k
      have hfk := fit_getD hfo.2 k
      have hfn := syN_le hfk
      obtain ⟨hf1, hf2, hf3, hf4, hf5⟩ := hfk
      unfold syN at hfn
      refine WC.seq ?_
      refine WC.seq ?_
      refine WC.region ?_
      refine WL.op rfl rfl (op_move rfl ?_)
      refine WL.op rfl rfl (op_move rfl ?_)
      refine WL.op rfl rfl (op_move rfl ?_)
      refine WL.op rfl rfl (op_indexAddr Tryd.underlying78 Fa.I32 rfl (H4.arr hA) rfl (by omega) ?_)
      refine WL.op rfl rfl (op_fieldAddrS rfl Fa.F32_1 ?_)
      refine WL.op rfl rfl (op_load rfl (Arr.atF (k := 1) (H4.arr hA) (fun _ => rfl) (by decide) Ob.zero (by omega) rfl) Tryd.underlying30 rfl ?_)
      refine WL.op rfl rfl (op_lenA Tryd.underlying30 rfl ((ObD_sy (Deep.getD ObD (Deep.fr0 ObD.list hI H4.fr) Ob.zero (ObD_zero _) i))) ?_)
      refine WL.op rfl rfl (op_lssN rfl rfl ?_)
      refine WL.op rfl rfl (op_move rfl ?_)
      refine WL.split (t := 34) rfl (fun (hb5 : (decide (k < (l.getD i Ob.zero).sy.length)) = true) => ?_) (fun (hb5 : (decide (k < (l.getD i Ob.zero).sy.length)) = false) => ?_)
      ·
        have hc5 := of_decide_eq_true hb5
        refine WL.yes rfl rfl rfl hb5 rfl (op_move rfl ?_)
        refine WL.yes rfl rfl rfl hb5 rfl (op_lssN (b := 200) rfl rfl ?_)
        refine WL.op rfl rfl (op_pickT rfl hb5 rfl ?_)
        refine WL.nil ?_
        refine WQ.next ?_
        refine WC.cond rfl (fun (hb6 : (decide (k < 200)) = true) => ?_) (fun (hb6 : (decide (k < 200)) = false) => ?_)
        ·
          have hc6 := of_decide_eq_true hb6
          refine WC.skip ?_
          refine WQ.next ?_
          refine WC.seq ?_
          refine WC.block ?_
          refine WC.seq ?_
          refine WC.region ?_
          refine WL.op rfl rfl (op_move rfl ?_)
          refine WL.op rfl rfl (op_move rfl ?_)
          refine WL.op rfl rfl (op_indexAddr Tryd.underlying78 Fa.I32 rfl (H4.arr hA) rfl (by omega) ?_)
          refine WL.op rfl rfl (op_fieldAddrS rfl Fa.F32_1 ?_)
          refine WL.op rfl rfl (op_load rfl (Arr.atF (k := 1) (H4.arr hA) (fun _ => rfl) (by decide) Ob.zero (by omega) rfl) Tryd.underlying30 rfl ?_)
          refine WL.op rfl rfl (op_move rfl ?_)
          refine WL.op rfl rfl (op_indexAddr Tryd.underlying30 Fa.I26 rfl ((ObD_sy (Deep.getD ObD (Deep.fr0 ObD.list hI H4.fr) Ob.zero (ObD_zero _) i))) rfl (by omega) ?_)
          refine WL.op rfl rfl (op_loadSP (vs := syc ((l.getD i Ob.zero).sy.getD k Sy.zero)) rfl (Arr.atsF ((ObD_sy (Deep.getD ObD (Deep.fr0 ObD.list hI H4.fr) Ob.zero (ObD_zero _) i))) (fun _ => rfl) (by decide) Sy.zero (by omega)) Tryd.underlying26 rfl Fa.I26 rfl ?_)
          refine WL.op rfl rfl (op_alloc H4 Fa.I26 (fun b7 w7 H7 => ?_))
          refine WL.op rfl rfl (op_storeBW (i := 0) H7 rfl rfl rfl rfl (one_cons rfl (one_cons rfl (one_cons rfl (one_cons rfl (one_cons rfl (one_cons (Arr.one ((SyD_rl (Deep.getD SyD (ObD_in (Deep.getD ObD (Deep.fr0 ObD.list hI H7.fr) Ob.zero (ObD_zero _) i)) Sy.zero (SyD_zero _) k)))) (one_cons (Arr.one ((SyD_nt (Deep.getD SyD (ObD_in (Deep.getD ObD (Deep.fr0 ObD.list hI H7.fr) Ob.zero (ObD_zero _) i)) Sy.zero (SyD_zero _) k)))) one_nil))))))) Fa.I26 (fun w8 H8 => ?_))
          refine WL.nil ?_
          refine WQ.next ?_
          refine WC.seq ?_
          refine WC.region ?_
          refine WL.op rfl rfl (op_move rfl ?_)
          refine WL.op rfl rfl (op_fieldAddr rfl Fa.F26_5 ?_)
          refine WL.op rfl rfl (op_load rfl (H8.cell (i := 0) rfl rfl) Tryd.underlying23 rfl ?_)
          refine WL.op rfl rfl (op_lenA Tryd.underlying23 rfl ((SyD_rl (Deep.getD SyD (ObD_in (Deep.getD ObD (Deep.fr0 ObD.list hI H8.fr) Ob.zero (ObD_zero _) i)) Sy.zero (SyD_zero _) k))) ?_)
          refine WL.op rfl rfl (op_quoN (b := 4) rfl rfl (by omega) (by omega) ?_)
          refine WL.op rfl rfl (op_addN rfl rfl (by omega) ?_)
          refine WL.op rfl rfl (op_fieldAddr rfl Fa.F26_6 ?_)
          refine WL.op rfl rfl (op_load rfl (H8.cell (i := 0) rfl rfl) Tryd.underlying24 rfl ?_)
          refine WL.op rfl rfl (op_lenA Tryd.underlying24 rfl ((SyD_nt (Deep.getD SyD (ObD_in (Deep.getD ObD (Deep.fr0 ObD.list hI H8.fr) Ob.zero (ObD_zero _) i)) Sy.zero (SyD_zero _) k))) ?_)
          refine WL.op rfl rfl (op_quoN (b := 4) rfl rfl (by omega) (by omega) ?_)
          refine WL.op rfl rfl (op_addN rfl rfl (by omega) ?_)
          refine WL.op rfl rfl (op_fieldAddr rfl Fa.F26_4 ?_)
          refine WL.op rfl rfl (op_load rfl (H8.cell (i := 0) rfl rfl) Tryd.underlying9 rfl ?_)
          refine WL.op rfl rfl (op_lenStr Tryd.underlying9 rfl ?_)
          refine WL.op rfl rfl (op_quoN (b := 64) rfl rfl (by omega) (by omega) ?_)
          refine WL.op rfl rfl (op_addN rfl rfl (by omega) ?_)
          refine WL.op rfl rfl (op_fieldAddr rfl Fa.F26_0 ?_)
          refine WL.op rfl rfl (op_load rfl (H8.cell (i := 0) rfl rfl) Tryd.underlying9 rfl ?_)
          refine WL.op rfl rfl (op_lenStr Tryd.underlying9 rfl ?_)
          refine WL.op rfl rfl (op_quoN (b := 16) rfl rfl (by omega) (by omega) ?_)
          refine WL.op rfl rfl (op_addN rfl rfl (by omega) ?_)
          refine WL.op rfl rfl (op_assign rfl ?_)
          refine WL.nil ?_
          refine WQ.next ?_
          refine WC.seq ?_
          refine WC.region ?_
          refine WL.op rfl rfl (op_assign rfl ?_)
          refine WL.nil ?_
          refine WQ.next ?_
          refine WC.block ?_
          refine WC.loop (α := Nat) (fun j => [(0, lv), (2, (.bool false)), (3, (vN (obSum l i + (l.getD i Ob.zero).sy.length + sySum (l.getD i Ob.zero).sy k + ((l.getD i Ob.zero).sy.getD k Sy.zero).rl.length / 4 + ((l.getD i Ob.zero).sy.getD k Sy.zero).nt.length / 4 + ((l.getD i Ob.zero).sy.getD k Sy.zero).b.length / 64 + ((l.getD i Ob.zero).sy.getD k Sy.zero).nm.length / 16 + nameSum ((l.getD i Ob.zero).sy.getD k Sy.zero).rl j))), (4, (vN i)), (5, (vN k)), (6, (ptr b7 0)), (7, (vN j))]) (fun j w' => (j ≤ ((l.getD i Ob.zero).sy.getD k Sy.zero).rl.length ∧ j ≤ 1100) ∧ Own [] w w' [.blk b7 [(str ((l.getD i Ob.zero).sy.getD k Sy.zero).nm), (vU8 ((l.getD i Ob.zero).sy.getD k Sy.zero).bind), (vU8 ((l.getD i Ob.zero).sy.getD k Sy.zero).kind), (vU32 ((l.getD i Ob.zero).sy.getD k Sy.zero).size), (str ((l.getD i Ob.zero).sy.getD k Sy.zero).b), ((l.getD i Ob.zero).sy.getD k Sy.zero).rv, ((l.getD i Ob.zero).sy.getD k Sy.zero).nv] 26]) (fun j => ((l.getD i Ob.zero).sy.getD k Sy.zero).rl.length - j) 0 ⟨⟨Nat.zero_le _, by omega⟩, H8⟩ ⟨rfl, rfl, rfl, rfl, rfl, rfl, rfl, trivial⟩ ?_
          rintro j w9 ⟨⟨hj1, hj2⟩, H9⟩
          show WC _ _ _ _ _ [(0, lv), (2, (.bool false)), (3, (vN (obSum l i + (l.getD i Ob.zero).sy.length + sySum (l.getD i Ob.zero).sy k + ((l.getD i Ob.zero).sy.getD k Sy.zero).rl.length / 4 + ((l.getD i Ob.zero).sy.getD k Sy.zero).nt.length / 4 + ((l.getD i Ob.zero).sy.getD k Sy.zero).b.length / 64 + ((l.getD i Ob.zero).sy.getD k Sy.zero).nm.length / 16 + nameSum ((l.getD i Ob.zero).sy.getD k Sy.zero).rl j))), (4, (vN i)), (5, (vN k)), (6, (ptr b7 0)), (7, (vN j))] _
          have hsj := nameSum_le hf5 j
          have hgj := getD_name hf5 j
          refine WC.seq ?_
          refine WC.seq ?_
          refine WC.region ?_
          refine WL.op rfl rfl (op_move rfl ?_)
          refine WL.op rfl rfl (op_fieldAddr rfl Fa.F26_5 ?_)
          refine WL.op rfl rfl (op_load rfl (H9.cell (i := 0) rfl rfl) Tryd.underlying23 rfl ?_)
          refine WL.op rfl rfl (op_lenA Tryd.underlying23 rfl ((SyD_rl (Deep.getD SyD (ObD_in (Deep.getD ObD (Deep.fr0 ObD.list hI H9.fr) Ob.zero (ObD_zero _) i)) Sy.zero (SyD_zero _) k))) ?_)
          refine WL.op rfl rfl (op_lssN rfl rfl ?_)
          refine WL.op rfl rfl (op_move rfl ?_)
          refine WL.split (t := 74) rfl (fun (hb10 : (decide (j < ((l.getD i Ob.zero).sy.getD k Sy.zero).rl.length)) = true) => ?_) (fun (hb10 : (decide (j < ((l.getD i Ob.zero).sy.getD k Sy.zero).rl.length)) = false) => ?_)
          ·
            have hc10 := of_decide_eq_true hb10
            refine WL.yes rfl rfl rfl hb10 rfl (op_move rfl ?_)
            refine WL.yes rfl rfl rfl hb10 rfl (op_lssN (b := 1100) rfl rfl ?_)
            refine WL.op rfl rfl (op_pickT rfl hb10 rfl ?_)
            refine WL.nil ?_
            refine WQ.next ?_
            refine WC.cond rfl (fun (hb11 : (decide (j < 1100)) = true) => ?_) (fun (hb11 : (decide (j < 1100)) = false) => ?_)
            ·
              have hc11 := of_decide_eq_true hb11
              refine WC.skip ?_
              refine WQ.next ?_
              refine WC.seq ?_
              refine WC.block ?_
              refine WC.region ?_
              refine WL.op rfl rfl (op_move rfl ?_)
              refine WL.op rfl rfl (op_fieldAddr rfl Fa.F26_5 ?_)
              refine WL.op rfl rfl (op_load rfl (H9.cell (i := 0) rfl rfl) Tryd.underlying23 rfl ?_)
              refine WL.op rfl rfl (op_move rfl ?_)
              refine WL.op rfl rfl (op_indexAddr Tryd.underlying23 Fa.I44 rfl ((SyD_rl (Deep.getD SyD (ObD_in (Deep.getD ObD (Deep.fr0 ObD.list hI H9.fr) Ob.zero (ObD_zero _) i)) Sy.zero (SyD_zero _) k))) rfl (by omega) ?_)
              refine WL.op rfl rfl (op_fieldAddrS rfl Fa.F44_2 ?_)
              refine WL.op rfl rfl (op_load rfl (Arr.atF (k := 2) ((SyD_rl (Deep.getD SyD (ObD_in (Deep.getD ObD (Deep.fr0 ObD.list hI H9.fr) Ob.zero (ObD_zero _) i)) Sy.zero (SyD_zero _) k))) (fun _ => rfl) (by decide) Rl.zero (by omega) rfl) Tryd.underlying9 rfl ?_)
              refine WL.op rfl rfl (op_lenStr Tryd.underlying9 rfl ?_)
              refine WL.op rfl rfl (op_quoN (b := 64) rfl rfl (by omega) (by omega) ?_)
              refine WL.op rfl rfl (op_addN rfl rfl (by omega) ?_)
              refine WL.op rfl rfl (op_assign rfl ?_)
              refine WL.nil ?_
              refine WQ.inNormal ?_
              refine WQ.next ?_
              refine WC.region ?_
              refine WL.op rfl rfl (op_move rfl ?_)
              refine WL.op rfl rfl (op_addN (b := 1) rfl rfl (by omega) ?_)
              refine WL.op rfl rfl (op_assign rfl ?_)
              refine WL.nil ?_
              exact WQ.round (j + 1) ⟨(by omega), H9⟩ ⟨rfl, rfl, (congrArg (fun x => some (vN x)) (by rw [nameSum]; omega)), rfl, rfl, rfl, rfl, trivial⟩ (by omega)
            ·
              have hc11 := of_decide_eq_false hb11
              refine WC.exit ?_
              refine WQ.thenExit ?_
              refine WQ.thenExit ?_
              refine WQ.inHere ?_
              refine WQ.inNormal ?_
              refine WQ.next ?_
              refine WC.region ?_
              refine WL.op rfl rfl (op_move rfl ?_)
              refine WL.op rfl rfl (op_addN (b := 1) rfl rfl (by omega) ?_)
              refine WL.op rfl rfl (op_assign rfl ?_)
              refine WL.nil ?_
              exact WQ.round (k + 1) ⟨(by omega), (H9.take 0)⟩ ⟨rfl, rfl, (congrArg (fun x => some (vN x)) (by rw [sySum, show min ((l.getD i Ob.zero).sy.getD k Sy.zero).rl.length 1100 = j by omega, syN]; omega)), rfl, rfl, trivial⟩ (by omega)
          ·
            have hc10 := of_decide_eq_false hb10
            refine WL.no rfl rfl rfl hb10 rfl ?_
            refine WL.no rfl rfl rfl hb10 rfl ?_
            refine WL.op rfl rfl (op_pickF rfl hb10 rfl ?_)
            refine WL.nil ?_
            refine WQ.next ?_
            refine WC.no rfl rfl ?_
            refine WC.exit ?_
            refine WQ.thenExit ?_
            refine WQ.thenExit ?_
            refine WQ.inHere ?_
            refine WQ.inNormal ?_
            refine WQ.next ?_
            refine WC.region ?_
            refine WL.op rfl rfl (op_move rfl ?_)
            refine WL.op rfl rfl (op_addN (b := 1) rfl rfl (by omega) ?_)
            refine WL.op rfl rfl (op_assign rfl ?_)
            refine WL.nil ?_
            exact WQ.round (k + 1) ⟨(by omega), (H9.take 0)⟩ ⟨rfl, rfl, (congrArg (fun x => some (vN x)) (by rw [sySum, show min ((l.getD i Ob.zero).sy.getD k Sy.zero).rl.length 1100 = j by omega, syN]; omega)), rfl, rfl, trivial⟩ (by omega)
        ·
          have hc6 := of_decide_eq_false hb6
          refine WC.exit ?_
          refine WQ.thenExit ?_
          refine WQ.thenExit ?_
          refine WQ.inHere ?_
          refine WQ.inNormal ?_
          refine WQ.next ?_
          refine WC.region ?_
          refine WL.op rfl rfl (op_move rfl ?_)
          refine WL.op rfl rfl (op_addN (b := 1) rfl rfl (by omega) ?_)
          refine WL.op rfl rfl (op_assign rfl ?_)
          refine WL.nil ?_
          exact WQ.round (i + 1) ⟨(by omega), H4⟩ ⟨rfl, rfl, (congrArg (fun x => some (vN x)) (by rw [obSum, show min (l.getD i Ob.zero).sy.length 200 = k by omega])), rfl, trivial⟩ (by omega)
      ·
        have hc5 := of_decide_eq_false hb5
        refine WL.no rfl rfl rfl hb5 rfl ?_
        refine WL.no rfl rfl rfl hb5 rfl ?_
        refine WL.op rfl rfl (op_pickF rfl hb5 rfl ?_)
        refine WL.nil ?_
        refine WQ.next ?_
        refine WC.no rfl rfl ?_
        refine WC.exit ?_
        refine WQ.thenExit ?_
        refine WQ.thenExit ?_
        refine WQ.inHere ?_
        refine WQ.inNormal ?_
        refine WQ.next ?_
        refine WC.region ?_
        refine WL.op rfl rfl (op_move rfl ?_)
        refine WL.op rfl rfl (op_addN (b := 1) rfl rfl (by omega) ?_)
        refine WL.op rfl rfl (op_assign rfl ?_)
        refine WL.nil ?_
        exact WQ.round (i + 1) ⟨(by omega), H4⟩ ⟨rfl, rfl, (congrArg (fun x => some (vN x)) (by rw [obSum, show min (l.getD i Ob.zero).sy.length 200 = k by omega])), rfl, trivial⟩ (by omega)
    ·
      have hc3 := of_decide_eq_false hb3
      refine WC.exit ?_
      refine WQ.thenExit ?_
      refine WQ.thenExit ?_
      refine WQ.inHere ?_
      refine WQ.next ?_
      refine WC.seq ?_
      refine WC.region ?_
      refine WL.op rfl rfl (op_move rfl ?_)
      refine WL.op rfl rfl (op_lenA Tryd.underlying78 rfl (H1.arr hA) ?_)
      refine WL.op rfl rfl (op_gtrN (b := 20) rfl rfl ?_)
      refine WL.op rfl rfl (op_move rfl ?_)
      refine WL.split (t := 93) rfl (fun (hb12 : (decide (l.length > 20)) = true) => ?_) (fun (hb12 : (decide (l.length > 20)) = false) => ?_)
      ·
        have hc12 := of_decide_eq_true hb12
        refine WL.no rfl rfl rfl hb12 rfl ?_
        refine WL.no rfl rfl rfl hb12 rfl ?_
        refine WL.op rfl rfl (op_pickT rfl hb12 rfl ?_)
        refine WL.op rfl rfl (op_assign rfl ?_)
        refine WL.nil ?_
        refine WQ.next ?_
        refine WC.ret ?_
        refine WQ.out (.tmp rfl .nil) ?_
        exact ⟨by (rw [lg08, hb12]) <;> rfl, H1.fr⟩
      ·
        have hc12 := of_decide_eq_false hb12
        refine WL.yes rfl rfl rfl hb12 rfl (op_move rfl ?_)
        refine WL.yes rfl rfl rfl hb12 rfl (op_gtrN (b := 2000) rfl rfl ?_)
        refine WL.op rfl rfl (op_pickF rfl hb12 rfl ?_)
        refine WL.op rfl rfl (op_assign rfl ?_)
        refine WL.nil ?_
        refine WQ.next ?_
        refine WC.ret ?_
        refine WQ.out (.tmp rfl .nil) ?_
        exact ⟨by (rw [lg08, hb12, show min l.length 40 = i by omega]) <;> rfl, H1.fr⟩
  ·
    have hc2 := of_decide_eq_false hb2
    refine WL.no rfl rfl rfl hb2 rfl ?_
    refine WL.no rfl rfl rfl hb2 rfl ?_
    refine WL.op rfl rfl (op_pickF rfl hb2 rfl ?_)
    refine WL.nil ?_
    refine WQ.next ?_
    refine WC.no rfl rfl ?_
    refine WC.exit ?_
    refine WQ.thenExit ?_
    refine WQ.thenExit ?_
    refine WQ.inHere ?_
    refine WQ.next ?_
    refine WC.seq ?_
    refine WC.region ?_
    refine WL.op rfl rfl (op_move rfl ?_)
    refine WL.op rfl rfl (op_lenA Tryd.underlying78 rfl (H1.arr hA) ?_)
    refine WL.op rfl rfl (op_gtrN (b := 20) rfl rfl ?_)
    refine WL.op rfl rfl (op_move rfl ?_)
    refine WL.split (t := 93) rfl (fun (hb13 : (decide (l.length > 20)) = true) => ?_) (fun (hb13 : (decide (l.length > 20)) = false) => ?_)
    ·
      have hc13 := of_decide_eq_true hb13
      refine WL.no rfl rfl rfl hb13 rfl ?_
      refine WL.no rfl rfl rfl hb13 rfl ?_
      refine WL.op rfl rfl (op_pickT rfl hb13 rfl ?_)
      refine WL.op rfl rfl (op_assign rfl ?_)
      refine WL.nil ?_
      refine WQ.next ?_
      refine WC.ret ?_
      refine WQ.out (.tmp rfl .nil) ?_
      exact ⟨by (rw [lg08, hb13]) <;> rfl, H1.fr⟩
    ·
      have hc13 := of_decide_eq_false hb13
      refine WL.yes rfl rfl rfl hb13 rfl (op_move rfl ?_)
      refine WL.yes rfl rfl rfl hb13 rfl (op_gtrN (b := 2000) rfl rfl ?_)
      refine WL.op rfl rfl (op_pickF rfl hb13 rfl ?_)
      refine WL.op rfl rfl (op_assign rfl ?_)
      refine WL.nil ?_
      refine WQ.next ?_
      refine WC.ret ?_
      refine WQ.out (.tmp rfl .nil) ?_
      exact ⟨by (rw [lg08, hb13, show min l.length 40 = i by omega]) <;> rfl, H1.fr⟩
end Go.Proofs.YtnngbnenekjffaaDoor
/-! from DRel5 -/
namespace Go.Proofs.YtnngbnenekjffaaDoor
open Go.Owl Go.Spec
set_option maxRecDepth 100000 in
theorem large15_ok (x : Sy) (av : Value) (ads : List UInt32) (w : World) (hI : SyD.ok w x) (hfx : Fit x) (hA : Arr w av 1 ads.length (List.map vU32 ads)) (hz : ads.length < 2 ^ 47) :
    Calls Tryd.prog 11 #[(.agg #[(str x.nm), (vU8 x.bind), (vU8 x.kind), (vU32 x.size), (str x.b), x.rv, x.nv]), av] w (fun e w' => e = .returned (.bool (large15 x ads)) ∧ Fr [] w w') := by
  refine enter (args := [(.agg #[(str x.nm), (vU8 x.bind), (vU8 x.kind), (vU32 x.size), (str x.b), x.rv, x.nv]), av]) Tryd.func11 rfl rfl ?_
  have H0 : Own [] w w [] := Own.start w []
  refine WC.seq ?_
  refine WC.region ?_
  refine WL.op rfl rfl (op_box H0 rfl rfl (fun b1 w1 H1 => ?_))
  refine WL.op rfl rfl (op_assign rfl ?_)
  refine WL.nil ?_
  refine WQ.next ?_
  refine WC.seq ?_
  refine WC.region ?_
  refine WL.op rfl rfl (op_loadS (vs := [_, _, _, _, _, _, _]) rfl (H1.cells (i := 0) rfl rfl) Tryd.underlying26 rfl Fa.I26 rfl ?_)
  refine WL.op rfl rfl (op_buildSlice (cs := [_, _, _, _, _, _, _]) H1 Tryd.underlying30 Fa.I26 rfl rfl rfl rfl (by decide) (by decide) (fun b2 w2 H2 => ?_))
  refine WL.op rfl rfl (op_build (cs := [_, _]) Fa.I32 Fa.PL32 rfl rfl ?_)
  refine WL.op rfl rfl (op_buildSlice (cs := [_, _]) H2 Tryd.underlying78 Fa.I32 rfl rfl rfl rfl (by decide) (by decide) (fun b3 w3 H3 => ?_))
  refine WL.op rfl rfl (op_callF Fa.C29 rfl ((lg08_ok _ [(Ob.mk [] (.slice (some ⟨b2, 0, none⟩) 1 1) ([x]))] _ (Arr.lenF ((H3.arrR (i := 2) rfl)) (fun _ => rfl) (by decide)) (ObD.list_one (ObD_mk (o := (Ob.mk [] (.slice (some ⟨b2, 0, none⟩) 1 1) ([x]))) (Arr.lenF ((H3.arrR (i := 1) rfl)) (fun _ => rfl) (by decide)) (SyD.list_one (SyD_mk (x := x) ((SyD_rl (SyD.fr0 hI H3.fr))) ((SyD_nt (SyD.fr0 hI H3.fr))))))) (fitO_one hfx) (by show 1 ≤ 1; decide)).mono (fun e w4 hq => ?_)))
  obtain ⟨rfl, hf4⟩ := hq
  refine ⟨_, rfl, ?_⟩
  have H4 := H3.fr' hf4
  refine WL.op rfl rfl (op_move rfl ?_)
  refine WL.split (t := 10) rfl (fun (hb5 : (lg08 [(Ob.mk [] (.slice (some ⟨b2, 0, none⟩) 1 1) ([x]))]) = true) => ?_) (fun (hb5 : (lg08 [(Ob.mk [] (.slice (some ⟨b2, 0, none⟩) 1 1) ([x]))]) = false) => ?_)
  ·
    refine WL.no rfl rfl rfl hb5 rfl ?_
    refine WL.no rfl rfl rfl hb5 rfl ?_
    refine WL.no rfl rfl rfl hb5 rfl ?_
    refine WL.op rfl rfl (op_pickT rfl hb5 rfl ?_)
    refine WL.op rfl rfl (op_assign rfl ?_)
    refine WL.nil ?_
    refine WQ.next ?_
    refine WC.ret ?_
    refine WQ.out (.tmp rfl .nil) ?_
    exact ⟨by (rw [large15, show lg08 [⟨[], .slice none 0 0, [x]⟩] = _ from hb5]) <;> rfl, H4.fr⟩
  ·
    refine WL.yes rfl rfl rfl hb5 rfl (op_move rfl ?_)
    refine WL.yes rfl rfl rfl hb5 rfl (op_lenA Tryd.underlying27 rfl (H4.arr hA) ?_)
    refine WL.yes rfl rfl rfl hb5 rfl (op_gtrN (b := 1200) rfl rfl ?_)
    refine WL.op rfl rfl (op_pickF rfl hb5 rfl ?_)
    refine WL.op rfl rfl (op_assign rfl ?_)
    refine WL.nil ?_
    refine WQ.next ?_
    refine WC.ret ?_
    refine WQ.out (.tmp rfl .nil) ?_
    exact ⟨by (rw [large15, show lg08 [⟨[], .slice none 0 0, [x]⟩] = _ from hb5]) <;> rfl, H4.fr⟩
set_option maxRecDepth 100000 in
theorem alive15_ok  (w : World) :
    Calls Tryd.prog 12 #[] w (fun e w' => e = .returned (.bool true) ∧ Fr [] w w') := by
  refine enter (args := []) Tryd.func12 rfl rfl ?_
  have H0 : Own [] w w [] := Own.start w []
  refine WC.seq ?_
  refine WC.region ?_
  refine WL.op rfl rfl (op_assign rfl ?_)
  refine WL.nil ?_
  refine WQ.next ?_
  refine WC.seq ?_
  refine WC.region ?_
  refine WL.op rfl rfl (op_build (cs := [_, _, _, _]) Fa.I44 Fa.PL44 rfl rfl ?_)
  refine WL.op rfl rfl (op_buildSlice (cs := [_, _, _, _]) H0 Tryd.underlying23 Fa.I44 rfl rfl rfl rfl (by decide) (by decide) (fun b1 w1 H1 => ?_))
  refine WL.op rfl rfl (op_build (cs := [_, _, _, _, _, _, _]) Fa.I26 Fa.PL26 rfl rfl ?_)
  refine WL.op rfl rfl (op_alloc H1 Fa.I26 (fun b2 w2 H2 => ?_))
  refine WL.op rfl rfl (op_storeBW (i := 1) H2 rfl rfl rfl rfl (one_cons rfl (one_cons rfl (one_cons rfl (one_cons rfl (one_cons rfl (one_cons (Arr.one (H2.arrR (i := 0) rfl)) (one_cons rfl one_nil))))))) Fa.I26 (fun w3 H3 => ?_))
  refine WL.nil ?_
  refine WQ.next ?_
  refine WC.seq ?_
  refine WC.region ?_
  refine WL.op rfl rfl (op_loadS (vs := [_, _, _, _, _, _, _]) rfl (H3.cells (i := 1) rfl rfl) Tryd.underlying26 rfl Fa.I26 rfl ?_)
  refine WL.op rfl rfl (op_buildSlice (cs := [_]) H3 Tryd.underlying27 Fa.I22 rfl rfl rfl rfl (by decide) (by decide) (fun b4 w4 H4 => ?_))
  refine WL.op rfl rfl (op_callF Fa.C14 rfl ((ofill_ok (Sy.mk [97] 0 2 6 [1, 2, 3, 4, 5] (.slice (some ⟨b1, 0, none⟩) 1 1) [(Rl.mk 1 2 [97] 2)] (.slice none 0 0) []) _ ([256]) _ (SyD_mk (x := (Sy.mk [97] 0 2 6 [1, 2, 3, 4, 5] (.slice (some ⟨b1, 0, none⟩) 1 1) [(Rl.mk 1 2 [97] 2)] (.slice none 0 0) [])) (Arr.lenF ((H4.arrR (i := 0) rfl)) (fun _ => rfl) (by decide)) (Arr.nil _ _)) (by show 1 < 2 ^ 47; decide) (by show 5 < 2 ^ 32; decide) (fun y hy => by rw [show y = ⟨1, 2, [97], 2⟩ from List.mem_singleton.1 hy]; decide) (by show 1 < 2 ^ 40; decide) (by show 0 < 2 ^ 40; decide) (Arr.lenM (H4.arrR (i := 2) rfl)) (by decide)).mono (fun e w5 hq => ?_)))
  obtain ⟨rfl, hf5⟩ := hq
  refine ⟨_, rfl, ?_⟩
  have H5 := H4.fr' hf5
  refine WL.op rfl rfl (op_move rfl ?_)
  refine WL.op rfl rfl (op_extract rfl rfl ?_)
  refine WL.op rfl rfl (op_extract rfl rfl ?_)
  refine WL.op rfl rfl (op_assign rfl ?_)
  refine WL.op rfl rfl (op_assign rfl ?_)
  refine WL.nil ?_
  refine WQ.next ?_
  refine WC.seq ?_
  refine WC.region ?_
  refine WL.op rfl rfl (op_loadS (vs := [_, _, _, _, _, _, _]) rfl (H5.cells (i := 1) rfl rfl) Tryd.underlying26 rfl Fa.I26 rfl ?_)
  refine WL.op rfl rfl (op_move rfl ?_)
  refine WL.op rfl rfl (op_callF Fa.C16 rfl ((olook_ok (Sy.mk [97] 0 2 6 [1, 2, 3, 4, 5] (.slice (some ⟨b1, 0, none⟩) 1 1) [(Rl.mk 1 2 [97] 2)] (.slice none 0 0) []) (fillS (Sy.mk [97] 0 2 6 [1, 2, 3, 4, 5] (.slice (some ⟨b1, 0, none⟩) 1 1) [(Rl.mk 1 2 [97] 2)] (.slice none 0 0) []) ([256])) _ (SyD_mk (x := (Sy.mk [97] 0 2 6 [1, 2, 3, 4, 5] (.slice (some ⟨b1, 0, none⟩) 1 1) [(Rl.mk 1 2 [97] 2)] (.slice none 0 0) [])) (Arr.lenF ((H5.arrR (i := 0) rfl)) (fun _ => rfl) (by decide)) (Arr.nil _ _)) (by show 1 < 2 ^ 47; decide) (by show 5 < 2 ^ 32; decide) (fun y hy => by rw [show y = ⟨1, 2, [97], 2⟩ from List.mem_singleton.1 hy]; decide) (by show 1 < 2 ^ 40; decide) (by show 0 < 2 ^ 40; decide) (of_decide_eq_true (by kernel_rfl))).mono (fun e w6 hq => ?_)))
  obtain ⟨v6, rfl, hq6⟩ := hq
  refine ⟨_, rfl, ?_⟩
  have H6 : Own [] w w6 [.row (.slice (some ⟨b1, 0, none⟩) 1 1) 44 4 1 (List.flatMap rlc [(Rl.mk 1 2 [97] 2)]), .blk b2 [(str [97]), (vU8 0), (vU8 2), (vU32 6), (str [1, 2, 3, 4, 5]), (.slice (some ⟨b1, 0, none⟩) 1 1), (.slice none 0 0)] 26, .row (.slice (some ⟨b4, 0, none⟩) 1 1) 22 1 1 (List.map vU32 [256]), .row v6 22 1 (lookL (Sy.mk [97] 0 2 6 [1, 2, 3, 4, 5] (.slice (some ⟨b1, 0, none⟩) 1 1) [(Rl.mk 1 2 [97] 2)] (.slice none 0 0) []) (fillS (Sy.mk [97] 0 2 6 [1, 2, 3, 4, 5] (.slice (some ⟨b1, 0, none⟩) 1 1) [(Rl.mk 1 2 [97] 2)] (.slice none 0 0) []) ([256]))).length (List.map vU32 (lookL (Sy.mk [97] 0 2 6 [1, 2, 3, 4, 5] (.slice (some ⟨b1, 0, none⟩) 1 1) [(Rl.mk 1 2 [97] 2)] (.slice none 0 0) []) (fillS (Sy.mk [97] 0 2 6 [1, 2, 3, 4, 5] (.slice (some ⟨b1, 0, none⟩) 1 1) [(Rl.mk 1 2 [97] 2)] (.slice none 0 0) []) ([256]))))] := H5.splice [] [] [.row v6 22 1 (lookL (Sy.mk [97] 0 2 6 [1, 2, 3, 4, 5] (.slice (some ⟨b1, 0, none⟩) 1 1) [(Rl.mk 1 2 [97] 2)] (.slice none 0 0) []) (fillS (Sy.mk [97] 0 2 6 [1, 2, 3, 4, 5] (.slice (some ⟨b1, 0, none⟩) 1 1) [(Rl.mk 1 2 [97] 2)] (.slice none 0 0) []) ([256]))).length (List.map vU32 (lookL (Sy.mk [97] 0 2 6 [1, 2, 3, 4, 5] (.slice (some ⟨b1, 0, none⟩) 1 1) [(Rl.mk 1 2 [97] 2)] (.slice none 0 0) []) (fillS (Sy.mk [97] 0 2 6 [1, 2, 3, 4, 5] (.slice (some ⟨b1, 0, none⟩) 1 1) [(Rl.mk 1 2 [97] 2)] (.slice none 0 0) []) ([256]))))] rfl rfl hq6 (Fits.solid True.intro Fits.nil)
  refine WL.op rfl rfl (op_move rfl ?_)
  refine WL.op rfl rfl (op_extract rfl rfl ?_)
  refine WL.op rfl rfl (op_extract rfl rfl ?_)
  refine WL.op rfl rfl (op_assign rfl ?_)
  refine WL.op rfl rfl (op_assign rfl ?_)
  refine WL.nil ?_
  refine WQ.next ?_
  refine WC.seq ?_
  refine WC.region ?_
  refine WL.op rfl rfl (op_loadS (vs := [_, _, _, _, _, _, _]) rfl (H6.cells (i := 1) rfl rfl) Tryd.underlying26 rfl Fa.I26 rfl ?_)
  refine WL.op rfl rfl (op_buildSlice (cs := [_]) H6 Tryd.underlying27 Fa.I22 rfl rfl rfl rfl (by decide) (by decide) (fun b7 w7 H7 => ?_))
  refine WL.op rfl rfl (op_callF Fa.C14 rfl ((ofill_ok (Sy.mk [97] 0 2 6 [1, 2, 3, 4, 5] (.slice (some ⟨b1, 0, none⟩) 1 1) [(Rl.mk 1 2 [97] 2)] (.slice none 0 0) []) _ ([65534]) _ (SyD_mk (x := (Sy.mk [97] 0 2 6 [1, 2, 3, 4, 5] (.slice (some ⟨b1, 0, none⟩) 1 1) [(Rl.mk 1 2 [97] 2)] (.slice none 0 0) [])) (Arr.lenF ((H7.arrR (i := 0) rfl)) (fun _ => rfl) (by decide)) (Arr.nil _ _)) (by show 1 < 2 ^ 47; decide) (by show 5 < 2 ^ 32; decide) (fun y hy => by rw [show y = ⟨1, 2, [97], 2⟩ from List.mem_singleton.1 hy]; decide) (by show 1 < 2 ^ 40; decide) (by show 0 < 2 ^ 40; decide) (Arr.lenM (H7.arrR (i := 4) rfl)) (by decide)).mono (fun e w8 hq => ?_)))
  obtain ⟨rfl, hf8⟩ := hq
  refine ⟨_, rfl, ?_⟩
  have H8 := H7.fr' hf8
  refine WL.op rfl rfl (op_move rfl ?_)
  refine WL.op rfl rfl (op_extract rfl rfl ?_)
  refine WL.op rfl rfl (op_extract rfl rfl ?_)
  refine WL.op rfl rfl (op_assign rfl ?_)
  refine WL.op rfl rfl (op_assign rfl ?_)
  refine WL.nil ?_
  refine WQ.next ?_
  refine WC.seq ?_
  refine WC.region ?_
  refine WL.op rfl rfl (op_loadS (vs := [_, _, _, _, _, _, _]) rfl (H8.cells (i := 1) rfl rfl) Tryd.underlying26 rfl Fa.I26 rfl ?_)
  refine WL.op rfl rfl (op_callF Fa.C14 rfl ((ofill_ok (Sy.mk [97] 0 2 6 [1, 2, 3, 4, 5] (.slice (some ⟨b1, 0, none⟩) 1 1) [(Rl.mk 1 2 [97] 2)] (.slice none 0 0) []) _ [] _ (SyD_mk (x := (Sy.mk [97] 0 2 6 [1, 2, 3, 4, 5] (.slice (some ⟨b1, 0, none⟩) 1 1) [(Rl.mk 1 2 [97] 2)] (.slice none 0 0) [])) (Arr.lenF ((H8.arrR (i := 0) rfl)) (fun _ => rfl) (by decide)) (Arr.nil _ _)) (by show 1 < 2 ^ 47; decide) (by show 5 < 2 ^ 32; decide) (fun y hy => by rw [show y = ⟨1, 2, [97], 2⟩ from List.mem_singleton.1 hy]; decide) (by show 1 < 2 ^ 40; decide) (by show 0 < 2 ^ 40; decide) (Arr.nil _ _) (by decide)).mono (fun e w9 hq => ?_)))
  obtain ⟨rfl, hf9⟩ := hq
  refine ⟨_, rfl, ?_⟩
  have H9 := H8.fr' hf9
  refine WL.op rfl rfl (op_move rfl ?_)
  refine WL.op rfl rfl (op_extract rfl rfl ?_)
  refine WL.op rfl rfl (op_extract rfl rfl ?_)
  refine WL.op rfl rfl (op_assign rfl ?_)
  refine WL.op rfl rfl (op_assign rfl ?_)
  refine WL.nil ?_
  refine WQ.next ?_
  refine WC.seq ?_
  refine WC.region ?_
  refine WL.op rfl rfl (op_move rfl ?_)
  refine WL.op rfl rfl (op_eqlStr rfl rfl ?_)
  refine WL.op rfl rfl (op_move rfl ?_)
  refine WL.yes rfl rfl rfl (by kernel_rfl) rfl (op_move rfl ?_)
  refine WL.yes rfl rfl rfl (by kernel_rfl) rfl (op_eqlN (b := 0) rfl rfl ?_)
  refine WL.op rfl rfl (op_pickT rfl (by kernel_rfl) rfl ?_)
  refine WL.op rfl rfl (op_move rfl ?_)
  refine WL.yes rfl rfl rfl (by kernel_rfl) rfl (op_move rfl ?_)
  refine WL.yes rfl rfl rfl (by kernel_rfl) rfl (op_lenA Tryd.underlying27 rfl (H9.arrR (i := 3) rfl) ?_)
  refine WL.yes rfl rfl rfl (by kernel_rfl) rfl (op_eqlN (b := 1) rfl rfl ?_)
  refine WL.op rfl rfl (op_pickT rfl (by kernel_rfl) rfl ?_)
  refine WL.op rfl rfl (op_move rfl ?_)
  refine WL.yes rfl rfl rfl (by kernel_rfl) rfl (op_move rfl ?_)
  refine WL.yes rfl rfl rfl (by kernel_rfl) rfl (op_indexAddr1 (m := 0) Tryd.underlying27 Fa.I22 rfl (H9.arrR (i := 3) rfl) rfl (of_decide_eq_true (by kernel_rfl)) ?_)
  refine WL.yes rfl rfl rfl (by kernel_rfl) rfl (op_load rfl ((H9.arrR (i := 3) rfl).at (get_map vU32 0 (of_decide_eq_true (by kernel_rfl)))) Tryd.underlying22 rfl ?_)
  refine WL.yes rfl rfl rfl (by kernel_rfl) rfl (op_eqlU32 (b := 256) rfl rfl ?_)
  refine WL.op rfl rfl (op_pickT rfl (by kernel_rfl) rfl ?_)
  refine WL.op rfl rfl (op_move rfl ?_)
  refine WL.yes rfl rfl rfl (by kernel_rfl) rfl (op_move rfl ?_)
  refine WL.yes rfl rfl rfl (by kernel_rfl) rfl (op_eqlN (b := 0) rfl rfl ?_)
  refine WL.op rfl rfl (op_pickT rfl (by kernel_rfl) rfl ?_)
  refine WL.op rfl rfl (op_move rfl ?_)
  refine WL.yes rfl rfl rfl (by kernel_rfl) rfl (op_move rfl ?_)
  refine WL.yes rfl rfl rfl (by kernel_rfl) rfl (op_eqlN (b := 150) rfl rfl ?_)
  refine WL.op rfl rfl (op_pickT rfl (by kernel_rfl) rfl ?_)
  refine WL.op rfl rfl (op_move rfl ?_)
  refine WL.yes rfl rfl rfl (by kernel_rfl) rfl (op_move rfl ?_)
  refine WL.yes rfl rfl rfl (by kernel_rfl) rfl (op_eqlN (b := 2) rfl rfl ?_)
  refine WL.op rfl rfl (op_pickT rfl (by kernel_rfl) rfl ?_)
  refine WL.op rfl rfl (op_assign rfl ?_)
  refine WL.nil ?_
  refine WQ.next ?_
  refine WC.ret ?_
  refine WQ.out (.tmp rfl .nil) ?_
  exact ⟨rfl, H9.fr⟩
end Go.Proofs.YtnngbnenekjffaaDoor
