import Derived.Test.YtfdlkkhhakjgeaaFacts
import Derived.Test.YtfdlkkhhakjgeaaSpecInsn
import Derived.Test.YtfdlkkhhakjgeaaOwl18
namespace Go.Proofs.Ytfdlkkhhakjgeaa
open Go.Owl Go.Spec
set_option maxRecDepth 100000 in
theorem text_ok (v : Value) (m : Nat) (l : List UInt8) (w : World) (hA : Arr w v 1 m (l.map vU8)) :
    Calls Try.prog 55 #[v] w (fun e w' => e = .returned (str l) ∧ Fr [] w w') := by
  refine enter (args := [v]) Try.func55 rfl rfl ?_
  have H0 : Own [] w w [] := Own.start w []
  refine WC.seq ?_
  refine WC.region ?_
  refine WL.op rfl rfl (op_assign rfl ?_)
  refine WL.nil ?_
  refine WQ.next ?_
  refine WC.seq ?_
  refine WC.region ?_
  refine WL.op rfl rfl (op_move rfl ?_)
  refine WL.op rfl rfl (op_bytesStr (l := l) Try.underlying31 Try.underlying5 Try.underlying9 rfl (H0.arr hA) rfl ?_)
  refine WL.op rfl rfl (op_assign rfl ?_)
  refine WL.nil ?_
  refine WQ.next ?_
  refine WC.ret ?_
  refine WQ.out (.tmp rfl .nil) ?_
  exact ⟨rfl, H0.fr⟩
set_option maxRecDepth 100000 in
theorem put4_ok (v : UInt32) (w : World) :
    Calls Try.prog 36 #[(vU32 v), (vN 4)] w (fun e w' => e = .returned (.tuple #[str (le4 v), vN 0]) ∧ Fr [] w w') := by
  refine enter (args := [(vU32 v), (vN 4)]) Try.func36 rfl rfl ?_
  have H0 : Own [] w w [] := Own.start w []
  refine WC.seq ?_
  refine WC.region ?_
  refine WL.op rfl rfl (op_assign rfl ?_)
  refine WL.op rfl rfl (op_assign rfl ?_)
  refine WL.nil ?_
  refine WQ.next ?_
  refine WC.seq ?_
  refine WC.block ?_
  refine WC.seq ?_
  refine WC.region ?_
  refine WL.op rfl rfl (op_move rfl ?_)
  refine WL.op rfl rfl (op_lssN (b := 1) rfl rfl ?_)
  refine WL.op rfl rfl (op_move rfl ?_)
  refine WL.yes rfl rfl rfl (by decide) rfl (op_move rfl ?_)
  refine WL.yes rfl rfl rfl (by decide) rfl (op_gtrN (b := 4) rfl rfl ?_)
  refine WL.op rfl rfl (op_pickF rfl (by decide) rfl ?_)
  refine WL.op rfl rfl (op_assign rfl ?_)
  refine WL.nil ?_
  refine WQ.next ?_
  refine WC.no rfl (by decide) ?_
  refine WC.seq ?_
  refine WC.region ?_
  refine WL.op rfl rfl (op_move rfl ?_)
  refine WL.op rfl rfl (op_lssN (b := 4) rfl rfl ?_)
  refine WL.op rfl rfl (op_move rfl ?_)
  refine WL.no rfl rfl rfl (by decide) rfl ?_
  refine WL.no rfl rfl rfl (by decide) rfl ?_
  refine WL.no rfl rfl rfl (by decide) rfl ?_
  refine WL.no rfl rfl rfl (by decide) rfl ?_
  refine WL.no rfl rfl rfl (by decide) rfl ?_
  refine WL.op rfl rfl (op_pickF rfl (by decide) rfl ?_)
  refine WL.op rfl rfl (op_assign rfl ?_)
  refine WL.nil ?_
  refine WQ.next ?_
  refine WC.no rfl rfl ?_
  refine WC.skip ?_
  refine WQ.inNormal ?_
  refine WQ.next ?_
  refine WC.seq ?_
  refine WC.region ?_
  refine WL.op rfl rfl (op_move rfl ?_)
  refine WL.op rfl rfl (op_convU32U8 (hs := Try.underlying22) (hd := Try.underlying5) rfl ?_)
  refine WL.op rfl rfl (op_move rfl ?_)
  refine WL.op rfl rfl (op_shrU32 (s := 8) rfl rfl ?_)
  refine WL.op rfl rfl (op_convU32U8 (hs := Try.underlying22) (hd := Try.underlying5) rfl ?_)
  refine WL.op rfl rfl (op_move rfl ?_)
  refine WL.op rfl rfl (op_shrU32 (s := 16) rfl rfl ?_)
  refine WL.op rfl rfl (op_convU32U8 (hs := Try.underlying22) (hd := Try.underlying5) rfl ?_)
  refine WL.op rfl rfl (op_move rfl ?_)
  refine WL.op rfl rfl (op_shrU32 (s := 24) rfl rfl ?_)
  refine WL.op rfl rfl (op_convU32U8 (hs := Try.underlying22) (hd := Try.underlying5) rfl ?_)
  refine WL.op rfl rfl (op_buildSlice (cs := [_, _, _, _]) H0 Try.underlying31 Fa.I5 rfl rfl rfl rfl (by decide) (by decide) (fun b1 w1 H1 => ?_))
  refine WL.op rfl rfl (op_move rfl ?_)
  refine WL.op rfl rfl (op_cutHi Try.underlying31 Fa.I5 rfl (H1.arrR (i := 0) rfl) rfl (by omega) ?_)
  refine WL.op rfl rfl (op_callF Fa.C55 rfl ((text_ok _ _ (([(UInt8.ofNat v.toNat), (UInt8.ofNat (shrU32 v 8).toNat), (UInt8.ofNat (shrU32 v 16).toNat), (UInt8.ofNat (shrU32 v 24).toNat)].take 4)) _ (((H1.arrR (i := 0) rfl)).cutHiM (f := vU8) (l := [(UInt8.ofNat v.toNat), (UInt8.ofNat (shrU32 v 8).toNat), (UInt8.ofNat (shrU32 v 16).toNat), (UInt8.ofNat (shrU32 v 24).toNat)]) (b := 4) (by omega))).mono (fun e w2 hq => ?_)))
  obtain ⟨rfl, hf2⟩ := hq
  refine ⟨_, rfl, ?_⟩
  have H2 := H1.fr' hf2
  refine WL.op rfl rfl (op_assign rfl ?_)
  refine WL.op rfl rfl (op_assign rfl ?_)
  refine WL.nil ?_
  refine WQ.next ?_
  refine WC.ret ?_
  refine WQ.out (.tmp rfl (.tmp rfl .nil)) ?_
  exact ⟨rfl, H2.fr⟩
set_option maxRecDepth 100000 in
theorem get_ok (s : List UInt8) (w : World) :
    Calls Try.prog 37 #[(str s)] w (fun e w' => e = .returned (.tuple #[vU32 (getV s), vN (getE s)]) ∧ Fr [] w w') := by
  refine enter (args := [(str s)]) Try.func37 rfl rfl ?_
  have H0 : Own [] w w [] := Own.start w []
  refine WC.seq ?_
  refine WC.region ?_
  refine WL.op rfl rfl (op_assign rfl ?_)
  refine WL.op rfl rfl (op_assign rfl ?_)
  refine WL.nil ?_
  refine WQ.next ?_
  refine WC.seq ?_
  refine WC.seq ?_
  refine WC.region ?_
  refine WL.op rfl rfl (op_move rfl ?_)
  refine WL.op rfl rfl (op_lenStr Try.underlying9 rfl ?_)
  refine WL.op rfl rfl (op_lssN (b := 1) rfl rfl ?_)
  refine WL.op rfl rfl (op_move rfl ?_)
  refine WL.split (t := 8) rfl (fun (hb1 : (decide (s.length < 1)) = true) => ?_) (fun (hb1 : (decide (s.length < 1)) = false) => ?_)
  ·
    have hc1 := of_decide_eq_true hb1
    refine WL.no rfl rfl rfl hb1 rfl ?_
    refine WL.no rfl rfl rfl hb1 rfl ?_
    refine WL.no rfl rfl rfl hb1 rfl ?_
    refine WL.op rfl rfl (op_pickT rfl hb1 rfl ?_)
    refine WL.nil ?_
    refine WQ.next ?_
    refine WC.yes rfl rfl ?_
    refine WC.seq ?_
    refine WC.region ?_
    refine WL.op rfl rfl (op_assign rfl ?_)
    refine WL.op rfl rfl (op_assign rfl ?_)
    refine WL.nil ?_
    refine WQ.next ?_
    refine WC.ret ?_
    refine WQ.thenRet ?_
    refine WQ.out (.tmp rfl (.tmp rfl .nil)) ?_
    exact ⟨by first | (have hk : k = s.length := (by omega); subst hk; rw [getV, getE, if_neg (by omega), if_neg (by omega)]; rfl) | (rw [getV, getE, if_pos (by omega), if_pos (by omega)]; rfl), H0.fr⟩
  ·
    have hc1 := of_decide_eq_false hb1
    refine WL.yes rfl rfl rfl hb1 rfl (op_move rfl ?_)
    refine WL.yes rfl rfl rfl hb1 rfl (op_lenStr Try.underlying9 rfl ?_)
    refine WL.yes rfl rfl rfl hb1 rfl (op_gtrN (b := 4) rfl rfl ?_)
    refine WL.op rfl rfl (op_pickF rfl hb1 rfl ?_)
    refine WL.nil ?_
    refine WQ.next ?_
    refine WC.cond rfl (fun (hb2 : (decide (s.length > 4)) = true) => ?_) (fun (hb2 : (decide (s.length > 4)) = false) => ?_)
    ·
      have hc2 := of_decide_eq_true hb2
      refine WC.seq ?_
      refine WC.region ?_
      refine WL.op rfl rfl (op_assign rfl ?_)
      refine WL.op rfl rfl (op_assign rfl ?_)
      refine WL.nil ?_
      refine WQ.next ?_
      refine WC.ret ?_
      refine WQ.thenRet ?_
      refine WQ.out (.tmp rfl (.tmp rfl .nil)) ?_
      exact ⟨by first | (have hk : k = s.length := (by omega); subst hk; rw [getV, getE, if_neg (by omega), if_neg (by omega)]; rfl) | (rw [getV, getE, if_pos (by omega), if_pos (by omega)]; rfl), H0.fr⟩
    ·
      have hc2 := of_decide_eq_false hb2
      refine WC.skip ?_
      refine WQ.next ?_
      refine WC.seq ?_
      refine WC.seq ?_
      refine WC.region ?_
      refine WL.op rfl rfl (op_move rfl ?_)
      refine WL.op rfl rfl (op_lenStr Try.underlying9 rfl ?_)
      refine WL.op rfl rfl (op_move rfl ?_)
      refine WL.nil ?_
      refine WQ.next ?_
      refine WC.block ?_
      refine WC.loop (α := Nat) (fun k => [(0, (str s)), (3, (vN 0)), (14, (vN s.length)), (15, (vN k)), (2, (vU32 (getTo s k)))]) (fun k w' => (k ≤ s.length) ∧ Own [] w w' []) (fun k => s.length - k) 0 ⟨(by omega), H0⟩ ⟨rfl, rfl, rfl, rfl, rfl, trivial⟩ ?_
      rintro k w3 ⟨hinv, H3⟩
      show WC _ _ _ _ _ [(0, (str s)), (3, (vN 0)), (14, (vN s.length)), (15, (vN k)), (2, (vU32 (getTo s k)))] _
      refine WC.seq ?_
      refine WC.region ?_
      refine WL.op rfl rfl (op_lssN rfl rfl ?_)
      refine WL.nil ?_
      refine WQ.next ?_
      refine WC.seq ?_
      refine WC.cond rfl (fun (hb4 : (decide (k < s.length)) = true) => ?_) (fun (hb4 : (decide (k < s.length)) = false) => ?_)
      ·
        have hc4 := of_decide_eq_true hb4
        refine WC.skip ?_
        refine WQ.next ?_
        refine WC.seq ?_
        refine WC.block ?_
        refine WC.seq ?_
        refine WC.region ?_
        refine WL.op rfl rfl (op_move rfl ?_)
        refine WL.op rfl rfl (op_assign rfl ?_)
        refine WL.nil ?_
        refine WQ.next ?_
        refine WC.region ?_
        refine WL.op rfl rfl (op_move rfl ?_)
        refine WL.op rfl rfl (op_move rfl ?_)
        refine WL.op rfl rfl (op_move rfl ?_)
        refine WL.op rfl rfl (op_indexStrD Try.underlying9 rfl rfl (by omega) ?_)
        refine WL.op rfl rfl (op_convU8U32 (hs := Try.underlying5) (hd := Try.underlying22) rfl ?_)
        refine WL.op rfl rfl (op_move rfl ?_)
        refine WL.op rfl rfl (op_mulN (a := 8) rfl rfl (by omega) ?_)
        refine WL.op rfl rfl (op_shlU32 rfl rfl ?_)
        refine WL.op rfl rfl (op_orU32 rfl rfl ?_)
        refine WL.op rfl rfl (op_assign rfl ?_)
        refine WL.nil ?_
        refine WQ.inNormal ?_
        refine WQ.next ?_
        refine WC.region ?_
        refine WL.op rfl rfl (op_addN (b := 1) rfl rfl (by omega) ?_)
        refine WL.op rfl rfl (op_move rfl ?_)
        refine WL.nil ?_
        exact WQ.round (k + 1) ⟨(by omega), H3⟩ ⟨rfl, rfl, rfl, rfl, rfl, trivial⟩ (by omega)
      ·
        have hc4 := of_decide_eq_false hb4
        refine WC.exit ?_
        refine WQ.thenExit ?_
        refine WQ.thenExit ?_
        refine WQ.inHere ?_
        refine WQ.next ?_
        refine WC.seq ?_
        refine WC.region ?_
        refine WL.op rfl rfl (op_move rfl ?_)
        refine WL.op rfl rfl (op_assign rfl ?_)
        refine WL.op rfl rfl (op_assign rfl ?_)
        refine WL.nil ?_
        refine WQ.next ?_
        refine WC.ret ?_
        refine WQ.out (.tmp rfl (.tmp rfl .nil)) ?_
        exact ⟨by first | (have hk : k = s.length := (by omega); subst hk; rw [getV, getE, if_neg (by omega), if_neg (by omega)]; rfl) | (rw [getV, getE, if_pos (by omega), if_pos (by omega)]; rfl), H3.fr⟩
set_option maxRecDepth 100000 in
theorem table_ok  (w : World) :
    Calls Try.prog 41 #[] w (fun e w' => e = .returned (.agg (tabL.map vU8).toArray) ∧ Fr [] w w') := by
  refine enter (args := []) Try.func41 rfl rfl ?_
  have H0 : Own [] w w [] := Own.start w []
  refine WC.seq ?_
  refine WC.region ?_
  refine WL.op rfl rfl (op_alloc H0 Fa.I65 (fun b1 w1 H1 => ?_))
  refine WL.nil ?_
  refine WQ.next ?_
  refine WC.seq ?_
  refine WC.region ?_
  refine WL.op rfl rfl (op_buildA (cs := tab0.map vU8) Fa.I65 Try.underlying65 Fa.I5 rfl (by kernel_rfl) ?_)
  refine WL.op rfl rfl (op_alloc H1 Fa.I65 (fun b2 w2 H2 => ?_))
  refine WL.op rfl rfl (op_storeBV (i := 1) H2 rfl rfl rfl (by kernel_rfl) (by kernel_rfl) (by kernel_rfl) Fa.I65 (fun w3 H3 => ?_))
  refine WL.nil ?_
  refine WQ.next ?_
  refine WC.seq ?_
  refine WC.seq ?_
  refine WC.region ?_
  refine WL.op rfl rfl (op_assign rfl ?_)
  refine WL.nil ?_
  refine WQ.next ?_
  refine WC.block ?_
  refine WC.loop (α := Nat) (fun k => [(0, (ptr b1 0)), (1, (ptr b2 0)), (2, (vN (k + 1)))]) (fun k w' => (k ≤ 14) ∧ Own [] w w' [.blk b1 (List.replicate 256 (vU8 0)) 65, .blk b2 ((tabTo k).map vU8) 65]) (fun k => 14 - k) 0 ⟨(by omega), H3⟩ ⟨rfl, rfl, rfl, trivial⟩ ?_
  rintro k w4 ⟨hinv, H4⟩
  show WC _ _ _ _ _ [(0, (ptr b1 0)), (1, (ptr b2 0)), (2, (vN (k + 1)))] _
  refine WC.seq ?_
  refine WC.seq ?_
  refine WC.region ?_
  refine WL.op rfl rfl (op_move rfl ?_)
  refine WL.op rfl rfl (op_leqN (b := 14) rfl rfl ?_)
  refine WL.nil ?_
  refine WQ.next ?_
  refine WC.cond rfl (fun (hb5 : (decide ((k + 1) ≤ 14)) = true) => ?_) (fun (hb5 : (decide ((k + 1) ≤ 14)) = false) => ?_)
  ·
    have hc5 := of_decide_eq_true hb5
    refine WC.skip ?_
    refine WQ.next ?_
    refine WC.seq ?_
    refine WC.block ?_
    refine WC.region ?_
    refine WL.op rfl rfl (op_move rfl ?_)
    refine WL.op rfl rfl (op_indexAddrA1 Try.underlying65 Fa.I5 rfl rfl (by omega) ?_)
    refine WL.op rfl rfl (op_storeB (i := 1) H4 rfl rfl rfl (by rw [Nat.blt_eq, List.length_map, tabTo_length]; omega) rfl Fa.I5 (fun w6 H6 => ?_))
    refine WL.nil ?_
    refine WQ.inNormal ?_
    refine WQ.next ?_
    refine WC.region ?_
    refine WL.op rfl rfl (op_move rfl ?_)
    refine WL.op rfl rfl (op_addN (b := 1) rfl rfl (by omega) ?_)
    refine WL.op rfl rfl (op_assign rfl ?_)
    refine WL.nil ?_
    exact WQ.round (k + 1) ⟨(by omega), (by rw [show (tabTo (k + 1)).map vU8 = ((tabTo k).map vU8).set (0 + (k + 1)) (vU8 7) from by rw [Nat.zero_add, set_map vU8]; rfl]; exact H6)⟩ ⟨rfl, rfl, rfl, trivial⟩ (by omega)
  ·
    have hc5 := of_decide_eq_false hb5
    refine WC.exit ?_
    refine WQ.thenExit ?_
    refine WQ.thenExit ?_
    refine WQ.inHere ?_
    refine WQ.next ?_
    refine WC.seq ?_
    refine WC.region ?_
    refine WL.op rfl rfl (op_loadS rfl (H4.cellsW (i := 1) rfl) Try.underlying65 rfl Fa.I65 (by rw [List.length_map, tabTo_length]) ?_)
    refine WL.op rfl rfl (op_storeBV (i := 0) H4 rfl rfl rfl (by rw [List.length_map, tabTo_length, List.length_replicate]; rfl) (one_U8 _) (by rw [List.length_map, tabTo_length]) Fa.I65 (fun w7 H7 => ?_))
    refine WL.nil ?_
    refine WQ.next ?_
    refine WC.ret ?_
    refine WQ.out (.cell rfl (run_loadVarS (H7.cellsW (i := 0) rfl) Try.underlying65 rfl Fa.I65 (by rw [List.length_map, tabTo_length])) .nil) ?_
    exact ⟨by have hk : k = 14 := (by omega); subst hk; rfl, H7.fr⟩
set_option maxRecDepth 100000 in
theorem check1_ok (n bit u : UInt8) (q : Nat) (w : World) (hc : w.cell? ⟨q, 0, none⟩ = some (vU8 u)) :
    Calls Try.prog 42 #[(vU8 n), (vU8 bit), (ptr q 0)] w (fun e w' => e = .returned (.bool (fitB u n bit)) ∧ Fr [] w w') := by
  refine enter (args := [(vU8 n), (vU8 bit), (ptr q 0)]) Try.func42 rfl rfl ?_
  have H0 : Own [] w w [] := Own.start w []
  refine WC.seq ?_
  refine WC.region ?_
  refine WL.op rfl rfl (op_assign rfl ?_)
  refine WL.nil ?_
  refine WQ.next ?_
  refine WC.seq ?_
  refine WC.region ?_
  refine WL.op rfl rfl (op_move rfl ?_)
  refine WL.op rfl rfl (op_eqlU8 (b := 0) rfl rfl ?_)
  refine WL.op rfl rfl (op_move rfl ?_)
  refine WL.split (t := 8) rfl (fun (hb1 : (decide (n = (0 : UInt8))) = true) => ?_) (fun (hb1 : (decide (n = (0 : UInt8))) = false) => ?_)
  ·
    have hc1 := of_decide_eq_true hb1
    refine WL.no rfl rfl rfl hb1 rfl ?_
    refine WL.no rfl rfl rfl hb1 rfl ?_
    refine WL.no rfl rfl rfl hb1 rfl ?_
    refine WL.no rfl rfl rfl hb1 rfl ?_
    refine WL.no rfl rfl rfl hb1 rfl ?_
    refine WL.non rfl rfl rfl rfl ?_
    refine WL.non rfl rfl rfl rfl ?_
    refine WL.no rfl rfl rfl hb1 rfl ?_
    refine WL.op rfl rfl (op_pickT rfl hb1 rfl ?_)
    refine WL.op rfl rfl (op_assign rfl ?_)
    refine WL.nil ?_
    refine WQ.next ?_
    refine WC.ret ?_
    refine WQ.out (.tmp rfl .nil) ?_
    exact ⟨by simp_all [tup, fitB], H0.fr⟩
  ·
    have hc1 := of_decide_eq_false hb1
    refine WL.yes rfl rfl rfl hb1 rfl (op_load rfl hc Try.underlying5 rfl ?_)
    refine WL.yes rfl rfl rfl hb1 rfl (op_move rfl ?_)
    refine WL.yes rfl rfl rfl hb1 rfl (op_andU8 rfl rfl ?_)
    refine WL.yes rfl rfl rfl hb1 rfl (op_neqU8 (b := 0) rfl rfl ?_)
    refine WL.yes rfl rfl rfl hb1 rfl (op_move rfl ?_)
    refine WL.split (t := 13) rfl (fun (hb2 : (decide ((u &&& bit) ≠ (0 : UInt8))) = true) => ?_) (fun (hb2 : (decide ((u &&& bit) ≠ (0 : UInt8))) = false) => ?_)
    ·
      have hc2 := of_decide_eq_true hb2
      refine WL.yes rfl rfl rfl hb2 rfl (op_move rfl ?_)
      refine WL.yes rfl rfl rfl hb2 rfl (op_lssU8 (b := 16) rfl rfl ?_)
      refine WL.yes rfl rfl rfl hb1 rfl (op_pickT rfl hb2 rfl ?_)
      refine WL.op rfl rfl (op_pickF rfl hb1 rfl ?_)
      refine WL.op rfl rfl (op_assign rfl ?_)
      refine WL.nil ?_
      refine WQ.next ?_
      refine WC.ret ?_
      refine WQ.out (.tmp rfl .nil) ?_
      exact ⟨by simp_all [tup, fitB], H0.fr⟩
    ·
      have hc2 := of_decide_eq_false hb2
      refine WL.no rfl rfl rfl hb2 rfl ?_
      refine WL.no rfl rfl rfl hb2 rfl ?_
      refine WL.yes rfl rfl rfl hb1 rfl (op_pickF rfl hb2 rfl ?_)
      refine WL.op rfl rfl (op_pickF rfl hb1 rfl ?_)
      refine WL.op rfl rfl (op_assign rfl ?_)
      refine WL.nil ?_
      refine WQ.next ?_
      refine WC.ret ?_
      refine WQ.out (.tmp rfl .nil) ?_
      exact ⟨by simp_all [tup, fitB], H0.fr⟩
set_option maxRecDepth 100000 in
theorem check_ok (op d a b : UInt8) (imm : UInt32) (w : World) :
    Calls Try.prog 18 #[(.agg #[(vU8 op), (vU8 d), (vU8 a), (vU8 b), (vU32 imm)])] w (fun e w' => e = .returned (vN (encE op d a b imm)) ∧ Fr [] w w') := by
  refine enter (args := [(.agg #[(vU8 op), (vU8 d), (vU8 a), (vU8 b), (vU32 imm)])]) Try.func18 rfl rfl ?_
  have H0 : Own [] w w [] := Own.start w []
  refine WC.seq ?_
  refine WC.region ?_
  refine WL.op rfl rfl (op_box H0 rfl rfl (fun b1 w1 H1 => ?_))
  refine WL.op rfl rfl (op_assign rfl ?_)
  refine WL.nil ?_
  refine WQ.next ?_
  refine WC.seq ?_
  refine WC.draw 5 Fa.M H1 (HW.op rfl (fun w1 H1 => op_callF Fa.C41 rfl ((table_ok _).mono (fun e w2 hq => ⟨_, hq.1, rfl, hq.2⟩))) (HW.op rfl (fun w1 H1 => op_fieldAddr rfl Fa.F24_0 ⟨rfl, Fr.refl _ _⟩) (HW.op rfl (fun w1 H1 => op_load rfl (H1.cell (i := 0) rfl rfl) Try.underlying5 rfl ⟨rfl, Fr.refl _ _⟩) (HW.op rfl (fun w1 H1 => op_indexA1 (cs := (tabL.map vU8)) Try.underlying65 Fa.I5 Try.underlying5 rfl rfl rfl op.toNat_lt (get_map vU8 0 (by rw [tabL, tabTo_length]; exact op.toNat_lt)) ⟨rfl, Fr.refl _ _⟩) (HW.flt (mk := fun bq => ptr bq 0) (ent := fun bq => .blk bq _ _) rfl (fun w1 => op_alloc (Own.start w1 []) Fa.I5 (fun bq w2 H2 => ⟨bq, rfl, H2, True.intro⟩))  HW.nil))))) (by kernel_rfl) ?_
  intro β3 w3 H3
  refine WL.op rfl rfl (op_storeB (i := 1) H3 rfl rfl rfl rfl rfl Fa.I5 (fun w4 H4 => ?_))
  refine WL.nil ?_
  refine WQ.next ?_
  refine WC.seq ?_
  refine WC.region ?_
  refine WL.op rfl rfl (op_makeFunc rfl rfl ?_)
  refine WL.op rfl rfl (op_assign rfl ?_)
  refine WL.nil ?_
  refine WQ.next ?_
  refine WC.seq ?_
  refine WC.seq ?_
  refine WC.region ?_
  refine WL.op rfl rfl (op_load rfl (H4.cell (i := 1) rfl rfl) Try.underlying5 rfl ?_)
  refine WL.op rfl rfl (op_eqlU8 (b := 0) rfl rfl ?_)
  refine WL.op rfl rfl (op_move rfl ?_)
  refine WL.split (t := 12) rfl (fun (hb5 : (decide ((useOf op) = (0 : UInt8))) = true) => ?_) (fun (hb5 : (decide ((useOf op) = (0 : UInt8))) = false) => ?_)
  ·
    have hc5 := of_decide_eq_true hb5
    refine WL.no rfl rfl rfl hb5 rfl ?_
    refine WL.no rfl rfl rfl hb5 rfl ?_
    refine WL.no rfl rfl rfl hb5 rfl ?_
    refine WL.no rfl rfl rfl hb5 rfl ?_
    refine WL.no rfl rfl rfl hb5 rfl ?_
    refine WL.op rfl rfl (op_pickT rfl hb5 rfl ?_)
    refine WL.op rfl rfl (op_move rfl ?_)
    refine WL.no rfl rfl rfl rfl rfl ?_
    refine WL.no rfl rfl rfl rfl rfl ?_
    refine WL.no rfl rfl rfl rfl rfl ?_
    refine WL.no rfl rfl rfl rfl rfl ?_
    refine WL.no rfl rfl rfl rfl rfl ?_
    refine WL.op rfl rfl (op_pickT rfl rfl rfl ?_)
    refine WL.op rfl rfl (op_move rfl ?_)
    refine WL.no rfl rfl rfl rfl rfl ?_
    refine WL.no rfl rfl rfl rfl rfl ?_
    refine WL.no rfl rfl rfl rfl rfl ?_
    refine WL.no rfl rfl rfl rfl rfl ?_
    refine WL.no rfl rfl rfl rfl rfl ?_
    refine WL.op rfl rfl (op_pickT rfl rfl rfl ?_)
    refine WL.op rfl rfl (op_move rfl ?_)
    refine WL.no rfl rfl rfl rfl rfl ?_
    refine WL.no rfl rfl rfl rfl rfl ?_
    refine WL.no rfl rfl rfl rfl rfl ?_
    refine WL.no rfl rfl rfl rfl rfl ?_
    refine WL.non rfl rfl rfl rfl ?_
    refine WL.non rfl rfl rfl rfl ?_
    refine WL.non rfl rfl rfl rfl ?_
    refine WL.no rfl rfl rfl rfl rfl ?_
    refine WL.no rfl rfl rfl rfl rfl ?_
    refine WL.op rfl rfl (op_pickT rfl rfl rfl ?_)
    refine WL.nil ?_
    refine WQ.next ?_
    refine WC.yes rfl rfl ?_
    refine WC.seq ?_
    refine WC.region ?_
    refine WL.op rfl rfl (op_assign rfl ?_)
    refine WL.nil ?_
    refine WQ.next ?_
    refine WC.ret ?_
    refine WQ.thenRet ?_
    refine WQ.out (.tmp rfl .nil) ?_
    exact ⟨by simp_all [tup, encE, okB], H4.fr⟩
  ·
    have hc5 := of_decide_eq_false hb5
    refine WL.yes rfl rfl rfl hb5 rfl (op_move rfl ?_)
    refine WL.yes rfl rfl rfl hb5 rfl (op_fieldAddr rfl Fa.F24_1 ?_)
    refine WL.yes rfl rfl rfl hb5 rfl (op_load rfl (H4.cell (i := 0) rfl rfl) Try.underlying5 rfl ?_)
    refine WL.yes rfl rfl rfl hb5 rfl (op_call (f := 42) rfl Fa.C42 rfl ((check1_ok d 1 (useOf op) (β3 4) _ (H4.cell (i := 1) rfl rfl)).mono (fun e w6 hq => ?_)))
    obtain ⟨rfl, hf6⟩ := hq
    refine ⟨_, rfl, ?_⟩
    have H6 := H4.fr' hf6
    refine WL.yes rfl rfl rfl hb5 rfl (op_not rfl ?_)
    refine WL.op rfl rfl (op_pickF rfl hb5 rfl ?_)
    refine WL.op rfl rfl (op_move rfl ?_)
    refine WL.split (t := 19) rfl (fun (hb7 : (!(fitB (useOf op) d 1)) = true) => ?_) (fun (hb7 : (!(fitB (useOf op) d 1)) = false) => ?_)
    ·
      have hn7 := (Bool.not_eq_true' _).mp hb7
      refine WL.no rfl rfl rfl hb7 rfl ?_
      refine WL.no rfl rfl rfl hb7 rfl ?_
      refine WL.no rfl rfl rfl hb7 rfl ?_
      refine WL.no rfl rfl rfl hb7 rfl ?_
      refine WL.no rfl rfl rfl hb7 rfl ?_
      refine WL.op rfl rfl (op_pickT rfl hb7 rfl ?_)
      refine WL.op rfl rfl (op_move rfl ?_)
      refine WL.no rfl rfl rfl rfl rfl ?_
      refine WL.no rfl rfl rfl rfl rfl ?_
      refine WL.no rfl rfl rfl rfl rfl ?_
      refine WL.no rfl rfl rfl rfl rfl ?_
      refine WL.no rfl rfl rfl rfl rfl ?_
      refine WL.op rfl rfl (op_pickT rfl rfl rfl ?_)
      refine WL.op rfl rfl (op_move rfl ?_)
      refine WL.no rfl rfl rfl rfl rfl ?_
      refine WL.no rfl rfl rfl rfl rfl ?_
      refine WL.no rfl rfl rfl rfl rfl ?_
      refine WL.no rfl rfl rfl rfl rfl ?_
      refine WL.non rfl rfl rfl rfl ?_
      refine WL.non rfl rfl rfl rfl ?_
      refine WL.non rfl rfl rfl rfl ?_
      refine WL.no rfl rfl rfl rfl rfl ?_
      refine WL.no rfl rfl rfl rfl rfl ?_
      refine WL.op rfl rfl (op_pickT rfl rfl rfl ?_)
      refine WL.nil ?_
      refine WQ.next ?_
      refine WC.yes rfl rfl ?_
      refine WC.seq ?_
      refine WC.region ?_
      refine WL.op rfl rfl (op_assign rfl ?_)
      refine WL.nil ?_
      refine WQ.next ?_
      refine WC.ret ?_
      refine WQ.thenRet ?_
      refine WQ.out (.tmp rfl .nil) ?_
      exact ⟨by simp_all [tup, encE, okB], H6.fr⟩
    ·
      have hn7 := (Bool.not_eq_false' _).mp hb7
      refine WL.yes rfl rfl rfl hb7 rfl (op_move rfl ?_)
      refine WL.yes rfl rfl rfl hb7 rfl (op_fieldAddr rfl Fa.F24_2 ?_)
      refine WL.yes rfl rfl rfl hb7 rfl (op_load rfl (H6.cell (i := 0) rfl rfl) Try.underlying5 rfl ?_)
      refine WL.yes rfl rfl rfl hb7 rfl (op_call (f := 42) rfl Fa.C42 rfl ((check1_ok a 2 (useOf op) (β3 4) _ (H6.cell (i := 1) rfl rfl)).mono (fun e w8 hq => ?_)))
      obtain ⟨rfl, hf8⟩ := hq
      refine ⟨_, rfl, ?_⟩
      have H8 := H6.fr' hf8
      refine WL.yes rfl rfl rfl hb7 rfl (op_not rfl ?_)
      refine WL.op rfl rfl (op_pickF rfl hb7 rfl ?_)
      refine WL.op rfl rfl (op_move rfl ?_)
      refine WL.split (t := 26) rfl (fun (hb9 : (!(fitB (useOf op) a 2)) = true) => ?_) (fun (hb9 : (!(fitB (useOf op) a 2)) = false) => ?_)
      ·
        have hn9 := (Bool.not_eq_true' _).mp hb9
        refine WL.no rfl rfl rfl hb9 rfl ?_
        refine WL.no rfl rfl rfl hb9 rfl ?_
        refine WL.no rfl rfl rfl hb9 rfl ?_
        refine WL.no rfl rfl rfl hb9 rfl ?_
        refine WL.no rfl rfl rfl hb9 rfl ?_
        refine WL.op rfl rfl (op_pickT rfl hb9 rfl ?_)
        refine WL.op rfl rfl (op_move rfl ?_)
        refine WL.no rfl rfl rfl rfl rfl ?_
        refine WL.no rfl rfl rfl rfl rfl ?_
        refine WL.no rfl rfl rfl rfl rfl ?_
        refine WL.no rfl rfl rfl rfl rfl ?_
        refine WL.non rfl rfl rfl rfl ?_
        refine WL.non rfl rfl rfl rfl ?_
        refine WL.non rfl rfl rfl rfl ?_
        refine WL.no rfl rfl rfl rfl rfl ?_
        refine WL.no rfl rfl rfl rfl rfl ?_
        refine WL.op rfl rfl (op_pickT rfl rfl rfl ?_)
        refine WL.nil ?_
        refine WQ.next ?_
        refine WC.yes rfl rfl ?_
        refine WC.seq ?_
        refine WC.region ?_
        refine WL.op rfl rfl (op_assign rfl ?_)
        refine WL.nil ?_
        refine WQ.next ?_
        refine WC.ret ?_
        refine WQ.thenRet ?_
        refine WQ.out (.tmp rfl .nil) ?_
        exact ⟨by simp_all [tup, encE, okB], H8.fr⟩
      ·
        have hn9 := (Bool.not_eq_false' _).mp hb9
        refine WL.yes rfl rfl rfl hb9 rfl (op_move rfl ?_)
        refine WL.yes rfl rfl rfl hb9 rfl (op_fieldAddr rfl Fa.F24_3 ?_)
        refine WL.yes rfl rfl rfl hb9 rfl (op_load rfl (H8.cell (i := 0) rfl rfl) Try.underlying5 rfl ?_)
        refine WL.yes rfl rfl rfl hb9 rfl (op_call (f := 42) rfl Fa.C42 rfl ((check1_ok b 4 (useOf op) (β3 4) _ (H8.cell (i := 1) rfl rfl)).mono (fun e w10 hq => ?_)))
        obtain ⟨rfl, hf10⟩ := hq
        refine ⟨_, rfl, ?_⟩
        have H10 := H8.fr' hf10
        refine WL.yes rfl rfl rfl hb9 rfl (op_not rfl ?_)
        refine WL.op rfl rfl (op_pickF rfl hb9 rfl ?_)
        refine WL.op rfl rfl (op_move rfl ?_)
        refine WL.split (t := 33) rfl (fun (hb11 : (!(fitB (useOf op) b 4)) = true) => ?_) (fun (hb11 : (!(fitB (useOf op) b 4)) = false) => ?_)
        ·
          have hn11 := (Bool.not_eq_true' _).mp hb11
          refine WL.no rfl rfl rfl hb11 rfl ?_
          refine WL.no rfl rfl rfl hb11 rfl ?_
          refine WL.no rfl rfl rfl hb11 rfl ?_
          refine WL.no rfl rfl rfl hb11 rfl ?_
          refine WL.non rfl rfl rfl rfl ?_
          refine WL.non rfl rfl rfl rfl ?_
          refine WL.non rfl rfl rfl rfl ?_
          refine WL.no rfl rfl rfl hb11 rfl ?_
          refine WL.no rfl rfl rfl hb11 rfl ?_
          refine WL.op rfl rfl (op_pickT rfl hb11 rfl ?_)
          refine WL.nil ?_
          refine WQ.next ?_
          refine WC.yes rfl rfl ?_
          refine WC.seq ?_
          refine WC.region ?_
          refine WL.op rfl rfl (op_assign rfl ?_)
          refine WL.nil ?_
          refine WQ.next ?_
          refine WC.ret ?_
          refine WQ.thenRet ?_
          refine WQ.out (.tmp rfl .nil) ?_
          exact ⟨by simp_all [tup, encE, okB], H10.fr⟩
        ·
          have hn11 := (Bool.not_eq_false' _).mp hb11
          refine WL.yes rfl rfl rfl hb11 rfl (op_load rfl (H10.cell (i := 1) rfl rfl) Try.underlying5 rfl ?_)
          refine WL.yes rfl rfl rfl hb11 rfl (op_andU8 (b := 8) rfl rfl ?_)
          refine WL.yes rfl rfl rfl hb11 rfl (op_neqU8 (b := 0) rfl rfl ?_)
          refine WL.yes rfl rfl rfl hb11 rfl (op_move rfl ?_)
          refine WL.split (t := 37) rfl (fun (hb12 : (decide (((useOf op) &&& (8 : UInt8)) ≠ (0 : UInt8))) = true) => ?_) (fun (hb12 : (decide (((useOf op) &&& (8 : UInt8)) ≠ (0 : UInt8))) = false) => ?_)
          ·
            have hc12 := of_decide_eq_true hb12
            refine WL.no rfl rfl rfl hb12 rfl ?_
            refine WL.no rfl rfl rfl hb12 rfl ?_
            refine WL.no rfl rfl rfl hb12 rfl ?_
            refine WL.yes rfl rfl rfl hb11 rfl (op_pickT rfl hb12 rfl ?_)
            refine WL.yes rfl rfl rfl hb11 rfl (op_not rfl ?_)
            refine WL.op rfl rfl (op_pickF rfl hb11 rfl ?_)
            refine WL.nil ?_
            refine WQ.next ?_
            refine WC.no rfl (congrArg Bool.not rfl) ?_
            refine WC.skip ?_
            refine WQ.next ?_
            refine WC.seq ?_
            refine WC.region ?_
            refine WL.op rfl rfl (op_assign rfl ?_)
            refine WL.nil ?_
            refine WQ.next ?_
            refine WC.ret ?_
            refine WQ.out (.tmp rfl .nil) ?_
            exact ⟨by simp_all [tup, encE, okB], H10.fr⟩
          ·
            have hc12 := of_decide_eq_false hb12
            refine WL.yes rfl rfl rfl hb12 rfl (op_fieldAddr rfl Fa.F24_4 ?_)
            refine WL.yes rfl rfl rfl hb12 rfl (op_load rfl (H10.cell (i := 0) rfl rfl) Try.underlying22 rfl ?_)
            refine WL.yes rfl rfl rfl hb12 rfl (op_eqlU32 (b := 0) rfl rfl ?_)
            refine WL.yes rfl rfl rfl hb11 rfl (op_pickF rfl hb12 rfl ?_)
            refine WL.yes rfl rfl rfl hb11 rfl (op_not rfl ?_)
            refine WL.op rfl rfl (op_pickF rfl hb11 rfl ?_)
            refine WL.nil ?_
            refine WQ.next ?_
            refine WC.cond rfl (fun (hb13 : (!(decide (imm = (0 : UInt32)))) = true) => ?_) (fun (hb13 : (!(decide (imm = (0 : UInt32)))) = false) => ?_)
            ·
              have hn13 := (Bool.not_eq_true' _).mp hb13
              refine WC.seq ?_
              refine WC.region ?_
              refine WL.op rfl rfl (op_assign rfl ?_)
              refine WL.nil ?_
              refine WQ.next ?_
              refine WC.ret ?_
              refine WQ.thenRet ?_
              refine WQ.out (.tmp rfl .nil) ?_
              exact ⟨by simp_all [tup, encE, okB], H10.fr⟩
            ·
              have hn13 := (Bool.not_eq_false' _).mp hb13
              refine WC.skip ?_
              refine WQ.next ?_
              refine WC.seq ?_
              refine WC.region ?_
              refine WL.op rfl rfl (op_assign rfl ?_)
              refine WL.nil ?_
              refine WQ.next ?_
              refine WC.ret ?_
              refine WQ.out (.tmp rfl .nil) ?_
              exact ⟨by simp_all [tup, encE, okB], H10.fr⟩
set_option maxRecDepth 100000 in
theorem encode_ok (op d a b : UInt8) (imm : UInt32) (w : World) :
    Calls Try.prog 13 #[(.agg #[(vU8 op), (vU8 d), (vU8 a), (vU8 b), (vU32 imm)])] w (fun e w' => e = .returned (.tuple #[str (encS op d a b imm), vN (encE op d a b imm)]) ∧ Fr [] w w') := by
  refine enter (args := [(.agg #[(vU8 op), (vU8 d), (vU8 a), (vU8 b), (vU32 imm)])]) Try.func13 rfl rfl ?_
  have H0 : Own [] w w [] := Own.start w []
  refine WC.seq ?_
  refine WC.region ?_
  refine WL.op rfl rfl (op_box H0 rfl rfl (fun b1 w1 H1 => ?_))
  refine WL.op rfl rfl (op_assign rfl ?_)
  refine WL.op rfl rfl (op_assign rfl ?_)
  refine WL.nil ?_
  refine WQ.next ?_
  refine WC.seq ?_
  refine WC.seq ?_
  refine WC.region ?_
  refine WL.op rfl rfl (op_loadS (vs := [_, _, _, _, _]) rfl (H1.cells (i := 0) rfl rfl) Try.underlying24 rfl Fa.I24 rfl ?_)
  refine WL.op rfl rfl (op_callF Fa.C18 rfl ((check_ok op d a b imm _).mono (fun e w2 hq => ?_)))
  obtain ⟨rfl, hf2⟩ := hq
  refine ⟨_, rfl, ?_⟩
  have H2 := H1.fr' hf2
  refine WL.op rfl rfl (op_assign rfl ?_)
  refine WL.nil ?_
  refine WQ.next ?_
  refine WC.seq ?_
  refine WC.region ?_
  refine WL.op rfl rfl (op_move rfl ?_)
  refine WL.op rfl rfl (op_neqN (b := 0) rfl rfl ?_)
  refine WL.nil ?_
  refine WQ.next ?_
  refine WC.cond rfl (fun (hb3 : (decide ((encE op d a b imm) ≠ 0)) = true) => ?_) (fun (hb3 : (decide ((encE op d a b imm) ≠ 0)) = false) => ?_)
  ·
    have hc3 := of_decide_eq_true hb3
    refine WC.seq ?_
    refine WC.region ?_
    refine WL.op rfl rfl (op_move rfl ?_)
    refine WL.op rfl rfl (op_assign rfl ?_)
    refine WL.op rfl rfl (op_assign rfl ?_)
    refine WL.nil ?_
    refine WQ.next ?_
    refine WC.ret ?_
    refine WQ.thenRet ?_
    refine WQ.out (.tmp rfl (.tmp rfl .nil)) ?_
    exact ⟨by simp_all [tup, encE, encS], H2.fr⟩
  ·
    have hc3 := of_decide_eq_false hb3
    refine WC.skip ?_
    refine WQ.next ?_
    refine WC.seq ?_
    refine WC.region ?_
    refine WL.op rfl rfl (op_fieldAddr rfl Fa.F24_4 ?_)
    refine WL.op rfl rfl (op_load rfl (H2.cell (i := 0) rfl rfl) Try.underlying22 rfl ?_)
    refine WL.op rfl rfl (op_callF Fa.C36 rfl ((put4_ok (imm) _).mono (fun e w4 hq => ?_)))
    obtain ⟨rfl, hf4⟩ := hq
    refine ⟨_, rfl, ?_⟩
    have H4 := H2.fr' hf4
    refine WL.op rfl rfl (op_move rfl ?_)
    refine WL.op rfl rfl (op_extract rfl rfl ?_)
    refine WL.op rfl rfl (op_extract rfl rfl ?_)
    refine WL.op rfl rfl (op_assign rfl ?_)
    refine WL.op rfl rfl (op_assign rfl ?_)
    refine WL.nil ?_
    refine WQ.next ?_
    refine WC.seq ?_
    refine WC.region ?_
    refine WL.op rfl rfl (op_fieldAddr rfl Fa.F24_0 ?_)
    refine WL.op rfl rfl (op_load rfl (H4.cell (i := 0) rfl rfl) Try.underlying5 rfl ?_)
    refine WL.op rfl rfl (op_fieldAddr rfl Fa.F24_1 ?_)
    refine WL.op rfl rfl (op_load rfl (H4.cell (i := 0) rfl rfl) Try.underlying5 rfl ?_)
    refine WL.op rfl rfl (op_fieldAddr rfl Fa.F24_2 ?_)
    refine WL.op rfl rfl (op_load rfl (H4.cell (i := 0) rfl rfl) Try.underlying5 rfl ?_)
    refine WL.op rfl rfl (op_shlU8 (s := 4) rfl rfl ?_)
    refine WL.op rfl rfl (op_orU8 rfl rfl ?_)
    refine WL.op rfl rfl (op_fieldAddr rfl Fa.F24_3 ?_)
    refine WL.op rfl rfl (op_load rfl (H4.cell (i := 0) rfl rfl) Try.underlying5 rfl ?_)
    refine WL.op rfl rfl (op_buildSlice (cs := [_, _, _, _]) H4 Try.underlying31 Fa.I5 rfl rfl rfl rfl (by decide) (by decide) (fun b5 w5 H5 => ?_))
    refine WL.op rfl rfl (op_bytesStr (l := [op, (d ||| (shlU8 a 4)), b, 0]) Try.underlying31 Try.underlying5 Try.underlying9 rfl (H5.arrR (i := 1) rfl) rfl ?_)
    refine WL.op rfl rfl (op_move rfl ?_)
    refine WL.op rfl rfl (op_addStr rfl rfl (by have := le4_length imm; simp; omega) ?_)
    refine WL.op rfl rfl (op_assign rfl ?_)
    refine WL.op rfl rfl (op_assign rfl ?_)
    refine WL.nil ?_
    refine WQ.next ?_
    refine WC.ret ?_
    refine WQ.out (.tmp rfl (.tmp rfl .nil)) ?_
    exact ⟨by simp_all [tup, encE, encS], H5.fr⟩
set_option maxRecDepth 100000 in
theorem decode_ok (s : List UInt8) (w : World) :
    Calls Try.prog 14 #[(str s)] w (fun e w' => e = .returned (.tuple #[(.agg #[vU8 (decOp s), vU8 (decD s), vU8 (decA s), vU8 (decBr s), vU32 (decI s)]), vN (decE s)]) ∧ Fr [] w w') := by
  refine enter (args := [(str s)]) Try.func14 rfl rfl ?_
  have H0 : Own [] w w [] := Own.start w []
  refine WC.seq ?_
  refine WC.region ?_
  refine WL.op rfl rfl (op_alloc H0 Fa.I24 (fun b1 w1 H1 => ?_))
  refine WL.op rfl rfl (op_assign rfl ?_)
  refine WL.nil ?_
  refine WQ.next ?_
  refine WC.seq ?_
  refine WC.seq ?_
  refine WC.region ?_
  refine WL.op rfl rfl (op_move rfl ?_)
  refine WL.op rfl rfl (op_lenStr Try.underlying9 rfl ?_)
  refine WL.op rfl rfl (op_neqN (b := 8) rfl rfl ?_)
  refine WL.op rfl rfl (op_move rfl ?_)
  refine WL.split (t := 10) rfl (fun (hb2 : (decide (s.length ≠ 8)) = true) => ?_) (fun (hb2 : (decide (s.length ≠ 8)) = false) => ?_)
  ·
    have hc2 := of_decide_eq_true hb2
    refine WL.no rfl rfl rfl hb2 rfl ?_
    refine WL.no rfl rfl rfl hb2 rfl ?_
    refine WL.no rfl rfl rfl hb2 rfl ?_
    refine WL.op rfl rfl (op_pickT rfl hb2 rfl ?_)
    refine WL.nil ?_
    refine WQ.next ?_
    refine WC.yes rfl rfl ?_
    refine WC.seq ?_
    refine WC.region ?_
    refine WL.op rfl rfl (op_build (cs := [_, _, _, _, _]) Fa.I24 Fa.PL24 rfl rfl ?_)
    refine WL.op rfl rfl (op_storeBW (i := 0) H1 rfl rfl rfl rfl rfl Fa.I24 (fun w3 H3 => ?_))
    refine WL.op rfl rfl (op_assign rfl ?_)
    refine WL.nil ?_
    refine WQ.next ?_
    refine WC.ret ?_
    refine WQ.thenRet ?_
    refine WQ.out (.cell rfl (run_loadVarS (vs := [_, _, _, _, _]) (H3.cells (i := 0) rfl rfl) Try.underlying24 rfl Fa.I24 rfl) (.tmp rfl .nil)) ?_
    exact ⟨by first | (simp_all [tup, decE, decOp, decD, decA, decBr, decI, decB, rawOk]; done) | simp_all [tup, decE, decOp, decD, decA, decBr, decI, decB, rawOk, encE], H3.fr⟩
  ·
    have hc2 := of_decide_eq_false hb2
    refine WL.yes rfl rfl rfl hb2 rfl (op_move rfl ?_)
    refine WL.yes rfl rfl rfl hb2 rfl (op_indexStrD (m := 3) Try.underlying9 rfl rfl (by omega) ?_)
    refine WL.yes rfl rfl rfl hb2 rfl (op_neqU8 (b := 0) rfl rfl ?_)
    refine WL.op rfl rfl (op_pickF rfl hb2 rfl ?_)
    refine WL.nil ?_
    refine WQ.next ?_
    refine WC.cond rfl (fun (hb4 : (decide ((s.getD 3 0) ≠ (0 : UInt8))) = true) => ?_) (fun (hb4 : (decide ((s.getD 3 0) ≠ (0 : UInt8))) = false) => ?_)
    ·
      have hc4 := of_decide_eq_true hb4
      refine WC.seq ?_
      refine WC.region ?_
      refine WL.op rfl rfl (op_build (cs := [_, _, _, _, _]) Fa.I24 Fa.PL24 rfl rfl ?_)
      refine WL.op rfl rfl (op_storeBW (i := 0) H1 rfl rfl rfl rfl rfl Fa.I24 (fun w5 H5 => ?_))
      refine WL.op rfl rfl (op_assign rfl ?_)
      refine WL.nil ?_
      refine WQ.next ?_
      refine WC.ret ?_
      refine WQ.thenRet ?_
      refine WQ.out (.cell rfl (run_loadVarS (vs := [_, _, _, _, _]) (H5.cells (i := 0) rfl rfl) Try.underlying24 rfl Fa.I24 rfl) (.tmp rfl .nil)) ?_
      exact ⟨by first | (simp_all [tup, decE, decOp, decD, decA, decBr, decI, decB, rawOk]; done) | simp_all [tup, decE, decOp, decD, decA, decBr, decI, decB, rawOk, encE], H5.fr⟩
    ·
      have hc4 := of_decide_eq_false hb4
      refine WC.skip ?_
      refine WQ.next ?_
      refine WC.seq ?_
      refine WC.region ?_
      refine WL.op rfl rfl (op_move rfl ?_)
      refine WL.op rfl rfl (op_sliceStrLo (a := 4) Try.underlying9 rfl rfl (by omega) ?_)
      refine WL.op rfl rfl (op_callF Fa.C37 rfl ((get_ok (s.drop 4) _).mono (fun e w6 hq => ?_)))
      obtain ⟨rfl, hf6⟩ := hq
      refine ⟨_, rfl, ?_⟩
      have H6 := H1.fr' hf6
      refine WL.op rfl rfl (op_move rfl ?_)
      refine WL.op rfl rfl (op_extract rfl rfl ?_)
      refine WL.op rfl rfl (op_extract rfl rfl ?_)
      refine WL.op rfl rfl (op_assign rfl ?_)
      refine WL.op rfl rfl (op_assign rfl ?_)
      refine WL.nil ?_
      refine WQ.next ?_
      refine WC.seq ?_
      refine WC.draw 13 Fa.M H6 (HW.op rfl (fun w1 H1 => op_move rfl ⟨rfl, Fr.refl _ _⟩) (HW.op rfl (fun w1 H1 => op_indexStrD (m := 0) Try.underlying9 rfl rfl (by omega) ⟨rfl, Fr.refl _ _⟩) (HW.op rfl (fun w1 H1 => op_move rfl ⟨rfl, Fr.refl _ _⟩) (HW.op rfl (fun w1 H1 => op_indexStrD (m := 1) Try.underlying9 rfl rfl (by omega) ⟨rfl, Fr.refl _ _⟩) (HW.op rfl (fun w1 H1 => op_andU8 (b := 15) rfl rfl ⟨rfl, Fr.refl _ _⟩) (HW.op rfl (fun w1 H1 => op_move rfl ⟨rfl, Fr.refl _ _⟩) (HW.op rfl (fun w1 H1 => op_indexStrD (m := 1) Try.underlying9 rfl rfl (by omega) ⟨rfl, Fr.refl _ _⟩) (HW.op rfl (fun w1 H1 => op_shrU8 (s := 4) rfl rfl ⟨rfl, Fr.refl _ _⟩) (HW.op rfl (fun w1 H1 => op_move rfl ⟨rfl, Fr.refl _ _⟩) (HW.op rfl (fun w1 H1 => op_indexStrD (m := 2) Try.underlying9 rfl rfl (by omega) ⟨rfl, Fr.refl _ _⟩) (HW.op rfl (fun w1 H1 => op_move rfl ⟨rfl, Fr.refl _ _⟩) (HW.op rfl (fun w1 H1 => op_build (cs := [_, _, _, _, _]) Fa.I24 Fa.PL24 rfl rfl ⟨rfl, Fr.refl _ _⟩) (HW.flt (mk := fun bq => ptr bq 0) (ent := fun bq => .blk bq _ _) rfl (fun w1 => op_alloc (Own.start w1 []) Fa.I24 (fun bq w2 H2 => ⟨bq, rfl, H2, True.intro⟩))  HW.nil))))))))))))) (by kernel_rfl) ?_
      intro β7 w7 H7
      refine WL.op rfl rfl (op_storeBW (i := 1) H7 rfl rfl rfl rfl rfl Fa.I24 (fun w8 H8 => ?_))
      refine WL.nil ?_
      refine WQ.next ?_
      refine WC.seq ?_
      refine WC.seq ?_
      refine WC.region ?_
      refine WL.op rfl rfl (op_loadS (vs := [_, _, _, _, _]) rfl (H8.cells (i := 1) rfl rfl) Try.underlying24 rfl Fa.I24 rfl ?_)
      refine WL.op rfl rfl (op_callF Fa.C18 rfl ((check_ok (s.getD 0 0) ((s.getD 1 0) &&& (15 : UInt8)) (shrU8 (s.getD 1 0) 4) (s.getD 2 0) (getV (s.drop 4)) _).mono (fun e w9 hq => ?_)))
      obtain ⟨rfl, hf9⟩ := hq
      refine ⟨_, rfl, ?_⟩
      have H9 := H8.fr' hf9
      refine WL.op rfl rfl (op_neqN (b := 0) rfl rfl ?_)
      refine WL.nil ?_
      refine WQ.next ?_
      refine WC.cond rfl (fun (hb10 : (decide ((encE (s.getD 0 0) ((s.getD 1 0) &&& (15 : UInt8)) (shrU8 (s.getD 1 0) 4) (s.getD 2 0) (getV (s.drop 4))) ≠ 0)) = true) => ?_) (fun (hb10 : (decide ((encE (s.getD 0 0) ((s.getD 1 0) &&& (15 : UInt8)) (shrU8 (s.getD 1 0) 4) (s.getD 2 0) (getV (s.drop 4))) ≠ 0)) = false) => ?_)
      ·
        have hc10 := of_decide_eq_true hb10
        refine WC.seq ?_
        refine WC.region ?_
        refine WL.op rfl rfl (op_build (cs := [_, _, _, _, _]) Fa.I24 Fa.PL24 rfl rfl ?_)
        refine WL.op rfl rfl (op_storeBW (i := 0) H9 rfl rfl rfl rfl rfl Fa.I24 (fun w11 H11 => ?_))
        refine WL.op rfl rfl (op_assign rfl ?_)
        refine WL.nil ?_
        refine WQ.next ?_
        refine WC.ret ?_
        refine WQ.thenRet ?_
        refine WQ.out (.cell rfl (run_loadVarS (vs := [_, _, _, _, _]) (H11.cells (i := 0) rfl rfl) Try.underlying24 rfl Fa.I24 rfl) (.tmp rfl .nil)) ?_
        exact ⟨by first | (simp_all [tup, decE, decOp, decD, decA, decBr, decI, decB, rawOk]; done) | simp_all [tup, decE, decOp, decD, decA, decBr, decI, decB, rawOk, encE], H11.fr⟩
      ·
        have hc10 := of_decide_eq_false hb10
        refine WC.skip ?_
        refine WQ.next ?_
        refine WC.seq ?_
        refine WC.region ?_
        refine WL.op rfl rfl (op_loadS (vs := [_, _, _, _, _]) rfl (H9.cells (i := 1) rfl rfl) Try.underlying24 rfl Fa.I24 rfl ?_)
        refine WL.op rfl rfl (op_storeBW (i := 0) H9 rfl rfl rfl rfl rfl Fa.I24 (fun w12 H12 => ?_))
        refine WL.op rfl rfl (op_assign rfl ?_)
        refine WL.nil ?_
        refine WQ.next ?_
        refine WC.ret ?_
        refine WQ.out (.cell rfl (run_loadVarS (vs := [_, _, _, _, _]) (H12.cells (i := 0) rfl rfl) Try.underlying24 rfl Fa.I24 rfl) (.tmp rfl .nil)) ?_
        exact ⟨by first | (simp_all [tup, decE, decOp, decD, decA, decBr, decI, decB, rawOk]; done) | simp_all [tup, decE, decOp, decD, decA, decBr, decI, decB, rawOk, encE], H12.fr⟩
end Go.Proofs.Ytfdlkkhhakjgeaa
