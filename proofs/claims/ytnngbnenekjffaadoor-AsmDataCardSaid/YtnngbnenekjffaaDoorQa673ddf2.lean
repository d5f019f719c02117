/- General lemmas and walks: DInsn, DRel2, DRel3, DRel4, DAsm, DAsm2, DAsm3, DAsm4, DAsm5, DAsm6. No condition but what each theorem names. -/
import Derived.Test.YtnngbnenekjffaaDoorQ88a9bbe8
import Derived.Test.YtnngbnenekjffaaDoorQa07af9e6
/-! from DInsn -/
namespace Go.Proofs.YtnngbnenekjffaaDoor
open Go.Owl Go.Spec
set_option maxRecDepth 100000 in
theorem put4_ok (v : UInt32) (w : World) :
    Calls Tryd.prog 70 #[(vU32 v), (vN 4)] w (fun e w' => e = .returned (.tuple #[str (le4 v), vN 0]) ∧ Fr [] w w') := by
  refine enter (args := [(vU32 v), (vN 4)]) Tryd.func70 rfl rfl ?_
  have H0 : Own [] w w [] := Own.start w []
  refine WC.seq ?_
  refine WC.region ?_
  refine WL.op rfl rfl (op_assign rfl ?_)
  refine WL.op rfl rfl (op_assign rfl ?_)
  refine WL.nil ?_
  refine WQ.next ?_
  refine WC.seq ?_
  refine WC.block ?_
  refine WC.seq ?_
  refine WC.region ?_
  refine WL.op rfl rfl (op_move rfl ?_)
  refine WL.op rfl rfl (op_lssN (b := 1) rfl rfl ?_)
  refine WL.op rfl rfl (op_move rfl ?_)
  refine WL.yes rfl rfl rfl (by decide) rfl (op_move rfl ?_)
  refine WL.yes rfl rfl rfl (by decide) rfl (op_gtrN (b := 4) rfl rfl ?_)
  refine WL.op rfl rfl (op_pickF rfl (by decide) rfl ?_)
  refine WL.op rfl rfl (op_assign rfl ?_)
  refine WL.nil ?_
  refine WQ.next ?_
  refine WC.no rfl (by decide) ?_
  refine WC.seq ?_
  refine WC.region ?_
  refine WL.op rfl rfl (op_move rfl ?_)
  refine WL.op rfl rfl (op_lssN (b := 4) rfl rfl ?_)
  refine WL.op rfl rfl (op_move rfl ?_)
  refine WL.no rfl rfl rfl (by decide) rfl ?_
  refine WL.no rfl rfl rfl (by decide) rfl ?_
  refine WL.no rfl rfl rfl (by decide) rfl ?_
  refine WL.no rfl rfl rfl (by decide) rfl ?_
  refine WL.no rfl rfl rfl (by decide) rfl ?_
  refine WL.op rfl rfl (op_pickF rfl (by decide) rfl ?_)
  refine WL.op rfl rfl (op_assign rfl ?_)
  refine WL.nil ?_
  refine WQ.next ?_
  refine WC.no rfl rfl ?_
  refine WC.skip ?_
  refine WQ.inNormal ?_
  refine WQ.next ?_
  refine WC.seq ?_
  refine WC.region ?_
  refine WL.op rfl rfl (op_move rfl ?_)
  refine WL.op rfl rfl (op_convU32U8 (hs := Tryd.underlying22) (hd := Tryd.underlying5) rfl ?_)
  refine WL.op rfl rfl (op_move rfl ?_)
  refine WL.op rfl rfl (op_shrU32 (s := 8) rfl rfl ?_)
  refine WL.op rfl rfl (op_convU32U8 (hs := Tryd.underlying22) (hd := Tryd.underlying5) rfl ?_)
  refine WL.op rfl rfl (op_move rfl ?_)
  refine WL.op rfl rfl (op_shrU32 (s := 16) rfl rfl ?_)
  refine WL.op rfl rfl (op_convU32U8 (hs := Tryd.underlying22) (hd := Tryd.underlying5) rfl ?_)
  refine WL.op rfl rfl (op_move rfl ?_)
  refine WL.op rfl rfl (op_shrU32 (s := 24) rfl rfl ?_)
  refine WL.op rfl rfl (op_convU32U8 (hs := Tryd.underlying22) (hd := Tryd.underlying5) rfl ?_)
  refine WL.op rfl rfl (op_buildSlice (cs := [_, _, _, _]) H0 Tryd.underlying58 Fa.I5 rfl rfl rfl rfl (by decide) (by decide) (fun b1 w1 H1 => ?_))
  refine WL.op rfl rfl (op_move rfl ?_)
  refine WL.op rfl rfl (op_cutHi Tryd.underlying58 Fa.I5 rfl (H1.arrR (i := 0) rfl) rfl (by omega) ?_)
  refine WL.op rfl rfl (op_callF Fa.C89 rfl ((text_ok _ _ (([(UInt8.ofNat v.toNat), (UInt8.ofNat (shrU32 v 8).toNat), (UInt8.ofNat (shrU32 v 16).toNat), (UInt8.ofNat (shrU32 v 24).toNat)].take 4)) _ (((H1.arrR (i := 0) rfl)).cutHiM (f := vU8) (l := [(UInt8.ofNat v.toNat), (UInt8.ofNat (shrU32 v 8).toNat), (UInt8.ofNat (shrU32 v 16).toNat), (UInt8.ofNat (shrU32 v 24).toNat)]) (b := 4) (by omega))).mono (fun e w2 hq => ?_)))
  obtain ⟨rfl, hf2⟩ := hq
  refine ⟨_, rfl, ?_⟩
  have H2 := H1.fr' hf2
  refine WL.op rfl rfl (op_assign rfl ?_)
  refine WL.op rfl rfl (op_assign rfl ?_)
  refine WL.nil ?_
  refine WQ.next ?_
  refine WC.ret ?_
  refine WQ.out (.tmp rfl (.tmp rfl .nil)) ?_
  exact ⟨rfl, H2.fr⟩
set_option maxRecDepth 100000 in
theorem table_ok  (w : World) :
    Calls Tryd.prog 85 #[] w (fun e w' => e = .returned (.agg (tabL.map vU8).toArray) ∧ Fr [] w w') := by
  refine enter (args := []) Tryd.func85 rfl rfl ?_
  have H0 : Own [] w w [] := Own.start w []
  refine WC.seq ?_
  refine WC.region ?_
  refine WL.op rfl rfl (op_alloc H0 Fa.I130 (fun b1 w1 H1 => ?_))
  refine WL.nil ?_
  refine WQ.next ?_
  refine WC.seq ?_
  refine WC.region ?_
  refine WL.op rfl rfl (op_buildA (cs := tab0.map vU8) Fa.I130 Tryd.underlying130 Fa.I5 rfl (by kernel_rfl) ?_)
  refine WL.op rfl rfl (op_alloc H1 Fa.I130 (fun b2 w2 H2 => ?_))
  refine WL.op rfl rfl (op_storeBV (i := 1) H2 rfl rfl rfl (by kernel_rfl) (by kernel_rfl) (by kernel_rfl) Fa.I130 (fun w3 H3 => ?_))
  refine WL.nil ?_
  refine WQ.next ?_
  refine WC.seq ?_
  refine WC.seq ?_
  refine WC.region ?_
  refine WL.op rfl rfl (op_assign rfl ?_)
  refine WL.nil ?_
  refine WQ.next ?_
  refine WC.block ?_
  refine WC.loop (α := Nat) (fun k => [(0, (ptr b1 0)), (1, (ptr b2 0)), (2, (vN (k + 1)))]) (fun k w' => (k ≤ 14) ∧ Own [] w w' [.blk b1 (List.replicate 256 (vU8 0)) 130, .blk b2 ((tabTo k).map vU8) 130]) (fun k => 14 - k) 0 ⟨(by omega), H3⟩ ⟨rfl, rfl, rfl, trivial⟩ ?_
  rintro k w4 ⟨hinv, H4⟩
  show WC _ _ _ _ _ [(0, (ptr b1 0)), (1, (ptr b2 0)), (2, (vN (k + 1)))] _
  refine WC.seq ?_
  refine WC.seq ?_
  refine WC.region ?_
  refine WL.op rfl rfl (op_move rfl ?_)
  refine WL.op rfl rfl (op_leqN (b := 14) rfl rfl ?_)
  refine WL.nil ?_
  refine WQ.next ?_
  refine WC.cond rfl (fun (hb5 : (decide ((k + 1) ≤ 14)) = true) => ?_) (fun (hb5 : (decide ((k + 1) ≤ 14)) = false) => ?_)
  ·
    have hc5 := of_decide_eq_true hb5
    refine WC.skip ?_
    refine WQ.next ?_
    refine WC.seq ?_
    refine WC.block ?_
    refine WC.region ?_
    refine WL.op rfl rfl (op_move rfl ?_)
    refine WL.op rfl rfl (op_indexAddrA1 Tryd.underlying130 Fa.I5 rfl rfl (by omega) ?_)
    refine WL.op rfl rfl (op_storeB (i := 1) H4 rfl rfl rfl (by rw [Nat.blt_eq, List.length_map, tabTo_length]; omega) rfl Fa.I5 (fun w6 H6 => ?_))
    refine WL.nil ?_
    refine WQ.inNormal ?_
    refine WQ.next ?_
    refine WC.region ?_
    refine WL.op rfl rfl (op_move rfl ?_)
    refine WL.op rfl rfl (op_addN (b := 1) rfl rfl (by omega) ?_)
    refine WL.op rfl rfl (op_assign rfl ?_)
    refine WL.nil ?_
    exact WQ.round (k + 1) ⟨(by omega), (by rw [show (tabTo (k + 1)).map vU8 = ((tabTo k).map vU8).set (0 + (k + 1)) (vU8 7) from by rw [Nat.zero_add, set_map vU8]; rfl]; exact H6)⟩ ⟨rfl, rfl, rfl, trivial⟩ (by omega)
  ·
    have hc5 := of_decide_eq_false hb5
    refine WC.exit ?_
    refine WQ.thenExit ?_
    refine WQ.thenExit ?_
    refine WQ.inHere ?_
    refine WQ.next ?_
    refine WC.seq ?_
    refine WC.region ?_
    refine WL.op rfl rfl (op_loadS rfl (H4.cellsW (i := 1) rfl) Tryd.underlying130 rfl Fa.I130 (by rw [List.length_map, tabTo_length]) ?_)
    refine WL.op rfl rfl (op_storeBV (i := 0) H4 rfl rfl rfl (by rw [List.length_map, tabTo_length, List.length_replicate]; rfl) (one_U8 _) (by rw [List.length_map, tabTo_length]) Fa.I130 (fun w7 H7 => ?_))
    refine WL.nil ?_
    refine WQ.next ?_
    refine WC.ret ?_
    refine WQ.out (.cell rfl (run_loadVarS (H7.cellsW (i := 0) rfl) Tryd.underlying130 rfl Fa.I130 (by rw [List.length_map, tabTo_length])) .nil) ?_
    exact ⟨by have hk : k = 14 := (by omega); subst hk; rfl, H7.fr⟩
set_option maxRecDepth 100000 in
theorem check1_ok (n bit u : UInt8) (q : Nat) (w : World) (hc : w.cell? ⟨q, 0, none⟩ = some (vU8 u)) :
    Calls Tryd.prog 86 #[(vU8 n), (vU8 bit), (ptr q 0)] w (fun e w' => e = .returned (.bool (fitB u n bit)) ∧ Fr [] w w') := by
  refine enter (args := [(vU8 n), (vU8 bit), (ptr q 0)]) Tryd.func86 rfl rfl ?_
  have H0 : Own [] w w [] := Own.start w []
  refine WC.seq ?_
  refine WC.region ?_
  refine WL.op rfl rfl (op_assign rfl ?_)
  refine WL.nil ?_
  refine WQ.next ?_
  refine WC.seq ?_
  refine WC.region ?_
  refine WL.op rfl rfl (op_move rfl ?_)
  refine WL.op rfl rfl (op_eqlU8 (b := 0) rfl rfl ?_)
  refine WL.op rfl rfl (op_move rfl ?_)
  refine WL.split (t := 8) rfl (fun (hb1 : (decide (n = (0 : UInt8))) = true) => ?_) (fun (hb1 : (decide (n = (0 : UInt8))) = false) => ?_)
  ·
    have hc1 := of_decide_eq_true hb1
    refine WL.no rfl rfl rfl hb1 rfl ?_
    refine WL.no rfl rfl rfl hb1 rfl ?_
    refine WL.no rfl rfl rfl hb1 rfl ?_
    refine WL.no rfl rfl rfl hb1 rfl ?_
    refine WL.no rfl rfl rfl hb1 rfl ?_
    refine WL.non rfl rfl rfl rfl ?_
    refine WL.non rfl rfl rfl rfl ?_
    refine WL.no rfl rfl rfl hb1 rfl ?_
    refine WL.op rfl rfl (op_pickT rfl hb1 rfl ?_)
    refine WL.op rfl rfl (op_assign rfl ?_)
    refine WL.nil ?_
    refine WQ.next ?_
    refine WC.ret ?_
    refine WQ.out (.tmp rfl .nil) ?_
    exact ⟨by simp_all [tup, fitB], H0.fr⟩
  ·
    have hc1 := of_decide_eq_false hb1
    refine WL.yes rfl rfl rfl hb1 rfl (op_load rfl hc Tryd.underlying5 rfl ?_)
    refine WL.yes rfl rfl rfl hb1 rfl (op_move rfl ?_)
    refine WL.yes rfl rfl rfl hb1 rfl (op_andU8 rfl rfl ?_)
    refine WL.yes rfl rfl rfl hb1 rfl (op_neqU8 (b := 0) rfl rfl ?_)
    refine WL.yes rfl rfl rfl hb1 rfl (op_move rfl ?_)
    refine WL.split (t := 13) rfl (fun (hb2 : (decide ((u &&& bit) ≠ (0 : UInt8))) = true) => ?_) (fun (hb2 : (decide ((u &&& bit) ≠ (0 : UInt8))) = false) => ?_)
    ·
      have hc2 := of_decide_eq_true hb2
      refine WL.yes rfl rfl rfl hb2 rfl (op_move rfl ?_)
      refine WL.yes rfl rfl rfl hb2 rfl (op_lssU8 (b := 16) rfl rfl ?_)
      refine WL.yes rfl rfl rfl hb1 rfl (op_pickT rfl hb2 rfl ?_)
      refine WL.op rfl rfl (op_pickF rfl hb1 rfl ?_)
      refine WL.op rfl rfl (op_assign rfl ?_)
      refine WL.nil ?_
      refine WQ.next ?_
      refine WC.ret ?_
      refine WQ.out (.tmp rfl .nil) ?_
      exact ⟨by simp_all [tup, fitB], H0.fr⟩
    ·
      have hc2 := of_decide_eq_false hb2
      refine WL.no rfl rfl rfl hb2 rfl ?_
      refine WL.no rfl rfl rfl hb2 rfl ?_
      refine WL.yes rfl rfl rfl hb1 rfl (op_pickF rfl hb2 rfl ?_)
      refine WL.op rfl rfl (op_pickF rfl hb1 rfl ?_)
      refine WL.op rfl rfl (op_assign rfl ?_)
      refine WL.nil ?_
      refine WQ.next ?_
      refine WC.ret ?_
      refine WQ.out (.tmp rfl .nil) ?_
      exact ⟨by simp_all [tup, fitB], H0.fr⟩
set_option maxRecDepth 100000 in
theorem check_ok (op d a b : UInt8) (imm : UInt32) (w : World) :
    Calls Tryd.prog 62 #[(.agg #[(vU8 op), (vU8 d), (vU8 a), (vU8 b), (vU32 imm)])] w (fun e w' => e = .returned (vN (encE op d a b imm)) ∧ Fr [] w w') := by
  refine enter (args := [(.agg #[(vU8 op), (vU8 d), (vU8 a), (vU8 b), (vU32 imm)])]) Tryd.func62 rfl rfl ?_
  have H0 : Own [] w w [] := Own.start w []
  refine WC.seq ?_
  refine WC.region ?_
  refine WL.op rfl rfl (op_box H0 rfl rfl (fun b1 w1 H1 => ?_))
  refine WL.op rfl rfl (op_assign rfl ?_)
  refine WL.nil ?_
  refine WQ.next ?_
  refine WC.seq ?_
  refine WC.draw 5 Fa.M H1 (HW.op rfl (fun w1 H1 => op_callF Fa.C85 rfl ((table_ok _).mono (fun e w2 hq => ⟨_, hq.1, rfl, hq.2⟩))) (HW.op rfl (fun w1 H1 => op_fieldAddr rfl Fa.F61_0 ⟨rfl, Fr.refl _ _⟩) (HW.op rfl (fun w1 H1 => op_load rfl (H1.cell (i := 0) rfl rfl) Tryd.underlying5 rfl ⟨rfl, Fr.refl _ _⟩) (HW.op rfl (fun w1 H1 => op_indexA1 (cs := (tabL.map vU8)) Tryd.underlying130 Fa.I5 Tryd.underlying5 rfl rfl rfl op.toNat_lt (get_map vU8 0 (by rw [tabL, tabTo_length]; exact op.toNat_lt)) ⟨rfl, Fr.refl _ _⟩) (HW.flt (mk := fun bq => ptr bq.1 0) (ent := fun bq => .blk bq.1 _ _) rfl (fun w1 _ => op_alloc (Own.start w1 []) Fa.I5 (fun bq w2 H2 => ⟨(bq, undef), rfl, H2, True.intro⟩))  HW.nil))))) (by kernel_rfl) ?_
  intro β3 w3 H3
  refine WL.op rfl rfl (op_storeB (i := 1) H3 rfl rfl rfl rfl rfl Fa.I5 (fun w4 H4 => ?_))
  refine WL.nil ?_
  refine WQ.next ?_
  refine WC.seq ?_
  refine WC.region ?_
  refine WL.op rfl rfl (op_makeFunc rfl rfl ?_)
  refine WL.op rfl rfl (op_assign rfl ?_)
  refine WL.nil ?_
  refine WQ.next ?_
  refine WC.seq ?_
  refine WC.seq ?_
  refine WC.region ?_
  refine WL.op rfl rfl (op_load rfl (H4.cell (i := 1) rfl rfl) Tryd.underlying5 rfl ?_)
  refine WL.op rfl rfl (op_eqlU8 (b := 0) rfl rfl ?_)
  refine WL.op rfl rfl (op_move rfl ?_)
  refine WL.split (t := 12) rfl (fun (hb5 : (decide ((useOf op) = (0 : UInt8))) = true) => ?_) (fun (hb5 : (decide ((useOf op) = (0 : UInt8))) = false) => ?_)
  ·
    have hc5 := of_decide_eq_true hb5
    refine WL.no rfl rfl rfl hb5 rfl ?_
    refine WL.no rfl rfl rfl hb5 rfl ?_
    refine WL.no rfl rfl rfl hb5 rfl ?_
    refine WL.no rfl rfl rfl hb5 rfl ?_
    refine WL.no rfl rfl rfl hb5 rfl ?_
    refine WL.op rfl rfl (op_pickT rfl hb5 rfl ?_)
    refine WL.op rfl rfl (op_move rfl ?_)
    refine WL.no rfl rfl rfl rfl rfl ?_
    refine WL.no rfl rfl rfl rfl rfl ?_
    refine WL.no rfl rfl rfl rfl rfl ?_
    refine WL.no rfl rfl rfl rfl rfl ?_
    refine WL.no rfl rfl rfl rfl rfl ?_
    refine WL.op rfl rfl (op_pickT rfl rfl rfl ?_)
    refine WL.op rfl rfl (op_move rfl ?_)
    refine WL.no rfl rfl rfl rfl rfl ?_
    refine WL.no rfl rfl rfl rfl rfl ?_
    refine WL.no rfl rfl rfl rfl rfl ?_
    refine WL.no rfl rfl rfl rfl rfl ?_
    refine WL.no rfl rfl rfl rfl rfl ?_
    refine WL.op rfl rfl (op_pickT rfl rfl rfl ?_)
    refine WL.op rfl rfl (op_move rfl ?_)
    refine WL.no rfl rfl rfl rfl rfl ?_
    refine WL.no rfl rfl rfl rfl rfl ?_
    refine WL.no rfl rfl rfl rfl rfl ?_
    refine WL.no rfl rfl rfl rfl rfl ?_
    refine WL.non rfl rfl rfl rfl ?_
    refine WL.non rfl rfl rfl rfl ?_
    refine WL.non rfl rfl rfl rfl ?_
    refine WL.no rfl rfl rfl rfl rfl ?_
    refine WL.no rfl rfl rfl rfl rfl ?_
    refine WL.op rfl rfl (op_pickT rfl rfl rfl ?_)
    refine WL.nil ?_
    refine WQ.next ?_
    refine WC.yes rfl rfl ?_
    refine WC.seq ?_
    refine WC.region ?_
    refine WL.op rfl rfl (op_assign rfl ?_)
    refine WL.nil ?_
    refine WQ.next ?_
    refine WC.ret ?_
    refine WQ.thenRet ?_
    refine WQ.out (.tmp rfl .nil) ?_
    exact ⟨by simp_all [tup, encE, okB], H4.fr⟩
  ·
    have hc5 := of_decide_eq_false hb5
    refine WL.yes rfl rfl rfl hb5 rfl (op_move rfl ?_)
    refine WL.yes rfl rfl rfl hb5 rfl (op_fieldAddr rfl Fa.F61_1 ?_)
    refine WL.yes rfl rfl rfl hb5 rfl (op_load rfl (H4.cell (i := 0) rfl rfl) Tryd.underlying5 rfl ?_)
    refine WL.yes rfl rfl rfl hb5 rfl (op_call (f := 86) rfl Fa.C86 rfl ((check1_ok d 1 (useOf op) (β3 4).1 _ (H4.cell (i := 1) rfl rfl)).mono (fun e w6 hq => ?_)))
    obtain ⟨rfl, hf6⟩ := hq
    refine ⟨_, rfl, ?_⟩
    have H6 := H4.fr' hf6
    refine WL.yes rfl rfl rfl hb5 rfl (op_not rfl ?_)
    refine WL.op rfl rfl (op_pickF rfl hb5 rfl ?_)
    refine WL.op rfl rfl (op_move rfl ?_)
    refine WL.split (t := 19) rfl (fun (hb7 : (!(fitB (useOf op) d 1)) = true) => ?_) (fun (hb7 : (!(fitB (useOf op) d 1)) = false) => ?_)
    ·
      have hn7 := (Bool.not_eq_true' _).mp hb7
      refine WL.no rfl rfl rfl hb7 rfl ?_
      refine WL.no rfl rfl rfl hb7 rfl ?_
      refine WL.no rfl rfl rfl hb7 rfl ?_
      refine WL.no rfl rfl rfl hb7 rfl ?_
      refine WL.no rfl rfl rfl hb7 rfl ?_
      refine WL.op rfl rfl (op_pickT rfl hb7 rfl ?_)
      refine WL.op rfl rfl (op_move rfl ?_)
      refine WL.no rfl rfl rfl rfl rfl ?_
      refine WL.no rfl rfl rfl rfl rfl ?_
      refine WL.no rfl rfl rfl rfl rfl ?_
      refine WL.no rfl rfl rfl rfl rfl ?_
      refine WL.no rfl rfl rfl rfl rfl ?_
      refine WL.op rfl rfl (op_pickT rfl rfl rfl ?_)
      refine WL.op rfl rfl (op_move rfl ?_)
      refine WL.no rfl rfl rfl rfl rfl ?_
      refine WL.no rfl rfl rfl rfl rfl ?_
      refine WL.no rfl rfl rfl rfl rfl ?_
      refine WL.no rfl rfl rfl rfl rfl ?_
      refine WL.non rfl rfl rfl rfl ?_
      refine WL.non rfl rfl rfl rfl ?_
      refine WL.non rfl rfl rfl rfl ?_
      refine WL.no rfl rfl rfl rfl rfl ?_
      refine WL.no rfl rfl rfl rfl rfl ?_
      refine WL.op rfl rfl (op_pickT rfl rfl rfl ?_)
      refine WL.nil ?_
      refine WQ.next ?_
      refine WC.yes rfl rfl ?_
      refine WC.seq ?_
      refine WC.region ?_
      refine WL.op rfl rfl (op_assign rfl ?_)
      refine WL.nil ?_
      refine WQ.next ?_
      refine WC.ret ?_
      refine WQ.thenRet ?_
      refine WQ.out (.tmp rfl .nil) ?_
      exact ⟨by simp_all [tup, encE, okB], H6.fr⟩
    ·
      have hn7 := (Bool.not_eq_false' _).mp hb7
      refine WL.yes rfl rfl rfl hb7 rfl (op_move rfl ?_)
      refine WL.yes rfl rfl rfl hb7 rfl (op_fieldAddr rfl Fa.F61_2 ?_)
      refine WL.yes rfl rfl rfl hb7 rfl (op_load rfl (H6.cell (i := 0) rfl rfl) Tryd.underlying5 rfl ?_)
      refine WL.yes rfl rfl rfl hb7 rfl (op_call (f := 86) rfl Fa.C86 rfl ((check1_ok a 2 (useOf op) (β3 4).1 _ (H6.cell (i := 1) rfl rfl)).mono (fun e w8 hq => ?_)))
      obtain ⟨rfl, hf8⟩ := hq
      refine ⟨_, rfl, ?_⟩
      have H8 := H6.fr' hf8
      refine WL.yes rfl rfl rfl hb7 rfl (op_not rfl ?_)
      refine WL.op rfl rfl (op_pickF rfl hb7 rfl ?_)
      refine WL.op rfl rfl (op_move rfl ?_)
      refine WL.split (t := 26) rfl (fun (hb9 : (!(fitB (useOf op) a 2)) = true) => ?_) (fun (hb9 : (!(fitB (useOf op) a 2)) = false) => ?_)
      ·
        have hn9 := (Bool.not_eq_true' _).mp hb9
        refine WL.no rfl rfl rfl hb9 rfl ?_
        refine WL.no rfl rfl rfl hb9 rfl ?_
        refine WL.no rfl rfl rfl hb9 rfl ?_
        refine WL.no rfl rfl rfl hb9 rfl ?_
        refine WL.no rfl rfl rfl hb9 rfl ?_
        refine WL.op rfl rfl (op_pickT rfl hb9 rfl ?_)
        refine WL.op rfl rfl (op_move rfl ?_)
        refine WL.no rfl rfl rfl rfl rfl ?_
        refine WL.no rfl rfl rfl rfl rfl ?_
        refine WL.no rfl rfl rfl rfl rfl ?_
        refine WL.no rfl rfl rfl rfl rfl ?_
        refine WL.non rfl rfl rfl rfl ?_
        refine WL.non rfl rfl rfl rfl ?_
        refine WL.non rfl rfl rfl rfl ?_
        refine WL.no rfl rfl rfl rfl rfl ?_
        refine WL.no rfl rfl rfl rfl rfl ?_
        refine WL.op rfl rfl (op_pickT rfl rfl rfl ?_)
        refine WL.nil ?_
        refine WQ.next ?_
        refine WC.yes rfl rfl ?_
        refine WC.seq ?_
        refine WC.region ?_
        refine WL.op rfl rfl (op_assign rfl ?_)
        refine WL.nil ?_
        refine WQ.next ?_
        refine WC.ret ?_
        refine WQ.thenRet ?_
        refine WQ.out (.tmp rfl .nil) ?_
        exact ⟨by simp_all [tup, encE, okB], H8.fr⟩
      ·
        have hn9 := (Bool.not_eq_false' _).mp hb9
        refine WL.yes rfl rfl rfl hb9 rfl (op_move rfl ?_)
        refine WL.yes rfl rfl rfl hb9 rfl (op_fieldAddr rfl Fa.F61_3 ?_)
        refine WL.yes rfl rfl rfl hb9 rfl (op_load rfl (H8.cell (i := 0) rfl rfl) Tryd.underlying5 rfl ?_)
        refine WL.yes rfl rfl rfl hb9 rfl (op_call (f := 86) rfl Fa.C86 rfl ((check1_ok b 4 (useOf op) (β3 4).1 _ (H8.cell (i := 1) rfl rfl)).mono (fun e w10 hq => ?_)))
        obtain ⟨rfl, hf10⟩ := hq
        refine ⟨_, rfl, ?_⟩
        have H10 := H8.fr' hf10
        refine WL.yes rfl rfl rfl hb9 rfl (op_not rfl ?_)
        refine WL.op rfl rfl (op_pickF rfl hb9 rfl ?_)
        refine WL.op rfl rfl (op_move rfl ?_)
        refine WL.split (t := 33) rfl (fun (hb11 : (!(fitB (useOf op) b 4)) = true) => ?_) (fun (hb11 : (!(fitB (useOf op) b 4)) = false) => ?_)
        ·
          have hn11 := (Bool.not_eq_true' _).mp hb11
          refine WL.no rfl rfl rfl hb11 rfl ?_
          refine WL.no rfl rfl rfl hb11 rfl ?_
          refine WL.no rfl rfl rfl hb11 rfl ?_
          refine WL.no rfl rfl rfl hb11 rfl ?_
          refine WL.non rfl rfl rfl rfl ?_
          refine WL.non rfl rfl rfl rfl ?_
          refine WL.non rfl rfl rfl rfl ?_
          refine WL.no rfl rfl rfl hb11 rfl ?_
          refine WL.no rfl rfl rfl hb11 rfl ?_
          refine WL.op rfl rfl (op_pickT rfl hb11 rfl ?_)
          refine WL.nil ?_
          refine WQ.next ?_
          refine WC.yes rfl rfl ?_
          refine WC.seq ?_
          refine WC.region ?_
          refine WL.op rfl rfl (op_assign rfl ?_)
          refine WL.nil ?_
          refine WQ.next ?_
          refine WC.ret ?_
          refine WQ.thenRet ?_
          refine WQ.out (.tmp rfl .nil) ?_
          exact ⟨by simp_all [tup, encE, okB], H10.fr⟩
        ·
          have hn11 := (Bool.not_eq_false' _).mp hb11
          refine WL.yes rfl rfl rfl hb11 rfl (op_load rfl (H10.cell (i := 1) rfl rfl) Tryd.underlying5 rfl ?_)
          refine WL.yes rfl rfl rfl hb11 rfl (op_andU8 (b := 8) rfl rfl ?_)
          refine WL.yes rfl rfl rfl hb11 rfl (op_neqU8 (b := 0) rfl rfl ?_)
          refine WL.yes rfl rfl rfl hb11 rfl (op_move rfl ?_)
          refine WL.split (t := 37) rfl (fun (hb12 : (decide (((useOf op) &&& (8 : UInt8)) ≠ (0 : UInt8))) = true) => ?_) (fun (hb12 : (decide (((useOf op) &&& (8 : UInt8)) ≠ (0 : UInt8))) = false) => ?_)
          ·
            have hc12 := of_decide_eq_true hb12
            refine WL.no rfl rfl rfl hb12 rfl ?_
            refine WL.no rfl rfl rfl hb12 rfl ?_
            refine WL.no rfl rfl rfl hb12 rfl ?_
            refine WL.yes rfl rfl rfl hb11 rfl (op_pickT rfl hb12 rfl ?_)
            refine WL.yes rfl rfl rfl hb11 rfl (op_not rfl ?_)
            refine WL.op rfl rfl (op_pickF rfl hb11 rfl ?_)
            refine WL.nil ?_
            refine WQ.next ?_
            refine WC.no rfl (congrArg Bool.not rfl) ?_
            refine WC.skip ?_
            refine WQ.next ?_
            refine WC.seq ?_
            refine WC.region ?_
            refine WL.op rfl rfl (op_assign rfl ?_)
            refine WL.nil ?_
            refine WQ.next ?_
            refine WC.ret ?_
            refine WQ.out (.tmp rfl .nil) ?_
            exact ⟨by simp_all [tup, encE, okB], H10.fr⟩
          ·
            have hc12 := of_decide_eq_false hb12
            refine WL.yes rfl rfl rfl hb12 rfl (op_fieldAddr rfl Fa.F61_4 ?_)
            refine WL.yes rfl rfl rfl hb12 rfl (op_load rfl (H10.cell (i := 0) rfl rfl) Tryd.underlying22 rfl ?_)
            refine WL.yes rfl rfl rfl hb12 rfl (op_eqlU32 (b := 0) rfl rfl ?_)
            refine WL.yes rfl rfl rfl hb11 rfl (op_pickF rfl hb12 rfl ?_)
            refine WL.yes rfl rfl rfl hb11 rfl (op_not rfl ?_)
            refine WL.op rfl rfl (op_pickF rfl hb11 rfl ?_)
            refine WL.nil ?_
            refine WQ.next ?_
            refine WC.cond rfl (fun (hb13 : (!(decide (imm = (0 : UInt32)))) = true) => ?_) (fun (hb13 : (!(decide (imm = (0 : UInt32)))) = false) => ?_)
            ·
              have hn13 := (Bool.not_eq_true' _).mp hb13
              refine WC.seq ?_
              refine WC.region ?_
              refine WL.op rfl rfl (op_assign rfl ?_)
              refine WL.nil ?_
              refine WQ.next ?_
              refine WC.ret ?_
              refine WQ.thenRet ?_
              refine WQ.out (.tmp rfl .nil) ?_
              exact ⟨by simp_all [tup, encE, okB], H10.fr⟩
            ·
              have hn13 := (Bool.not_eq_false' _).mp hb13
              refine WC.skip ?_
              refine WQ.next ?_
              refine WC.seq ?_
              refine WC.region ?_
              refine WL.op rfl rfl (op_assign rfl ?_)
              refine WL.nil ?_
              refine WQ.next ?_
              refine WC.ret ?_
              refine WQ.out (.tmp rfl .nil) ?_
              exact ⟨by simp_all [tup, encE, okB], H10.fr⟩
set_option maxRecDepth 100000 in
theorem encode_ok (op d a b : UInt8) (imm : UInt32) (w : World) :
    Calls Tryd.prog 76 #[(.agg #[(vU8 op), (vU8 d), (vU8 a), (vU8 b), (vU32 imm)])] w (fun e w' => e = .returned (.tuple #[str (encS op d a b imm), vN (encE op d a b imm)]) ∧ Fr [] w w') := by
  refine enter (args := [(.agg #[(vU8 op), (vU8 d), (vU8 a), (vU8 b), (vU32 imm)])]) Tryd.func76 rfl rfl ?_
  have H0 : Own [] w w [] := Own.start w []
  refine WC.seq ?_
  refine WC.region ?_
  refine WL.op rfl rfl (op_box H0 rfl rfl (fun b1 w1 H1 => ?_))
  refine WL.op rfl rfl (op_assign rfl ?_)
  refine WL.op rfl rfl (op_assign rfl ?_)
  refine WL.nil ?_
  refine WQ.next ?_
  refine WC.seq ?_
  refine WC.seq ?_
  refine WC.region ?_
  refine WL.op rfl rfl (op_loadS (vs := [_, _, _, _, _]) rfl (H1.cells (i := 0) rfl rfl) Tryd.underlying61 rfl Fa.I61 rfl ?_)
  refine WL.op rfl rfl (op_callF Fa.C62 rfl ((check_ok op d a b imm _).mono (fun e w2 hq => ?_)))
  obtain ⟨rfl, hf2⟩ := hq
  refine ⟨_, rfl, ?_⟩
  have H2 := H1.fr' hf2
  refine WL.op rfl rfl (op_assign rfl ?_)
  refine WL.nil ?_
  refine WQ.next ?_
  refine WC.seq ?_
  refine WC.region ?_
  refine WL.op rfl rfl (op_move rfl ?_)
  refine WL.op rfl rfl (op_neqN (b := 0) rfl rfl ?_)
  refine WL.nil ?_
  refine WQ.next ?_
  refine WC.cond rfl (fun (hb3 : (decide ((encE op d a b imm) ≠ 0)) = true) => ?_) (fun (hb3 : (decide ((encE op d a b imm) ≠ 0)) = false) => ?_)
  ·
    have hc3 := of_decide_eq_true hb3
    refine WC.seq ?_
    refine WC.region ?_
    refine WL.op rfl rfl (op_move rfl ?_)
    refine WL.op rfl rfl (op_assign rfl ?_)
    refine WL.op rfl rfl (op_assign rfl ?_)
    refine WL.nil ?_
    refine WQ.next ?_
    refine WC.ret ?_
    refine WQ.thenRet ?_
    refine WQ.out (.tmp rfl (.tmp rfl .nil)) ?_
    exact ⟨by simp_all [tup, encE, encS], H2.fr⟩
  ·
    have hc3 := of_decide_eq_false hb3
    refine WC.skip ?_
    refine WQ.next ?_
    refine WC.seq ?_
    refine WC.region ?_
    refine WL.op rfl rfl (op_fieldAddr rfl Fa.F61_4 ?_)
    refine WL.op rfl rfl (op_load rfl (H2.cell (i := 0) rfl rfl) Tryd.underlying22 rfl ?_)
    refine WL.op rfl rfl (op_callF Fa.C70 rfl ((put4_ok (imm) _).mono (fun e w4 hq => ?_)))
    obtain ⟨rfl, hf4⟩ := hq
    refine ⟨_, rfl, ?_⟩
    have H4 := H2.fr' hf4
    refine WL.op rfl rfl (op_move rfl ?_)
    refine WL.op rfl rfl (op_extract rfl rfl ?_)
    refine WL.op rfl rfl (op_extract rfl rfl ?_)
    refine WL.op rfl rfl (op_assign rfl ?_)
    refine WL.op rfl rfl (op_assign rfl ?_)
    refine WL.nil ?_
    refine WQ.next ?_
    refine WC.seq ?_
    refine WC.region ?_
    refine WL.op rfl rfl (op_fieldAddr rfl Fa.F61_0 ?_)
    refine WL.op rfl rfl (op_load rfl (H4.cell (i := 0) rfl rfl) Tryd.underlying5 rfl ?_)
    refine WL.op rfl rfl (op_fieldAddr rfl Fa.F61_1 ?_)
    refine WL.op rfl rfl (op_load rfl (H4.cell (i := 0) rfl rfl) Tryd.underlying5 rfl ?_)
    refine WL.op rfl rfl (op_fieldAddr rfl Fa.F61_2 ?_)
    refine WL.op rfl rfl (op_load rfl (H4.cell (i := 0) rfl rfl) Tryd.underlying5 rfl ?_)
    refine WL.op rfl rfl (op_shlU8 (s := 4) rfl rfl ?_)
    refine WL.op rfl rfl (op_orU8 rfl rfl ?_)
    refine WL.op rfl rfl (op_fieldAddr rfl Fa.F61_3 ?_)
    refine WL.op rfl rfl (op_load rfl (H4.cell (i := 0) rfl rfl) Tryd.underlying5 rfl ?_)
    refine WL.op rfl rfl (op_buildSlice (cs := [_, _, _, _]) H4 Tryd.underlying58 Fa.I5 rfl rfl rfl rfl (by decide) (by decide) (fun b5 w5 H5 => ?_))
    refine WL.op rfl rfl (op_bytesStr (l := [op, (d ||| (shlU8 a 4)), b, 0]) Tryd.underlying58 Tryd.underlying5 Tryd.underlying9 rfl (H5.arrR (i := 1) rfl) rfl ?_)
    refine WL.op rfl rfl (op_move rfl ?_)
    refine WL.op rfl rfl (op_addStr rfl rfl (by have := le4_length imm; simp; omega) ?_)
    refine WL.op rfl rfl (op_assign rfl ?_)
    refine WL.op rfl rfl (op_assign rfl ?_)
    refine WL.nil ?_
    refine WQ.next ?_
    refine WC.ret ?_
    refine WQ.out (.tmp rfl (.tmp rfl .nil)) ?_
    exact ⟨by simp_all [tup, encE, encS], H5.fr⟩
set_option maxRecDepth 100000 in
theorem uses_ok (op : UInt8) (w : World) :
    Calls Tryd.prog 74 #[(vU8 op)] w (fun e w' => e = .returned (.tuple #[.bool (ub op 1), .bool (ub op 2), .bool (ub op 4), .bool (ub op 8), vN (useE op)]) ∧ Fr [] w w') := by
  refine enter (args := [(vU8 op)]) Tryd.func74 rfl rfl ?_
  have H0 : Own [] w w [] := Own.start w []
  refine WC.seq ?_
  refine WC.region ?_
  refine WL.op rfl rfl (op_assign rfl ?_)
  refine WL.op rfl rfl (op_assign rfl ?_)
  refine WL.op rfl rfl (op_assign rfl ?_)
  refine WL.op rfl rfl (op_assign rfl ?_)
  refine WL.op rfl rfl (op_assign rfl ?_)
  refine WL.nil ?_
  refine WQ.next ?_
  refine WC.seq ?_
  refine WC.region ?_
  refine WL.op rfl rfl (op_callF Fa.C85 rfl ((table_ok _).mono (fun e w1 hq => ?_)))
  obtain ⟨rfl, hf1⟩ := hq
  refine ⟨_, rfl, ?_⟩
  have H1 := H0.fr' hf1
  refine WL.op rfl rfl (op_move rfl ?_)
  refine WL.op rfl rfl (op_indexA1 (cs := (tabL.map vU8)) Tryd.underlying130 Fa.I5 Tryd.underlying5 rfl rfl rfl op.toNat_lt (get_map vU8 0 (by rw [tabL, tabTo_length]; exact op.toNat_lt)) ?_)
  refine WL.op rfl rfl (op_assign rfl ?_)
  refine WL.nil ?_
  refine WQ.next ?_
  refine WC.seq ?_
  refine WC.seq ?_
  refine WC.region ?_
  refine WL.op rfl rfl (op_move rfl ?_)
  refine WL.op rfl rfl (op_eqlU8 (b := 0) rfl rfl ?_)
  refine WL.nil ?_
  refine WQ.next ?_
  refine WC.cond rfl (fun (hb2 : (decide ((useOf op) = (0 : UInt8))) = true) => ?_) (fun (hb2 : (decide ((useOf op) = (0 : UInt8))) = false) => ?_)
  ·
    have hc2 := of_decide_eq_true hb2
    refine WC.seq ?_
    refine WC.region ?_
    refine WL.op rfl rfl (op_assign rfl ?_)
    refine WL.op rfl rfl (op_assign rfl ?_)
    refine WL.op rfl rfl (op_assign rfl ?_)
    refine WL.op rfl rfl (op_assign rfl ?_)
    refine WL.op rfl rfl (op_assign rfl ?_)
    refine WL.nil ?_
    refine WQ.next ?_
    refine WC.ret ?_
    refine WQ.thenRet ?_
    refine WQ.out (.tmp rfl (.tmp rfl (.tmp rfl (.tmp rfl (.tmp rfl .nil))))) ?_
    exact ⟨by have h : ∀ k, ub op k = false := (fun k => by simp [ub, hc2]); rw [h, h, h, h, useE, if_pos hc2]; rfl, H1.fr⟩
  ·
    have hc2 := of_decide_eq_false hb2
    refine WC.skip ?_
    refine WQ.next ?_
    refine WC.seq ?_
    refine WC.region ?_
    refine WL.op rfl rfl (op_move rfl ?_)
    refine WL.op rfl rfl (op_andU8 (b := 1) rfl rfl ?_)
    refine WL.op rfl rfl (op_neqU8 (b := 0) rfl rfl ?_)
    refine WL.op rfl rfl (op_move rfl ?_)
    refine WL.op rfl rfl (op_andU8 (b := 2) rfl rfl ?_)
    refine WL.op rfl rfl (op_neqU8 (b := 0) rfl rfl ?_)
    refine WL.op rfl rfl (op_move rfl ?_)
    refine WL.op rfl rfl (op_andU8 (b := 4) rfl rfl ?_)
    refine WL.op rfl rfl (op_neqU8 (b := 0) rfl rfl ?_)
    refine WL.op rfl rfl (op_move rfl ?_)
    refine WL.op rfl rfl (op_andU8 (b := 8) rfl rfl ?_)
    refine WL.op rfl rfl (op_neqU8 (b := 0) rfl rfl ?_)
    refine WL.op rfl rfl (op_assign rfl ?_)
    refine WL.op rfl rfl (op_assign rfl ?_)
    refine WL.op rfl rfl (op_assign rfl ?_)
    refine WL.op rfl rfl (op_assign rfl ?_)
    refine WL.op rfl rfl (op_assign rfl ?_)
    refine WL.nil ?_
    refine WQ.next ?_
    refine WC.ret ?_
    refine WQ.out (.tmp rfl (.tmp rfl (.tmp rfl (.tmp rfl (.tmp rfl .nil))))) ?_
    exact ⟨by rw [useE, if_neg hc2]; rfl, H1.fr⟩
end Go.Proofs.YtnngbnenekjffaaDoor
/-! from DRel2 -/
namespace Go.Proofs.YtnngbnenekjffaaDoor
open Go.Owl Go.Spec
end Go.Proofs.YtnngbnenekjffaaDoor
/-! from DRel3 -/
namespace Go.Proofs.YtnngbnenekjffaaDoor
open Go.Owl Go.Spec
end Go.Proofs.YtnngbnenekjffaaDoor
/-! from DRel4 -/
namespace Go.Proofs.YtnngbnenekjffaaDoor
open Go.Owl Go.Spec
set_option maxRecDepth 100000 in
theorem samesy_ok (x y : Sy) (w : World) (hI : SyD.ok w x) (hJ : SyD.ok w y) (hm : x.rl.length < 2 ^ 47) (hq : x.nt.length < 2 ^ 47) :
    Calls Tryd.prog 19 #[(.agg #[(str x.nm), (vU8 x.bind), (vU8 x.kind), (vU32 x.size), (str x.b), x.rv, x.nv]), (.agg #[(str y.nm), (vU8 y.bind), (vU8 y.kind), (vU32 y.size), (str y.b), y.rv, y.nv])] w (fun e w' => e = .returned (.bool (sameY x y)) ∧ Fr [] w w') := by
  refine enter (args := [(.agg #[(str x.nm), (vU8 x.bind), (vU8 x.kind), (vU32 x.size), (str x.b), x.rv, x.nv]), (.agg #[(str y.nm), (vU8 y.bind), (vU8 y.kind), (vU32 y.size), (str y.b), y.rv, y.nv])]) Tryd.func19 rfl rfl ?_
  have H0 : Own [] w w [] := Own.start w []
  refine WC.seq ?_
  refine WC.region ?_
  refine WL.op rfl rfl (op_box H0 rfl rfl (fun b1 w1 H1 => ?_))
  refine WL.op rfl rfl (op_box H1 rfl rfl (fun b2 w2 H2 => ?_))
  refine WL.op rfl rfl (op_assign rfl ?_)
  refine WL.nil ?_
  refine WQ.next ?_
  refine WC.seq ?_
  refine WC.seq ?_
  refine WC.region ?_
  refine WL.op rfl rfl (op_fieldAddr rfl Fa.F26_0 ?_)
  refine WL.op rfl rfl (op_load rfl (H2.cell (i := 0) rfl rfl) Tryd.underlying9 rfl ?_)
  refine WL.op rfl rfl (op_fieldAddr rfl Fa.F26_0 ?_)
  refine WL.op rfl rfl (op_load rfl (H2.cell (i := 1) rfl rfl) Tryd.underlying9 rfl ?_)
  refine WL.op rfl rfl (op_neqStr rfl rfl ?_)
  refine WL.op rfl rfl (op_move rfl ?_)
  refine WL.split (t := 12) rfl (fun (hb3 : (decide (x.nm ≠ y.nm)) = true) => ?_) (fun (hb3 : (decide (x.nm ≠ y.nm)) = false) => ?_)
  ·
    have hc3 := of_decide_eq_true hb3
    refine WL.no rfl rfl rfl hb3 rfl ?_
    refine WL.no rfl rfl rfl hb3 rfl ?_
    refine WL.no rfl rfl rfl hb3 rfl ?_
    refine WL.no rfl rfl rfl hb3 rfl ?_
    refine WL.no rfl rfl rfl hb3 rfl ?_
    refine WL.op rfl rfl (op_pickT rfl hb3 rfl ?_)
    refine WL.op rfl rfl (op_move rfl ?_)
    refine WL.no rfl rfl rfl rfl rfl ?_
    refine WL.no rfl rfl rfl rfl rfl ?_
    refine WL.no rfl rfl rfl rfl rfl ?_
    refine WL.no rfl rfl rfl rfl rfl ?_
    refine WL.no rfl rfl rfl rfl rfl ?_
    refine WL.op rfl rfl (op_pickT rfl rfl rfl ?_)
    refine WL.op rfl rfl (op_move rfl ?_)
    refine WL.no rfl rfl rfl rfl rfl ?_
    refine WL.no rfl rfl rfl rfl rfl ?_
    refine WL.no rfl rfl rfl rfl rfl ?_
    refine WL.no rfl rfl rfl rfl rfl ?_
    refine WL.no rfl rfl rfl rfl rfl ?_
    refine WL.op rfl rfl (op_pickT rfl rfl rfl ?_)
    refine WL.op rfl rfl (op_move rfl ?_)
    refine WL.no rfl rfl rfl rfl rfl ?_
    refine WL.no rfl rfl rfl rfl rfl ?_
    refine WL.no rfl rfl rfl rfl rfl ?_
    refine WL.no rfl rfl rfl rfl rfl ?_
    refine WL.no rfl rfl rfl rfl rfl ?_
    refine WL.op rfl rfl (op_pickT rfl rfl rfl ?_)
    refine WL.op rfl rfl (op_move rfl ?_)
    refine WL.no rfl rfl rfl rfl rfl ?_
    refine WL.no rfl rfl rfl rfl rfl ?_
    refine WL.no rfl rfl rfl rfl rfl ?_
    refine WL.no rfl rfl rfl rfl rfl ?_
    refine WL.no rfl rfl rfl rfl rfl ?_
    refine WL.no rfl rfl rfl rfl rfl ?_
    refine WL.no rfl rfl rfl rfl rfl ?_
    refine WL.op rfl rfl (op_pickT rfl rfl rfl ?_)
    refine WL.op rfl rfl (op_move rfl ?_)
    refine WL.no rfl rfl rfl rfl rfl ?_
    refine WL.no rfl rfl rfl rfl rfl ?_
    refine WL.no rfl rfl rfl rfl rfl ?_
    refine WL.no rfl rfl rfl rfl rfl ?_
    refine WL.no rfl rfl rfl rfl rfl ?_
    refine WL.no rfl rfl rfl rfl rfl ?_
    refine WL.no rfl rfl rfl rfl rfl ?_
    refine WL.op rfl rfl (op_pickT rfl rfl rfl ?_)
    refine WL.nil ?_
    refine WQ.next ?_
    refine WC.yes rfl rfl ?_
    refine WC.seq ?_
    refine WC.region ?_
    refine WL.op rfl rfl (op_assign rfl ?_)
    refine WL.nil ?_
    refine WQ.next ?_
    refine WC.ret ?_
    refine WQ.thenRet ?_
    refine WQ.out (.tmp rfl .nil) ?_
    exact ⟨by rw [sameY_no (fun h => hc3 h.1)]; rfl, H2.fr⟩
  ·
    have hc3 := of_decide_eq_false hb3
    refine WL.yes rfl rfl rfl hb3 rfl (op_fieldAddr rfl Fa.F26_1 ?_)
    refine WL.yes rfl rfl rfl hb3 rfl (op_load rfl (H2.cell (i := 0) rfl rfl) Tryd.underlying5 rfl ?_)
    refine WL.yes rfl rfl rfl hb3 rfl (op_fieldAddr rfl Fa.F26_1 ?_)
    refine WL.yes rfl rfl rfl hb3 rfl (op_load rfl (H2.cell (i := 1) rfl rfl) Tryd.underlying5 rfl ?_)
    refine WL.yes rfl rfl rfl hb3 rfl (op_neqU8 rfl rfl ?_)
    refine WL.op rfl rfl (op_pickF rfl hb3 rfl ?_)
    refine WL.op rfl rfl (op_move rfl ?_)
    refine WL.split (t := 19) rfl (fun (hb4 : (decide (x.bind ≠ y.bind)) = true) => ?_) (fun (hb4 : (decide (x.bind ≠ y.bind)) = false) => ?_)
    ·
      have hc4 := of_decide_eq_true hb4
      refine WL.no rfl rfl rfl hb4 rfl ?_
      refine WL.no rfl rfl rfl hb4 rfl ?_
      refine WL.no rfl rfl rfl hb4 rfl ?_
      refine WL.no rfl rfl rfl hb4 rfl ?_
      refine WL.no rfl rfl rfl hb4 rfl ?_
      refine WL.op rfl rfl (op_pickT rfl hb4 rfl ?_)
      refine WL.op rfl rfl (op_move rfl ?_)
      refine WL.no rfl rfl rfl rfl rfl ?_
      refine WL.no rfl rfl rfl rfl rfl ?_
      refine WL.no rfl rfl rfl rfl rfl ?_
      refine WL.no rfl rfl rfl rfl rfl ?_
      refine WL.no rfl rfl rfl rfl rfl ?_
      refine WL.op rfl rfl (op_pickT rfl rfl rfl ?_)
      refine WL.op rfl rfl (op_move rfl ?_)
      refine WL.no rfl rfl rfl rfl rfl ?_
      refine WL.no rfl rfl rfl rfl rfl ?_
      refine WL.no rfl rfl rfl rfl rfl ?_
      refine WL.no rfl rfl rfl rfl rfl ?_
      refine WL.no rfl rfl rfl rfl rfl ?_
      refine WL.op rfl rfl (op_pickT rfl rfl rfl ?_)
      refine WL.op rfl rfl (op_move rfl ?_)
      refine WL.no rfl rfl rfl rfl rfl ?_
      refine WL.no rfl rfl rfl rfl rfl ?_
      refine WL.no rfl rfl rfl rfl rfl ?_
      refine WL.no rfl rfl rfl rfl rfl ?_
      refine WL.no rfl rfl rfl rfl rfl ?_
      refine WL.no rfl rfl rfl rfl rfl ?_
      refine WL.no rfl rfl rfl rfl rfl ?_
      refine WL.op rfl rfl (op_pickT rfl rfl rfl ?_)
      refine WL.op rfl rfl (op_move rfl ?_)
      refine WL.no rfl rfl rfl rfl rfl ?_
      refine WL.no rfl rfl rfl rfl rfl ?_
      refine WL.no rfl rfl rfl rfl rfl ?_
      refine WL.no rfl rfl rfl rfl rfl ?_
      refine WL.no rfl rfl rfl rfl rfl ?_
      refine WL.no rfl rfl rfl rfl rfl ?_
      refine WL.no rfl rfl rfl rfl rfl ?_
      refine WL.op rfl rfl (op_pickT rfl rfl rfl ?_)
      refine WL.nil ?_
      refine WQ.next ?_
      refine WC.yes rfl rfl ?_
      refine WC.seq ?_
      refine WC.region ?_
      refine WL.op rfl rfl (op_assign rfl ?_)
      refine WL.nil ?_
      refine WQ.next ?_
      refine WC.ret ?_
      refine WQ.thenRet ?_
      refine WQ.out (.tmp rfl .nil) ?_
      exact ⟨by rw [sameY_no (fun h => hc4 h.2.1)]; rfl, H2.fr⟩
    ·
      have hc4 := of_decide_eq_false hb4
      refine WL.yes rfl rfl rfl hb4 rfl (op_fieldAddr rfl Fa.F26_2 ?_)
      refine WL.yes rfl rfl rfl hb4 rfl (op_load rfl (H2.cell (i := 0) rfl rfl) Tryd.underlying5 rfl ?_)
      refine WL.yes rfl rfl rfl hb4 rfl (op_fieldAddr rfl Fa.F26_2 ?_)
      refine WL.yes rfl rfl rfl hb4 rfl (op_load rfl (H2.cell (i := 1) rfl rfl) Tryd.underlying5 rfl ?_)
      refine WL.yes rfl rfl rfl hb4 rfl (op_neqU8 rfl rfl ?_)
      refine WL.op rfl rfl (op_pickF rfl hb4 rfl ?_)
      refine WL.op rfl rfl (op_move rfl ?_)
      refine WL.split (t := 26) rfl (fun (hb5 : (decide (x.kind ≠ y.kind)) = true) => ?_) (fun (hb5 : (decide (x.kind ≠ y.kind)) = false) => ?_)
      ·
        have hc5 := of_decide_eq_true hb5
        refine WL.no rfl rfl rfl hb5 rfl ?_
        refine WL.no rfl rfl rfl hb5 rfl ?_
        refine WL.no rfl rfl rfl hb5 rfl ?_
        refine WL.no rfl rfl rfl hb5 rfl ?_
        refine WL.no rfl rfl rfl hb5 rfl ?_
        refine WL.op rfl rfl (op_pickT rfl hb5 rfl ?_)
        refine WL.op rfl rfl (op_move rfl ?_)
        refine WL.no rfl rfl rfl rfl rfl ?_
        refine WL.no rfl rfl rfl rfl rfl ?_
        refine WL.no rfl rfl rfl rfl rfl ?_
        refine WL.no rfl rfl rfl rfl rfl ?_
        refine WL.no rfl rfl rfl rfl rfl ?_
        refine WL.op rfl rfl (op_pickT rfl rfl rfl ?_)
        refine WL.op rfl rfl (op_move rfl ?_)
        refine WL.no rfl rfl rfl rfl rfl ?_
        refine WL.no rfl rfl rfl rfl rfl ?_
        refine WL.no rfl rfl rfl rfl rfl ?_
        refine WL.no rfl rfl rfl rfl rfl ?_
        refine WL.no rfl rfl rfl rfl rfl ?_
        refine WL.no rfl rfl rfl rfl rfl ?_
        refine WL.no rfl rfl rfl rfl rfl ?_
        refine WL.op rfl rfl (op_pickT rfl rfl rfl ?_)
        refine WL.op rfl rfl (op_move rfl ?_)
        refine WL.no rfl rfl rfl rfl rfl ?_
        refine WL.no rfl rfl rfl rfl rfl ?_
        refine WL.no rfl rfl rfl rfl rfl ?_
        refine WL.no rfl rfl rfl rfl rfl ?_
        refine WL.no rfl rfl rfl rfl rfl ?_
        refine WL.no rfl rfl rfl rfl rfl ?_
        refine WL.no rfl rfl rfl rfl rfl ?_
        refine WL.op rfl rfl (op_pickT rfl rfl rfl ?_)
        refine WL.nil ?_
        refine WQ.next ?_
        refine WC.yes rfl rfl ?_
        refine WC.seq ?_
        refine WC.region ?_
        refine WL.op rfl rfl (op_assign rfl ?_)
        refine WL.nil ?_
        refine WQ.next ?_
        refine WC.ret ?_
        refine WQ.thenRet ?_
        refine WQ.out (.tmp rfl .nil) ?_
        exact ⟨by rw [sameY_no (fun h => hc5 h.2.2.1)]; rfl, H2.fr⟩
      ·
        have hc5 := of_decide_eq_false hb5
        refine WL.yes rfl rfl rfl hb5 rfl (op_fieldAddr rfl Fa.F26_3 ?_)
        refine WL.yes rfl rfl rfl hb5 rfl (op_load rfl (H2.cell (i := 0) rfl rfl) Tryd.underlying22 rfl ?_)
        refine WL.yes rfl rfl rfl hb5 rfl (op_fieldAddr rfl Fa.F26_3 ?_)
        refine WL.yes rfl rfl rfl hb5 rfl (op_load rfl (H2.cell (i := 1) rfl rfl) Tryd.underlying22 rfl ?_)
        refine WL.yes rfl rfl rfl hb5 rfl (op_neqU32 rfl rfl ?_)
        refine WL.op rfl rfl (op_pickF rfl hb5 rfl ?_)
        refine WL.op rfl rfl (op_move rfl ?_)
        refine WL.split (t := 33) rfl (fun (hb6 : (decide (x.size ≠ y.size)) = true) => ?_) (fun (hb6 : (decide (x.size ≠ y.size)) = false) => ?_)
        ·
          have hc6 := of_decide_eq_true hb6
          refine WL.no rfl rfl rfl hb6 rfl ?_
          refine WL.no rfl rfl rfl hb6 rfl ?_
          refine WL.no rfl rfl rfl hb6 rfl ?_
          refine WL.no rfl rfl rfl hb6 rfl ?_
          refine WL.no rfl rfl rfl hb6 rfl ?_
          refine WL.op rfl rfl (op_pickT rfl hb6 rfl ?_)
          refine WL.op rfl rfl (op_move rfl ?_)
          refine WL.no rfl rfl rfl rfl rfl ?_
          refine WL.no rfl rfl rfl rfl rfl ?_
          refine WL.no rfl rfl rfl rfl rfl ?_
          refine WL.no rfl rfl rfl rfl rfl ?_
          refine WL.no rfl rfl rfl rfl rfl ?_
          refine WL.no rfl rfl rfl rfl rfl ?_
          refine WL.no rfl rfl rfl rfl rfl ?_
          refine WL.op rfl rfl (op_pickT rfl rfl rfl ?_)
          refine WL.op rfl rfl (op_move rfl ?_)
          refine WL.no rfl rfl rfl rfl rfl ?_
          refine WL.no rfl rfl rfl rfl rfl ?_
          refine WL.no rfl rfl rfl rfl rfl ?_
          refine WL.no rfl rfl rfl rfl rfl ?_
          refine WL.no rfl rfl rfl rfl rfl ?_
          refine WL.no rfl rfl rfl rfl rfl ?_
          refine WL.no rfl rfl rfl rfl rfl ?_
          refine WL.op rfl rfl (op_pickT rfl rfl rfl ?_)
          refine WL.nil ?_
          refine WQ.next ?_
          refine WC.yes rfl rfl ?_
          refine WC.seq ?_
          refine WC.region ?_
          refine WL.op rfl rfl (op_assign rfl ?_)
          refine WL.nil ?_
          refine WQ.next ?_
          refine WC.ret ?_
          refine WQ.thenRet ?_
          refine WQ.out (.tmp rfl .nil) ?_
          exact ⟨by rw [sameY_no (fun h => hc6 h.2.2.2.1)]; rfl, H2.fr⟩
        ·
          have hc6 := of_decide_eq_false hb6
          refine WL.yes rfl rfl rfl hb6 rfl (op_fieldAddr rfl Fa.F26_4 ?_)
          refine WL.yes rfl rfl rfl hb6 rfl (op_load rfl (H2.cell (i := 0) rfl rfl) Tryd.underlying9 rfl ?_)
          refine WL.yes rfl rfl rfl hb6 rfl (op_fieldAddr rfl Fa.F26_4 ?_)
          refine WL.yes rfl rfl rfl hb6 rfl (op_load rfl (H2.cell (i := 1) rfl rfl) Tryd.underlying9 rfl ?_)
          refine WL.yes rfl rfl rfl hb6 rfl (op_neqStr rfl rfl ?_)
          refine WL.op rfl rfl (op_pickF rfl hb6 rfl ?_)
          refine WL.op rfl rfl (op_move rfl ?_)
          refine WL.split (t := 40) rfl (fun (hb7 : (decide (x.b ≠ y.b)) = true) => ?_) (fun (hb7 : (decide (x.b ≠ y.b)) = false) => ?_)
          ·
            have hc7 := of_decide_eq_true hb7
            refine WL.no rfl rfl rfl hb7 rfl ?_
            refine WL.no rfl rfl rfl hb7 rfl ?_
            refine WL.no rfl rfl rfl hb7 rfl ?_
            refine WL.no rfl rfl rfl hb7 rfl ?_
            refine WL.no rfl rfl rfl hb7 rfl ?_
            refine WL.no rfl rfl rfl hb7 rfl ?_
            refine WL.no rfl rfl rfl hb7 rfl ?_
            refine WL.op rfl rfl (op_pickT rfl hb7 rfl ?_)
            refine WL.op rfl rfl (op_move rfl ?_)
            refine WL.no rfl rfl rfl rfl rfl ?_
            refine WL.no rfl rfl rfl rfl rfl ?_
            refine WL.no rfl rfl rfl rfl rfl ?_
            refine WL.no rfl rfl rfl rfl rfl ?_
            refine WL.no rfl rfl rfl rfl rfl ?_
            refine WL.no rfl rfl rfl rfl rfl ?_
            refine WL.no rfl rfl rfl rfl rfl ?_
            refine WL.op rfl rfl (op_pickT rfl rfl rfl ?_)
            refine WL.nil ?_
            refine WQ.next ?_
            refine WC.yes rfl rfl ?_
            refine WC.seq ?_
            refine WC.region ?_
            refine WL.op rfl rfl (op_assign rfl ?_)
            refine WL.nil ?_
            refine WQ.next ?_
            refine WC.ret ?_
            refine WQ.thenRet ?_
            refine WQ.out (.tmp rfl .nil) ?_
            exact ⟨by rw [sameY_no (fun h => hc7 h.2.2.2.2.1)]; rfl, H2.fr⟩
          ·
            have hc7 := of_decide_eq_false hb7
            refine WL.yes rfl rfl rfl hb7 rfl (op_fieldAddr rfl Fa.F26_5 ?_)
            refine WL.yes rfl rfl rfl hb7 rfl (op_load rfl (H2.cell (i := 0) rfl rfl) Tryd.underlying23 rfl ?_)
            refine WL.yes rfl rfl rfl hb7 rfl (op_lenA Tryd.underlying23 rfl ((SyD_rl (SyD.fr0 hI H2.fr))) ?_)
            refine WL.yes rfl rfl rfl hb7 rfl (op_fieldAddr rfl Fa.F26_5 ?_)
            refine WL.yes rfl rfl rfl hb7 rfl (op_load rfl (H2.cell (i := 1) rfl rfl) Tryd.underlying23 rfl ?_)
            refine WL.yes rfl rfl rfl hb7 rfl (op_lenA Tryd.underlying23 rfl ((SyD_rl (SyD.fr0 hJ H2.fr))) ?_)
            refine WL.yes rfl rfl rfl hb7 rfl (op_neqN rfl rfl ?_)
            refine WL.op rfl rfl (op_pickF rfl hb7 rfl ?_)
            refine WL.op rfl rfl (op_move rfl ?_)
            refine WL.split (t := 49) rfl (fun (hb8 : (decide (x.rl.length ≠ y.rl.length)) = true) => ?_) (fun (hb8 : (decide (x.rl.length ≠ y.rl.length)) = false) => ?_)
            ·
              have hc8 := of_decide_eq_true hb8
              refine WL.no rfl rfl rfl hb8 rfl ?_
              refine WL.no rfl rfl rfl hb8 rfl ?_
              refine WL.no rfl rfl rfl hb8 rfl ?_
              refine WL.no rfl rfl rfl hb8 rfl ?_
              refine WL.no rfl rfl rfl hb8 rfl ?_
              refine WL.no rfl rfl rfl hb8 rfl ?_
              refine WL.no rfl rfl rfl hb8 rfl ?_
              refine WL.op rfl rfl (op_pickT rfl hb8 rfl ?_)
              refine WL.nil ?_
              refine WQ.next ?_
              refine WC.yes rfl rfl ?_
              refine WC.seq ?_
              refine WC.region ?_
              refine WL.op rfl rfl (op_assign rfl ?_)
              refine WL.nil ?_
              refine WQ.next ?_
              refine WC.ret ?_
              refine WQ.thenRet ?_
              refine WQ.out (.tmp rfl .nil) ?_
              exact ⟨by rw [sameY_no (fun h => hc8 (by rw [h.2.2.2.2.2.1]))]; rfl, H2.fr⟩
            ·
              have hc8 := of_decide_eq_false hb8
              refine WL.yes rfl rfl rfl hb8 rfl (op_fieldAddr rfl Fa.F26_6 ?_)
              refine WL.yes rfl rfl rfl hb8 rfl (op_load rfl (H2.cell (i := 0) rfl rfl) Tryd.underlying24 rfl ?_)
              refine WL.yes rfl rfl rfl hb8 rfl (op_lenA Tryd.underlying24 rfl ((SyD_nt (SyD.fr0 hI H2.fr))) ?_)
              refine WL.yes rfl rfl rfl hb8 rfl (op_fieldAddr rfl Fa.F26_6 ?_)
              refine WL.yes rfl rfl rfl hb8 rfl (op_load rfl (H2.cell (i := 1) rfl rfl) Tryd.underlying24 rfl ?_)
              refine WL.yes rfl rfl rfl hb8 rfl (op_lenA Tryd.underlying24 rfl ((SyD_nt (SyD.fr0 hJ H2.fr))) ?_)
              refine WL.yes rfl rfl rfl hb8 rfl (op_neqN rfl rfl ?_)
              refine WL.op rfl rfl (op_pickF rfl hb8 rfl ?_)
              refine WL.nil ?_
              refine WQ.next ?_
              refine WC.cond rfl (fun (hb9 : (decide (x.nt.length ≠ y.nt.length)) = true) => ?_) (fun (hb9 : (decide (x.nt.length ≠ y.nt.length)) = false) => ?_)
              ·
                have hc9 := of_decide_eq_true hb9
                refine WC.seq ?_
                refine WC.region ?_
                refine WL.op rfl rfl (op_assign rfl ?_)
                refine WL.nil ?_
                refine WQ.next ?_
                refine WC.ret ?_
                refine WQ.thenRet ?_
                refine WQ.out (.tmp rfl .nil) ?_
                exact ⟨by rw [sameY_no (fun h => hc9 (by rw [h.2.2.2.2.2.2]))]; rfl, H2.fr⟩
              ·
                have hc9 := of_decide_eq_false hb9
                refine WC.skip ?_
                refine WQ.next ?_
                refine WC.seq ?_
                refine WC.seq ?_
                refine WC.region ?_
                refine WL.op rfl rfl (op_assign rfl ?_)
                refine WL.nil ?_
                refine WQ.next ?_
                refine WC.block ?_
                refine WC.loop (α := Nat) (fun k => [(2, (ptr b1 0)), (3, (ptr b2 0)), (4, (.bool false)), (5, (vN k))]) (fun k w' => (k ≤ x.rl.length ∧ (∀ j, j < k → x.rl.getD j Rl.zero = y.rl.getD j Rl.zero)) ∧ Own [] w w' [.blk b1 [(str x.nm), (vU8 x.bind), (vU8 x.kind), (vU32 x.size), (str x.b), x.rv, x.nv] 26, .blk b2 [(str y.nm), (vU8 y.bind), (vU8 y.kind), (vU32 y.size), (str y.b), y.rv, y.nv] 26]) (fun k => x.rl.length - k) 0 ⟨⟨Nat.zero_le _, fun j h => by omega⟩, H2⟩ ⟨rfl, rfl, rfl, rfl, trivial⟩ ?_
                rintro k w10 ⟨⟨hk1, hok⟩, H10⟩
                show WC _ _ _ _ _ [(2, (ptr b1 0)), (3, (ptr b2 0)), (4, (.bool false)), (5, (vN k))] _
                refine WC.seq ?_
                refine WC.seq ?_
                refine WC.region ?_
                refine WL.op rfl rfl (op_move rfl ?_)
                refine WL.op rfl rfl (op_fieldAddr rfl Fa.F26_5 ?_)
                refine WL.op rfl rfl (op_load rfl (H10.cell (i := 0) rfl rfl) Tryd.underlying23 rfl ?_)
                refine WL.op rfl rfl (op_lenA Tryd.underlying23 rfl ((SyD_rl (SyD.fr0 hI H10.fr))) ?_)
                refine WL.op rfl rfl (op_lssN rfl rfl ?_)
                refine WL.nil ?_
                refine WQ.next ?_
                refine WC.cond rfl (fun (hb11 : (decide (k < x.rl.length)) = true) => ?_) (fun (hb11 : (decide (k < x.rl.length)) = false) => ?_)
                ·
                  have hc11 := of_decide_eq_true hb11
                  refine WC.skip ?_
                  refine WQ.next ?_
                  refine WC.seq ?_
                  refine WC.block ?_
                  refine WC.seq ?_
                  refine WC.draw 11 Fa.M H10 (HW.op rfl (fun w1 H1 => op_fieldAddr rfl Fa.F26_5 ⟨rfl, Fr.refl _ _⟩) (HW.op rfl (fun w1 H1 => op_load rfl (H1.cell (i := 0) rfl rfl) Tryd.underlying23 rfl ⟨rfl, Fr.refl _ _⟩) (HW.op rfl (fun w1 H1 => op_move rfl ⟨rfl, Fr.refl _ _⟩) (HW.op rfl (fun w1 H1 => op_indexAddr Tryd.underlying23 Fa.I44 rfl ((SyD_rl (SyD.fr0 hI H1.fr))) rfl (by omega) ⟨rfl, Fr.refl _ _⟩) (HW.op rfl (fun w1 H1 => op_loadSP (vs := rlc (x.rl.getD k Rl.zero)) rfl (Arr.atsF ((SyD_rl (SyD.fr0 hI H1.fr))) (fun _ => rfl) (by decide) Rl.zero (by omega)) Tryd.underlying44 rfl Fa.I44 rfl ⟨rfl, Fr.refl _ _⟩) (HW.op rfl (fun w1 H1 => op_fieldAddr rfl Fa.F26_5 ⟨rfl, Fr.refl _ _⟩) (HW.op rfl (fun w1 H1 => op_load rfl (H1.cell (i := 1) rfl rfl) Tryd.underlying23 rfl ⟨rfl, Fr.refl _ _⟩) (HW.op rfl (fun w1 H1 => op_move rfl ⟨rfl, Fr.refl _ _⟩) (HW.op rfl (fun w1 H1 => op_indexAddr Tryd.underlying23 Fa.I44 rfl ((SyD_rl (SyD.fr0 hJ H1.fr))) rfl (by omega) ⟨rfl, Fr.refl _ _⟩) (HW.op rfl (fun w1 H1 => op_loadSP (vs := rlc (y.rl.getD k Rl.zero)) rfl (Arr.atsF ((SyD_rl (SyD.fr0 hJ H1.fr))) (fun _ => rfl) (by decide) Rl.zero (by omega)) Tryd.underlying44 rfl Fa.I44 rfl ⟨rfl, Fr.refl _ _⟩) (HW.op rfl (fun w1 H1 => op_neqS (xs := [_, _, _, _]) (ys := [_, _, _, _]) (b := (!((decide ((x.rl.getD k Rl.zero).off = (y.rl.getD k Rl.zero).off)) && ((decide ((x.rl.getD k Rl.zero).kind = (y.rl.getD k Rl.zero).kind)) && ((decide ((x.rl.getD k Rl.zero).nm = (y.rl.getD k Rl.zero).nm)) && (decide ((x.rl.getD k Rl.zero).add = (y.rl.getD k Rl.zero).add))))))) Fa.FL44 rfl rfl rfl (by simp [eqAll, veqStr, veqU32, veqU8]) ⟨rfl, Fr.refl _ _⟩)  HW.nil))))))))))) (by kernel_rfl) ?_
                  intro β12 w12 H12
                  refine WL.nil ?_
                  refine WQ.next ?_
                  refine WC.cond rfl (fun (hb13 : (!((decide ((x.rl.getD k Rl.zero).off = (y.rl.getD k Rl.zero).off)) && ((decide ((x.rl.getD k Rl.zero).kind = (y.rl.getD k Rl.zero).kind)) && ((decide ((x.rl.getD k Rl.zero).nm = (y.rl.getD k Rl.zero).nm)) && (decide ((x.rl.getD k Rl.zero).add = (y.rl.getD k Rl.zero).add)))))) = true) => ?_) (fun (hb13 : (!((decide ((x.rl.getD k Rl.zero).off = (y.rl.getD k Rl.zero).off)) && ((decide ((x.rl.getD k Rl.zero).kind = (y.rl.getD k Rl.zero).kind)) && ((decide ((x.rl.getD k Rl.zero).nm = (y.rl.getD k Rl.zero).nm)) && (decide ((x.rl.getD k Rl.zero).add = (y.rl.getD k Rl.zero).add)))))) = false) => ?_)
                  ·
                    have hn13 := (Bool.not_eq_true' _).mp hb13
                    refine WC.seq ?_
                    refine WC.region ?_
                    refine WL.op rfl rfl (op_assign rfl ?_)
                    refine WL.nil ?_
                    refine WQ.next ?_
                    refine WC.ret ?_
                    refine WQ.inRet ?_
                    refine WQ.thenRet ?_
                    refine WQ.thenRet ?_
                    refine WQ.inRet ?_
                    refine WQ.thenRet ?_
                    refine WQ.out (.tmp rfl .nil) ?_
                    exact ⟨by rw [sameY_no (fun h => of_decide_eq_false ((rl_eq _ _).symm.trans hn13) (by rw [h.2.2.2.2.2.1]))]; rfl, H12.fr⟩
                  ·
                    have hn13 := (Bool.not_eq_false' _).mp hb13
                    refine WC.skip ?_
                    refine WQ.inNormal ?_
                    refine WQ.next ?_
                    refine WC.region ?_
                    refine WL.op rfl rfl (op_move rfl ?_)
                    refine WL.op rfl rfl (op_addN (b := 1) rfl rfl (by omega) ?_)
                    refine WL.op rfl rfl (op_assign rfl ?_)
                    refine WL.nil ?_
                    exact WQ.round (k + 1) ⟨⟨by omega, allPrev hok (of_decide_eq_true ((rl_eq _ _).symm.trans hn13))⟩, H12⟩ ⟨rfl, rfl, rfl, rfl, trivial⟩ (by omega)
                ·
                  have hc11 := of_decide_eq_false hb11
                  refine WC.exit ?_
                  refine WQ.thenExit ?_
                  refine WQ.thenExit ?_
                  refine WQ.inHere ?_
                  refine WQ.next ?_
                  refine WC.seq ?_
                  refine WC.seq ?_
                  refine WC.region ?_
                  refine WL.op rfl rfl (op_assign rfl ?_)
                  refine WL.nil ?_
                  refine WQ.next ?_
                  refine WC.block ?_
                  refine WC.loop (α := Nat) (fun i => [(2, (ptr b1 0)), (3, (ptr b2 0)), (4, (.bool false)), (6, (vN i))]) (fun i w' => (i ≤ x.nt.length ∧ (∀ j, j < i → x.nt.getD j Nt.zero = y.nt.getD j Nt.zero)) ∧ Own [] w w' [.blk b1 [(str x.nm), (vU8 x.bind), (vU8 x.kind), (vU32 x.size), (str x.b), x.rv, x.nv] 26, .blk b2 [(str y.nm), (vU8 y.bind), (vU8 y.kind), (vU32 y.size), (str y.b), y.rv, y.nv] 26]) (fun i => x.nt.length - i) 0 ⟨⟨Nat.zero_le _, fun j h => by omega⟩, H10⟩ ⟨rfl, rfl, rfl, rfl, trivial⟩ ?_
                  rintro i w14 ⟨⟨hi1, hoi⟩, H14⟩
                  show WC _ _ _ _ _ [(2, (ptr b1 0)), (3, (ptr b2 0)), (4, (.bool false)), (6, (vN i))] _
                  refine WC.seq ?_
                  refine WC.seq ?_
                  refine WC.region ?_
                  refine WL.op rfl rfl (op_move rfl ?_)
                  refine WL.op rfl rfl (op_fieldAddr rfl Fa.F26_6 ?_)
                  refine WL.op rfl rfl (op_load rfl (H14.cell (i := 0) rfl rfl) Tryd.underlying24 rfl ?_)
                  refine WL.op rfl rfl (op_lenA Tryd.underlying24 rfl ((SyD_nt (SyD.fr0 hI H14.fr))) ?_)
                  refine WL.op rfl rfl (op_lssN rfl rfl ?_)
                  refine WL.nil ?_
                  refine WQ.next ?_
                  refine WC.cond rfl (fun (hb15 : (decide (i < x.nt.length)) = true) => ?_) (fun (hb15 : (decide (i < x.nt.length)) = false) => ?_)
                  ·
                    have hc15 := of_decide_eq_true hb15
                    refine WC.skip ?_
                    refine WQ.next ?_
                    refine WC.seq ?_
                    refine WC.block ?_
                    refine WC.seq ?_
                    refine WC.draw 11 Fa.M H14 (HW.op rfl (fun w1 H1 => op_fieldAddr rfl Fa.F26_6 ⟨rfl, Fr.refl _ _⟩) (HW.op rfl (fun w1 H1 => op_load rfl (H1.cell (i := 0) rfl rfl) Tryd.underlying24 rfl ⟨rfl, Fr.refl _ _⟩) (HW.op rfl (fun w1 H1 => op_move rfl ⟨rfl, Fr.refl _ _⟩) (HW.op rfl (fun w1 H1 => op_indexAddr Tryd.underlying24 Fa.I68 rfl ((SyD_nt (SyD.fr0 hI H1.fr))) rfl (by omega) ⟨rfl, Fr.refl _ _⟩) (HW.op rfl (fun w1 H1 => op_loadSP (vs := ntc (x.nt.getD i Nt.zero)) rfl (Arr.atsF ((SyD_nt (SyD.fr0 hI H1.fr))) (fun _ => rfl) (by decide) Nt.zero (by omega)) Tryd.underlying68 rfl Fa.I68 rfl ⟨rfl, Fr.refl _ _⟩) (HW.op rfl (fun w1 H1 => op_fieldAddr rfl Fa.F26_6 ⟨rfl, Fr.refl _ _⟩) (HW.op rfl (fun w1 H1 => op_load rfl (H1.cell (i := 1) rfl rfl) Tryd.underlying24 rfl ⟨rfl, Fr.refl _ _⟩) (HW.op rfl (fun w1 H1 => op_move rfl ⟨rfl, Fr.refl _ _⟩) (HW.op rfl (fun w1 H1 => op_indexAddr Tryd.underlying24 Fa.I68 rfl ((SyD_nt (SyD.fr0 hJ H1.fr))) rfl (by omega) ⟨rfl, Fr.refl _ _⟩) (HW.op rfl (fun w1 H1 => op_loadSP (vs := ntc (y.nt.getD i Nt.zero)) rfl (Arr.atsF ((SyD_nt (SyD.fr0 hJ H1.fr))) (fun _ => rfl) (by decide) Nt.zero (by omega)) Tryd.underlying68 rfl Fa.I68 rfl ⟨rfl, Fr.refl _ _⟩) (HW.op rfl (fun w1 H1 => op_neqS (xs := [_, _, _]) (ys := [_, _, _]) (b := (!((decide ((x.nt.getD i Nt.zero).kind = (y.nt.getD i Nt.zero).kind)) && ((decide ((x.nt.getD i Nt.zero).n = (y.nt.getD i Nt.zero).n)) && (decide ((x.nt.getD i Nt.zero).m = (y.nt.getD i Nt.zero).m)))))) Fa.FL68 rfl rfl rfl (by simp [eqAll, veqU32, veqU8]) ⟨rfl, Fr.refl _ _⟩)  HW.nil))))))))))) (by kernel_rfl) ?_
                    intro β16 w16 H16
                    refine WL.nil ?_
                    refine WQ.next ?_
                    refine WC.cond rfl (fun (hb17 : (!((decide ((x.nt.getD i Nt.zero).kind = (y.nt.getD i Nt.zero).kind)) && ((decide ((x.nt.getD i Nt.zero).n = (y.nt.getD i Nt.zero).n)) && (decide ((x.nt.getD i Nt.zero).m = (y.nt.getD i Nt.zero).m))))) = true) => ?_) (fun (hb17 : (!((decide ((x.nt.getD i Nt.zero).kind = (y.nt.getD i Nt.zero).kind)) && ((decide ((x.nt.getD i Nt.zero).n = (y.nt.getD i Nt.zero).n)) && (decide ((x.nt.getD i Nt.zero).m = (y.nt.getD i Nt.zero).m))))) = false) => ?_)
                    ·
                      have hn17 := (Bool.not_eq_true' _).mp hb17
                      refine WC.seq ?_
                      refine WC.region ?_
                      refine WL.op rfl rfl (op_assign rfl ?_)
                      refine WL.nil ?_
                      refine WQ.next ?_
                      refine WC.ret ?_
                      refine WQ.inRet ?_
                      refine WQ.thenRet ?_
                      refine WQ.thenRet ?_
                      refine WQ.inRet ?_
                      refine WQ.thenRet ?_
                      refine WQ.out (.tmp rfl .nil) ?_
                      exact ⟨by rw [sameY_no (fun h => of_decide_eq_false ((nt_eq _ _).symm.trans hn17) (by rw [h.2.2.2.2.2.2]))]; rfl, H16.fr⟩
                    ·
                      have hn17 := (Bool.not_eq_false' _).mp hb17
                      refine WC.skip ?_
                      refine WQ.inNormal ?_
                      refine WQ.next ?_
                      refine WC.region ?_
                      refine WL.op rfl rfl (op_move rfl ?_)
                      refine WL.op rfl rfl (op_addN (b := 1) rfl rfl (by omega) ?_)
                      refine WL.op rfl rfl (op_assign rfl ?_)
                      refine WL.nil ?_
                      exact WQ.round (i + 1) ⟨⟨by omega, allPrev hoi (of_decide_eq_true ((nt_eq _ _).symm.trans hn17))⟩, H16⟩ ⟨rfl, rfl, rfl, rfl, trivial⟩ (by omega)
                  ·
                    have hc15 := of_decide_eq_false hb15
                    refine WC.exit ?_
                    refine WQ.thenExit ?_
                    refine WQ.thenExit ?_
                    refine WQ.inHere ?_
                    refine WQ.next ?_
                    refine WC.seq ?_
                    refine WC.region ?_
                    refine WL.op rfl rfl (op_assign rfl ?_)
                    refine WL.nil ?_
                    refine WQ.next ?_
                    refine WC.ret ?_
                    refine WQ.out (.tmp rfl .nil) ?_
                    exact ⟨by rw [sameY_iff.2 ⟨Decidable.not_not.mp (of_decide_eq_false hb3), Decidable.not_not.mp (of_decide_eq_false hb4), Decidable.not_not.mp (of_decide_eq_false hb5), Decidable.not_not.mp (of_decide_eq_false hb6), Decidable.not_not.mp (of_decide_eq_false hb7), ext_getD (by omega) (fun j hj => hok j (by omega)), ext_getD (by omega) (fun j hj => hoi j (by omega))⟩]; rfl, H14.fr⟩
end Go.Proofs.YtnngbnenekjffaaDoor
/-! from DAsm -/
namespace Go.Proofs.YtnngbnenekjffaaDoor
open Go.Owl Go.Spec
set_option maxRecDepth 100000 in
theorem aname_ok (s : List UInt8) (w : World) (hs : s.length < 2 ^ 47) :
    Calls Tryd.prog 73 #[(str s)] w (fun e w' => e = .returned (.bool (nmE s)) ∧ Fr [] w w') := by
  refine enter (args := [(str s)]) Tryd.func73 rfl rfl ?_
  have H0 : Own [] w w [] := Own.start w []
  refine WC.seq ?_
  refine WC.region ?_
  refine WL.op rfl rfl (op_assign rfl ?_)
  refine WL.nil ?_
  refine WQ.next ?_
  refine WC.seq ?_
  refine WC.region ?_
  refine WL.op rfl rfl (op_move rfl ?_)
  refine WL.op rfl rfl (op_eqlStr rfl rfl ?_)
  refine WL.op rfl rfl (op_move rfl ?_)
  refine WL.split (t := 5) rfl (fun (hb1 : (decide (s = [])) = true) => ?_) (fun (hb1 : (decide (s = [])) = false) => ?_)
  ·
    have hc1 := of_decide_eq_true hb1
    refine WL.no rfl rfl rfl hb1 rfl ?_
    refine WL.no rfl rfl rfl hb1 rfl ?_
    refine WL.no rfl rfl rfl hb1 rfl ?_
    refine WL.no rfl rfl rfl hb1 rfl ?_
    refine WL.op rfl rfl (op_pickT rfl hb1 rfl ?_)
    refine WL.op rfl rfl (op_assign rfl ?_)
    refine WL.nil ?_
    refine WQ.next ?_
    refine WC.ret ?_
    refine WQ.out (.tmp rfl .nil) ?_
    exact ⟨by (rw [nmE, hb1]) <;> rfl, H0.fr⟩
  ·
    have hc1 := of_decide_eq_false hb1
    refine WL.yes rfl rfl rfl hb1 rfl (op_move rfl ?_)
    refine WL.yes rfl rfl rfl hb1 rfl (op_build (cs := [_, _, _, _, _, _, _]) Fa.I26 Fa.PL26 rfl rfl ?_)
    refine WL.yes rfl rfl rfl hb1 rfl (op_callF Fa.C27 rfl ((osym_ok (Sy.mk s 0 2 1 [] (.slice none 0 0) [] (.slice none 0 0) []) _ (SyD_mk (x := (Sy.mk s 0 2 1 [] (.slice none 0 0) [] (.slice none 0 0) [])) (Arr.nil _ _) (Arr.nil _ _)) (by exact hs) (by show 0 < 2 ^ 32; decide) (fun y hy => by cases hy) (by show 0 < 2 ^ 40; decide) (by show 0 < 2 ^ 40; decide)).mono (fun e w2 hq => ?_)))
    obtain ⟨rfl, hf2⟩ := hq
    refine ⟨_, rfl, ?_⟩
    have H2 := H0.fr' hf2
    refine WL.yes rfl rfl rfl hb1 rfl (op_eqlN (b := 0) rfl rfl ?_)
    refine WL.op rfl rfl (op_pickF rfl hb1 rfl ?_)
    refine WL.op rfl rfl (op_assign rfl ?_)
    refine WL.nil ?_
    refine WQ.next ?_
    refine WC.ret ?_
    refine WQ.out (.tmp rfl .nil) ?_
    exact ⟨by (rw [nmE, hb1, Bool.false_or, ← name_sym]) <;> rfl, H2.fr⟩
set_option maxRecDepth 100000 in
theorem amay_ok (x : Ln) (w : World) (hx : x.lb.length < 2 ^ 47 ∧ x.to.length < 2 ^ 47 ∧ x.nm.length < 2 ^ 47) :
    Calls Tryd.prog 50 #[(.agg #[(str x.lb), (vU8 x.op), (vU8 x.d), (vU8 x.a), (vU8 x.b), (vU32 x.imm), (str x.to), (str x.nm)])] w (fun e w' => e = .returned (.bool (lnMay x)) ∧ Fr [] w w') := by
  refine enter (args := [(.agg #[(str x.lb), (vU8 x.op), (vU8 x.d), (vU8 x.a), (vU8 x.b), (vU32 x.imm), (str x.to), (str x.nm)])]) Tryd.func50 rfl rfl ?_
  have H0 : Own [] w w [] := Own.start w []
  refine WC.seq ?_
  refine WC.region ?_
  refine WL.op rfl rfl (op_box H0 rfl rfl (fun b1 w1 H1 => ?_))
  refine WL.op rfl rfl (op_assign rfl ?_)
  refine WL.nil ?_
  refine WQ.next ?_
  refine WC.seq ?_
  refine WC.seq ?_
  refine WC.region ?_
  refine WL.op rfl rfl (op_fieldAddr rfl Fa.F65_2 ?_)
  refine WL.op rfl rfl (op_load rfl (H1.cell (i := 0) rfl rfl) Tryd.underlying9 rfl ?_)
  refine WL.op rfl rfl (op_neqStr rfl rfl ?_)
  refine WL.op rfl rfl (op_move rfl ?_)
  refine WL.split (t := 11) rfl (fun (hb2 : (decide (x.to ≠ [])) = true) => ?_) (fun (hb2 : (decide (x.to ≠ [])) = false) => ?_)
  ·
    have hc2 := of_decide_eq_true hb2
    refine WL.yes rfl rfl rfl hb2 rfl (op_fieldAddr rfl Fa.F65_3 ?_)
    refine WL.yes rfl rfl rfl hb2 rfl (op_load rfl (H1.cell (i := 0) rfl rfl) Tryd.underlying9 rfl ?_)
    refine WL.yes rfl rfl rfl hb2 rfl (op_neqStr rfl rfl ?_)
    refine WL.op rfl rfl (op_pickT rfl hb2 rfl ?_)
    refine WL.op rfl rfl (op_move rfl ?_)
    refine WL.split (t := 16) rfl (fun (hb3 : (decide (x.nm ≠ [])) = true) => ?_) (fun (hb3 : (decide (x.nm ≠ [])) = false) => ?_)
    ·
      have hc3 := of_decide_eq_true hb3
      refine WL.no rfl rfl rfl hb3 rfl ?_
      refine WL.no rfl rfl rfl hb3 rfl ?_
      refine WL.no rfl rfl rfl hb3 rfl ?_
      refine WL.no rfl rfl rfl hb3 rfl ?_
      refine WL.op rfl rfl (op_pickT rfl hb3 rfl ?_)
      refine WL.op rfl rfl (op_move rfl ?_)
      refine WL.no rfl rfl rfl rfl rfl ?_
      refine WL.no rfl rfl rfl rfl rfl ?_
      refine WL.no rfl rfl rfl rfl rfl ?_
      refine WL.no rfl rfl rfl rfl rfl ?_
      refine WL.op rfl rfl (op_pickT rfl rfl rfl ?_)
      refine WL.op rfl rfl (op_move rfl ?_)
      refine WL.no rfl rfl rfl rfl rfl ?_
      refine WL.no rfl rfl rfl rfl rfl ?_
      refine WL.no rfl rfl rfl rfl rfl ?_
      refine WL.no rfl rfl rfl rfl rfl ?_
      refine WL.op rfl rfl (op_pickT rfl rfl rfl ?_)
      refine WL.nil ?_
      refine WQ.next ?_
      refine WC.yes rfl rfl ?_
      refine WC.seq ?_
      refine WC.region ?_
      refine WL.op rfl rfl (op_assign rfl ?_)
      refine WL.nil ?_
      refine WQ.next ?_
      refine WC.ret ?_
      refine WQ.thenRet ?_
      refine WQ.out (.tmp rfl .nil) ?_
      exact ⟨by rw [lm_both hb2 hb3]; rfl, H1.fr⟩
    ·
      have hc3 := of_decide_eq_false hb3
      refine WL.yes rfl rfl rfl hb3 rfl (op_fieldAddr rfl Fa.F65_0 ?_)
      refine WL.yes rfl rfl rfl hb3 rfl (op_load rfl (H1.cell (i := 0) rfl rfl) Tryd.underlying9 rfl ?_)
      refine WL.yes rfl rfl rfl hb3 rfl (op_callF Fa.C73 rfl ((aname_ok x.lb _ (by omega)).mono (fun e w4 hq => ?_)))
      obtain ⟨rfl, hf4⟩ := hq
      refine ⟨_, rfl, ?_⟩
      have H4 := H1.fr' hf4
      refine WL.yes rfl rfl rfl hb3 rfl (op_not rfl ?_)
      refine WL.op rfl rfl (op_pickF rfl hb3 rfl ?_)
      refine WL.op rfl rfl (op_move rfl ?_)
      refine WL.split (t := 22) rfl (fun (hb5 : (!(nmE x.lb)) = true) => ?_) (fun (hb5 : (!(nmE x.lb)) = false) => ?_)
      ·
        have hn5 := (Bool.not_eq_true' _).mp hb5
        refine WL.no rfl rfl rfl hb5 rfl ?_
        refine WL.no rfl rfl rfl hb5 rfl ?_
        refine WL.no rfl rfl rfl hb5 rfl ?_
        refine WL.no rfl rfl rfl hb5 rfl ?_
        refine WL.op rfl rfl (op_pickT rfl hb5 rfl ?_)
        refine WL.op rfl rfl (op_move rfl ?_)
        refine WL.no rfl rfl rfl rfl rfl ?_
        refine WL.no rfl rfl rfl rfl rfl ?_
        refine WL.no rfl rfl rfl rfl rfl ?_
        refine WL.no rfl rfl rfl rfl rfl ?_
        refine WL.op rfl rfl (op_pickT rfl rfl rfl ?_)
        refine WL.nil ?_
        refine WQ.next ?_
        refine WC.yes rfl rfl ?_
        refine WC.seq ?_
        refine WC.region ?_
        refine WL.op rfl rfl (op_assign rfl ?_)
        refine WL.nil ?_
        refine WQ.next ?_
        refine WC.ret ?_
        refine WQ.thenRet ?_
        refine WQ.out (.tmp rfl .nil) ?_
        exact ⟨by rw [lm_lb hn5]; rfl, H4.fr⟩
      ·
        have hn5 := (Bool.not_eq_false' _).mp hb5
        refine WL.yes rfl rfl rfl hb5 rfl (op_fieldAddr rfl Fa.F65_2 ?_)
        refine WL.yes rfl rfl rfl hb5 rfl (op_load rfl (H4.cell (i := 0) rfl rfl) Tryd.underlying9 rfl ?_)
        refine WL.yes rfl rfl rfl hb5 rfl (op_callF Fa.C73 rfl ((aname_ok x.to _ (by omega)).mono (fun e w6 hq => ?_)))
        obtain ⟨rfl, hf6⟩ := hq
        refine ⟨_, rfl, ?_⟩
        have H6 := H4.fr' hf6
        refine WL.yes rfl rfl rfl hb5 rfl (op_not rfl ?_)
        refine WL.op rfl rfl (op_pickF rfl hb5 rfl ?_)
        refine WL.op rfl rfl (op_move rfl ?_)
        refine WL.split (t := 28) rfl (fun (hb7 : (!(nmE x.to)) = true) => ?_) (fun (hb7 : (!(nmE x.to)) = false) => ?_)
        ·
          have hn7 := (Bool.not_eq_true' _).mp hb7
          refine WL.no rfl rfl rfl hb7 rfl ?_
          refine WL.no rfl rfl rfl hb7 rfl ?_
          refine WL.no rfl rfl rfl hb7 rfl ?_
          refine WL.no rfl rfl rfl hb7 rfl ?_
          refine WL.op rfl rfl (op_pickT rfl hb7 rfl ?_)
          refine WL.nil ?_
          refine WQ.next ?_
          refine WC.yes rfl rfl ?_
          refine WC.seq ?_
          refine WC.region ?_
          refine WL.op rfl rfl (op_assign rfl ?_)
          refine WL.nil ?_
          refine WQ.next ?_
          refine WC.ret ?_
          refine WQ.thenRet ?_
          refine WQ.out (.tmp rfl .nil) ?_
          exact ⟨by rw [lm_to hn7]; rfl, H6.fr⟩
        ·
          have hn7 := (Bool.not_eq_false' _).mp hb7
          refine WL.yes rfl rfl rfl hb7 rfl (op_fieldAddr rfl Fa.F65_3 ?_)
          refine WL.yes rfl rfl rfl hb7 rfl (op_load rfl (H6.cell (i := 0) rfl rfl) Tryd.underlying9 rfl ?_)
          refine WL.yes rfl rfl rfl hb7 rfl (op_callF Fa.C73 rfl ((aname_ok x.nm _ (by omega)).mono (fun e w8 hq => ?_)))
          obtain ⟨rfl, hf8⟩ := hq
          refine ⟨_, rfl, ?_⟩
          have H8 := H6.fr' hf8
          refine WL.yes rfl rfl rfl hb7 rfl (op_not rfl ?_)
          refine WL.op rfl rfl (op_pickF rfl hb7 rfl ?_)
          refine WL.nil ?_
          refine WQ.next ?_
          refine WC.cond rfl (fun (hb9 : (!(nmE x.nm)) = true) => ?_) (fun (hb9 : (!(nmE x.nm)) = false) => ?_)
          ·
            have hn9 := (Bool.not_eq_true' _).mp hb9
            refine WC.seq ?_
            refine WC.region ?_
            refine WL.op rfl rfl (op_assign rfl ?_)
            refine WL.nil ?_
            refine WQ.next ?_
            refine WC.ret ?_
            refine WQ.thenRet ?_
            refine WQ.out (.tmp rfl .nil) ?_
            exact ⟨by rw [lm_nm hn9]; rfl, H8.fr⟩
          ·
            have hn9 := (Bool.not_eq_false' _).mp hb9
            refine WC.skip ?_
            refine WQ.next ?_
            refine WC.seq ?_
            refine WC.seq ?_
            refine WC.region ?_
            refine WL.op rfl rfl (op_fieldAddr rfl Fa.F65_2 ?_)
            refine WL.op rfl rfl (op_load rfl (H8.cell (i := 0) rfl rfl) Tryd.underlying9 rfl ?_)
            refine WL.op rfl rfl (op_fieldAddr rfl Fa.F65_3 ?_)
            refine WL.op rfl rfl (op_load rfl (H8.cell (i := 0) rfl rfl) Tryd.underlying9 rfl ?_)
            refine WL.op rfl rfl (op_addStr rfl rfl (by first | omega | (rw [List.length_append]; omega) | (simp; omega)) ?_)
            refine WL.op rfl rfl (op_neqStr rfl rfl ?_)
            refine WL.nil ?_
            refine WQ.next ?_
            refine WC.yes rfl (by rw [ref_app]; exact ref_T hb2) ?_
            refine WC.seq ?_
            refine WC.region ?_
            refine WL.op rfl rfl (op_fieldAddr rfl Fa.F65_1 ?_)
            refine WL.op rfl rfl (op_fieldAddr rfl Fa.F61_0 ?_)
            refine WL.op rfl rfl (op_load rfl (H8.cell (i := 0) rfl rfl) Tryd.underlying5 rfl ?_)
            refine WL.op rfl rfl (op_callF Fa.C74 rfl ((uses_ok x.op _).mono (fun e w10 hq => ?_)))
            obtain ⟨rfl, hf10⟩ := hq
            refine ⟨_, rfl, ?_⟩
            have H10 := H8.fr' hf10
            refine WL.op rfl rfl (op_move rfl ?_)
            refine WL.op rfl rfl (op_extract rfl rfl ?_)
            refine WL.op rfl rfl (op_extract rfl rfl ?_)
            refine WL.op rfl rfl (op_extract rfl rfl ?_)
            refine WL.op rfl rfl (op_extract rfl rfl ?_)
            refine WL.op rfl rfl (op_extract rfl rfl ?_)
            refine WL.op rfl rfl (op_assign rfl ?_)
            refine WL.op rfl rfl (op_assign rfl ?_)
            refine WL.op rfl rfl (op_assign rfl ?_)
            refine WL.op rfl rfl (op_assign rfl ?_)
            refine WL.op rfl rfl (op_assign rfl ?_)
            refine WL.nil ?_
            refine WQ.next ?_
            refine WC.seq ?_
            refine WC.region ?_
            refine WL.op rfl rfl (op_fieldAddr rfl Fa.F65_1 ?_)
            refine WL.op rfl rfl (op_fieldAddr rfl Fa.F61_4 ?_)
            refine WL.op rfl rfl (op_storeB (i := 0) H10 rfl rfl rfl rfl rfl Fa.I22 (fun w11 H11 => ?_))
            refine WL.nil ?_
            refine WQ.next ?_
            refine WC.seq ?_
            refine WC.region ?_
            refine WL.op rfl rfl (op_move rfl ?_)
            refine WL.op rfl rfl (op_neqN (b := 0) rfl rfl ?_)
            refine WL.op rfl rfl (op_move rfl ?_)
            refine WL.split (t := 54) rfl (fun (hb12 : (decide ((useE x.op) ≠ 0)) = true) => ?_) (fun (hb12 : (decide ((useE x.op) ≠ 0)) = false) => ?_)
            ·
              have hc12 := of_decide_eq_true hb12
              refine WL.no rfl rfl rfl hb12 rfl ?_
              refine WL.no rfl rfl rfl hb12 rfl ?_
              refine WL.op rfl rfl (op_pickT rfl hb12 rfl ?_)
              refine WL.nil ?_
              refine WQ.next ?_
              refine WC.yes rfl rfl ?_
              refine WC.seq ?_
              refine WC.region ?_
              refine WL.op rfl rfl (op_assign rfl ?_)
              refine WL.nil ?_
              refine WQ.next ?_
              refine WC.ret ?_
              refine WQ.thenRet ?_
              refine WQ.out (.tmp rfl .nil) ?_
              exact ⟨by rw [lm_use (ref_T hb2) hb12]; rfl, H11.fr⟩
            ·
              have hc12 := of_decide_eq_false hb12
              refine WL.yes rfl rfl rfl hb12 rfl (op_move rfl ?_)
              refine WL.yes rfl rfl rfl hb12 rfl (op_not rfl ?_)
              refine WL.op rfl rfl (op_pickF rfl hb12 rfl ?_)
              refine WL.nil ?_
              refine WQ.next ?_
              refine WC.cond rfl (fun (hb13 : (!(ub x.op 8)) = true) => ?_) (fun (hb13 : (!(ub x.op 8)) = false) => ?_)
              ·
                have hn13 := (Bool.not_eq_true' _).mp hb13
                refine WC.seq ?_
                refine WC.region ?_
                refine WL.op rfl rfl (op_assign rfl ?_)
                refine WL.nil ?_
                refine WQ.next ?_
                refine WC.ret ?_
                refine WQ.thenRet ?_
                refine WQ.out (.tmp rfl .nil) ?_
                exact ⟨by rw [lm_imm (ref_T hb2) hn13]; rfl, H11.fr⟩
              ·
                have hn13 := (Bool.not_eq_false' _).mp hb13
                refine WC.skip ?_
                refine WQ.next ?_
                refine WC.seq ?_
                refine WC.region ?_
                refine WL.op rfl rfl (op_fieldAddr rfl Fa.F65_1 ?_)
                refine WL.op rfl rfl (op_loadS (vs := [_, _, _, _, _]) rfl (H11.cells (i := 0) rfl rfl) Tryd.underlying61 rfl Fa.I61 rfl ?_)
                refine WL.op rfl rfl (op_callF Fa.C62 rfl ((check_ok x.op x.d x.a x.b 0 _).mono (fun e w14 hq => ?_)))
                obtain ⟨rfl, hf14⟩ := hq
                refine ⟨_, rfl, ?_⟩
                have H14 := H11.fr' hf14
                refine WL.op rfl rfl (op_eqlN (b := 0) rfl rfl ?_)
                refine WL.op rfl rfl (op_assign rfl ?_)
                refine WL.nil ?_
                refine WQ.next ?_
                refine WC.ret ?_
                refine WQ.out (.tmp rfl .nil) ?_
                exact ⟨by rw [lm_chk (by rw [hb3, Bool.and_false]) hn5 hn7 hn9 (ref_T hb2) hn13]; rfl, H14.fr⟩
  ·
    have hc2 := of_decide_eq_false hb2
    refine WL.no rfl rfl rfl hb2 rfl ?_
    refine WL.no rfl rfl rfl hb2 rfl ?_
    refine WL.no rfl rfl rfl hb2 rfl ?_
    refine WL.op rfl rfl (op_pickF rfl hb2 rfl ?_)
    refine WL.op rfl rfl (op_move rfl ?_)
    refine WL.yes rfl rfl rfl rfl rfl (op_fieldAddr rfl Fa.F65_0 ?_)
    refine WL.yes rfl rfl rfl rfl rfl (op_load rfl (H1.cell (i := 0) rfl rfl) Tryd.underlying9 rfl ?_)
    refine WL.yes rfl rfl rfl rfl rfl (op_callF Fa.C73 rfl ((aname_ok x.lb _ (by omega)).mono (fun e w15 hq => ?_)))
    obtain ⟨rfl, hf15⟩ := hq
    refine ⟨_, rfl, ?_⟩
    have H15 := H1.fr' hf15
    refine WL.yes rfl rfl rfl rfl rfl (op_not rfl ?_)
    refine WL.op rfl rfl (op_pickF rfl rfl rfl ?_)
    refine WL.op rfl rfl (op_move rfl ?_)
    refine WL.split (t := 22) rfl (fun (hb16 : (!(nmE x.lb)) = true) => ?_) (fun (hb16 : (!(nmE x.lb)) = false) => ?_)
    ·
      have hn16 := (Bool.not_eq_true' _).mp hb16
      refine WL.no rfl rfl rfl hb16 rfl ?_
      refine WL.no rfl rfl rfl hb16 rfl ?_
      refine WL.no rfl rfl rfl hb16 rfl ?_
      refine WL.no rfl rfl rfl hb16 rfl ?_
      refine WL.op rfl rfl (op_pickT rfl hb16 rfl ?_)
      refine WL.op rfl rfl (op_move rfl ?_)
      refine WL.no rfl rfl rfl rfl rfl ?_
      refine WL.no rfl rfl rfl rfl rfl ?_
      refine WL.no rfl rfl rfl rfl rfl ?_
      refine WL.no rfl rfl rfl rfl rfl ?_
      refine WL.op rfl rfl (op_pickT rfl rfl rfl ?_)
      refine WL.nil ?_
      refine WQ.next ?_
      refine WC.yes rfl rfl ?_
      refine WC.seq ?_
      refine WC.region ?_
      refine WL.op rfl rfl (op_assign rfl ?_)
      refine WL.nil ?_
      refine WQ.next ?_
      refine WC.ret ?_
      refine WQ.thenRet ?_
      refine WQ.out (.tmp rfl .nil) ?_
      exact ⟨by rw [lm_lb hn16]; rfl, H15.fr⟩
    ·
      have hn16 := (Bool.not_eq_false' _).mp hb16
      refine WL.yes rfl rfl rfl hb16 rfl (op_fieldAddr rfl Fa.F65_2 ?_)
      refine WL.yes rfl rfl rfl hb16 rfl (op_load rfl (H15.cell (i := 0) rfl rfl) Tryd.underlying9 rfl ?_)
      refine WL.yes rfl rfl rfl hb16 rfl (op_callF Fa.C73 rfl ((aname_ok x.to _ (by omega)).mono (fun e w17 hq => ?_)))
      obtain ⟨rfl, hf17⟩ := hq
      refine ⟨_, rfl, ?_⟩
      have H17 := H15.fr' hf17
      refine WL.yes rfl rfl rfl hb16 rfl (op_not rfl ?_)
      refine WL.op rfl rfl (op_pickF rfl hb16 rfl ?_)
      refine WL.op rfl rfl (op_move rfl ?_)
      refine WL.split (t := 28) rfl (fun (hb18 : (!(nmE x.to)) = true) => ?_) (fun (hb18 : (!(nmE x.to)) = false) => ?_)
      ·
        have hn18 := (Bool.not_eq_true' _).mp hb18
        refine WL.no rfl rfl rfl hb18 rfl ?_
        refine WL.no rfl rfl rfl hb18 rfl ?_
        refine WL.no rfl rfl rfl hb18 rfl ?_
        refine WL.no rfl rfl rfl hb18 rfl ?_
        refine WL.op rfl rfl (op_pickT rfl hb18 rfl ?_)
        refine WL.nil ?_
        refine WQ.next ?_
        refine WC.yes rfl rfl ?_
        refine WC.seq ?_
        refine WC.region ?_
        refine WL.op rfl rfl (op_assign rfl ?_)
        refine WL.nil ?_
        refine WQ.next ?_
        refine WC.ret ?_
        refine WQ.thenRet ?_
        refine WQ.out (.tmp rfl .nil) ?_
        exact ⟨by rw [lm_to hn18]; rfl, H17.fr⟩
      ·
        have hn18 := (Bool.not_eq_false' _).mp hb18
        refine WL.yes rfl rfl rfl hb18 rfl (op_fieldAddr rfl Fa.F65_3 ?_)
        refine WL.yes rfl rfl rfl hb18 rfl (op_load rfl (H17.cell (i := 0) rfl rfl) Tryd.underlying9 rfl ?_)
        refine WL.yes rfl rfl rfl hb18 rfl (op_callF Fa.C73 rfl ((aname_ok x.nm _ (by omega)).mono (fun e w19 hq => ?_)))
        obtain ⟨rfl, hf19⟩ := hq
        refine ⟨_, rfl, ?_⟩
        have H19 := H17.fr' hf19
        refine WL.yes rfl rfl rfl hb18 rfl (op_not rfl ?_)
        refine WL.op rfl rfl (op_pickF rfl hb18 rfl ?_)
        refine WL.nil ?_
        refine WQ.next ?_
        refine WC.cond rfl (fun (hb20 : (!(nmE x.nm)) = true) => ?_) (fun (hb20 : (!(nmE x.nm)) = false) => ?_)
        ·
          have hn20 := (Bool.not_eq_true' _).mp hb20
          refine WC.seq ?_
          refine WC.region ?_
          refine WL.op rfl rfl (op_assign rfl ?_)
          refine WL.nil ?_
          refine WQ.next ?_
          refine WC.ret ?_
          refine WQ.thenRet ?_
          refine WQ.out (.tmp rfl .nil) ?_
          exact ⟨by rw [lm_nm hn20]; rfl, H19.fr⟩
        ·
          have hn20 := (Bool.not_eq_false' _).mp hb20
          refine WC.skip ?_
          refine WQ.next ?_
          refine WC.seq ?_
          refine WC.seq ?_
          refine WC.region ?_
          refine WL.op rfl rfl (op_fieldAddr rfl Fa.F65_2 ?_)
          refine WL.op rfl rfl (op_load rfl (H19.cell (i := 0) rfl rfl) Tryd.underlying9 rfl ?_)
          refine WL.op rfl rfl (op_fieldAddr rfl Fa.F65_3 ?_)
          refine WL.op rfl rfl (op_load rfl (H19.cell (i := 0) rfl rfl) Tryd.underlying9 rfl ?_)
          refine WL.op rfl rfl (op_addStr rfl rfl (by first | omega | (rw [List.length_append]; omega) | (simp; omega)) ?_)
          refine WL.op rfl rfl (op_neqStr rfl rfl ?_)
          refine WL.nil ?_
          refine WQ.next ?_
          refine WC.cond rfl (fun (hb21 : (decide ((x.to ++ x.nm) ≠ [])) = true) => ?_) (fun (hb21 : (decide ((x.to ++ x.nm) ≠ [])) = false) => ?_)
          ·
            have hc21 := of_decide_eq_true hb21
            refine WC.seq ?_
            refine WC.region ?_
            refine WL.op rfl rfl (op_fieldAddr rfl Fa.F65_1 ?_)
            refine WL.op rfl rfl (op_fieldAddr rfl Fa.F61_0 ?_)
            refine WL.op rfl rfl (op_load rfl (H19.cell (i := 0) rfl rfl) Tryd.underlying5 rfl ?_)
            refine WL.op rfl rfl (op_callF Fa.C74 rfl ((uses_ok x.op _).mono (fun e w22 hq => ?_)))
            obtain ⟨rfl, hf22⟩ := hq
            refine ⟨_, rfl, ?_⟩
            have H22 := H19.fr' hf22
            refine WL.op rfl rfl (op_move rfl ?_)
            refine WL.op rfl rfl (op_extract rfl rfl ?_)
            refine WL.op rfl rfl (op_extract rfl rfl ?_)
            refine WL.op rfl rfl (op_extract rfl rfl ?_)
            refine WL.op rfl rfl (op_extract rfl rfl ?_)
            refine WL.op rfl rfl (op_extract rfl rfl ?_)
            refine WL.op rfl rfl (op_assign rfl ?_)
            refine WL.op rfl rfl (op_assign rfl ?_)
            refine WL.op rfl rfl (op_assign rfl ?_)
            refine WL.op rfl rfl (op_assign rfl ?_)
            refine WL.op rfl rfl (op_assign rfl ?_)
            refine WL.nil ?_
            refine WQ.next ?_
            refine WC.seq ?_
            refine WC.region ?_
            refine WL.op rfl rfl (op_fieldAddr rfl Fa.F65_1 ?_)
            refine WL.op rfl rfl (op_fieldAddr rfl Fa.F61_4 ?_)
            refine WL.op rfl rfl (op_storeB (i := 0) H22 rfl rfl rfl rfl rfl Fa.I22 (fun w23 H23 => ?_))
            refine WL.nil ?_
            refine WQ.next ?_
            refine WC.seq ?_
            refine WC.region ?_
            refine WL.op rfl rfl (op_move rfl ?_)
            refine WL.op rfl rfl (op_neqN (b := 0) rfl rfl ?_)
            refine WL.op rfl rfl (op_move rfl ?_)
            refine WL.split (t := 54) rfl (fun (hb24 : (decide ((useE x.op) ≠ 0)) = true) => ?_) (fun (hb24 : (decide ((useE x.op) ≠ 0)) = false) => ?_)
            ·
              have hc24 := of_decide_eq_true hb24
              refine WL.no rfl rfl rfl hb24 rfl ?_
              refine WL.no rfl rfl rfl hb24 rfl ?_
              refine WL.op rfl rfl (op_pickT rfl hb24 rfl ?_)
              refine WL.nil ?_
              refine WQ.next ?_
              refine WC.yes rfl rfl ?_
              refine WC.seq ?_
              refine WC.region ?_
              refine WL.op rfl rfl (op_assign rfl ?_)
              refine WL.nil ?_
              refine WQ.next ?_
              refine WC.ret ?_
              refine WQ.thenRet ?_
              refine WQ.out (.tmp rfl .nil) ?_
              exact ⟨by rw [lm_use ((ref_app x).symm.trans hb21) hb24]; rfl, H23.fr⟩
            ·
              have hc24 := of_decide_eq_false hb24
              refine WL.yes rfl rfl rfl hb24 rfl (op_move rfl ?_)
              refine WL.yes rfl rfl rfl hb24 rfl (op_not rfl ?_)
              refine WL.op rfl rfl (op_pickF rfl hb24 rfl ?_)
              refine WL.nil ?_
              refine WQ.next ?_
              refine WC.cond rfl (fun (hb25 : (!(ub x.op 8)) = true) => ?_) (fun (hb25 : (!(ub x.op 8)) = false) => ?_)
              ·
                have hn25 := (Bool.not_eq_true' _).mp hb25
                refine WC.seq ?_
                refine WC.region ?_
                refine WL.op rfl rfl (op_assign rfl ?_)
                refine WL.nil ?_
                refine WQ.next ?_
                refine WC.ret ?_
                refine WQ.thenRet ?_
                refine WQ.out (.tmp rfl .nil) ?_
                exact ⟨by rw [lm_imm ((ref_app x).symm.trans hb21) hn25]; rfl, H23.fr⟩
              ·
                have hn25 := (Bool.not_eq_false' _).mp hb25
                refine WC.skip ?_
                refine WQ.next ?_
                refine WC.seq ?_
                refine WC.region ?_
                refine WL.op rfl rfl (op_fieldAddr rfl Fa.F65_1 ?_)
                refine WL.op rfl rfl (op_loadS (vs := [_, _, _, _, _]) rfl (H23.cells (i := 0) rfl rfl) Tryd.underlying61 rfl Fa.I61 rfl ?_)
                refine WL.op rfl rfl (op_callF Fa.C62 rfl ((check_ok x.op x.d x.a x.b 0 _).mono (fun e w26 hq => ?_)))
                obtain ⟨rfl, hf26⟩ := hq
                refine ⟨_, rfl, ?_⟩
                have H26 := H23.fr' hf26
                refine WL.op rfl rfl (op_eqlN (b := 0) rfl rfl ?_)
                refine WL.op rfl rfl (op_assign rfl ?_)
                refine WL.nil ?_
                refine WQ.next ?_
                refine WC.ret ?_
                refine WQ.out (.tmp rfl .nil) ?_
                exact ⟨by rw [lm_chk (by rw [hb2]; rfl) hn16 hn18 hn20 ((ref_app x).symm.trans hb21) hn25]; rfl, H26.fr⟩
          ·
            have hc21 := of_decide_eq_false hb21
            refine WC.skip ?_
            refine WQ.next ?_
            refine WC.seq ?_
            refine WC.region ?_
            refine WL.op rfl rfl (op_fieldAddr rfl Fa.F65_1 ?_)
            refine WL.op rfl rfl (op_loadS (vs := [_, _, _, _, _]) rfl (H19.cells (i := 0) rfl rfl) Tryd.underlying61 rfl Fa.I61 rfl ?_)
            refine WL.op rfl rfl (op_callF Fa.C62 rfl ((check_ok x.op x.d x.a x.b x.imm _).mono (fun e w27 hq => ?_)))
            obtain ⟨rfl, hf27⟩ := hq
            refine ⟨_, rfl, ?_⟩
            have H27 := H19.fr' hf27
            refine WL.op rfl rfl (op_eqlN (b := 0) rfl rfl ?_)
            refine WL.op rfl rfl (op_assign rfl ?_)
            refine WL.nil ?_
            refine WQ.next ?_
            refine WC.ret ?_
            refine WQ.out (.tmp rfl .nil) ?_
            exact ⟨by rw [lm_plain (by rw [hb2]; rfl) hn16 hn18 hn20 ((ref_app x).symm.trans hb21)]; rfl, H27.fr⟩
set_option maxRecDepth 100000 in
theorem lnbad_ok (x : Ln) (w : World) (hx : x.lb.length < 2 ^ 47 ∧ x.to.length < 2 ^ 47 ∧ x.nm.length < 2 ^ 47) :
    Calls Tryd.prog 49 #[(.agg #[(str x.lb), (vU8 x.op), (vU8 x.d), (vU8 x.a), (vU8 x.b), (vU32 x.imm), (str x.to), (str x.nm)])] w (fun e w' => e = .returned (.bool (!lnMay x)) ∧ Fr [] w w') := by
  refine enter (args := [(.agg #[(str x.lb), (vU8 x.op), (vU8 x.d), (vU8 x.a), (vU8 x.b), (vU32 x.imm), (str x.to), (str x.nm)])]) Tryd.func49 rfl rfl ?_
  have H0 : Own [] w w [] := Own.start w []
  refine WC.seq ?_
  refine WC.region ?_
  refine WL.op rfl rfl (op_box H0 rfl rfl (fun b1 w1 H1 => ?_))
  refine WL.op rfl rfl (op_assign rfl ?_)
  refine WL.nil ?_
  refine WQ.next ?_
  refine WC.seq ?_
  refine WC.region ?_
  refine WL.op rfl rfl (op_loadS (vs := [_, _, _, _, _, _, _, _]) rfl (H1.cells (i := 0) rfl rfl) Tryd.underlying65 rfl Fa.I65 rfl ?_)
  refine WL.op rfl rfl (op_callF Fa.C50 rfl ((amay_ok x _ hx).mono (fun e w2 hq => ?_)))
  obtain ⟨rfl, hf2⟩ := hq
  refine ⟨_, rfl, ?_⟩
  have H2 := H1.fr' hf2
  refine WL.op rfl rfl (op_not rfl ?_)
  refine WL.op rfl rfl (op_assign rfl ?_)
  refine WL.nil ?_
  refine WQ.next ?_
  refine WC.ret ?_
  refine WQ.out (.tmp rfl .nil) ?_
  exact ⟨rfl, H2.fr⟩
set_option maxRecDepth 100000 in
theorem idxL_ok (lv : Value) (l : List Ln) (w : World) (hA : Arr w lv 8 l.length (List.flatMap lnc l)) (hfx : ∀ k, (l.getD k Ln.zero).lb.length < 2 ^ 47 ∧ (l.getD k Ln.zero).to.length < 2 ^ 47 ∧ (l.getD k Ln.zero).nm.length < 2 ^ 47) (hn : l.length < 2 ^ 47) :
    Calls Tryd.prog 72 #[lv, (.func (.func 49) #[] #[])] w (fun e w' => e = .returned (vI (fidx (fun n => !lnMay n) l)) ∧ Fr [] w w') := by
  refine enter (args := [lv, (.func (.func 49) #[] #[])]) Tryd.func72 rfl rfl ?_
  have H0 : Own [] w w [] := Own.start w []
  refine WC.seq ?_
  refine WC.region ?_
  refine WL.op rfl rfl (op_assign rfl ?_)
  refine WL.nil ?_
  refine WQ.next ?_
  refine WC.seq ?_
  refine WC.seq ?_
  refine WC.region ?_
  refine WL.op rfl rfl (op_move rfl ?_)
  refine WL.op rfl rfl (op_lenA Tryd.underlying48 rfl (H0.arr hA) ?_)
  refine WL.op rfl rfl (op_move rfl ?_)
  refine WL.nil ?_
  refine WQ.next ?_
  refine WC.block ?_
  refine WC.loop (α := Nat) (fun k => [(0, lv), (1, (.func (.func 49) #[] #[])), (7, (vN l.length)), (8, (vN k))]) (fun k w' => (k ≤ l.length ∧ (∀ j, j < k → (fun n => !lnMay n) (l.getD j Ln.zero) = false)) ∧ Own [] w w' []) (fun k => l.length - k) 0 ⟨⟨Nat.zero_le _, fun j h => by omega⟩, H0⟩ ⟨rfl, rfl, rfl, rfl, trivial⟩ ?_
  rintro k w1 ⟨⟨hk1, hok⟩, H1⟩
  show WC _ _ _ _ _ [(0, lv), (1, (.func (.func 49) #[] #[])), (7, (vN l.length)), (8, (vN k))] _
  refine WC.seq ?_
  refine WC.region ?_
  refine WL.op rfl rfl (op_lssN rfl rfl ?_)
  refine WL.nil ?_
  refine WQ.next ?_
  refine WC.seq ?_
  refine WC.cond rfl (fun (hb2 : (decide (k < l.length)) = true) => ?_) (fun (hb2 : (decide (k < l.length)) = false) => ?_)
  ·
    have hc2 := of_decide_eq_true hb2
    refine WC.skip ?_
    refine WQ.next ?_
    refine WC.seq ?_
    refine WC.block ?_
    refine WC.seq ?_
    refine WC.region ?_
    refine WL.op rfl rfl (op_move rfl ?_)
    refine WL.op rfl rfl (op_assign rfl ?_)
    refine WL.nil ?_
    refine WQ.next ?_
    refine WC.seq ?_
    refine WC.region ?_
    refine WL.op rfl rfl (op_move rfl ?_)
    refine WL.op rfl rfl (op_move rfl ?_)
    refine WL.op rfl rfl (op_move rfl ?_)
    refine WL.op rfl rfl (op_indexAddr Tryd.underlying48 Fa.I65 rfl (H1.arr hA) rfl (by omega) ?_)
    refine WL.op rfl rfl (op_loadSP (vs := lnc (l.getD k Ln.zero)) rfl (Arr.atsF (H1.arr hA) (fun _ => rfl) (by decide) Ln.zero (by omega)) Tryd.underlying65 rfl Fa.I65 rfl ?_)
    refine WL.op rfl rfl (op_call (f := 49) rfl Fa.C49 rfl ((lnbad_ok (l.getD k Ln.zero) _ (hfx _)).mono (fun e w3 hq => ?_)))
    obtain ⟨rfl, hf3⟩ := hq
    refine ⟨_, rfl, ?_⟩
    have H3 := H1.fr' hf3
    refine WL.nil ?_
    refine WQ.next ?_
    refine WC.cond rfl (fun (hb4 : (!lnMay (l.getD k Ln.zero)) = true) => ?_) (fun (hb4 : (!lnMay (l.getD k Ln.zero)) = false) => ?_)
    ·
      have hn4 := (Bool.not_eq_true' _).mp hb4
      refine WC.seq ?_
      refine WC.region ?_
      refine WL.op rfl rfl (op_move rfl ?_)
      refine WL.op rfl rfl (op_assign rfl ?_)
      refine WL.nil ?_
      refine WQ.next ?_
      refine WC.ret ?_
      refine WQ.inRet ?_
      refine WQ.thenRet ?_
      refine WQ.thenRet ?_
      refine WQ.inRet ?_
      refine WQ.thenRet ?_
      refine WQ.out (.tmp rfl .nil) ?_
      exact ⟨by rw [fidx_yes (d := Ln.zero) (by omega) hok hb4]; rfl, H3.fr⟩
    ·
      have hn4 := (Bool.not_eq_false' _).mp hb4
      refine WC.skip ?_
      refine WQ.inNormal ?_
      refine WQ.next ?_
      refine WC.region ?_
      refine WL.op rfl rfl (op_addN (b := 1) rfl rfl (by omega) ?_)
      refine WL.op rfl rfl (op_move rfl ?_)
      refine WL.nil ?_
      exact WQ.round (k + 1) ⟨⟨by omega, allPrev hok hb4⟩, H3⟩ ⟨rfl, rfl, rfl, rfl, trivial⟩ (by omega)
  ·
    have hc2 := of_decide_eq_false hb2
    refine WC.exit ?_
    refine WQ.thenExit ?_
    refine WQ.thenExit ?_
    refine WQ.inHere ?_
    refine WQ.next ?_
    refine WC.seq ?_
    refine WC.region ?_
    refine WL.op rfl rfl (op_assign rfl ?_)
    refine WL.nil ?_
    refine WQ.next ?_
    refine WC.ret ?_
    refine WQ.out (.tmp rfl .nil) ?_
    exact ⟨by rw [fidx_no (d := Ln.zero) (fun j hj => hok j (by omega))]; rfl, H1.fr⟩
set_option maxRecDepth 100000 in
theorem conL_ok (lv : Value) (l : List Ln) (w : World) (hA : Arr w lv 8 l.length (List.flatMap lnc l)) (hfx : ∀ k, (l.getD k Ln.zero).lb.length < 2 ^ 47 ∧ (l.getD k Ln.zero).to.length < 2 ^ 47 ∧ (l.getD k Ln.zero).nm.length < 2 ^ 47) (hn : l.length < 2 ^ 47) :
    Calls Tryd.prog 48 #[lv, (.func (.func 49) #[] #[])] w (fun e w' => e = .returned (.bool (l.any (fun n => !lnMay n))) ∧ Fr [] w w') := by
  refine enter (args := [lv, (.func (.func 49) #[] #[])]) Tryd.func48 rfl rfl ?_
  have H0 : Own [] w w [] := Own.start w []
  refine WC.seq ?_
  refine WC.region ?_
  refine WL.op rfl rfl (op_assign rfl ?_)
  refine WL.nil ?_
  refine WQ.next ?_
  refine WC.seq ?_
  refine WC.region ?_
  refine WL.op rfl rfl (op_move rfl ?_)
  refine WL.op rfl rfl (op_move rfl ?_)
  refine WL.op rfl rfl (op_callF Fa.C72 rfl ((idxL_ok _ l _ (H0.arr hA) hfx (by omega)).mono (fun e w1 hq => ?_)))
  obtain ⟨rfl, hf1⟩ := hq
  refine ⟨_, rfl, ?_⟩
  have H1 := H0.fr' hf1
  refine WL.op rfl rfl (op_geqI (b := (0 : Int)) rfl rfl ?_)
  refine WL.op rfl rfl (op_assign rfl ?_)
  refine WL.nil ?_
  refine WQ.next ?_
  refine WC.ret ?_
  refine WQ.out (.tmp rfl .nil) ?_
  exact ⟨by rw [← fidx_any]; rfl, H1.fr⟩
end Go.Proofs.YtnngbnenekjffaaDoor
/-! from DAsm2 -/
namespace Go.Proofs.YtnngbnenekjffaaDoor
open Go.Owl Go.Spec
set_option maxRecDepth 100000 in
theorem cloneN_ok (lv : Value) (l : List Nt) (w : World) (hA : Arr w lv 3 l.length (List.flatMap ntc l)) (hn : l.length < 2 ^ 40) :
    Calls Tryd.prog 51 #[lv] w (fun e w' => ∃ v, e = .returned v ∧ Own [] w w' [.row v 68 3 l.length (List.flatMap ntc l)]) := by
  refine enter (args := [lv]) Tryd.func51 rfl rfl ?_
  have H0 : Own [] w w [] := Own.start w []
  refine WC.seq ?_
  refine WC.region ?_
  refine WL.op rfl rfl (op_assign rfl ?_)
  refine WL.nil ?_
  refine WQ.next ?_
  refine WC.seq ?_
  refine WC.seq ?_
  refine WC.region ?_
  refine WL.op rfl rfl (op_move rfl ?_)
  refine WL.op rfl rfl (op_eqlSN Tryd.underlying24 rfl (H0.arr hA) rfl ?_)
  refine WL.nil ?_
  refine WQ.next ?_
  refine WC.cond rfl (fun (hb1 : (isNilS lv) = true) => ?_) (fun (hb1 : (isNilS lv) = false) => ?_)
  ·
    refine WC.seq ?_
    refine WC.region ?_
    refine WL.op rfl rfl (op_assign rfl ?_)
    refine WL.nil ?_
    refine WQ.next ?_
    refine WC.ret ?_
    refine WQ.thenRet ?_
    refine WQ.out (.tmp rfl .nil) ?_
    obtain rfl : l = [] := List.eq_nil_of_length_eq_zero (Arr.nilLen hA hb1)
    exact ⟨_, rfl, (H0.sel [] rfl rfl).nilRow 68 3⟩
  ·
    refine WC.skip ?_
    refine WQ.next ?_
    refine WC.seq ?_
    refine WC.region ?_
    refine WL.op rfl rfl (op_buildSlice (cs := []) H0 Tryd.underlying24 Fa.I68 rfl rfl rfl rfl (by decide) (by decide) (fun b2 w2 H2 => ?_))
    refine WL.op rfl rfl (op_move rfl ?_)
    refine WL.op rfl rfl (op_appendF (f := ntc) (l := []) (l' := l) (i := 0) H2 Tryd.underlying24 Fa.I68 rfl rfl rfl rfl (Src.ofArr Tryd.underlying24 (H2.arr hA)) (one_flat (fun _ => by simp [ntc, Value.oneCell'])) (by omega) (by omega) (fun v3 w3 H3 => ?_))
    refine WL.op rfl rfl (op_assign rfl ?_)
    refine WL.nil ?_
    refine WQ.next ?_
    refine WC.ret ?_
    refine WQ.out (.tmp rfl .nil) ?_
    have h := H3.sel [0] rfl rfl
    rw [Nat.zero_add, List.nil_append] at h
    exact ⟨_, rfl, h⟩
set_option maxRecDepth 100000 in
theorem label_ok (q : Nat) (c0 c1 c2 c3 c4 c5 c6 : Value) (b : Nat) (lv : Value) (l : List Ln) (FT : TypeId) (T : List Nat) (w : World) (H : Own T w w [.blk q [c0, c1, c2, c3, c4, c5, c6, (.map (some b))] FT, .obj b (mO vU32 (labTo l 0))]) (hA : ∀ w1, Fr T w w1 → Arr w1 lv 8 l.length (List.flatMap lnc l)) (hn : l.length < 2 ^ 40) :
    Calls Tryd.prog 52 #[(ptr q 0), lv] w (fun e w' => ∃ m, e = .returned (vN (labE l)) ∧ (labE l = 0 → m = labTo l l.length) ∧ Own T w w' [.blk q [c0, c1, c2, c3, c4, c5, c6, .map (some b)] FT, .obj b (mO vU32 m)]) := by
  refine enter (args := [(ptr q 0), lv]) Tryd.func52 rfl rfl ?_
  refine WC.seq ?_
  refine WC.region ?_
  refine WL.op rfl rfl (op_assign rfl ?_)
  refine WL.nil ?_
  refine WQ.next ?_
  refine WC.seq ?_
  refine WC.seq ?_
  refine WC.region ?_
  refine WL.op rfl rfl (op_move rfl ?_)
  refine WL.op rfl rfl (op_lenA Tryd.underlying48 rfl ((hA _ H.fr)) ?_)
  refine WL.op rfl rfl (op_move rfl ?_)
  refine WL.nil ?_
  refine WQ.next ?_
  refine WC.block ?_
  refine WC.loop (α := Nat) (fun k => [(0, (ptr q 0)), (4, (vN 0)), (9, lv), (10, (vN l.length)), (11, (vN k))]) (fun k w' => (k ≤ l.length ∧ (∀ j, j < k → dupB l j = false)) ∧ Own T w w' [.blk q [c0, c1, c2, c3, c4, c5, c6, (.map (some b))] FT, .obj b (mO vU32 (labTo l k))]) (fun k => l.length - k) 0 ⟨⟨Nat.zero_le _, fun j h => by omega⟩, H⟩ ⟨rfl, rfl, rfl, rfl, rfl, trivial⟩ ?_
  rintro k w1 ⟨⟨hk1, hok⟩, H1⟩
  show WC _ _ _ _ _ [(0, (ptr q 0)), (4, (vN 0)), (9, lv), (10, (vN l.length)), (11, (vN k))] _
  refine WC.seq ?_
  refine WC.region ?_
  refine WL.op rfl rfl (op_lssN rfl rfl ?_)
  refine WL.nil ?_
  refine WQ.next ?_
  refine WC.seq ?_
  refine WC.cond rfl (fun (hb2 : (decide (k < l.length)) = true) => ?_) (fun (hb2 : (decide (k < l.length)) = false) => ?_)
  ·
    have hc2 := of_decide_eq_true hb2
    refine WC.skip ?_
    refine WQ.next ?_
    refine WC.seq ?_
    refine WC.block ?_
    refine WC.seq ?_
    refine WC.region ?_
    refine WL.op rfl rfl (op_move rfl ?_)
    refine WL.op rfl rfl (op_indexAddr Tryd.underlying48 Fa.I65 rfl ((hA _ H1.fr)) rfl (by omega) ?_)
    refine WL.op rfl rfl (op_loadSP (vs := lnc (l.getD k Ln.zero)) rfl (Arr.atsF ((hA _ H1.fr)) (fun _ => rfl) (by decide) Ln.zero (by omega)) Tryd.underlying65 rfl Fa.I65 rfl ?_)
    refine WL.op rfl rfl (op_alloc H1 Fa.I65 (fun b3 w3 H3 => ?_))
    refine WL.op rfl rfl (op_assign rfl ?_)
    refine WL.op rfl rfl (op_storeBW (i := 2) H3 rfl rfl rfl rfl rfl Fa.I65 (fun w4 H4 => ?_))
    refine WL.nil ?_
    refine WQ.next ?_
    refine WC.seq ?_
    refine WC.seq ?_
    refine WC.region ?_
    refine WL.op rfl rfl (op_fieldAddr rfl Fa.F65_0 ?_)
    refine WL.op rfl rfl (op_load rfl (H4.cell (i := 2) rfl rfl) Tryd.underlying9 rfl ?_)
    refine WL.op rfl rfl (op_eqlStr rfl rfl ?_)
    refine WL.nil ?_
    refine WQ.next ?_
    refine WC.cond rfl (fun (hb5 : (decide ((l.getD k Ln.zero).lb = [])) = true) => ?_) (fun (hb5 : (decide ((l.getD k Ln.zero).lb = [])) = false) => ?_)
    ·
      have hc5 := of_decide_eq_true hb5
      refine WC.exit ?_
      refine WQ.thenExit ?_
      refine WQ.inHere ?_
      refine WQ.next ?_
      refine WC.region ?_
      refine WL.op rfl rfl (op_addN (b := 1) rfl rfl (by omega) ?_)
      refine WL.op rfl rfl (op_move rfl ?_)
      refine WL.nil ?_
      exact WQ.round (k + 1) ⟨⟨by omega, allPrev hok (dup_nil (of_decide_eq_true hb5))⟩, (by have h := (show Own T w w4 [.blk q [c0, c1, c2, c3, c4, c5, c6, (.map (some b))] FT, .obj b (mO vU32 (labTo l k))] from (H4.take 2)); rw [← lab_nil (of_decide_eq_true hb5)] at h; exact h)⟩ ⟨rfl, rfl, rfl, rfl, rfl, trivial⟩ (by omega)
    ·
      have hc5 := of_decide_eq_false hb5
      refine WC.skip ?_
      refine WQ.next ?_
      refine WC.seq ?_
      refine WC.seq ?_
      refine WC.draw 12 Fa.M H4 (HW.op rfl (fun w1 H1 => op_move rfl ⟨rfl, Fr.refl _ _⟩) (HW.op rfl (fun w1 H1 => op_nilCheck rfl ⟨rfl, Fr.refl _ _⟩) (HW.op rfl (fun w1 H1 => op_fieldAddr rfl Fa.F102_1 ⟨rfl, Fr.refl _ _⟩) (HW.op rfl (fun w1 H1 => op_load rfl (H1.cell (i := 0) rfl rfl) Tryd.underlying100 rfl ⟨rfl, Fr.refl _ _⟩) (HW.op rfl (fun w1 H1 => op_fieldAddr rfl Fa.F65_0 ⟨rfl, Fr.refl _ _⟩) (HW.op rfl (fun w1 H1 => op_load rfl (H1.cell (i := 2) rfl rfl) Tryd.underlying9 rfl ⟨rfl, Fr.refl _ _⟩) (HW.op rfl (fun w1 H1 => op_lookupG (i := 1) (c := 0) H1 rfl Tryd.underlying100 Tryd.underlying9 Fa.Z22 rfl rfl ⟨rfl, Fr.refl _ _⟩) (HW.op rfl (fun w1 H1 => op_move rfl ⟨rfl, Fr.refl _ _⟩) (HW.op rfl (fun w1 H1 => op_extract rfl rfl ⟨rfl, Fr.refl _ _⟩) (HW.op rfl (fun w1 H1 => op_extract rfl rfl ⟨rfl, Fr.refl _ _⟩) (HW.op rfl (fun w1 H1 => op_assign rfl ⟨rfl, Fr.refl _ _⟩) (HW.op rfl (fun w1 H1 => op_assign rfl ⟨rfl, Fr.refl _ _⟩)  HW.nil)))))))))))) (by kernel_rfl) ?_
      intro β6 w6 H6
      refine WL.nil ?_
      refine WQ.next ?_
      refine WC.seq ?_
      refine WC.region ?_
      refine WL.op rfl rfl (op_move rfl ?_)
      refine WL.nil ?_
      refine WQ.next ?_
      refine WC.cond rfl (fun (hb7 : (mget (l.getD k Ln.zero).lb (labTo l k)).isSome = true) => ?_) (fun (hb7 : (mget (l.getD k Ln.zero).lb (labTo l k)).isSome = false) => ?_)
      ·
        refine WC.seq ?_
        refine WC.region ?_
        refine WL.op rfl rfl (op_assign rfl ?_)
        refine WL.nil ?_
        refine WQ.next ?_
        refine WC.ret ?_
        refine WQ.thenRet ?_
        refine WQ.inRet ?_
        refine WQ.thenRet ?_
        refine WQ.thenRet ?_
        refine WQ.inRet ?_
        refine WQ.thenRet ?_
        refine WQ.out (.tmp rfl .nil) ?_
        rw [labE_9 (k := k) (by omega) ((dup_get (of_decide_eq_false hb5) hok).symm.trans hb7)]
        exact ⟨_, rfl, (fun h => absurd h (by decide)), H6.sel [0, 1] rfl rfl⟩
      ·
        refine WC.skip ?_
        refine WQ.next ?_
        refine WC.draw 9 Fa.M H6 (HW.op rfl (fun w1 H1 => op_move rfl ⟨rfl, Fr.refl _ _⟩) (HW.op rfl (fun w1 H1 => op_nilCheck rfl ⟨rfl, Fr.refl _ _⟩) (HW.op rfl (fun w1 H1 => op_fieldAddr rfl Fa.F102_1 ⟨rfl, Fr.refl _ _⟩) (HW.op rfl (fun w1 H1 => op_load rfl (H1.cell (i := 0) rfl rfl) Tryd.underlying100 rfl ⟨rfl, Fr.refl _ _⟩) (HW.op rfl (fun w1 H1 => op_fieldAddr rfl Fa.F65_0 ⟨rfl, Fr.refl _ _⟩) (HW.op rfl (fun w1 H1 => op_load rfl (H1.cell (i := 2) rfl rfl) Tryd.underlying9 rfl ⟨rfl, Fr.refl _ _⟩) (HW.op rfl (fun w1 H1 => op_move rfl ⟨rfl, Fr.refl _ _⟩) (HW.op rfl (fun w1 H1 => op_convNU32 (hs := Tryd.underlying3) (hd := Tryd.underlying22) rfl ⟨rfl, Fr.refl _ _⟩) (HW.op rfl (fun w1 H1 => op_mulU32 (b := 8) rfl rfl ⟨rfl, Fr.refl _ _⟩)  HW.nil))))))))) (by kernel_rfl) ?_
        intro β8 w8 H8
        refine WL.op rfl rfl (op_mapUpdate (i := 1) (v := ((UInt32.ofNat k) * (8 : UInt32))) H8 rfl Tryd.underlying100 Tryd.underlying9 rfl rfl rfl (fun w9 H9 => ?_))
        refine WL.nil ?_
        refine WQ.inNormal ?_
        refine WQ.next ?_
        refine WC.region ?_
        refine WL.op rfl rfl (op_addN (b := 1) rfl rfl (by omega) ?_)
        refine WL.op rfl rfl (op_move rfl ?_)
        refine WL.nil ?_
        exact WQ.round (k + 1) ⟨⟨by omega, allPrev hok ((dup_get (of_decide_eq_false hb5) hok).symm.trans hb7)⟩, (by have h := (show Own T w w9 [.blk q [c0, c1, c2, c3, c4, c5, c6, (.map (some b))] FT, .obj b (mO vU32 (mset (l.getD k Ln.zero).lb ((UInt32.ofNat k) * (8 : UInt32)) (labTo l k)))] from (H9.take 2)); rw [← lab_set (of_decide_eq_false hb5)] at h; exact h)⟩ ⟨rfl, rfl, rfl, rfl, rfl, trivial⟩ (by omega)
  ·
    have hc2 := of_decide_eq_false hb2
    refine WC.exit ?_
    refine WQ.thenExit ?_
    refine WQ.thenExit ?_
    refine WQ.inHere ?_
    refine WQ.next ?_
    refine WC.seq ?_
    refine WC.region ?_
    refine WL.op rfl rfl (op_assign rfl ?_)
    refine WL.nil ?_
    refine WQ.next ?_
    refine WC.ret ?_
    refine WQ.out (.tmp rfl .nil) ?_
    have hk : k = l.length := by omega
    subst hk
    rw [labE_0 hok]
    exact ⟨_, rfl, fun _ => rfl, H1⟩
set_option maxRecDepth 100000 in
theorem place_ok (q : Nat) (n0 : List UInt8) (c1 c2 c3 : Value) (bs : List UInt8) (v c6 c7 : Value) (n : Nat) (rl : List Rl) (nm : List UInt8) (add : UInt32) (FT : TypeId) (T : List Nat) (w : World) (H : Own T w w [.blk q [(str n0), c1, c2, c3, (str bs), v, c6, c7] FT, .row v 44 4 n (List.flatMap rlc rl)]) (hn : n < 2 ^ 40) (hbs : bs.length < 2 ^ 40) :
    Calls Tryd.prog 75 #[(ptr q 0), (str nm), (vU32 add)] w (fun e w' => ∃ v', e = .returned undef ∧ Own T w w' [.blk q [str n0, c1, c2, c3, str bs, v', c6, c7] FT, .row v' 44 4 (n + 1) (List.flatMap rlc (rl ++ [⟨UInt32.ofNat bs.length + 4, 1, nm, add⟩]))]) := by
  refine enter (args := [(ptr q 0), (str nm), (vU32 add)]) Tryd.func75 rfl rfl ?_
  refine WC.drawLate 18 0 (d0 := 6) (t0 := 0) Fa.M H (HW.op rfl (fun w1 H1 => op_move rfl ⟨rfl, Fr.refl _ _⟩) (HW.op rfl (fun w1 H1 => op_move rfl ⟨rfl, Fr.refl _ _⟩) (HW.op rfl (fun w1 H1 => op_nilCheck rfl ⟨rfl, Fr.refl _ _⟩) (HW.op rfl (fun w1 H1 => op_fieldAddr rfl Fa.F102_0 ⟨rfl, Fr.refl _ _⟩) (HW.op rfl (fun w1 H1 => op_fieldAddr rfl Fa.F26_5 ⟨rfl, Fr.refl _ _⟩) (HW.op rfl (fun w1 H1 => op_load rfl (H1.cell (i := 0) rfl rfl) Tryd.underlying23 rfl ⟨rfl, Fr.refl _ _⟩) (HW.op rfl (fun w1 H1 => op_move rfl ⟨rfl, Fr.refl _ _⟩) (HW.op rfl (fun w1 H1 => op_nilCheck rfl ⟨rfl, Fr.refl _ _⟩) (HW.op rfl (fun w1 H1 => op_fieldAddr rfl Fa.F102_0 ⟨rfl, Fr.refl _ _⟩) (HW.op rfl (fun w1 H1 => op_fieldAddr rfl Fa.F26_4 ⟨rfl, Fr.refl _ _⟩) (HW.op rfl (fun w1 H1 => op_load rfl (H1.cell (i := 0) rfl rfl) Tryd.underlying9 rfl ⟨rfl, Fr.refl _ _⟩) (HW.op rfl (fun w1 H1 => op_lenStr Tryd.underlying9 rfl ⟨rfl, Fr.refl _ _⟩) (HW.op rfl (fun w1 H1 => op_convNU32 (hs := Tryd.underlying3) (hd := Tryd.underlying22) rfl ⟨rfl, Fr.refl _ _⟩) (HW.op rfl (fun w1 H1 => op_addU32 (b := 4) rfl rfl ⟨rfl, Fr.refl _ _⟩) (HW.op rfl (fun w1 H1 => op_move rfl ⟨rfl, Fr.refl _ _⟩) (HW.op rfl (fun w1 H1 => op_move rfl ⟨rfl, Fr.refl _ _⟩) (HW.op rfl (fun w1 H1 => op_build (cs := [_, _, _, _]) Fa.I44 Fa.PL44 rfl rfl ⟨rfl, Fr.refl _ _⟩) (HW.flt (mk := fun bq => .slice (some ⟨bq.1, 0, none⟩) 1 1) (ent := fun bq => .row (.slice (some ⟨bq.1, 0, none⟩) 1 1) _ _ _ _) rfl (fun w1 _ => op_buildSlice (cs := [_, _, _, _]) (Own.start w1 []) Tryd.underlying23 Fa.I44 rfl rfl rfl rfl (by decide) (by decide) (fun bq w2 H2 => ⟨(bq, undef), rfl, H2, True.intro⟩))  HW.nil)))))))))))))))))) (by kernel_rfl) rfl rfl rfl rfl rfl rfl rfl ?_
  intro β1 w1 H1 x1
  refine (op_appendF (f := rlc) (l := rl) (l' := [(Rl.mk ((UInt32.ofNat bs.length) + (4 : UInt32)) 1 nm add)]) (i := 1) H1 Tryd.underlying23 Fa.I44 rfl rfl rfl rfl (Src.ofArr Tryd.underlying23 (H1.arrR (i := 2) rfl)) (one_flat (fun _ => by simp [rlc, Value.oneCell'])) (by omega) (by omega) (fun v2 w2 H2 => ?_))
  refine WL.op rfl rfl (op_nilCheck rfl ?_)
  refine WL.op rfl rfl (op_fieldAddr rfl Fa.F102_0 ?_)
  refine WL.op rfl rfl (op_fieldAddr rfl Fa.F26_5 ?_)
  refine WL.op rfl rfl (op_storeB (i := 0) H2 rfl rfl rfl rfl (Arr.one (H2.arrR (i := 1) rfl)) Fa.I23 (fun w3 H3 => ?_))
  refine WL.nil ?_
  refine WQ.outEnd .nil ?_
  exact ⟨_, rfl, H3.sel [0, 1] rfl rfl⟩
end Go.Proofs.YtnngbnenekjffaaDoor
/-! from DAsm3 -/
namespace Go.Proofs.YtnngbnenekjffaaDoor
open Go.Owl Go.Spec
set_option maxRecDepth 100000 in
theorem lay_ok (q : Nat) (n0 : List UInt8) (c1 c2 c3 : Value) (bs : List UInt8) (v c6 : Value) (rl : List Rl) (b : Nat) (m : List (List UInt8 × UInt32)) (x : Ln) (FT : TypeId) (T : List Nat) (w : World) (H : Own T w w [.blk q [(str n0), c1, c2, c3, (str bs), v, c6, (.map (some b))] FT, .row v 44 4 rl.length (List.flatMap rlc rl), .obj b (mO vU32 m)]) (hn : rl.length < 2 ^ 40) (hbs : bs.length < 2 ^ 39) :
    Calls Tryd.prog 53 #[(ptr q 0), (.agg #[(str x.lb), (vU8 x.op), (vU8 x.d), (vU8 x.a), (vU8 x.b), (vU32 x.imm), (str x.to), (str x.nm)])] w (fun e w' => ∃ v', e = .returned (vN (layE m x)) ∧ Own T w w' [.blk q [str n0, c1, c2, c3, str (layB bs m x), v', c6, .map (some b)] FT, .row v' 44 4 (layR n0 bs rl m x).length (List.flatMap rlc (layR n0 bs rl m x)), .obj b (mO vU32 m)]) := by
  refine enter (args := [(ptr q 0), (.agg #[(str x.lb), (vU8 x.op), (vU8 x.d), (vU8 x.a), (vU8 x.b), (vU32 x.imm), (str x.to), (str x.nm)])]) Tryd.func53 rfl rfl ?_
  refine WC.seq ?_
  refine WC.region ?_
  refine WL.op rfl rfl (op_box H rfl rfl (fun b1 w1 H1 => ?_))
  refine WL.op rfl rfl (op_assign rfl ?_)
  refine WL.nil ?_
  refine WQ.next ?_
  refine WC.seq ?_
  refine WC.block ?_
  refine WC.seq ?_
  refine WC.region ?_
  refine WL.op rfl rfl (op_fieldAddr rfl Fa.F65_2 ?_)
  refine WL.op rfl rfl (op_load rfl (H1.cell (i := 3) rfl rfl) Tryd.underlying9 rfl ?_)
  refine WL.op rfl rfl (op_neqStr rfl rfl ?_)
  refine WL.op rfl rfl (op_assign rfl ?_)
  refine WL.nil ?_
  refine WQ.next ?_
  refine WC.cond rfl (fun (hb2 : (decide (x.to ≠ [])) = true) => ?_) (fun (hb2 : (decide (x.to ≠ [])) = false) => ?_)
  ·
    have hc2 := of_decide_eq_true hb2
    refine WC.seq ?_
    refine WC.draw 12 Fa.M H1 (HW.op rfl (fun w1 H1 => op_move rfl ⟨rfl, Fr.refl _ _⟩) (HW.op rfl (fun w1 H1 => op_nilCheck rfl ⟨rfl, Fr.refl _ _⟩) (HW.op rfl (fun w1 H1 => op_fieldAddr rfl Fa.F102_1 ⟨rfl, Fr.refl _ _⟩) (HW.op rfl (fun w1 H1 => op_load rfl (H1.cell (i := 0) rfl rfl) Tryd.underlying100 rfl ⟨rfl, Fr.refl _ _⟩) (HW.op rfl (fun w1 H1 => op_fieldAddr rfl Fa.F65_2 ⟨rfl, Fr.refl _ _⟩) (HW.op rfl (fun w1 H1 => op_load rfl (H1.cell (i := 3) rfl rfl) Tryd.underlying9 rfl ⟨rfl, Fr.refl _ _⟩) (HW.op rfl (fun w1 H1 => op_lookupG (i := 2) (c := 0) H1 rfl Tryd.underlying100 Tryd.underlying9 Fa.Z22 rfl rfl ⟨rfl, Fr.refl _ _⟩) (HW.op rfl (fun w1 H1 => op_move rfl ⟨rfl, Fr.refl _ _⟩) (HW.op rfl (fun w1 H1 => op_extract rfl rfl ⟨rfl, Fr.refl _ _⟩) (HW.op rfl (fun w1 H1 => op_extract rfl rfl ⟨rfl, Fr.refl _ _⟩) (HW.op rfl (fun w1 H1 => op_assign rfl ⟨rfl, Fr.refl _ _⟩) (HW.op rfl (fun w1 H1 => op_assign rfl ⟨rfl, Fr.refl _ _⟩)  HW.nil)))))))))))) (by kernel_rfl) ?_
    intro β3 w3 H3
    refine WL.nil ?_
    refine WQ.next ?_
    refine WC.seq ?_
    refine WC.seq ?_
    refine WC.region ?_
    refine WL.op rfl rfl (op_move rfl ?_)
    refine WL.op rfl rfl (op_not rfl ?_)
    refine WL.nil ?_
    refine WQ.next ?_
    refine WC.cond rfl (fun (hb4 : (!(mget x.to m).isSome) = true) => ?_) (fun (hb4 : (!(mget x.to m).isSome) = false) => ?_)
    ·
      have hn4 := (Bool.not_eq_true' _).mp hb4
      refine WC.seq ?_
      refine WC.region ?_
      refine WL.op rfl rfl (op_assign rfl ?_)
      refine WL.nil ?_
      refine WQ.next ?_
      refine WC.ret ?_
      refine WQ.thenRet ?_
      refine WQ.inRet ?_
      refine WQ.thenRet ?_
      refine WQ.out (.tmp rfl .nil) ?_
      have hN : layN m x = true := by rw [layN, hb2, hn4]; rfl
      exact ⟨v, by rw [lay_E hN]; rfl, by rw [layB, hN, layR, hb2, hn4]; exact H3.sel [0, 1, 2] rfl rfl⟩
    ·
      have hn4 := (Bool.not_eq_false' _).mp hb4
      refine WC.skip ?_
      refine WQ.next ?_
      refine WC.seq ?_
      refine WC.region ?_
      refine WL.op rfl rfl (op_move rfl ?_)
      refine WL.op rfl rfl (op_move rfl ?_)
      refine WL.op rfl rfl (op_nilCheck rfl ?_)
      refine WL.op rfl rfl (op_fieldAddr rfl Fa.F102_0 ?_)
      refine WL.op rfl rfl (op_fieldAddr rfl Fa.F26_0 ?_)
      refine WL.op rfl rfl (op_load rfl (H3.cell (i := 0) rfl rfl) Tryd.underlying9 rfl ?_)
      refine WL.op rfl rfl (op_move rfl ?_)
      refine WL.op rfl rfl (op_callF Fa.C75 rfl ((place_ok q n0 c1 c2 c3 bs v c6 (.map (some b)) rl.length rl n0 ((mget x.to m).getD 0) FT _ _ (H3.part [0, 1] rfl rfl) hn (by omega)).mono (fun e w5 hq => ?_)))
      obtain ⟨v5, rfl, hq5⟩ := hq
      refine ⟨_, rfl, ?_⟩
      have H5 : Own T w w5 [.blk q [(str n0), c1, c2, c3, (str bs), v5, c6, (.map (some b))] FT, .row v5 44 4 (rl.length + 1) (List.flatMap rlc (rl ++ [⟨UInt32.ofNat bs.length + 4, 1, n0, ((mget x.to m).getD 0)⟩])), .obj b (mO vU32 m), .blk b1 [(str x.lb), (vU8 x.op), (vU8 x.d), (vU8 x.a), (vU8 x.b), (vU32 x.imm), (str x.to), (str x.nm)] 65] := H3.splice [0, 1] [.blk q [(str n0), c1, c2, c3, (str bs), v5, c6, (.map (some b))] FT, .row v5 44 4 (rl.length + 1) (List.flatMap rlc (rl ++ [⟨UInt32.ofNat bs.length + 4, 1, n0, ((mget x.to m).getD 0)⟩]))] [] rfl rfl hq5 (Fits.solid True.intro (Fits.solid True.intro Fits.nil))
      refine WL.nil ?_
      refine WQ.next ?_
      refine WC.region ?_
      refine WL.op rfl rfl (op_fieldAddr rfl Fa.F65_1 ?_)
      refine WL.op rfl rfl (op_fieldAddr rfl Fa.F61_4 ?_)
      refine WL.op rfl rfl (op_storeB (i := 3) H5 rfl rfl rfl rfl rfl Fa.I22 (fun w6 H6 => ?_))
      refine WL.nil ?_
      refine WQ.inNormal ?_
      refine WQ.next ?_
      refine WC.seq ?_
      refine WC.region ?_
      refine WL.op rfl rfl (op_fieldAddr rfl Fa.F65_1 ?_)
      refine WL.op rfl rfl (op_loadS (vs := [_, _, _, _, _]) rfl (H6.cells (i := 3) rfl rfl) Tryd.underlying61 rfl Fa.I61 rfl ?_)
      refine WL.op rfl rfl (op_callF Fa.C76 rfl ((encode_ok x.op x.d x.a x.b 0 _).mono (fun e w7 hq => ?_)))
      obtain ⟨rfl, hf7⟩ := hq
      refine ⟨_, rfl, ?_⟩
      have H7 := H6.fr' hf7
      refine WL.op rfl rfl (op_move rfl ?_)
      refine WL.op rfl rfl (op_extract rfl rfl ?_)
      refine WL.op rfl rfl (op_extract rfl rfl ?_)
      refine WL.op rfl rfl (op_assign rfl ?_)
      refine WL.op rfl rfl (op_assign rfl ?_)
      refine WL.nil ?_
      refine WQ.next ?_
      refine WC.seq ?_
      refine WC.region ?_
      refine WL.op rfl rfl (op_move rfl ?_)
      refine WL.op rfl rfl (op_nilCheck rfl ?_)
      refine WL.op rfl rfl (op_fieldAddr rfl Fa.F102_0 ?_)
      refine WL.op rfl rfl (op_fieldAddr rfl Fa.F26_4 ?_)
      refine WL.op rfl rfl (op_load rfl (H7.cell (i := 0) rfl rfl) Tryd.underlying9 rfl ?_)
      refine WL.op rfl rfl (op_move rfl ?_)
      refine WL.op rfl rfl (op_addStr rfl rfl (by have := encS_length x.op x.d x.a x.b 0; omega) ?_)
      refine WL.op rfl rfl (op_nilCheck rfl ?_)
      refine WL.op rfl rfl (op_fieldAddr rfl Fa.F102_0 ?_)
      refine WL.op rfl rfl (op_fieldAddr rfl Fa.F26_4 ?_)
      refine WL.op rfl rfl (op_storeB (i := 0) H7 rfl rfl rfl rfl rfl Fa.I9 (fun w8 H8 => ?_))
      refine WL.nil ?_
      refine WQ.next ?_
      refine WC.seq ?_
      refine WC.region ?_
      refine WL.op rfl rfl (op_move rfl ?_)
      refine WL.op rfl rfl (op_assign rfl ?_)
      refine WL.nil ?_
      refine WQ.next ?_
      refine WC.ret ?_
      refine WQ.out (.tmp rfl .nil) ?_
      have hN : layN m x = false := by (rw [layN, hb2, hn4]) <;> rfl
      have hI : bareI x = 0 := by (rw [bareI, show refB x = _ from ref_T hb2]) <;> rfl
      have hR : layR n0 bs rl m x = rl ++ [⟨UInt32.ofNat bs.length + 4, 1, n0, (mget x.to m).getD 0⟩] := by (rw [layR, hb2, hn4]) <;> rfl
      exact ⟨_, by rw [layE, hN, hI]; rfl, by rw [layB, hN, lnEnc, hI, hR, List.length_append]; exact H8.sel [0, 1, 2] rfl rfl⟩
  ·
    have hc2 := of_decide_eq_false hb2
    refine WC.seq ?_
    refine WC.region ?_
    refine WL.op rfl rfl (op_fieldAddr rfl Fa.F65_3 ?_)
    refine WL.op rfl rfl (op_load rfl (H1.cell (i := 3) rfl rfl) Tryd.underlying9 rfl ?_)
    refine WL.op rfl rfl (op_neqStr rfl rfl ?_)
    refine WL.op rfl rfl (op_assign rfl ?_)
    refine WL.nil ?_
    refine WQ.next ?_
    refine WC.cond rfl (fun (hb9 : (decide (x.nm ≠ [])) = true) => ?_) (fun (hb9 : (decide (x.nm ≠ [])) = false) => ?_)
    ·
      have hc9 := of_decide_eq_true hb9
      refine WC.seq ?_
      refine WC.region ?_
      refine WL.op rfl rfl (op_move rfl ?_)
      refine WL.op rfl rfl (op_fieldAddr rfl Fa.F65_3 ?_)
      refine WL.op rfl rfl (op_load rfl (H1.cell (i := 3) rfl rfl) Tryd.underlying9 rfl ?_)
      refine WL.op rfl rfl (op_fieldAddr rfl Fa.F65_1 ?_)
      refine WL.op rfl rfl (op_fieldAddr rfl Fa.F61_4 ?_)
      refine WL.op rfl rfl (op_load rfl (H1.cell (i := 3) rfl rfl) Tryd.underlying22 rfl ?_)
      refine WL.op rfl rfl (op_callF Fa.C75 rfl ((place_ok q n0 c1 c2 c3 bs v c6 (.map (some b)) rl.length rl x.nm x.imm FT _ _ (H1.part [0, 1] rfl rfl) hn (by omega)).mono (fun e w10 hq => ?_)))
      obtain ⟨v10, rfl, hq10⟩ := hq
      refine ⟨_, rfl, ?_⟩
      have H10 : Own T w w10 [.blk q [(str n0), c1, c2, c3, (str bs), v10, c6, (.map (some b))] FT, .row v10 44 4 (rl.length + 1) (List.flatMap rlc (rl ++ [⟨UInt32.ofNat bs.length + 4, 1, x.nm, x.imm⟩])), .obj b (mO vU32 m), .blk b1 [(str x.lb), (vU8 x.op), (vU8 x.d), (vU8 x.a), (vU8 x.b), (vU32 x.imm), (str x.to), (str x.nm)] 65] := H1.splice [0, 1] [.blk q [(str n0), c1, c2, c3, (str bs), v10, c6, (.map (some b))] FT, .row v10 44 4 (rl.length + 1) (List.flatMap rlc (rl ++ [⟨UInt32.ofNat bs.length + 4, 1, x.nm, x.imm⟩]))] [] rfl rfl hq10 (Fits.solid True.intro (Fits.solid True.intro Fits.nil))
      refine WL.nil ?_
      refine WQ.next ?_
      refine WC.region ?_
      refine WL.op rfl rfl (op_fieldAddr rfl Fa.F65_1 ?_)
      refine WL.op rfl rfl (op_fieldAddr rfl Fa.F61_4 ?_)
      refine WL.op rfl rfl (op_storeB (i := 3) H10 rfl rfl rfl rfl rfl Fa.I22 (fun w11 H11 => ?_))
      refine WL.nil ?_
      refine WQ.inNormal ?_
      refine WQ.next ?_
      refine WC.seq ?_
      refine WC.region ?_
      refine WL.op rfl rfl (op_fieldAddr rfl Fa.F65_1 ?_)
      refine WL.op rfl rfl (op_loadS (vs := [_, _, _, _, _]) rfl (H11.cells (i := 3) rfl rfl) Tryd.underlying61 rfl Fa.I61 rfl ?_)
      refine WL.op rfl rfl (op_callF Fa.C76 rfl ((encode_ok x.op x.d x.a x.b 0 _).mono (fun e w12 hq => ?_)))
      obtain ⟨rfl, hf12⟩ := hq
      refine ⟨_, rfl, ?_⟩
      have H12 := H11.fr' hf12
      refine WL.op rfl rfl (op_move rfl ?_)
      refine WL.op rfl rfl (op_extract rfl rfl ?_)
      refine WL.op rfl rfl (op_extract rfl rfl ?_)
      refine WL.op rfl rfl (op_assign rfl ?_)
      refine WL.op rfl rfl (op_assign rfl ?_)
      refine WL.nil ?_
      refine WQ.next ?_
      refine WC.seq ?_
      refine WC.region ?_
      refine WL.op rfl rfl (op_move rfl ?_)
      refine WL.op rfl rfl (op_nilCheck rfl ?_)
      refine WL.op rfl rfl (op_fieldAddr rfl Fa.F102_0 ?_)
      refine WL.op rfl rfl (op_fieldAddr rfl Fa.F26_4 ?_)
      refine WL.op rfl rfl (op_load rfl (H12.cell (i := 0) rfl rfl) Tryd.underlying9 rfl ?_)
      refine WL.op rfl rfl (op_move rfl ?_)
      refine WL.op rfl rfl (op_addStr rfl rfl (by have := encS_length x.op x.d x.a x.b 0; omega) ?_)
      refine WL.op rfl rfl (op_nilCheck rfl ?_)
      refine WL.op rfl rfl (op_fieldAddr rfl Fa.F102_0 ?_)
      refine WL.op rfl rfl (op_fieldAddr rfl Fa.F26_4 ?_)
      refine WL.op rfl rfl (op_storeB (i := 0) H12 rfl rfl rfl rfl rfl Fa.I9 (fun w13 H13 => ?_))
      refine WL.nil ?_
      refine WQ.next ?_
      refine WC.seq ?_
      refine WC.region ?_
      refine WL.op rfl rfl (op_move rfl ?_)
      refine WL.op rfl rfl (op_assign rfl ?_)
      refine WL.nil ?_
      refine WQ.next ?_
      refine WC.ret ?_
      refine WQ.out (.tmp rfl .nil) ?_
      have hN : layN m x = false := by (rw [layN, hb2]) <;> rfl
      have hI : bareI x = 0 := by (rw [bareI, show refB x = _ from ref_N hb9]) <;> rfl
      have hR : layR n0 bs rl m x = rl ++ [⟨UInt32.ofNat bs.length + 4, 1, x.nm, x.imm⟩] := by (rw [layR, hb2, hb9]) <;> rfl
      exact ⟨_, by rw [layE, hN, hI]; rfl, by rw [layB, hN, lnEnc, hI, hR, List.length_append]; exact H13.sel [0, 1, 2] rfl rfl⟩
    ·
      have hc9 := of_decide_eq_false hb9
      refine WC.skip ?_
      refine WQ.inNormal ?_
      refine WQ.next ?_
      refine WC.seq ?_
      refine WC.region ?_
      refine WL.op rfl rfl (op_fieldAddr rfl Fa.F65_1 ?_)
      refine WL.op rfl rfl (op_loadS (vs := [_, _, _, _, _]) rfl (H1.cells (i := 3) rfl rfl) Tryd.underlying61 rfl Fa.I61 rfl ?_)
      refine WL.op rfl rfl (op_callF Fa.C76 rfl ((encode_ok x.op x.d x.a x.b x.imm _).mono (fun e w14 hq => ?_)))
      obtain ⟨rfl, hf14⟩ := hq
      refine ⟨_, rfl, ?_⟩
      have H14 := H1.fr' hf14
      refine WL.op rfl rfl (op_move rfl ?_)
      refine WL.op rfl rfl (op_extract rfl rfl ?_)
      refine WL.op rfl rfl (op_extract rfl rfl ?_)
      refine WL.op rfl rfl (op_assign rfl ?_)
      refine WL.op rfl rfl (op_assign rfl ?_)
      refine WL.nil ?_
      refine WQ.next ?_
      refine WC.seq ?_
      refine WC.region ?_
      refine WL.op rfl rfl (op_move rfl ?_)
      refine WL.op rfl rfl (op_nilCheck rfl ?_)
      refine WL.op rfl rfl (op_fieldAddr rfl Fa.F102_0 ?_)
      refine WL.op rfl rfl (op_fieldAddr rfl Fa.F26_4 ?_)
      refine WL.op rfl rfl (op_load rfl (H14.cell (i := 0) rfl rfl) Tryd.underlying9 rfl ?_)
      refine WL.op rfl rfl (op_move rfl ?_)
      refine WL.op rfl rfl (op_addStr rfl rfl (by have := encS_length x.op x.d x.a x.b x.imm; omega) ?_)
      refine WL.op rfl rfl (op_nilCheck rfl ?_)
      refine WL.op rfl rfl (op_fieldAddr rfl Fa.F102_0 ?_)
      refine WL.op rfl rfl (op_fieldAddr rfl Fa.F26_4 ?_)
      refine WL.op rfl rfl (op_storeB (i := 0) H14 rfl rfl rfl rfl rfl Fa.I9 (fun w15 H15 => ?_))
      refine WL.nil ?_
      refine WQ.next ?_
      refine WC.seq ?_
      refine WC.region ?_
      refine WL.op rfl rfl (op_move rfl ?_)
      refine WL.op rfl rfl (op_assign rfl ?_)
      refine WL.nil ?_
      refine WQ.next ?_
      refine WC.ret ?_
      refine WQ.out (.tmp rfl .nil) ?_
      have hN : layN m x = false := by (rw [layN, hb2]) <;> rfl
      have hI : bareI x = x.imm := by (rw [bareI, show refB x = _ from (show refB x = false by (rw [refB, hb2, hb9]) <;> rfl)]) <;> rfl
      have hR : layR n0 bs rl m x = rl := by (rw [layR, hb2, hb9]) <;> rfl
      exact ⟨_, by rw [layE, hN, hI]; rfl, by rw [layB, hN, lnEnc, hI, hR]; exact H15.sel [0, 1, 2] rfl rfl⟩
end Go.Proofs.YtnngbnenekjffaaDoor
/-! from DAsm4 -/
namespace Go.Proofs.YtnngbnenekjffaaDoor
open Go.Owl Go.Spec
set_option maxHeartbeats 1000000 in
set_option maxRecDepth 100000 in
theorem amake_ok (nm : List UInt8) (bi : UInt8) (nv : Value) (nt : List Nt) (lv : Value) (l : List Ln) (w : World) (hA : Arr w lv 8 l.length (List.flatMap lnc l)) (hN : Arr w nv 3 nt.length (List.flatMap ntc nt)) (hnm : nm.length < 2 ^ 47) (hfx : ∀ k, (l.getD k Ln.zero).lb.length < 2 ^ 47 ∧ (l.getD k Ln.zero).to.length < 2 ^ 47 ∧ (l.getD k Ln.zero).nm.length < 2 ^ 47) (hln : l.length < 2 ^ 40) (hnt : nt.length < 2 ^ 40) :
    Calls Tryd.prog 22 #[(str nm), (vU8 bi), nv, lv] w (fun e w' => ∃ y : Sy, e = .returned (.tuple #[.agg #[str y.nm, vU8 y.bind, vU8 y.kind, vU32 y.size, str y.b, y.rv, y.nv], vN (mkE nm bi nt l)]) ∧ y.bare = mkS nm bi nt l ∧ Own [] w w' [.row y.rv 44 4 y.rl.length (List.flatMap rlc y.rl), .row y.nv 68 3 y.nt.length (List.flatMap ntc y.nt)]) := by
  refine enter (args := [(str nm), (vU8 bi), nv, lv]) Tryd.func22 rfl rfl ?_
  have H0 : Own [] w w [] := Own.start w []
  refine WC.seq ?_
  refine WC.region ?_
  refine WL.op rfl rfl (op_alloc H0 Fa.I26 (fun b1 w1 H1 => ?_))
  refine WL.op rfl rfl (op_assign rfl ?_)
  refine WL.nil ?_
  refine WQ.next ?_
  refine WC.seq ?_
  refine WC.seq ?_
  refine WC.region ?_
  refine WL.op rfl rfl (op_move rfl ?_)
  refine WL.op rfl rfl (op_lenA Tryd.underlying48 rfl (H1.arr hA) ?_)
  refine WL.op rfl rfl (op_gtrN (b := 1024) rfl rfl ?_)
  refine WL.nil ?_
  refine WQ.next ?_
  refine WC.cond rfl (fun (hb2 : (decide (l.length > 1024)) = true) => ?_) (fun (hb2 : (decide (l.length > 1024)) = false) => ?_)
  ·
    have hc2 := of_decide_eq_true hb2
    refine WC.seq ?_
    refine WC.region ?_
    refine WL.op rfl rfl (op_build (cs := [_, _, _, _, _, _, _]) Fa.I26 Fa.PL26 rfl rfl ?_)
    refine WL.op rfl rfl (op_storeBW (i := 0) H1 rfl rfl rfl rfl rfl Fa.I26 (fun w3 H3 => ?_))
    refine WL.op rfl rfl (op_assign rfl ?_)
    refine WL.nil ?_
    refine WQ.next ?_
    refine WC.ret ?_
    refine WQ.thenRet ?_
    refine WQ.out (.cell rfl (run_loadVarS (vs := [_, _, _, _, _, _, _]) (H3.cells (i := 0) rfl rfl) Tryd.underlying26 rfl Fa.I26 rfl) (.tmp rfl .nil)) ?_
    have he := mk_5 (nm := nm) (bi := bi) (nt := nt) hb2
    exact ⟨Sy.zero, by rw [he]; rfl, (mk_bad he (by decide)).symm, ((H3.sel [] rfl rfl).nilRow 44 4).nilRow 68 3⟩
  ·
    have hc2 := of_decide_eq_false hb2
    have hg1 := hb2
    refine WC.skip ?_
    refine WQ.next ?_
    refine WC.seq ?_
    refine WC.seq ?_
    refine WC.region ?_
    refine WL.op rfl rfl (op_move rfl ?_)
    refine WL.op rfl rfl (op_callF Fa.C48 rfl ((conL_ok _ l _ (H1.arr hA) hfx (by omega)).mono (fun e w4 hq => ?_)))
    obtain ⟨rfl, hf4⟩ := hq
    refine ⟨_, rfl, ?_⟩
    have H4 := H1.fr' hf4
    refine WL.nil ?_
    refine WQ.next ?_
    refine WC.cond rfl (fun (hb5 : (l.any (fun n => !lnMay n)) = true) => ?_) (fun (hb5 : (l.any (fun n => !lnMay n)) = false) => ?_)
    ·
      refine WC.seq ?_
      refine WC.region ?_
      refine WL.op rfl rfl (op_build (cs := [_, _, _, _, _, _, _]) Fa.I26 Fa.PL26 rfl rfl ?_)
      refine WL.op rfl rfl (op_storeBW (i := 0) H4 rfl rfl rfl rfl rfl Fa.I26 (fun w6 H6 => ?_))
      refine WL.op rfl rfl (op_assign rfl ?_)
      refine WL.nil ?_
      refine WQ.next ?_
      refine WC.ret ?_
      refine WQ.thenRet ?_
      refine WQ.out (.cell rfl (run_loadVarS (vs := [_, _, _, _, _, _, _]) (H6.cells (i := 0) rfl rfl) Tryd.underlying26 rfl Fa.I26 rfl) (.tmp rfl .nil)) ?_
      have he := mk_2 (nm := nm) (bi := bi) (nt := nt) hg1 hb5
      exact ⟨Sy.zero, by rw [he]; rfl, (mk_bad he (by decide)).symm, ((H6.sel [] rfl rfl).nilRow 44 4).nilRow 68 3⟩
    ·
      have hg2 := hb5
      have hall := all_may hg2
      refine WC.skip ?_
      refine WQ.next ?_
      refine WC.seq ?_
      refine WC.region ?_
      refine WL.op rfl rfl (op_move rfl ?_)
      refine WL.op rfl rfl (op_move rfl ?_)
      refine WL.op rfl rfl (op_move rfl ?_)
      refine WL.op rfl rfl (op_lenA Tryd.underlying48 rfl (H4.arr hA) ?_)
      refine WL.op rfl rfl (op_convNU32 (hs := Tryd.underlying3) (hd := Tryd.underlying22) rfl ?_)
      refine WL.op rfl rfl (op_mulU32 (b := 8) rfl rfl ?_)
      refine WL.op rfl rfl (op_move rfl ?_)
      refine WL.op rfl rfl (op_callF Fa.C51 rfl ((cloneN_ok _ nt _ (H4.arr hN) (by omega)).mono (fun e w7 hq => ?_)))
      obtain ⟨v7, rfl, hq7⟩ := hq
      refine ⟨_, rfl, ?_⟩
      have H7 : Own [] w w7 [.blk b1 [(str []), (vU8 0), (vU8 0), (vU32 0), (str []), (.slice none 0 0), (.slice none 0 0)] 26, .row v7 68 3 nt.length (List.flatMap ntc nt)] := H4.splice [] [] [.row v7 68 3 nt.length (List.flatMap ntc nt)] rfl rfl hq7 (Fits.solid True.intro Fits.nil)
      refine WL.op rfl rfl (op_build (cs := [(str nm), (vU8 bi), (vU8 1), (vU32 ((UInt32.ofNat l.length) * (8 : UInt32))), (str []), (.slice none 0 0), v7]) Fa.I26 Fa.PL26 rfl (by obtain ⟨_, _, e0, _⟩ := (H7.arrR (i := 1) rfl).form; rw [e0]; rfl) ?_)
      refine WL.op rfl rfl (op_makeMap H7 vU32 (fun b8 w8 H8 => ?_))
      refine WL.op rfl rfl (op_build (cs := [_, _, _, _, _, _, _, _]) Fa.I102 Fa.PL102 rfl rfl ?_)
      refine WL.op rfl rfl (op_box H8 rfl rfl (fun b9 w9 H9 => ?_))
      refine WL.op rfl rfl (op_assign rfl ?_)
      refine WL.nil ?_
      refine WQ.next ?_
      refine WC.seq ?_
      refine WC.seq ?_
      refine WC.region ?_
      have H10 : Own [] w w9 [.blk b1 [(str []), (vU8 0), (vU8 0), (vU32 0), (str []), (.slice none 0 0), (.slice none 0 0)] 26, .row v7 68 3 nt.length (List.flatMap ntc nt), .obj b8 (mO vU32 []), .blk b9 [(str nm), (vU8 bi), (vU8 1), (vU32 ((UInt32.ofNat l.length) * (8 : UInt32))), (str []), (.slice none 0 0), v7, (.map (some b8))] 102, .row (.slice none 0 0) 44 4 0 (List.flatMap rlc [])] := (show Own [] w w9 [.blk b1 [(str []), (vU8 0), (vU8 0), (vU32 0), (str []), (.slice none 0 0), (.slice none 0 0)] 26, .row v7 68 3 nt.length (List.flatMap ntc nt), .obj b8 (mO vU32 []), .blk b9 [(str nm), (vU8 bi), (vU8 1), (vU32 ((UInt32.ofNat l.length) * (8 : UInt32))), (str []), (.slice none 0 0), v7, (.map (some b8))] 102] from H9).nilRow 44 4
      refine WL.op rfl rfl (op_move rfl ?_)
      refine WL.op rfl rfl (op_move rfl ?_)
      refine WL.op rfl rfl (op_callF Fa.C52 rfl ((label_ok b9 (str nm) (vU8 bi) (vU8 1) (vU32 ((UInt32.ofNat l.length) * (8 : UInt32))) (str []) (.slice none 0 0) v7 b8 lv l 102 _ _ (H10.part [3, 2] rfl rfl) (fun w1 hf => (fun w1 hf => hA.fr hf (by simp)) w1 (H10.frPart (I := [3, 2]) rfl hf)) (by omega)).mono (fun e w11 hq => ?_)))
      obtain ⟨m11, rfl, hd11, hq11⟩ := hq
      refine ⟨_, rfl, ?_⟩
      have H11 : Own [] w w11 [.blk b1 [(str []), (vU8 0), (vU8 0), (vU32 0), (str []), (.slice none 0 0), (.slice none 0 0)] 26, .row v7 68 3 nt.length (List.flatMap ntc nt), .obj b8 (mO vU32 m11), .blk b9 [(str nm), (vU8 bi), (vU8 1), (vU32 ((UInt32.ofNat l.length) * (8 : UInt32))), (str []), (.slice none 0 0), v7, (.map (some b8))] 102, .row (.slice none 0 0) 44 4 0 (List.flatMap rlc [])] := H10.splice [3, 2] [.blk b9 [(str nm), (vU8 bi), (vU8 1), (vU32 ((UInt32.ofNat l.length) * (8 : UInt32))), (str []), (.slice none 0 0), v7, (.map (some b8))] 102, .obj b8 (mO vU32 m11)] [] rfl rfl hq11 (Fits.solid True.intro (Fits.solid True.intro Fits.nil))
      refine WL.op rfl rfl (op_assign rfl ?_)
      refine WL.nil ?_
      refine WQ.next ?_
      refine WC.seq ?_
      refine WC.region ?_
      refine WL.op rfl rfl (op_move rfl ?_)
      refine WL.op rfl rfl (op_neqN (b := 0) rfl rfl ?_)
      refine WL.nil ?_
      refine WQ.next ?_
      refine WC.cond rfl (fun (hb12 : (decide ((labE l) ≠ 0)) = true) => ?_) (fun (hb12 : (decide ((labE l) ≠ 0)) = false) => ?_)
      ·
        have hc12 := of_decide_eq_true hb12
        refine WC.seq ?_
        refine WC.region ?_
        refine WL.op rfl rfl (op_build (cs := [_, _, _, _, _, _, _]) Fa.I26 Fa.PL26 rfl rfl ?_)
        refine WL.op rfl rfl (op_move rfl ?_)
        refine WL.op rfl rfl (op_storeBW (i := 0) H11 rfl rfl rfl rfl rfl Fa.I26 (fun w13 H13 => ?_))
        refine WL.op rfl rfl (op_assign rfl ?_)
        refine WL.nil ?_
        refine WQ.next ?_
        refine WC.ret ?_
        refine WQ.thenRet ?_
        refine WQ.out (.cell rfl (run_loadVarS (vs := [_, _, _, _, _, _, _]) (H13.cells (i := 0) rfl rfl) Tryd.underlying26 rfl Fa.I26 rfl) (.tmp rfl .nil)) ?_
        have h9 := lab_9 hc12
        have he := mk_9 (nm := nm) (bi := bi) (nt := nt) hg1 hg2 hb12
        exact ⟨Sy.zero, by rw [he, h9]; rfl, (mk_bad he (by decide)).symm, ((H13.sel [] rfl rfl).nilRow 44 4).nilRow 68 3⟩
      ·
        have hc12 := of_decide_eq_false hb12
        have hg3 : labE l = 0 := Decidable.not_not.mp hc12
        have hnd := labE_no hg3
        refine WC.skip ?_
        refine WQ.next ?_
        refine WC.seq ?_
        refine WC.seq ?_
        refine WC.region ?_
        have hm11 := hd11 hg3
        subst hm11
        refine WL.op rfl rfl (op_move rfl ?_)
        refine WL.op rfl rfl (op_lenA Tryd.underlying48 rfl (H11.arr hA) ?_)
        refine WL.op rfl rfl (op_move rfl ?_)
        refine WL.nil ?_
        refine WQ.next ?_
        refine WC.block ?_
        refine WC.loop (α := Nat × Value) (fun (k, v) => [(8, (ptr b1 0)), (9, (vN 0)), (10, (ptr b9 0)), (42, lv), (43, (vN l.length)), (44, (vN k))]) (fun (k, v) w' => (k ≤ l.length ∧ (∀ j, j < k → noneB l j = false)) ∧ Own [] w w' [.blk b1 [(str []), (vU8 0), (vU8 0), (vU32 0), (str []), (.slice none 0 0), (.slice none 0 0)] 26, .row v7 68 3 nt.length (List.flatMap ntc nt), .obj b8 (mO vU32 (labTo l l.length)), .blk b9 [(str nm), (vU8 bi), (vU8 1), (vU32 ((UInt32.ofNat l.length) * (8 : UInt32))), (str (bytesTo l k)), v, v7, (.map (some b8))] 102, .row v 44 4 (relsTo nm l k).length (List.flatMap rlc (relsTo nm l k))]) (fun (k, v) => l.length - k) (0, (.slice none 0 0)) ⟨⟨Nat.zero_le _, fun j h => by omega⟩, H11⟩ ⟨rfl, rfl, rfl, rfl, rfl, rfl, trivial⟩ ?_
        rintro ⟨k, v⟩ w14 ⟨⟨hk1, hok⟩, H14⟩
        show WC _ _ _ _ _ [(8, (ptr b1 0)), (9, (vN 0)), (10, (ptr b9 0)), (42, lv), (43, (vN l.length)), (44, (vN k))] _
        refine WC.seq ?_
        refine WC.region ?_
        refine WL.op rfl rfl (op_lssN rfl rfl ?_)
        refine WL.nil ?_
        refine WQ.next ?_
        refine WC.seq ?_
        refine WC.cond rfl (fun (hb15 : (decide (k < l.length)) = true) => ?_) (fun (hb15 : (decide (k < l.length)) = false) => ?_)
        ·
          have hc15 := of_decide_eq_true hb15
          refine WC.skip ?_
          refine WQ.next ?_
          refine WC.seq ?_
          refine WC.block ?_
          refine WC.seq ?_
          refine WC.region ?_
          refine WL.op rfl rfl (op_indexAddr Tryd.underlying48 Fa.I65 rfl (H14.arr hA) rfl (by omega) ?_)
          refine WL.op rfl rfl (op_loadSP (vs := lnc (l.getD k Ln.zero)) rfl (Arr.atsF (H14.arr hA) (fun _ => rfl) (by decide) Ln.zero (by omega)) Tryd.underlying65 rfl Fa.I65 rfl ?_)
          refine WL.op rfl rfl (op_alloc H14 Fa.I65 (fun b16 w16 H16 => ?_))
          refine WL.op rfl rfl (op_storeBW (i := 5) H16 rfl rfl rfl rfl rfl Fa.I65 (fun w17 H17 => ?_))
          refine WL.nil ?_
          refine WQ.next ?_
          refine WC.seq ?_
          refine WC.region ?_
          refine WL.op rfl rfl (op_move rfl ?_)
          refine WL.op rfl rfl (op_loadS (vs := [_, _, _, _, _, _, _, _]) rfl (H17.cells (i := 5) rfl rfl) Tryd.underlying65 rfl Fa.I65 rfl ?_)
          refine WL.op rfl rfl (op_callF Fa.C53 rfl ((lay_ok b9 nm (vU8 bi) (vU8 1) (vU32 ((UInt32.ofNat l.length) * (8 : UInt32))) (bytesTo l k) v v7 (relsTo nm l k) b8 (labTo l l.length) (l.getD k Ln.zero) 102 _ _ (H17.part [3, 4, 2] rfl rfl) (by have := relsTo_len nm l k; omega) (by rw [bytesTo_len (fun j hj => hall j (by omega))]; omega)).mono (fun e w18 hq => ?_)))
          obtain ⟨v18, rfl, hq18⟩ := hq
          refine ⟨_, rfl, ?_⟩
          have H18 : Own [] w w18 [.blk b1 [(str []), (vU8 0), (vU8 0), (vU32 0), (str []), (.slice none 0 0), (.slice none 0 0)] 26, .row v7 68 3 nt.length (List.flatMap ntc nt), .obj b8 (mO vU32 (labTo l l.length)), .blk b9 [(str nm), (vU8 bi), (vU8 1), (vU32 ((UInt32.ofNat l.length) * (8 : UInt32))), (str (layB (bytesTo l k) (labTo l l.length) (l.getD k Ln.zero))), v18, v7, (.map (some b8))] 102, .row v18 44 4 (layR nm (bytesTo l k) (relsTo nm l k) (labTo l l.length) (l.getD k Ln.zero)).length (List.flatMap rlc (layR nm (bytesTo l k) (relsTo nm l k) (labTo l l.length) (l.getD k Ln.zero))), .blk b16 [(str (l.getD k Ln.zero).lb), (vU8 (l.getD k Ln.zero).op), (vU8 (l.getD k Ln.zero).d), (vU8 (l.getD k Ln.zero).a), (vU8 (l.getD k Ln.zero).b), (vU32 (l.getD k Ln.zero).imm), (str (l.getD k Ln.zero).to), (str (l.getD k Ln.zero).nm)] 65] := H17.splice [3, 4, 2] [.blk b9 [(str nm), (vU8 bi), (vU8 1), (vU32 ((UInt32.ofNat l.length) * (8 : UInt32))), (str (layB (bytesTo l k) (labTo l l.length) (l.getD k Ln.zero))), v18, v7, (.map (some b8))] 102, .row v18 44 4 (layR nm (bytesTo l k) (relsTo nm l k) (labTo l l.length) (l.getD k Ln.zero)).length (List.flatMap rlc (layR nm (bytesTo l k) (relsTo nm l k) (labTo l l.length) (l.getD k Ln.zero))), .obj b8 (mO vU32 (labTo l l.length))] [] rfl rfl hq18 (Fits.solid True.intro (Fits.solid True.intro (Fits.solid True.intro Fits.nil)))
          refine WL.op rfl rfl (op_assign rfl ?_)
          refine WL.nil ?_
          refine WQ.next ?_
          refine WC.seq ?_
          refine WC.region ?_
          refine WL.op rfl rfl (op_move rfl ?_)
          refine WL.op rfl rfl (op_neqN (b := 0) rfl rfl ?_)
          refine WL.nil ?_
          refine WQ.next ?_
          refine WC.cond rfl (fun (hb19 : (decide ((layE (labTo l l.length) (l.getD k Ln.zero)) ≠ 0)) = true) => ?_) (fun (hb19 : (decide ((layE (labTo l l.length) (l.getD k Ln.zero)) ≠ 0)) = false) => ?_)
          ·
            have hc19 := of_decide_eq_true hb19
            refine WC.seq ?_
            refine WC.region ?_
            refine WL.op rfl rfl (op_build (cs := [_, _, _, _, _, _, _]) Fa.I26 Fa.PL26 rfl rfl ?_)
            refine WL.op rfl rfl (op_move rfl ?_)
            refine WL.op rfl rfl (op_storeBW (i := 0) H18 rfl rfl rfl rfl rfl Fa.I26 (fun w20 H20 => ?_))
            refine WL.op rfl rfl (op_assign rfl ?_)
            refine WL.nil ?_
            refine WQ.next ?_
            refine WC.ret ?_
            refine WQ.inRet ?_
            refine WQ.thenRet ?_
            refine WQ.thenRet ?_
            refine WQ.inRet ?_
            refine WQ.thenRet ?_
            refine WQ.out (.cell rfl (run_loadVarS (vs := [_, _, _, _, _, _, _]) (H20.cells (i := 0) rfl rfl) Tryd.underlying26 rfl Fa.I26 rfl) (.tmp rfl .nil)) ?_
            have hL := lay_ne (hall k (by omega)) hc19
            have h3 := lay_E hL
            have he := mk_3 (nm := nm) (bi := bi) (nt := nt) hg1 hg2 hg3 (none_yes (by omega) ((lay_none hnd).symm.trans hL))
            exact ⟨Sy.zero, by rw [he, h3]; rfl, (mk_bad he (by decide)).symm, ((H20.sel [] rfl rfl).nilRow 44 4).nilRow 68 3⟩
          ·
            have hc19 := of_decide_eq_false hb19
            refine WC.skip ?_
            refine WQ.inNormal ?_
            refine WQ.next ?_
            refine WC.region ?_
            refine WL.op rfl rfl (op_addN (b := 1) rfl rfl (by omega) ?_)
            refine WL.op rfl rfl (op_move rfl ?_)
            refine WL.nil ?_
            have hN := lay_eq (Decidable.not_not.mp hc19)
            have hnn := (lay_none hnd).symm.trans hN
            have hbl := bytesTo_len (k := k) (fun j hj => hall j (by omega))
            exact WQ.round (k + 1, v18) ⟨⟨by omega, allPrev hok hnn⟩, (by have h := (show Own [] w w18 [.blk b1 [(str []), (vU8 0), (vU8 0), (vU32 0), (str []), (.slice none 0 0), (.slice none 0 0)] 26, .row v7 68 3 nt.length (List.flatMap ntc nt), .obj b8 (mO vU32 (labTo l l.length)), .blk b9 [(str nm), (vU8 bi), (vU8 1), (vU32 ((UInt32.ofNat l.length) * (8 : UInt32))), (str (layB (bytesTo l k) (labTo l l.length) (l.getD k Ln.zero))), v18, v7, (.map (some b8))] 102, .row v18 44 4 (layR nm (bytesTo l k) (relsTo nm l k) (labTo l l.length) (l.getD k Ln.zero)).length (List.flatMap rlc (layR nm (bytesTo l k) (relsTo nm l k) (labTo l l.length) (l.getD k Ln.zero)))] from (H18.take 5)); rw [lay_B hN, lay_R hnd hbl hnn] at h; exact h)⟩ ⟨rfl, rfl, rfl, rfl, rfl, rfl, trivial⟩ (by show l.length - (k + 1) < l.length - k; omega)
        ·
          have hc15 := of_decide_eq_false hb15
          refine WC.exit ?_
          refine WQ.thenExit ?_
          refine WQ.thenExit ?_
          refine WQ.inHere ?_
          refine WQ.next ?_
          refine WC.seq ?_
          refine WC.seq ?_
          refine WC.region ?_
          refine WL.op rfl rfl (op_move rfl ?_)
          refine WL.op rfl rfl (op_nilCheck rfl ?_)
          refine WL.op rfl rfl (op_fieldAddr rfl Fa.F102_0 ?_)
          refine WL.op rfl rfl (op_loadS (vs := [_, _, _, _, _, _, _]) rfl (H14.cells (i := 3) rfl rfl) Tryd.underlying26 rfl Fa.I26 rfl ?_)
          refine WL.op rfl rfl (op_callF Fa.C27 rfl ((osym_ok (Sy.mk nm bi 1 ((UInt32.ofNat l.length) * (8 : UInt32)) (bytesTo l k) v (relsTo nm l k) v7 nt) _ (SyD_mk (x := (Sy.mk nm bi 1 ((UInt32.ofNat l.length) * (8 : UInt32)) (bytesTo l k) v (relsTo nm l k) v7 nt)) (H14.arrR (i := 4) rfl) (H14.arrR (i := 1) rfl)) (by exact hnm) (by show (bytesTo l k).length < 2 ^ 32; rw [bytesTo_len (fun j hj => hall j (by omega))]; omega) (relsTo_names hnm (fun k => (hfx k).2.2) _) (by show (relsTo nm l k).length < 2 ^ 40; have := relsTo_len nm l k; omega) (by exact hnt)).mono (fun e w21 hq => ?_)))
          obtain ⟨rfl, hf21⟩ := hq
          refine ⟨_, rfl, ?_⟩
          have H21 := H14.fr' hf21
          refine WL.op rfl rfl (op_assign rfl ?_)
          refine WL.nil ?_
          refine WQ.next ?_
          refine WC.seq ?_
          refine WC.region ?_
          refine WL.op rfl rfl (op_move rfl ?_)
          refine WL.op rfl rfl (op_neqN (b := 0) rfl rfl ?_)
          refine WL.nil ?_
          refine WQ.next ?_
          refine WC.cond rfl (fun (hb22 : (decide ((symE (Sy.mk nm bi 1 ((UInt32.ofNat l.length) * (8 : UInt32)) (bytesTo l k) v (relsTo nm l k) v7 nt)) ≠ 0)) = true) => ?_) (fun (hb22 : (decide ((symE (Sy.mk nm bi 1 ((UInt32.ofNat l.length) * (8 : UInt32)) (bytesTo l k) v (relsTo nm l k) v7 nt)) ≠ 0)) = false) => ?_)
          ·
            have hc22 := of_decide_eq_true hb22
            refine WC.seq ?_
            refine WC.region ?_
            refine WL.op rfl rfl (op_build (cs := [_, _, _, _, _, _, _]) Fa.I26 Fa.PL26 rfl rfl ?_)
            refine WL.op rfl rfl (op_move rfl ?_)
            refine WL.op rfl rfl (op_storeBW (i := 0) H21 rfl rfl rfl rfl rfl Fa.I26 (fun w23 H23 => ?_))
            refine WL.op rfl rfl (op_assign rfl ?_)
            refine WL.nil ?_
            refine WQ.next ?_
            refine WC.ret ?_
            refine WQ.thenRet ?_
            refine WQ.out (.cell rfl (run_loadVarS (vs := [_, _, _, _, _, _, _]) (H23.cells (i := 0) rfl rfl) Tryd.underlying26 rfl Fa.I26 rfl) (.tmp rfl .nil)) ?_
            obtain rfl : k = l.length := by omega
            have he := mk_s (nm := nm) (bi := bi) (nt := nt) hg1 hg2 hg3 (none_no hok)
            exact ⟨Sy.zero, by rw [he]; rfl, (show Sy.zero = mkS nm bi nt l by rw [mkS, if_neg (by rw [he]; exact hc22)]), ((H23.sel [] rfl rfl).nilRow 44 4).nilRow 68 3⟩
          ·
            have hc22 := of_decide_eq_false hb22
            refine WC.skip ?_
            refine WQ.next ?_
            refine WC.seq ?_
            refine WC.region ?_
            refine WL.op rfl rfl (op_move rfl ?_)
            refine WL.op rfl rfl (op_nilCheck rfl ?_)
            refine WL.op rfl rfl (op_fieldAddr rfl Fa.F102_0 ?_)
            refine WL.op rfl rfl (op_loadS (vs := [_, _, _, _, _, _, _]) rfl (H21.cells (i := 3) rfl rfl) Tryd.underlying26 rfl Fa.I26 rfl ?_)
            refine WL.op rfl rfl (op_storeBW (i := 0) H21 rfl rfl rfl rfl (one_cons rfl (one_cons rfl (one_cons rfl (one_cons rfl (one_cons rfl (one_cons (Arr.one (H21.arrR (i := 4) rfl)) (one_cons (Arr.one (H21.arrR (i := 1) rfl)) one_nil))))))) Fa.I26 (fun w24 H24 => ?_))
            refine WL.op rfl rfl (op_assign rfl ?_)
            refine WL.nil ?_
            refine WQ.next ?_
            refine WC.ret ?_
            refine WQ.out (.cell rfl (run_loadVarS (vs := [_, _, _, _, _, _, _]) (H24.cells (i := 0) rfl rfl) Tryd.underlying26 rfl Fa.I26 rfl) (.tmp rfl .nil)) ?_
            obtain rfl : k = l.length := by omega
            have he := mk_s (nm := nm) (bi := bi) (nt := nt) hg1 hg2 hg3 (none_no hok)
            have h0 : mkE nm bi nt l = 0 := by rw [he]; exact Decidable.not_not.mp hc22
            exact ⟨(Sy.mk nm bi 1 ((UInt32.ofNat l.length) * (8 : UInt32)) (bytesTo l l.length) v (relsTo nm l l.length) v7 nt), by rw [h0]; rfl, (show _ = mkS nm bi nt l by rw [mkS, if_pos h0]; rfl), H24.sel [4, 1] rfl rfl⟩
end Go.Proofs.YtnngbnenekjffaaDoor
/-! from DAsm5 -/
namespace Go.Proofs.YtnngbnenekjffaaDoor
open Go.Owl Go.Spec
end Go.Proofs.YtnngbnenekjffaaDoor
/-! from DAsm6 -/
namespace Go.Proofs.YtnngbnenekjffaaDoor
open Go.Owl Go.Spec
set_option maxRecDepth 100000 in
theorem br_ok (op a b : UInt8) (s : List UInt8) (w : World) :
    Calls Tryd.prog 71 #[(vU8 op), (vU8 a), (vU8 b), (str s)] w (fun e w' => e = .returned (.agg #[str [], vU8 op, vU8 0, vU8 a, vU8 b, vU32 0, str s, str []]) ∧ Fr [] w w') := by
  refine enter (args := [(vU8 op), (vU8 a), (vU8 b), (str s)]) Tryd.func71 rfl rfl ?_
  have H0 : Own [] w w [] := Own.start w []
  refine WC.seq ?_
  refine WC.region ?_
  refine WL.op rfl rfl (op_alloc H0 Fa.I65 (fun b1 w1 H1 => ?_))
  refine WL.nil ?_
  refine WQ.next ?_
  refine WC.seq ?_
  refine WC.region ?_
  refine WL.op rfl rfl (op_move rfl ?_)
  refine WL.op rfl rfl (op_move rfl ?_)
  refine WL.op rfl rfl (op_move rfl ?_)
  refine WL.op rfl rfl (op_build (cs := [_, _, _, _, _]) Fa.I61 Fa.PL61 rfl rfl ?_)
  refine WL.op rfl rfl (op_move rfl ?_)
  refine WL.op rfl rfl (op_build (cs := [_, _, _, _, _, _, _, _]) Fa.I65 Fa.PL65 rfl rfl ?_)
  refine WL.op rfl rfl (op_storeBW (i := 0) H1 rfl rfl rfl rfl rfl Fa.I65 (fun w2 H2 => ?_))
  refine WL.nil ?_
  refine WQ.next ?_
  refine WC.ret ?_
  refine WQ.out (.cell rfl (run_loadVarS (vs := [_, _, _, _, _, _, _, _]) (H2.cells (i := 0) rfl rfl) Tryd.underlying65 rfl Fa.I65 rfl) .nil) ?_
  exact ⟨rfl, H2.fr⟩
set_option maxRecDepth 100000 in
theorem jmp_ok (s : List UInt8) (w : World) :
    Calls Tryd.prog 47 #[(str s)] w (fun e w' => e = .returned (.agg #[str [], vU8 40, vU8 0, vU8 0, vU8 0, vU32 0, str s, str []]) ∧ Fr [] w w') := by
  refine enter (args := [(str s)]) Tryd.func47 rfl rfl ?_
  have H0 : Own [] w w [] := Own.start w []
  refine WC.seq ?_
  refine WC.region ?_
  refine WL.op rfl rfl (op_alloc H0 Fa.I65 (fun b1 w1 H1 => ?_))
  refine WL.nil ?_
  refine WQ.next ?_
  refine WC.seq ?_
  refine WC.region ?_
  refine WL.op rfl rfl (op_move rfl ?_)
  refine WL.op rfl rfl (op_callF Fa.C71 rfl ((br_ok 40 0 0 s _).mono (fun e w2 hq => ?_)))
  obtain ⟨rfl, hf2⟩ := hq
  refine ⟨_, rfl, ?_⟩
  have H2 := H1.fr' hf2
  refine WL.op rfl rfl (op_storeBW (i := 0) H2 rfl rfl rfl rfl rfl Fa.I65 (fun w3 H3 => ?_))
  refine WL.nil ?_
  refine WQ.next ?_
  refine WC.ret ?_
  refine WQ.out (.cell rfl (run_loadVarS (vs := [_, _, _, _, _, _, _, _]) (H3.cells (i := 0) rfl rfl) Tryd.underlying65 rfl Fa.I65 rfl) .nil) ?_
  exact ⟨rfl, H3.fr⟩
set_option maxRecDepth 100000 in
theorem at10_ok (s : List UInt8) (x : Ln) (w : World) :
    Calls Tryd.prog 46 #[(str s), (.agg #[(str x.lb), (vU8 x.op), (vU8 x.d), (vU8 x.a), (vU8 x.b), (vU32 x.imm), (str x.to), (str x.nm)])] w (fun e w' => e = .returned (.agg #[str s, vU8 x.op, vU8 x.d, vU8 x.a, vU8 x.b, vU32 x.imm, str x.to, str x.nm]) ∧ Fr [] w w') := by
  refine enter (args := [(str s), (.agg #[(str x.lb), (vU8 x.op), (vU8 x.d), (vU8 x.a), (vU8 x.b), (vU32 x.imm), (str x.to), (str x.nm)])]) Tryd.func46 rfl rfl ?_
  have H0 : Own [] w w [] := Own.start w []
  refine WC.seq ?_
  refine WC.region ?_
  refine WL.op rfl rfl (op_box H0 rfl rfl (fun b1 w1 H1 => ?_))
  refine WL.op rfl rfl (op_alloc H1 Fa.I65 (fun b2 w2 H2 => ?_))
  refine WL.nil ?_
  refine WQ.next ?_
  refine WC.seq ?_
  refine WC.region ?_
  refine WL.op rfl rfl (op_move rfl ?_)
  refine WL.op rfl rfl (op_fieldAddr rfl Fa.F65_0 ?_)
  refine WL.op rfl rfl (op_storeB (i := 0) H2 rfl rfl rfl rfl rfl Fa.I9 (fun w3 H3 => ?_))
  refine WL.nil ?_
  refine WQ.next ?_
  refine WC.seq ?_
  refine WC.region ?_
  refine WL.op rfl rfl (op_loadS (vs := [_, _, _, _, _, _, _, _]) rfl (H3.cells (i := 0) rfl rfl) Tryd.underlying65 rfl Fa.I65 rfl ?_)
  refine WL.op rfl rfl (op_storeBW (i := 1) H3 rfl rfl rfl rfl rfl Fa.I65 (fun w4 H4 => ?_))
  refine WL.nil ?_
  refine WQ.next ?_
  refine WC.ret ?_
  refine WQ.out (.cell rfl (run_loadVarS (vs := [_, _, _, _, _, _, _, _]) (H4.cells (i := 1) rfl rfl) Tryd.underlying65 rfl Fa.I65 rfl) .nil) ?_
  exact ⟨rfl, H4.fr⟩
set_option maxRecDepth 100000 in
theorem data_ok (nm : List UInt8) (bi ki : UInt8) (sz : UInt32) (b : List UInt8) (nv : Value) (nt : List Nt) (w : World) (hN : Arr w nv 3 nt.length (List.flatMap ntc nt)) (hnm : nm.length < 2 ^ 47) (hb : b.length < 2 ^ 32) (hnt : nt.length < 2 ^ 40) :
    Calls Tryd.prog 25 #[(str nm), (vU8 bi), (vU8 ki), (vU32 sz), (str b), nv] w (fun e w' => ∃ y : Sy, e = .returned (.tuple #[.agg #[str y.nm, vU8 y.bind, vU8 y.kind, vU32 y.size, str y.b, y.rv, y.nv], vN (dtE nm bi ki sz b nt)]) ∧ y.bare = dtS nm bi ki sz b nt ∧ Own [] w w' [.row y.rv 44 4 y.rl.length (List.flatMap rlc y.rl), .row y.nv 68 3 y.nt.length (List.flatMap ntc y.nt)]) := by
  refine enter (args := [(str nm), (vU8 bi), (vU8 ki), (vU32 sz), (str b), nv]) Tryd.func25 rfl rfl ?_
  have H0 : Own [] w w [] := Own.start w []
  refine WC.seq ?_
  refine WC.region ?_
  refine WL.op rfl rfl (op_alloc H0 Fa.I26 (fun b1 w1 H1 => ?_))
  refine WL.op rfl rfl (op_assign rfl ?_)
  refine WL.nil ?_
  refine WQ.next ?_
  refine WC.seq ?_
  refine WC.region ?_
  refine WL.op rfl rfl (op_move rfl ?_)
  refine WL.op rfl rfl (op_move rfl ?_)
  refine WL.op rfl rfl (op_move rfl ?_)
  refine WL.op rfl rfl (op_move rfl ?_)
  refine WL.op rfl rfl (op_move rfl ?_)
  refine WL.op rfl rfl (op_move rfl ?_)
  refine WL.op rfl rfl (op_callF Fa.C51 rfl ((cloneN_ok _ nt _ (H1.arr hN) hnt).mono (fun e w2 hq => ?_)))
  obtain ⟨v2, rfl, hq2⟩ := hq
  refine ⟨_, rfl, ?_⟩
  have H2 : Own [] w w2 [.blk b1 [(str []), (vU8 0), (vU8 0), (vU32 0), (str []), (.slice none 0 0), (.slice none 0 0)] 26, .row v2 68 3 nt.length (List.flatMap ntc nt)] := H1.splice [] [] [.row v2 68 3 nt.length (List.flatMap ntc nt)] rfl rfl hq2 (Fits.solid True.intro Fits.nil)
  refine WL.op rfl rfl (op_build (cs := [(str nm), (vU8 bi), (vU8 ki), (vU32 sz), (str b), (.slice none 0 0), v2]) Fa.I26 Fa.PL26 rfl (by obtain ⟨_, _, e0, _⟩ := (H2.arrR (i := 1) rfl).form; rw [e0]; rfl) ?_)
  refine WL.op rfl rfl (op_alloc H2 Fa.I26 (fun b3 w3 H3 => ?_))
  refine WL.op rfl rfl (op_storeBW (i := 2) H3 rfl rfl rfl rfl (one_cons rfl (one_cons rfl (one_cons rfl (one_cons rfl (one_cons rfl (one_cons rfl (one_cons (Arr.one (H3.arrR (i := 1) rfl)) one_nil))))))) Fa.I26 (fun w4 H4 => ?_))
  refine WL.nil ?_
  refine WQ.next ?_
  refine WC.seq ?_
  refine WC.seq ?_
  refine WC.region ?_
  refine WL.op rfl rfl (op_move rfl ?_)
  refine WL.op rfl rfl (op_eqlU8 (b := 1) rfl rfl ?_)
  refine WL.op rfl rfl (op_move rfl ?_)
  refine WL.split (t := 25) rfl (fun (hb5 : (decide (ki = (1 : UInt8))) = true) => ?_) (fun (hb5 : (decide (ki = (1 : UInt8))) = false) => ?_)
  ·
    have hc5 := of_decide_eq_true hb5
    refine WL.no rfl rfl rfl hb5 rfl ?_
    refine WL.no rfl rfl rfl hb5 rfl ?_
    refine WL.no rfl rfl rfl hb5 rfl ?_
    refine WL.op rfl rfl (op_pickT rfl hb5 rfl ?_)
    refine WL.nil ?_
    refine WQ.next ?_
    refine WC.yes rfl rfl ?_
    refine WC.seq ?_
    refine WC.region ?_
    refine WL.op rfl rfl (op_build (cs := [_, _, _, _, _, _, _]) Fa.I26 Fa.PL26 rfl rfl ?_)
    refine WL.op rfl rfl (op_storeBW (i := 0) H4 rfl rfl rfl rfl rfl Fa.I26 (fun w6 H6 => ?_))
    refine WL.op rfl rfl (op_assign rfl ?_)
    refine WL.nil ?_
    refine WQ.next ?_
    refine WC.ret ?_
    refine WQ.thenRet ?_
    refine WQ.out (.cell rfl (run_loadVarS (vs := [_, _, _, _, _, _, _]) (H6.cells (i := 0) rfl rfl) Tryd.underlying26 rfl Fa.I26 rfl) (.tmp rfl .nil)) ?_
    have he : dtE nm bi ki sz b nt = 2 := by rw [dtE, hb5]; rfl
    exact ⟨Sy.zero, by rw [he]; rfl, (show Sy.zero = dtS nm bi ki sz b nt by rw [dtS, if_neg (by rw [he]; decide)]), ((H6.sel [] rfl rfl).nilRow 44 4).nilRow 68 3⟩
  ·
    have hc5 := of_decide_eq_false hb5
    refine WL.yes rfl rfl rfl hb5 rfl (op_loadS (vs := [_, _, _, _, _, _, _]) rfl (H4.cells (i := 2) rfl rfl) Tryd.underlying26 rfl Fa.I26 rfl ?_)
    refine WL.yes rfl rfl rfl hb5 rfl (op_callF Fa.C27 rfl ((osym_ok (Sy.mk nm bi ki sz b (.slice none 0 0) [] v2 nt) _ (SyD_mk (x := (Sy.mk nm bi ki sz b (.slice none 0 0) [] v2 nt)) (Arr.nil _ _) (H4.arrR (i := 1) rfl)) (by exact hnm) (by exact hb) (fun y hy => by cases hy) (by show 0 < 2 ^ 40; decide) (by exact hnt)).mono (fun e w7 hq => ?_)))
    obtain ⟨rfl, hf7⟩ := hq
    refine ⟨_, rfl, ?_⟩
    have H7 := H4.fr' hf7
    refine WL.yes rfl rfl rfl hb5 rfl (op_neqN (b := 0) rfl rfl ?_)
    refine WL.op rfl rfl (op_pickF rfl hb5 rfl ?_)
    refine WL.nil ?_
    refine WQ.next ?_
    refine WC.cond rfl (fun (hb8 : (decide ((symE (Sy.mk nm bi ki sz b (.slice none 0 0) [] v2 nt)) ≠ 0)) = true) => ?_) (fun (hb8 : (decide ((symE (Sy.mk nm bi ki sz b (.slice none 0 0) [] v2 nt)) ≠ 0)) = false) => ?_)
    ·
      have hc8 := of_decide_eq_true hb8
      refine WC.seq ?_
      refine WC.region ?_
      refine WL.op rfl rfl (op_build (cs := [_, _, _, _, _, _, _]) Fa.I26 Fa.PL26 rfl rfl ?_)
      refine WL.op rfl rfl (op_storeBW (i := 0) H7 rfl rfl rfl rfl rfl Fa.I26 (fun w9 H9 => ?_))
      refine WL.op rfl rfl (op_assign rfl ?_)
      refine WL.nil ?_
      refine WQ.next ?_
      refine WC.ret ?_
      refine WQ.thenRet ?_
      refine WQ.out (.cell rfl (run_loadVarS (vs := [_, _, _, _, _, _, _]) (H9.cells (i := 0) rfl rfl) Tryd.underlying26 rfl Fa.I26 rfl) (.tmp rfl .nil)) ?_
      have hs : symE (dtOf nm bi ki sz b nt) = 2 := symE_2 (of_decide_eq_true hb8)
      have he : dtE nm bi ki sz b nt = 2 := by rw [dtE, hb5]; exact hs
      exact ⟨Sy.zero, by rw [he]; rfl, (show Sy.zero = dtS nm bi ki sz b nt by rw [dtS, if_neg (by rw [he]; decide)]), ((H9.sel [] rfl rfl).nilRow 44 4).nilRow 68 3⟩
    ·
      have hc8 := of_decide_eq_false hb8
      refine WC.skip ?_
      refine WQ.next ?_
      refine WC.seq ?_
      refine WC.region ?_
      refine WL.op rfl rfl (op_loadS (vs := [_, _, _, _, _, _, _]) rfl (H7.cells (i := 2) rfl rfl) Tryd.underlying26 rfl Fa.I26 rfl ?_)
      refine WL.op rfl rfl (op_storeBW (i := 0) H7 rfl rfl rfl rfl (one_cons rfl (one_cons rfl (one_cons rfl (one_cons rfl (one_cons rfl (one_cons rfl (one_cons (Arr.one (H7.arrR (i := 1) rfl)) one_nil))))))) Fa.I26 (fun w10 H10 => ?_))
      refine WL.op rfl rfl (op_assign rfl ?_)
      refine WL.nil ?_
      refine WQ.next ?_
      refine WC.ret ?_
      refine WQ.out (.cell rfl (run_loadVarS (vs := [_, _, _, _, _, _, _]) (H10.cells (i := 0) rfl rfl) Tryd.underlying26 rfl Fa.I26 rfl) (.tmp rfl .nil)) ?_
      have hs : symE (dtOf nm bi ki sz b nt) = 0 := Decidable.not_not.mp (of_decide_eq_false hb8)
      have he : dtE nm bi ki sz b nt = 0 := by rw [dtE, hb5]; exact hs
      exact ⟨(Sy.mk nm bi ki sz b (.slice none 0 0) [] v2 nt), by rw [he]; rfl, (show _ = dtS nm bi ki sz b nt by rw [dtS, if_pos he]; rfl), (H10.nilRow 44 4).sel [3, 1] rfl rfl⟩
set_option maxRecDepth 100000 in
theorem alive10_ok  (w : World) :
    Calls Tryd.prog 21 #[] w (fun e w' => e = .returned (.bool true) ∧ Fr [] w w') := by
  refine enter (args := []) Tryd.func21 rfl rfl ?_
  have H0 : Own [] w w [] := Own.start w []
  refine WC.seq ?_
  refine WC.region ?_
  refine WL.op rfl rfl (op_assign rfl ?_)
  refine WL.nil ?_
  refine WQ.next ?_
  refine WC.seq ?_
  refine WC.region ?_
  refine WL.op rfl rfl (op_callF Fa.C47 rfl ((jmp_ok ([97, 103, 97, 105, 110]) _).mono (fun e w1 hq => ?_)))
  obtain ⟨rfl, hf1⟩ := hq
  refine ⟨_, rfl, ?_⟩
  have H1 := H0.fr' hf1
  refine WL.op rfl rfl (op_callF Fa.C46 rfl ((at10_ok ([97, 103, 97, 105, 110]) (Ln.mk [] 40 0 0 0 0 [97, 103, 97, 105, 110] []) _).mono (fun e w2 hq => ?_)))
  obtain ⟨rfl, hf2⟩ := hq
  refine ⟨_, rfl, ?_⟩
  have H2 := H1.fr' hf2
  refine WL.op rfl rfl (op_buildSlice (cs := [_, _, _, _, _, _, _, _]) H2 Tryd.underlying48 Fa.I65 rfl rfl rfl rfl (by decide) (by decide) (fun b3 w3 H3 => ?_))
  refine WL.op rfl rfl (op_callF Fa.C22 rfl ((amake_ok ([109, 97, 105, 110]) 1 _ [] _ ([(Ln.mk [97, 103, 97, 105, 110] 40 0 0 0 0 [97, 103, 97, 105, 110] [])]) _ (Arr.lenF ((H3.arrR (i := 0) rfl)) (fun _ => rfl) (by decide)) (Arr.nil _ _) (by decide) (lnfit_one (by decide)) (by decide) (by decide)).mono (fun e w4 hq => ?_)))
  obtain ⟨y4, rfl, hc4, hq4⟩ := hq
  refine ⟨_, rfl, ?_⟩
  have H4 : Own [] w w4 [.row (.slice (some ⟨b3, 0, none⟩) 1 1) 65 8 1 (List.flatMap lnc [(Ln.mk [97, 103, 97, 105, 110] 40 0 0 0 0 [97, 103, 97, 105, 110] [])]), .row y4.rv 44 4 y4.rl.length (List.flatMap rlc y4.rl), .row y4.nv 68 3 y4.nt.length (List.flatMap ntc y4.nt)] := H3.splice [] [] [.row y4.rv 44 4 y4.rl.length (List.flatMap rlc y4.rl), .row y4.nv 68 3 y4.nt.length (List.flatMap ntc y4.nt)] rfl rfl hq4 (Fits.solid True.intro (Fits.solid True.intro Fits.nil))
  refine WL.op rfl rfl (op_move rfl ?_)
  refine WL.op rfl rfl (op_extract rfl rfl ?_)
  refine WL.op rfl rfl (op_extract rfl rfl ?_)
  refine WL.op rfl rfl (op_alloc H4 Fa.I26 (fun b5 w5 H5 => ?_))
  refine WL.op rfl rfl (op_storeBW (i := 3) H5 rfl rfl rfl rfl (one_cons rfl (one_cons rfl (one_cons rfl (one_cons rfl (one_cons rfl (one_cons (Arr.one (H5.arrR (i := 1) rfl)) (one_cons (Arr.one (H5.arrR (i := 2) rfl)) one_nil))))))) Fa.I26 (fun w6 H6 => ?_))
  refine WL.op rfl rfl (op_assign rfl ?_)
  refine WL.nil ?_
  refine WQ.next ?_
  refine WC.seq ?_
  refine WC.region ?_
  refine WL.op rfl rfl (op_callF Fa.C47 rfl ((jmp_ok ([120]) _).mono (fun e w7 hq => ?_)))
  obtain ⟨rfl, hf7⟩ := hq
  refine ⟨_, rfl, ?_⟩
  have H7 := H6.fr' hf7
  refine WL.op rfl rfl (op_buildSlice (cs := [_, _, _, _, _, _, _, _]) H7 Tryd.underlying48 Fa.I65 rfl rfl rfl rfl (by decide) (by decide) (fun b8 w8 H8 => ?_))
  refine WL.op rfl rfl (op_callF Fa.C22 rfl ((amake_ok ([109, 97, 105, 110]) 1 _ [] _ ([(Ln.mk [] 40 0 0 0 0 [120] [])]) _ (Arr.lenF ((H8.arrR (i := 4) rfl)) (fun _ => rfl) (by decide)) (Arr.nil _ _) (by decide) (lnfit_one (by decide)) (by decide) (by decide)).mono (fun e w9 hq => ?_)))
  obtain ⟨y9, rfl, hc9, hq9⟩ := hq
  refine ⟨_, rfl, ?_⟩
  have H9 : Own [] w w9 [.row (.slice (some ⟨b3, 0, none⟩) 1 1) 65 8 1 (List.flatMap lnc [(Ln.mk [97, 103, 97, 105, 110] 40 0 0 0 0 [97, 103, 97, 105, 110] [])]), .row y4.rv 44 4 y4.rl.length (List.flatMap rlc y4.rl), .row y4.nv 68 3 y4.nt.length (List.flatMap ntc y4.nt), .blk b5 [(str y4.nm), (vU8 y4.bind), (vU8 y4.kind), (vU32 y4.size), (str y4.b), y4.rv, y4.nv] 26, .row (.slice (some ⟨b8, 0, none⟩) 1 1) 65 8 1 (List.flatMap lnc [(Ln.mk [] 40 0 0 0 0 [120] [])]), .row y9.rv 44 4 y9.rl.length (List.flatMap rlc y9.rl), .row y9.nv 68 3 y9.nt.length (List.flatMap ntc y9.nt)] := H8.splice [] [] [.row y9.rv 44 4 y9.rl.length (List.flatMap rlc y9.rl), .row y9.nv 68 3 y9.nt.length (List.flatMap ntc y9.nt)] rfl rfl hq9 (Fits.solid True.intro (Fits.solid True.intro Fits.nil))
  refine WL.op rfl rfl (op_move rfl ?_)
  refine WL.op rfl rfl (op_extract rfl rfl ?_)
  refine WL.op rfl rfl (op_extract rfl rfl ?_)
  refine WL.op rfl rfl (op_alloc H9 Fa.I26 (fun b10 w10 H10 => ?_))
  refine WL.op rfl rfl (op_storeBW (i := 7) H10 rfl rfl rfl rfl (one_cons rfl (one_cons rfl (one_cons rfl (one_cons rfl (one_cons rfl (one_cons (Arr.one (H10.arrR (i := 5) rfl)) (one_cons (Arr.one (H10.arrR (i := 6) rfl)) one_nil))))))) Fa.I26 (fun w11 H11 => ?_))
  refine WL.op rfl rfl (op_assign rfl ?_)
  refine WL.nil ?_
  refine WQ.next ?_
  refine WC.seq ?_
  refine WC.region ?_
  refine WL.op rfl rfl (op_callF Fa.C25 rfl ((data_ok ([100]) 0 2 4 ([97, 98]) _ [] _ (Arr.nil _ _) (by decide) (by decide) (by decide)).mono (fun e w12 hq => ?_)))
  obtain ⟨y12, rfl, hc12, hq12⟩ := hq
  refine ⟨_, rfl, ?_⟩
  have H12 : Own [] w w12 [.row (.slice (some ⟨b3, 0, none⟩) 1 1) 65 8 1 (List.flatMap lnc [(Ln.mk [97, 103, 97, 105, 110] 40 0 0 0 0 [97, 103, 97, 105, 110] [])]), .row y4.rv 44 4 y4.rl.length (List.flatMap rlc y4.rl), .row y4.nv 68 3 y4.nt.length (List.flatMap ntc y4.nt), .blk b5 [(str y4.nm), (vU8 y4.bind), (vU8 y4.kind), (vU32 y4.size), (str y4.b), y4.rv, y4.nv] 26, .row (.slice (some ⟨b8, 0, none⟩) 1 1) 65 8 1 (List.flatMap lnc [(Ln.mk [] 40 0 0 0 0 [120] [])]), .row y9.rv 44 4 y9.rl.length (List.flatMap rlc y9.rl), .row y9.nv 68 3 y9.nt.length (List.flatMap ntc y9.nt), .blk b10 [(str y9.nm), (vU8 y9.bind), (vU8 y9.kind), (vU32 y9.size), (str y9.b), y9.rv, y9.nv] 26, .row y12.rv 44 4 y12.rl.length (List.flatMap rlc y12.rl), .row y12.nv 68 3 y12.nt.length (List.flatMap ntc y12.nt)] := H11.splice [] [] [.row y12.rv 44 4 y12.rl.length (List.flatMap rlc y12.rl), .row y12.nv 68 3 y12.nt.length (List.flatMap ntc y12.nt)] rfl rfl hq12 (Fits.solid True.intro (Fits.solid True.intro Fits.nil))
  refine WL.op rfl rfl (op_move rfl ?_)
  refine WL.op rfl rfl (op_extract rfl rfl ?_)
  refine WL.op rfl rfl (op_extract rfl rfl ?_)
  refine WL.op rfl rfl (op_alloc H12 Fa.I26 (fun b13 w13 H13 => ?_))
  refine WL.op rfl rfl (op_storeBW (i := 10) H13 rfl rfl rfl rfl (one_cons rfl (one_cons rfl (one_cons rfl (one_cons rfl (one_cons rfl (one_cons (Arr.one (H13.arrR (i := 8) rfl)) (one_cons (Arr.one (H13.arrR (i := 9) rfl)) one_nil))))))) Fa.I26 (fun w14 H14 => ?_))
  refine WL.op rfl rfl (op_assign rfl ?_)
  refine WL.nil ?_
  refine WQ.next ?_
  refine WC.seq ?_
  refine WC.region ?_
  refine WL.op rfl rfl (op_move rfl ?_)
  refine WL.op rfl rfl (op_eqlN (b := 0) rfl rfl ?_)
  refine WL.op rfl rfl (op_move rfl ?_)
  refine WL.yes rfl rfl rfl (by kernel_rfl) rfl (op_fieldAddr rfl Fa.F26_4 ?_)
  refine WL.yes rfl rfl rfl (by kernel_rfl) rfl (op_load rfl (H14.cell (i := 3) rfl rfl) Tryd.underlying9 rfl ?_)
  refine WL.yes rfl rfl rfl (by kernel_rfl) rfl (op_eqlStr rfl rfl ?_)
  refine WL.op rfl rfl (op_pickT rfl (by kernel_rfl) rfl ?_)
  refine WL.op rfl rfl (op_move rfl ?_)
  refine WL.yes rfl rfl rfl (decide_eq_true ((bare_len hc4).2.2.1.trans (by kernel_rfl))) rfl (op_fieldAddr rfl Fa.F26_5 ?_)
  refine WL.yes rfl rfl rfl (decide_eq_true ((bare_len hc4).2.2.1.trans (by kernel_rfl))) rfl (op_load rfl (H14.cell (i := 3) rfl rfl) Tryd.underlying23 rfl ?_)
  refine WL.yes rfl rfl rfl (decide_eq_true ((bare_len hc4).2.2.1.trans (by kernel_rfl))) rfl (op_lenA Tryd.underlying23 rfl (H14.arrR (i := 1) rfl) ?_)
  refine WL.yes rfl rfl rfl (decide_eq_true ((bare_len hc4).2.2.1.trans (by kernel_rfl))) rfl (op_eqlN (b := 1) rfl rfl ?_)
  refine WL.op rfl rfl (op_pickT rfl (decide_eq_true ((bare_len hc4).2.2.1.trans (by kernel_rfl))) rfl ?_)
  refine WL.op rfl rfl (op_move rfl ?_)
  refine WL.yes rfl rfl rfl (decide_eq_true ((congrArg List.length (bare_len hc4).1).trans (by kernel_rfl))) rfl (op_fieldAddr rfl Fa.F26_5 ?_)
  refine WL.yes rfl rfl rfl (decide_eq_true ((congrArg List.length (bare_len hc4).1).trans (by kernel_rfl))) rfl (op_load rfl (H14.cell (i := 3) rfl rfl) Tryd.underlying23 rfl ?_)
  refine WL.yes rfl rfl rfl (decide_eq_true ((congrArg List.length (bare_len hc4).1).trans (by kernel_rfl))) rfl (op_indexAddr (m := 0) Tryd.underlying23 Fa.I44 rfl (H14.arrR (i := 1) rfl) rfl (by rw [(bare_len hc4).1]; decide +kernel) ?_)
  refine WL.yes rfl rfl rfl (decide_eq_true ((congrArg List.length (bare_len hc4).1).trans (by kernel_rfl))) rfl (op_loadSP (vs := rlc (y4.rl.getD 0 Rl.zero)) rfl (Arr.atsF (H14.arrR (i := 1) rfl) (fun _ => rfl) (by decide) Rl.zero (by rw [(bare_len hc4).1]; decide +kernel)) Tryd.underlying44 rfl Fa.I44 rfl ?_)
  refine WL.yes rfl rfl rfl (decide_eq_true ((congrArg List.length (bare_len hc4).1).trans (by kernel_rfl))) rfl (op_build (cs := [_, _, _, _]) Fa.I44 Fa.PL44 rfl rfl ?_)
  refine WL.yes rfl rfl rfl (decide_eq_true ((congrArg List.length (bare_len hc4).1).trans (by kernel_rfl))) rfl (op_eqlS (xs := [_, _, _, _]) (ys := [_, _, _, _]) (b := ((decide ((y4.rl.getD 0 Rl.zero).off = (4 : UInt32))) && ((decide ((y4.rl.getD 0 Rl.zero).kind = (1 : UInt8))) && ((decide ((y4.rl.getD 0 Rl.zero).nm = [109, 97, 105, 110])) && (decide ((y4.rl.getD 0 Rl.zero).add = (0 : UInt32))))))) Fa.FL44 rfl rfl rfl (andc (veqU32 (y4.rl.getD 0 Rl.zero).off (4 : UInt32)) (andc (veqU8 (y4.rl.getD 0 Rl.zero).kind (1 : UInt8)) (andc (veqStr (y4.rl.getD 0 Rl.zero).nm [109, 97, 105, 110]) (andt (veqU32 (y4.rl.getD 0 Rl.zero).add (0 : UInt32)))))) ?_)
  refine WL.op rfl rfl (op_pickT rfl (decide_eq_true ((congrArg List.length (bare_len hc4).1).trans (by kernel_rfl))) rfl ?_)
  refine WL.op rfl rfl (op_move rfl ?_)
  refine WL.yes rfl rfl rfl (by rw [(bare_len hc4).1]; kernel_rfl) rfl (op_move rfl ?_)
  refine WL.yes rfl rfl rfl (by rw [(bare_len hc4).1]; kernel_rfl) rfl (op_eqlN (b := 3) rfl rfl ?_)
  refine WL.op rfl rfl (op_pickT rfl (by rw [(bare_len hc4).1]; kernel_rfl) rfl ?_)
  refine WL.op rfl rfl (op_move rfl ?_)
  refine WL.yes rfl rfl rfl (by kernel_rfl) rfl (op_move rfl ?_)
  refine WL.yes rfl rfl rfl (by kernel_rfl) rfl (op_eqlN (b := 0) rfl rfl ?_)
  refine WL.op rfl rfl (op_pickT rfl (by kernel_rfl) rfl ?_)
  refine WL.op rfl rfl (op_move rfl ?_)
  refine WL.yes rfl rfl rfl (by kernel_rfl) rfl (op_fieldAddr rfl Fa.F26_3 ?_)
  refine WL.yes rfl rfl rfl (by kernel_rfl) rfl (op_load rfl (H14.cell (i := 10) rfl rfl) Tryd.underlying22 rfl ?_)
  refine WL.yes rfl rfl rfl (by kernel_rfl) rfl (op_eqlU32 (b := 4) rfl rfl ?_)
  refine WL.op rfl rfl (op_pickT rfl (by kernel_rfl) rfl ?_)
  refine WL.op rfl rfl (op_assign rfl ?_)
  refine WL.nil ?_
  refine WQ.next ?_
  refine WC.ret ?_
  refine WQ.out (.tmp rfl .nil) ?_
  exact ⟨by rw [decide_eq_true ((bare_len hc12).2.2.2.1.trans (by kernel_rfl))]; rfl, H14.fr⟩
end Go.Proofs.YtnngbnenekjffaaDoor
