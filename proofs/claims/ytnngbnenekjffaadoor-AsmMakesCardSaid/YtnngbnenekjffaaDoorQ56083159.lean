/- General lemmas and walks: DInsn, DRel2, DRel3, DRel4, DAsm. No condition but what each theorem names. -/
import Derived.Test.YtnngbnenekjffaaDoorQ4ede5676
import Derived.Test.YtnngbnenekjffaaDoorQ4430d91e
/-! from DInsn -/
namespace Go.Proofs.YtnngbnenekjffaaDoor
open Go.Owl Go.Spec
set_option maxRecDepth 100000 in
theorem put4_ok (v : UInt32) (w : World) :
    Calls Tryd.prog 70 #[(vU32 v), (vN 4)] w (fun e w' => e = .returned (.tuple #[str (le4 v), vN 0]) ∧ Fr [] w w') := by
  refine enter (args := [(vU32 v), (vN 4)]) Tryd.func70 rfl rfl ?_
  have H0 : Own [] w w [] := Own.start w []
  refine WC.seq ?_
  refine WC.region ?_
  refine WL.op rfl rfl (op_assign rfl ?_)
  refine WL.op rfl rfl (op_assign rfl ?_)
  refine WL.nil ?_
  refine WQ.next ?_
  refine WC.seq ?_
  refine WC.block ?_
  refine WC.seq ?_
  refine WC.region ?_
  refine WL.op rfl rfl (op_move rfl ?_)
  refine WL.op rfl rfl (op_lssN (b := 1) rfl rfl ?_)
  refine WL.op rfl rfl (op_move rfl ?_)
  refine WL.yes rfl rfl rfl (by decide) rfl (op_move rfl ?_)
  refine WL.yes rfl rfl rfl (by decide) rfl (op_gtrN (b := 4) rfl rfl ?_)
  refine WL.op rfl rfl (op_pickF rfl (by decide) rfl ?_)
  refine WL.op rfl rfl (op_assign rfl ?_)
  refine WL.nil ?_
  refine WQ.next ?_
  refine WC.no rfl (by decide) ?_
  refine WC.seq ?_
  refine WC.region ?_
  refine WL.op rfl rfl (op_move rfl ?_)
  refine WL.op rfl rfl (op_lssN (b := 4) rfl rfl ?_)
  refine WL.op rfl rfl (op_move rfl ?_)
  refine WL.no rfl rfl rfl (by decide) rfl ?_
  refine WL.no rfl rfl rfl (by decide) rfl ?_
  refine WL.no rfl rfl rfl (by decide) rfl ?_
  refine WL.no rfl rfl rfl (by decide) rfl ?_
  refine WL.no rfl rfl rfl (by decide) rfl ?_
  refine WL.op rfl rfl (op_pickF rfl (by decide) rfl ?_)
  refine WL.op rfl rfl (op_assign rfl ?_)
  refine WL.nil ?_
  refine WQ.next ?_
  refine WC.no rfl rfl ?_
  refine WC.skip ?_
  refine WQ.inNormal ?_
  refine WQ.next ?_
  refine WC.seq ?_
  refine WC.region ?_
  refine WL.op rfl rfl (op_move rfl ?_)
  refine WL.op rfl rfl (op_convU32U8 (hs := Tryd.underlying22) (hd := Tryd.underlying5) rfl ?_)
  refine WL.op rfl rfl (op_move rfl ?_)
  refine WL.op rfl rfl (op_shrU32 (s := 8) rfl rfl ?_)
  refine WL.op rfl rfl (op_convU32U8 (hs := Tryd.underlying22) (hd := Tryd.underlying5) rfl ?_)
  refine WL.op rfl rfl (op_move rfl ?_)
  refine WL.op rfl rfl (op_shrU32 (s := 16) rfl rfl ?_)
  refine WL.op rfl rfl (op_convU32U8 (hs := Tryd.underlying22) (hd := Tryd.underlying5) rfl ?_)
  refine WL.op rfl rfl (op_move rfl ?_)
  refine WL.op rfl rfl (op_shrU32 (s := 24) rfl rfl ?_)
  refine WL.op rfl rfl (op_convU32U8 (hs := Tryd.underlying22) (hd := Tryd.underlying5) rfl ?_)
  refine WL.op rfl rfl (op_buildSlice (cs := [_, _, _, _]) H0 Tryd.underlying58 Fa.I5 rfl rfl rfl rfl (by decide) (by decide) (fun b1 w1 H1 => ?_))
  refine WL.op rfl rfl (op_move rfl ?_)
  refine WL.op rfl rfl (op_cutHi Tryd.underlying58 Fa.I5 rfl (H1.arrR (i := 0) rfl) rfl (by omega) ?_)
  refine WL.op rfl rfl (op_callF Fa.C89 rfl ((text_ok _ _ (([(UInt8.ofNat v.toNat), (UInt8.ofNat (shrU32 v 8).toNat), (UInt8.ofNat (shrU32 v 16).toNat), (UInt8.ofNat (shrU32 v 24).toNat)].take 4)) _ (((H1.arrR (i := 0) rfl)).cutHiM (f := vU8) (l := [(UInt8.ofNat v.toNat), (UInt8.ofNat (shrU32 v 8).toNat), (UInt8.ofNat (shrU32 v 16).toNat), (UInt8.ofNat (shrU32 v 24).toNat)]) (b := 4) (by omega))).mono (fun e w2 hq => ?_)))
  obtain ⟨rfl, hf2⟩ := hq
  refine ⟨_, rfl, ?_⟩
  have H2 := H1.fr' hf2
  refine WL.op rfl rfl (op_assign rfl ?_)
  refine WL.op rfl rfl (op_assign rfl ?_)
  refine WL.nil ?_
  refine WQ.next ?_
  refine WC.ret ?_
  refine WQ.out (.tmp rfl (.tmp rfl .nil)) ?_
  exact ⟨rfl, H2.fr⟩
set_option maxRecDepth 100000 in
theorem table_ok  (w : World) :
    Calls Tryd.prog 85 #[] w (fun e w' => e = .returned (.agg (tabL.map vU8).toArray) ∧ Fr [] w w') := by
  refine enter (args := []) Tryd.func85 rfl rfl ?_
  have H0 : Own [] w w [] := Own.start w []
  refine WC.seq ?_
  refine WC.region ?_
  refine WL.op rfl rfl (op_alloc H0 Fa.I130 (fun b1 w1 H1 => ?_))
  refine WL.nil ?_
  refine WQ.next ?_
  refine WC.seq ?_
  refine WC.region ?_
  refine WL.op rfl rfl (op_buildA (cs := tab0.map vU8) Fa.I130 Tryd.underlying130 Fa.I5 rfl (by kernel_rfl) ?_)
  refine WL.op rfl rfl (op_alloc H1 Fa.I130 (fun b2 w2 H2 => ?_))
  refine WL.op rfl rfl (op_storeBV (i := 1) H2 rfl rfl rfl (by kernel_rfl) (by kernel_rfl) (by kernel_rfl) Fa.I130 (fun w3 H3 => ?_))
  refine WL.nil ?_
  refine WQ.next ?_
  refine WC.seq ?_
  refine WC.seq ?_
  refine WC.region ?_
  refine WL.op rfl rfl (op_assign rfl ?_)
  refine WL.nil ?_
  refine WQ.next ?_
  refine WC.block ?_
  refine WC.loop (α := Nat) (fun k => [(0, (ptr b1 0)), (1, (ptr b2 0)), (2, (vN (k + 1)))]) (fun k w' => (k ≤ 14) ∧ Own [] w w' [.blk b1 (List.replicate 256 (vU8 0)) 130, .blk b2 ((tabTo k).map vU8) 130]) (fun k => 14 - k) 0 ⟨(by omega), H3⟩ ⟨rfl, rfl, rfl, trivial⟩ ?_
  rintro k w4 ⟨hinv, H4⟩
  show WC _ _ _ _ _ [(0, (ptr b1 0)), (1, (ptr b2 0)), (2, (vN (k + 1)))] _
  refine WC.seq ?_
  refine WC.seq ?_
  refine WC.region ?_
  refine WL.op rfl rfl (op_move rfl ?_)
  refine WL.op rfl rfl (op_leqN (b := 14) rfl rfl ?_)
  refine WL.nil ?_
  refine WQ.next ?_
  refine WC.cond rfl (fun (hb5 : (decide ((k + 1) ≤ 14)) = true) => ?_) (fun (hb5 : (decide ((k + 1) ≤ 14)) = false) => ?_)
  ·
    have hc5 := of_decide_eq_true hb5
    refine WC.skip ?_
    refine WQ.next ?_
    refine WC.seq ?_
    refine WC.block ?_
    refine WC.region ?_
    refine WL.op rfl rfl (op_move rfl ?_)
    refine WL.op rfl rfl (op_indexAddrA1 Tryd.underlying130 Fa.I5 rfl rfl (by omega) ?_)
    refine WL.op rfl rfl (op_storeB (i := 1) H4 rfl rfl rfl (by rw [Nat.blt_eq, List.length_map, tabTo_length]; omega) rfl Fa.I5 (fun w6 H6 => ?_))
    refine WL.nil ?_
    refine WQ.inNormal ?_
    refine WQ.next ?_
    refine WC.region ?_
    refine WL.op rfl rfl (op_move rfl ?_)
    refine WL.op rfl rfl (op_addN (b := 1) rfl rfl (by omega) ?_)
    refine WL.op rfl rfl (op_assign rfl ?_)
    refine WL.nil ?_
    exact WQ.round (k + 1) ⟨(by omega), (by rw [show (tabTo (k + 1)).map vU8 = ((tabTo k).map vU8).set (0 + (k + 1)) (vU8 7) from by rw [Nat.zero_add, set_map vU8]; rfl]; exact H6)⟩ ⟨rfl, rfl, rfl, trivial⟩ (by omega)
  ·
    have hc5 := of_decide_eq_false hb5
    refine WC.exit ?_
    refine WQ.thenExit ?_
    refine WQ.thenExit ?_
    refine WQ.inHere ?_
    refine WQ.next ?_
    refine WC.seq ?_
    refine WC.region ?_
    refine WL.op rfl rfl (op_loadS rfl (H4.cellsW (i := 1) rfl) Tryd.underlying130 rfl Fa.I130 (by rw [List.length_map, tabTo_length]) ?_)
    refine WL.op rfl rfl (op_storeBV (i := 0) H4 rfl rfl rfl (by rw [List.length_map, tabTo_length, List.length_replicate]; rfl) (one_U8 _) (by rw [List.length_map, tabTo_length]) Fa.I130 (fun w7 H7 => ?_))
    refine WL.nil ?_
    refine WQ.next ?_
    refine WC.ret ?_
    refine WQ.out (.cell rfl (run_loadVarS (H7.cellsW (i := 0) rfl) Tryd.underlying130 rfl Fa.I130 (by rw [List.length_map, tabTo_length])) .nil) ?_
    exact ⟨by have hk : k = 14 := (by omega); subst hk; rfl, H7.fr⟩
set_option maxRecDepth 100000 in
theorem check1_ok (n bit u : UInt8) (q : Nat) (w : World) (hc : w.cell? ⟨q, 0, none⟩ = some (vU8 u)) :
    Calls Tryd.prog 86 #[(vU8 n), (vU8 bit), (ptr q 0)] w (fun e w' => e = .returned (.bool (fitB u n bit)) ∧ Fr [] w w') := by
  refine enter (args := [(vU8 n), (vU8 bit), (ptr q 0)]) Tryd.func86 rfl rfl ?_
  have H0 : Own [] w w [] := Own.start w []
  refine WC.seq ?_
  refine WC.region ?_
  refine WL.op rfl rfl (op_assign rfl ?_)
  refine WL.nil ?_
  refine WQ.next ?_
  refine WC.seq ?_
  refine WC.region ?_
  refine WL.op rfl rfl (op_move rfl ?_)
  refine WL.op rfl rfl (op_eqlU8 (b := 0) rfl rfl ?_)
  refine WL.op rfl rfl (op_move rfl ?_)
  refine WL.split (t := 8) rfl (fun (hb1 : (decide (n = (0 : UInt8))) = true) => ?_) (fun (hb1 : (decide (n = (0 : UInt8))) = false) => ?_)
  ·
    have hc1 := of_decide_eq_true hb1
    refine WL.no rfl rfl rfl hb1 rfl ?_
    refine WL.no rfl rfl rfl hb1 rfl ?_
    refine WL.no rfl rfl rfl hb1 rfl ?_
    refine WL.no rfl rfl rfl hb1 rfl ?_
    refine WL.no rfl rfl rfl hb1 rfl ?_
    refine WL.non rfl rfl rfl rfl ?_
    refine WL.non rfl rfl rfl rfl ?_
    refine WL.no rfl rfl rfl hb1 rfl ?_
    refine WL.op rfl rfl (op_pickT rfl hb1 rfl ?_)
    refine WL.op rfl rfl (op_assign rfl ?_)
    refine WL.nil ?_
    refine WQ.next ?_
    refine WC.ret ?_
    refine WQ.out (.tmp rfl .nil) ?_
    exact ⟨by simp_all [tup, fitB], H0.fr⟩
  ·
    have hc1 := of_decide_eq_false hb1
    refine WL.yes rfl rfl rfl hb1 rfl (op_load rfl hc Tryd.underlying5 rfl ?_)
    refine WL.yes rfl rfl rfl hb1 rfl (op_move rfl ?_)
    refine WL.yes rfl rfl rfl hb1 rfl (op_andU8 rfl rfl ?_)
    refine WL.yes rfl rfl rfl hb1 rfl (op_neqU8 (b := 0) rfl rfl ?_)
    refine WL.yes rfl rfl rfl hb1 rfl (op_move rfl ?_)
    refine WL.split (t := 13) rfl (fun (hb2 : (decide ((u &&& bit) ≠ (0 : UInt8))) = true) => ?_) (fun (hb2 : (decide ((u &&& bit) ≠ (0 : UInt8))) = false) => ?_)
    ·
      have hc2 := of_decide_eq_true hb2
      refine WL.yes rfl rfl rfl hb2 rfl (op_move rfl ?_)
      refine WL.yes rfl rfl rfl hb2 rfl (op_lssU8 (b := 16) rfl rfl ?_)
      refine WL.yes rfl rfl rfl hb1 rfl (op_pickT rfl hb2 rfl ?_)
      refine WL.op rfl rfl (op_pickF rfl hb1 rfl ?_)
      refine WL.op rfl rfl (op_assign rfl ?_)
      refine WL.nil ?_
      refine WQ.next ?_
      refine WC.ret ?_
      refine WQ.out (.tmp rfl .nil) ?_
      exact ⟨by simp_all [tup, fitB], H0.fr⟩
    ·
      have hc2 := of_decide_eq_false hb2
      refine WL.no rfl rfl rfl hb2 rfl ?_
      refine WL.no rfl rfl rfl hb2 rfl ?_
      refine WL.yes rfl rfl rfl hb1 rfl (op_pickF rfl hb2 rfl ?_)
      refine WL.op rfl rfl (op_pickF rfl hb1 rfl ?_)
      refine WL.op rfl rfl (op_assign rfl ?_)
      refine WL.nil ?_
      refine WQ.next ?_
      refine WC.ret ?_
      refine WQ.out (.tmp rfl .nil) ?_
      exact ⟨by simp_all [tup, fitB], H0.fr⟩
set_option maxRecDepth 100000 in
theorem check_ok (op d a b : UInt8) (imm : UInt32) (w : World) :
    Calls Tryd.prog 62 #[(.agg #[(vU8 op), (vU8 d), (vU8 a), (vU8 b), (vU32 imm)])] w (fun e w' => e = .returned (vN (encE op d a b imm)) ∧ Fr [] w w') := by
  refine enter (args := [(.agg #[(vU8 op), (vU8 d), (vU8 a), (vU8 b), (vU32 imm)])]) Tryd.func62 rfl rfl ?_
  have H0 : Own [] w w [] := Own.start w []
  refine WC.seq ?_
  refine WC.region ?_
  refine WL.op rfl rfl (op_box H0 rfl rfl (fun b1 w1 H1 => ?_))
  refine WL.op rfl rfl (op_assign rfl ?_)
  refine WL.nil ?_
  refine WQ.next ?_
  refine WC.seq ?_
  refine WC.draw 5 Fa.M H1 (HW.op rfl (fun w1 H1 => op_callF Fa.C85 rfl ((table_ok _).mono (fun e w2 hq => ⟨_, hq.1, rfl, hq.2⟩))) (HW.op rfl (fun w1 H1 => op_fieldAddr rfl Fa.F61_0 ⟨rfl, Fr.refl _ _⟩) (HW.op rfl (fun w1 H1 => op_load rfl (H1.cell (i := 0) rfl rfl) Tryd.underlying5 rfl ⟨rfl, Fr.refl _ _⟩) (HW.op rfl (fun w1 H1 => op_indexA1 (cs := (tabL.map vU8)) Tryd.underlying130 Fa.I5 Tryd.underlying5 rfl rfl rfl op.toNat_lt (get_map vU8 0 (by rw [tabL, tabTo_length]; exact op.toNat_lt)) ⟨rfl, Fr.refl _ _⟩) (HW.flt (mk := fun bq => ptr bq.1 0) (ent := fun bq => .blk bq.1 _ _) rfl (fun w1 _ => op_alloc (Own.start w1 []) Fa.I5 (fun bq w2 H2 => ⟨(bq, undef), rfl, H2, True.intro⟩))  HW.nil))))) (by kernel_rfl) ?_
  intro β3 w3 H3
  refine WL.op rfl rfl (op_storeB (i := 1) H3 rfl rfl rfl rfl rfl Fa.I5 (fun w4 H4 => ?_))
  refine WL.nil ?_
  refine WQ.next ?_
  refine WC.seq ?_
  refine WC.region ?_
  refine WL.op rfl rfl (op_makeFunc rfl rfl ?_)
  refine WL.op rfl rfl (op_assign rfl ?_)
  refine WL.nil ?_
  refine WQ.next ?_
  refine WC.seq ?_
  refine WC.seq ?_
  refine WC.region ?_
  refine WL.op rfl rfl (op_load rfl (H4.cell (i := 1) rfl rfl) Tryd.underlying5 rfl ?_)
  refine WL.op rfl rfl (op_eqlU8 (b := 0) rfl rfl ?_)
  refine WL.op rfl rfl (op_move rfl ?_)
  refine WL.split (t := 12) rfl (fun (hb5 : (decide ((useOf op) = (0 : UInt8))) = true) => ?_) (fun (hb5 : (decide ((useOf op) = (0 : UInt8))) = false) => ?_)
  ·
    have hc5 := of_decide_eq_true hb5
    refine WL.no rfl rfl rfl hb5 rfl ?_
    refine WL.no rfl rfl rfl hb5 rfl ?_
    refine WL.no rfl rfl rfl hb5 rfl ?_
    refine WL.no rfl rfl rfl hb5 rfl ?_
    refine WL.no rfl rfl rfl hb5 rfl ?_
    refine WL.op rfl rfl (op_pickT rfl hb5 rfl ?_)
    refine WL.op rfl rfl (op_move rfl ?_)
    refine WL.no rfl rfl rfl rfl rfl ?_
    refine WL.no rfl rfl rfl rfl rfl ?_
    refine WL.no rfl rfl rfl rfl rfl ?_
    refine WL.no rfl rfl rfl rfl rfl ?_
    refine WL.no rfl rfl rfl rfl rfl ?_
    refine WL.op rfl rfl (op_pickT rfl rfl rfl ?_)
    refine WL.op rfl rfl (op_move rfl ?_)
    refine WL.no rfl rfl rfl rfl rfl ?_
    refine WL.no rfl rfl rfl rfl rfl ?_
    refine WL.no rfl rfl rfl rfl rfl ?_
    refine WL.no rfl rfl rfl rfl rfl ?_
    refine WL.no rfl rfl rfl rfl rfl ?_
    refine WL.op rfl rfl (op_pickT rfl rfl rfl ?_)
    refine WL.op rfl rfl (op_move rfl ?_)
    refine WL.no rfl rfl rfl rfl rfl ?_
    refine WL.no rfl rfl rfl rfl rfl ?_
    refine WL.no rfl rfl rfl rfl rfl ?_
    refine WL.no rfl rfl rfl rfl rfl ?_
    refine WL.non rfl rfl rfl rfl ?_
    refine WL.non rfl rfl rfl rfl ?_
    refine WL.non rfl rfl rfl rfl ?_
    refine WL.no rfl rfl rfl rfl rfl ?_
    refine WL.no rfl rfl rfl rfl rfl ?_
    refine WL.op rfl rfl (op_pickT rfl rfl rfl ?_)
    refine WL.nil ?_
    refine WQ.next ?_
    refine WC.yes rfl rfl ?_
    refine WC.seq ?_
    refine WC.region ?_
    refine WL.op rfl rfl (op_assign rfl ?_)
    refine WL.nil ?_
    refine WQ.next ?_
    refine WC.ret ?_
    refine WQ.thenRet ?_
    refine WQ.out (.tmp rfl .nil) ?_
    exact ⟨by simp_all [tup, encE, okB], H4.fr⟩
  ·
    have hc5 := of_decide_eq_false hb5
    refine WL.yes rfl rfl rfl hb5 rfl (op_move rfl ?_)
    refine WL.yes rfl rfl rfl hb5 rfl (op_fieldAddr rfl Fa.F61_1 ?_)
    refine WL.yes rfl rfl rfl hb5 rfl (op_load rfl (H4.cell (i := 0) rfl rfl) Tryd.underlying5 rfl ?_)
    refine WL.yes rfl rfl rfl hb5 rfl (op_call (f := 86) rfl Fa.C86 rfl ((check1_ok d 1 (useOf op) (β3 4).1 _ (H4.cell (i := 1) rfl rfl)).mono (fun e w6 hq => ?_)))
    obtain ⟨rfl, hf6⟩ := hq
    refine ⟨_, rfl, ?_⟩
    have H6 := H4.fr' hf6
    refine WL.yes rfl rfl rfl hb5 rfl (op_not rfl ?_)
    refine WL.op rfl rfl (op_pickF rfl hb5 rfl ?_)
    refine WL.op rfl rfl (op_move rfl ?_)
    refine WL.split (t := 19) rfl (fun (hb7 : (!(fitB (useOf op) d 1)) = true) => ?_) (fun (hb7 : (!(fitB (useOf op) d 1)) = false) => ?_)
    ·
      have hn7 := (Bool.not_eq_true' _).mp hb7
      refine WL.no rfl rfl rfl hb7 rfl ?_
      refine WL.no rfl rfl rfl hb7 rfl ?_
      refine WL.no rfl rfl rfl hb7 rfl ?_
      refine WL.no rfl rfl rfl hb7 rfl ?_
      refine WL.no rfl rfl rfl hb7 rfl ?_
      refine WL.op rfl rfl (op_pickT rfl hb7 rfl ?_)
      refine WL.op rfl rfl (op_move rfl ?_)
      refine WL.no rfl rfl rfl rfl rfl ?_
      refine WL.no rfl rfl rfl rfl rfl ?_
      refine WL.no rfl rfl rfl rfl rfl ?_
      refine WL.no rfl rfl rfl rfl rfl ?_
      refine WL.no rfl rfl rfl rfl rfl ?_
      refine WL.op rfl rfl (op_pickT rfl rfl rfl ?_)
      refine WL.op rfl rfl (op_move rfl ?_)
      refine WL.no rfl rfl rfl rfl rfl ?_
      refine WL.no rfl rfl rfl rfl rfl ?_
      refine WL.no rfl rfl rfl rfl rfl ?_
      refine WL.no rfl rfl rfl rfl rfl ?_
      refine WL.non rfl rfl rfl rfl ?_
      refine WL.non rfl rfl rfl rfl ?_
      refine WL.non rfl rfl rfl rfl ?_
      refine WL.no rfl rfl rfl rfl rfl ?_
      refine WL.no rfl rfl rfl rfl rfl ?_
      refine WL.op rfl rfl (op_pickT rfl rfl rfl ?_)
      refine WL.nil ?_
      refine WQ.next ?_
      refine WC.yes rfl rfl ?_
      refine WC.seq ?_
      refine WC.region ?_
      refine WL.op rfl rfl (op_assign rfl ?_)
      refine WL.nil ?_
      refine WQ.next ?_
      refine WC.ret ?_
      refine WQ.thenRet ?_
      refine WQ.out (.tmp rfl .nil) ?_
      exact ⟨by simp_all [tup, encE, okB], H6.fr⟩
    ·
      have hn7 := (Bool.not_eq_false' _).mp hb7
      refine WL.yes rfl rfl rfl hb7 rfl (op_move rfl ?_)
      refine WL.yes rfl rfl rfl hb7 rfl (op_fieldAddr rfl Fa.F61_2 ?_)
      refine WL.yes rfl rfl rfl hb7 rfl (op_load rfl (H6.cell (i := 0) rfl rfl) Tryd.underlying5 rfl ?_)
      refine WL.yes rfl rfl rfl hb7 rfl (op_call (f := 86) rfl Fa.C86 rfl ((check1_ok a 2 (useOf op) (β3 4).1 _ (H6.cell (i := 1) rfl rfl)).mono (fun e w8 hq => ?_)))
      obtain ⟨rfl, hf8⟩ := hq
      refine ⟨_, rfl, ?_⟩
      have H8 := H6.fr' hf8
      refine WL.yes rfl rfl rfl hb7 rfl (op_not rfl ?_)
      refine WL.op rfl rfl (op_pickF rfl hb7 rfl ?_)
      refine WL.op rfl rfl (op_move rfl ?_)
      refine WL.split (t := 26) rfl (fun (hb9 : (!(fitB (useOf op) a 2)) = true) => ?_) (fun (hb9 : (!(fitB (useOf op) a 2)) = false) => ?_)
      ·
        have hn9 := (Bool.not_eq_true' _).mp hb9
        refine WL.no rfl rfl rfl hb9 rfl ?_
        refine WL.no rfl rfl rfl hb9 rfl ?_
        refine WL.no rfl rfl rfl hb9 rfl ?_
        refine WL.no rfl rfl rfl hb9 rfl ?_
        refine WL.no rfl rfl rfl hb9 rfl ?_
        refine WL.op rfl rfl (op_pickT rfl hb9 rfl ?_)
        refine WL.op rfl rfl (op_move rfl ?_)
        refine WL.no rfl rfl rfl rfl rfl ?_
        refine WL.no rfl rfl rfl rfl rfl ?_
        refine WL.no rfl rfl rfl rfl rfl ?_
        refine WL.no rfl rfl rfl rfl rfl ?_
        refine WL.non rfl rfl rfl rfl ?_
        refine WL.non rfl rfl rfl rfl ?_
        refine WL.non rfl rfl rfl rfl ?_
        refine WL.no rfl rfl rfl rfl rfl ?_
        refine WL.no rfl rfl rfl rfl rfl ?_
        refine WL.op rfl rfl (op_pickT rfl rfl rfl ?_)
        refine WL.nil ?_
        refine WQ.next ?_
        refine WC.yes rfl rfl ?_
        refine WC.seq ?_
        refine WC.region ?_
        refine WL.op rfl rfl (op_assign rfl ?_)
        refine WL.nil ?_
        refine WQ.next ?_
        refine WC.ret ?_
        refine WQ.thenRet ?_
        refine WQ.out (.tmp rfl .nil) ?_
        exact ⟨by simp_all [tup, encE, okB], H8.fr⟩
      ·
        have hn9 := (Bool.not_eq_false' _).mp hb9
        refine WL.yes rfl rfl rfl hb9 rfl (op_move rfl ?_)
        refine WL.yes rfl rfl rfl hb9 rfl (op_fieldAddr rfl Fa.F61_3 ?_)
        refine WL.yes rfl rfl rfl hb9 rfl (op_load rfl (H8.cell (i := 0) rfl rfl) Tryd.underlying5 rfl ?_)
        refine WL.yes rfl rfl rfl hb9 rfl (op_call (f := 86) rfl Fa.C86 rfl ((check1_ok b 4 (useOf op) (β3 4).1 _ (H8.cell (i := 1) rfl rfl)).mono (fun e w10 hq => ?_)))
        obtain ⟨rfl, hf10⟩ := hq
        refine ⟨_, rfl, ?_⟩
        have H10 := H8.fr' hf10
        refine WL.yes rfl rfl rfl hb9 rfl (op_not rfl ?_)
        refine WL.op rfl rfl (op_pickF rfl hb9 rfl ?_)
        refine WL.op rfl rfl (op_move rfl ?_)
        refine WL.split (t := 33) rfl (fun (hb11 : (!(fitB (useOf op) b 4)) = true) => ?_) (fun (hb11 : (!(fitB (useOf op) b 4)) = false) => ?_)
        ·
          have hn11 := (Bool.not_eq_true' _).mp hb11
          refine WL.no rfl rfl rfl hb11 rfl ?_
          refine WL.no rfl rfl rfl hb11 rfl ?_
          refine WL.no rfl rfl rfl hb11 rfl ?_
          refine WL.no rfl rfl rfl hb11 rfl ?_
          refine WL.non rfl rfl rfl rfl ?_
          refine WL.non rfl rfl rfl rfl ?_
          refine WL.non rfl rfl rfl rfl ?_
          refine WL.no rfl rfl rfl hb11 rfl ?_
          refine WL.no rfl rfl rfl hb11 rfl ?_
          refine WL.op rfl rfl (op_pickT rfl hb11 rfl ?_)
          refine WL.nil ?_
          refine WQ.next ?_
          refine WC.yes rfl rfl ?_
          refine WC.seq ?_
          refine WC.region ?_
          refine WL.op rfl rfl (op_assign rfl ?_)
          refine WL.nil ?_
          refine WQ.next ?_
          refine WC.ret ?_
          refine WQ.thenRet ?_
          refine WQ.out (.tmp rfl .nil) ?_
          exact ⟨by simp_all [tup, encE, okB], H10.fr⟩
        ·
          have hn11 := (Bool.not_eq_false' _).mp hb11
          refine WL.yes rfl rfl rfl hb11 rfl (op_load rfl (H10.cell (i := 1) rfl rfl) Tryd.underlying5 rfl ?_)
          refine WL.yes rfl rfl rfl hb11 rfl (op_andU8 (b := 8) rfl rfl ?_)
          refine WL.yes rfl rfl rfl hb11 rfl (op_neqU8 (b := 0) rfl rfl ?_)
          refine WL.yes rfl rfl rfl hb11 rfl (op_move rfl ?_)
          refine WL.split (t := 37) rfl (fun (hb12 : (decide (((useOf op) &&& (8 : UInt8)) ≠ (0 : UInt8))) = true) => ?_) (fun (hb12 : (decide (((useOf op) &&& (8 : UInt8)) ≠ (0 : UInt8))) = false) => ?_)
          ·
            have hc12 := of_decide_eq_true hb12
            refine WL.no rfl rfl rfl hb12 rfl ?_
            refine WL.no rfl rfl rfl hb12 rfl ?_
            refine WL.no rfl rfl rfl hb12 rfl ?_
            refine WL.yes rfl rfl rfl hb11 rfl (op_pickT rfl hb12 rfl ?_)
            refine WL.yes rfl rfl rfl hb11 rfl (op_not rfl ?_)
            refine WL.op rfl rfl (op_pickF rfl hb11 rfl ?_)
            refine WL.nil ?_
            refine WQ.next ?_
            refine WC.no rfl (congrArg Bool.not rfl) ?_
            refine WC.skip ?_
            refine WQ.next ?_
            refine WC.seq ?_
            refine WC.region ?_
            refine WL.op rfl rfl (op_assign rfl ?_)
            refine WL.nil ?_
            refine WQ.next ?_
            refine WC.ret ?_
            refine WQ.out (.tmp rfl .nil) ?_
            exact ⟨by simp_all [tup, encE, okB], H10.fr⟩
          ·
            have hc12 := of_decide_eq_false hb12
            refine WL.yes rfl rfl rfl hb12 rfl (op_fieldAddr rfl Fa.F61_4 ?_)
            refine WL.yes rfl rfl rfl hb12 rfl (op_load rfl (H10.cell (i := 0) rfl rfl) Tryd.underlying22 rfl ?_)
            refine WL.yes rfl rfl rfl hb12 rfl (op_eqlU32 (b := 0) rfl rfl ?_)
            refine WL.yes rfl rfl rfl hb11 rfl (op_pickF rfl hb12 rfl ?_)
            refine WL.yes rfl rfl rfl hb11 rfl (op_not rfl ?_)
            refine WL.op rfl rfl (op_pickF rfl hb11 rfl ?_)
            refine WL.nil ?_
            refine WQ.next ?_
            refine WC.cond rfl (fun (hb13 : (!(decide (imm = (0 : UInt32)))) = true) => ?_) (fun (hb13 : (!(decide (imm = (0 : UInt32)))) = false) => ?_)
            ·
              have hn13 := (Bool.not_eq_true' _).mp hb13
              refine WC.seq ?_
              refine WC.region ?_
              refine WL.op rfl rfl (op_assign rfl ?_)
              refine WL.nil ?_
              refine WQ.next ?_
              refine WC.ret ?_
              refine WQ.thenRet ?_
              refine WQ.out (.tmp rfl .nil) ?_
              exact ⟨by simp_all [tup, encE, okB], H10.fr⟩
            ·
              have hn13 := (Bool.not_eq_false' _).mp hb13
              refine WC.skip ?_
              refine WQ.next ?_
              refine WC.seq ?_
              refine WC.region ?_
              refine WL.op rfl rfl (op_assign rfl ?_)
              refine WL.nil ?_
              refine WQ.next ?_
              refine WC.ret ?_
              refine WQ.out (.tmp rfl .nil) ?_
              exact ⟨by simp_all [tup, encE, okB], H10.fr⟩
set_option maxRecDepth 100000 in
theorem encode_ok (op d a b : UInt8) (imm : UInt32) (w : World) :
    Calls Tryd.prog 76 #[(.agg #[(vU8 op), (vU8 d), (vU8 a), (vU8 b), (vU32 imm)])] w (fun e w' => e = .returned (.tuple #[str (encS op d a b imm), vN (encE op d a b imm)]) ∧ Fr [] w w') := by
  refine enter (args := [(.agg #[(vU8 op), (vU8 d), (vU8 a), (vU8 b), (vU32 imm)])]) Tryd.func76 rfl rfl ?_
  have H0 : Own [] w w [] := Own.start w []
  refine WC.seq ?_
  refine WC.region ?_
  refine WL.op rfl rfl (op_box H0 rfl rfl (fun b1 w1 H1 => ?_))
  refine WL.op rfl rfl (op_assign rfl ?_)
  refine WL.op rfl rfl (op_assign rfl ?_)
  refine WL.nil ?_
  refine WQ.next ?_
  refine WC.seq ?_
  refine WC.seq ?_
  refine WC.region ?_
  refine WL.op rfl rfl (op_loadS (vs := [_, _, _, _, _]) rfl (H1.cells (i := 0) rfl rfl) Tryd.underlying61 rfl Fa.I61 rfl ?_)
  refine WL.op rfl rfl (op_callF Fa.C62 rfl ((check_ok op d a b imm _).mono (fun e w2 hq => ?_)))
  obtain ⟨rfl, hf2⟩ := hq
  refine ⟨_, rfl, ?_⟩
  have H2 := H1.fr' hf2
  refine WL.op rfl rfl (op_assign rfl ?_)
  refine WL.nil ?_
  refine WQ.next ?_
  refine WC.seq ?_
  refine WC.region ?_
  refine WL.op rfl rfl (op_move rfl ?_)
  refine WL.op rfl rfl (op_neqN (b := 0) rfl rfl ?_)
  refine WL.nil ?_
  refine WQ.next ?_
  refine WC.cond rfl (fun (hb3 : (decide ((encE op d a b imm) ≠ 0)) = true) => ?_) (fun (hb3 : (decide ((encE op d a b imm) ≠ 0)) = false) => ?_)
  ·
    have hc3 := of_decide_eq_true hb3
    refine WC.seq ?_
    refine WC.region ?_
    refine WL.op rfl rfl (op_move rfl ?_)
    refine WL.op rfl rfl (op_assign rfl ?_)
    refine WL.op rfl rfl (op_assign rfl ?_)
    refine WL.nil ?_
    refine WQ.next ?_
    refine WC.ret ?_
    refine WQ.thenRet ?_
    refine WQ.out (.tmp rfl (.tmp rfl .nil)) ?_
    exact ⟨by simp_all [tup, encE, encS], H2.fr⟩
  ·
    have hc3 := of_decide_eq_false hb3
    refine WC.skip ?_
    refine WQ.next ?_
    refine WC.seq ?_
    refine WC.region ?_
    refine WL.op rfl rfl (op_fieldAddr rfl Fa.F61_4 ?_)
    refine WL.op rfl rfl (op_load rfl (H2.cell (i := 0) rfl rfl) Tryd.underlying22 rfl ?_)
    refine WL.op rfl rfl (op_callF Fa.C70 rfl ((put4_ok (imm) _).mono (fun e w4 hq => ?_)))
    obtain ⟨rfl, hf4⟩ := hq
    refine ⟨_, rfl, ?_⟩
    have H4 := H2.fr' hf4
    refine WL.op rfl rfl (op_move rfl ?_)
    refine WL.op rfl rfl (op_extract rfl rfl ?_)
    refine WL.op rfl rfl (op_extract rfl rfl ?_)
    refine WL.op rfl rfl (op_assign rfl ?_)
    refine WL.op rfl rfl (op_assign rfl ?_)
    refine WL.nil ?_
    refine WQ.next ?_
    refine WC.seq ?_
    refine WC.region ?_
    refine WL.op rfl rfl (op_fieldAddr rfl Fa.F61_0 ?_)
    refine WL.op rfl rfl (op_load rfl (H4.cell (i := 0) rfl rfl) Tryd.underlying5 rfl ?_)
    refine WL.op rfl rfl (op_fieldAddr rfl Fa.F61_1 ?_)
    refine WL.op rfl rfl (op_load rfl (H4.cell (i := 0) rfl rfl) Tryd.underlying5 rfl ?_)
    refine WL.op rfl rfl (op_fieldAddr rfl Fa.F61_2 ?_)
    refine WL.op rfl rfl (op_load rfl (H4.cell (i := 0) rfl rfl) Tryd.underlying5 rfl ?_)
    refine WL.op rfl rfl (op_shlU8 (s := 4) rfl rfl ?_)
    refine WL.op rfl rfl (op_orU8 rfl rfl ?_)
    refine WL.op rfl rfl (op_fieldAddr rfl Fa.F61_3 ?_)
    refine WL.op rfl rfl (op_load rfl (H4.cell (i := 0) rfl rfl) Tryd.underlying5 rfl ?_)
    refine WL.op rfl rfl (op_buildSlice (cs := [_, _, _, _]) H4 Tryd.underlying58 Fa.I5 rfl rfl rfl rfl (by decide) (by decide) (fun b5 w5 H5 => ?_))
    refine WL.op rfl rfl (op_bytesStr (l := [op, (d ||| (shlU8 a 4)), b, 0]) Tryd.underlying58 Tryd.underlying5 Tryd.underlying9 rfl (H5.arrR (i := 1) rfl) rfl ?_)
    refine WL.op rfl rfl (op_move rfl ?_)
    refine WL.op rfl rfl (op_addStr rfl rfl (by have := le4_length imm; simp; omega) ?_)
    refine WL.op rfl rfl (op_assign rfl ?_)
    refine WL.op rfl rfl (op_assign rfl ?_)
    refine WL.nil ?_
    refine WQ.next ?_
    refine WC.ret ?_
    refine WQ.out (.tmp rfl (.tmp rfl .nil)) ?_
    exact ⟨by simp_all [tup, encE, encS], H5.fr⟩
set_option maxRecDepth 100000 in
theorem register_ok (n : UInt8) (u : Bool) (w : World) :
    Calls Tryd.prog 91 #[(vU8 n), (.bool u)] w (fun e w' => e = .returned (.bool (regB n u)) ∧ Fr [] w w') := by
  refine enter (args := [(vU8 n), (.bool u)]) Tryd.func91 rfl rfl ?_
  have H0 : Own [] w w [] := Own.start w []
  refine WC.seq ?_
  refine WC.region ?_
  refine WL.op rfl rfl (op_assign rfl ?_)
  refine WL.nil ?_
  refine WQ.next ?_
  refine WC.seq ?_
  refine WC.region ?_
  refine WL.op rfl rfl (op_move rfl ?_)
  refine WL.op rfl rfl (op_eqlU8 (b := 0) rfl rfl ?_)
  refine WL.op rfl rfl (op_move rfl ?_)
  refine WL.split (t := 7) rfl (fun (hb1 : (decide (n = (0 : UInt8))) = true) => ?_) (fun (hb1 : (decide (n = (0 : UInt8))) = false) => ?_)
  ·
    have hc1 := of_decide_eq_true hb1
    refine WL.no rfl rfl rfl hb1 rfl ?_
    refine WL.no rfl rfl rfl hb1 rfl ?_
    refine WL.non rfl rfl rfl rfl ?_
    refine WL.non rfl rfl rfl rfl ?_
    refine WL.no rfl rfl rfl hb1 rfl ?_
    refine WL.op rfl rfl (op_pickT rfl hb1 rfl ?_)
    refine WL.op rfl rfl (op_assign rfl ?_)
    refine WL.nil ?_
    refine WQ.next ?_
    refine WC.ret ?_
    refine WQ.out (.tmp rfl .nil) ?_
    exact ⟨by simp_all [tup, regB], H0.fr⟩
  ·
    have hc1 := of_decide_eq_false hb1
    refine WL.yes rfl rfl rfl hb1 rfl (op_move rfl ?_)
    refine WL.yes rfl rfl rfl hb1 rfl (op_move rfl ?_)
    refine WL.split (t := 9) rfl (fun (hb2 : u = true) => ?_) (fun (hb2 : u = false) => ?_)
    ·
      refine WL.yes rfl rfl rfl hb2 rfl (op_move rfl ?_)
      refine WL.yes rfl rfl rfl hb2 rfl (op_lssU8 (b := 16) rfl rfl ?_)
      refine WL.yes rfl rfl rfl hb1 rfl (op_pickT rfl hb2 rfl ?_)
      refine WL.op rfl rfl (op_pickF rfl hb1 rfl ?_)
      refine WL.op rfl rfl (op_assign rfl ?_)
      refine WL.nil ?_
      refine WQ.next ?_
      refine WC.ret ?_
      refine WQ.out (.tmp rfl .nil) ?_
      exact ⟨by simp_all [tup, regB], H0.fr⟩
    ·
      refine WL.no rfl rfl rfl hb2 rfl ?_
      refine WL.no rfl rfl rfl hb2 rfl ?_
      refine WL.yes rfl rfl rfl hb1 rfl (op_pickF rfl hb2 rfl ?_)
      refine WL.op rfl rfl (op_pickF rfl hb1 rfl ?_)
      refine WL.op rfl rfl (op_assign rfl ?_)
      refine WL.nil ?_
      refine WQ.next ?_
      refine WC.ret ?_
      refine WQ.out (.tmp rfl .nil) ?_
      exact ⟨by simp_all [tup, regB], H0.fr⟩
set_option maxRecDepth 100000 in
theorem rUses_ok (op : UInt8) (w : World) :
    Calls Tryd.prog 90 #[(vU8 op)] w (fun e w' => e = .returned (.tuple #[(.agg #[.bool (ruD op), .bool (ruA op), .bool (ruB op), .bool (ruI op)]), .bool (ruOk op)]) ∧ Fr [] w w') := by
  refine enter (args := [(vU8 op)]) Tryd.func90 rfl rfl ?_
  have H0 : Own [] w w [] := Own.start w []
  refine WC.seq ?_
  refine WC.region ?_
  refine WL.op rfl rfl (op_alloc H0 Fa.I138 (fun b1 w1 H1 => ?_))
  refine WL.op rfl rfl (op_assign rfl ?_)
  refine WL.nil ?_
  refine WQ.next ?_
  refine WC.seq ?_
  refine WC.seq ?_
  refine WC.region ?_
  refine WL.op rfl rfl (op_move rfl ?_)
  refine WL.nil ?_
  refine WQ.next ?_
  refine WC.block ?_
  refine WC.seq ?_
  refine WC.seq ?_
  refine WC.region ?_
  refine WL.op rfl rfl (op_eqlU8 (b := 17) rfl rfl ?_)
  refine WL.op rfl rfl (op_assign rfl ?_)
  refine WL.nil ?_
  refine WQ.next ?_
  refine WC.cond rfl (fun (hb2 : (decide (op = (17 : UInt8))) = true) => ?_) (fun (hb2 : (decide (op = (17 : UInt8))) = false) => ?_)
  ·
    have hc2 := of_decide_eq_true hb2
    refine WC.skip ?_
    refine WQ.next ?_
    refine WC.yes rfl hb2 ?_
    refine WC.seq ?_
    refine WC.region ?_
    refine WL.op rfl rfl (op_build (cs := [_, _, _, _]) Fa.I138 Fa.PL138 rfl rfl ?_)
    refine WL.op rfl rfl (op_storeBW (i := 0) H1 rfl rfl rfl rfl rfl Fa.I138 (fun w3 H3 => ?_))
    refine WL.op rfl rfl (op_assign rfl ?_)
    refine WL.nil ?_
    refine WQ.next ?_
    refine WC.ret ?_
    refine WQ.inRet ?_
    refine WQ.thenRet ?_
    refine WQ.out (.cell rfl (run_loadVarS (vs := [_, _, _, _]) (H3.cells (i := 0) rfl rfl) Tryd.underlying138 rfl Fa.I138 rfl) (.tmp rfl .nil)) ?_
    exact ⟨by rw [hc2]; kernel_rfl, H3.fr⟩
  ·
    have hc2 := of_decide_eq_false hb2
    refine WC.seq ?_
    refine WC.region ?_
    refine WL.op rfl rfl (op_eqlU8 (b := 19) rfl rfl ?_)
    refine WL.op rfl rfl (op_assign rfl ?_)
    refine WL.nil ?_
    refine WQ.next ?_
    refine WC.cond rfl (fun (hb4 : (decide (op = (19 : UInt8))) = true) => ?_) (fun (hb4 : (decide (op = (19 : UInt8))) = false) => ?_)
    ·
      have hc4 := of_decide_eq_true hb4
      refine WC.skip ?_
      refine WQ.next ?_
      refine WC.yes rfl hb4 ?_
      refine WC.seq ?_
      refine WC.region ?_
      refine WL.op rfl rfl (op_build (cs := [_, _, _, _]) Fa.I138 Fa.PL138 rfl rfl ?_)
      refine WL.op rfl rfl (op_storeBW (i := 0) H1 rfl rfl rfl rfl rfl Fa.I138 (fun w5 H5 => ?_))
      refine WL.op rfl rfl (op_assign rfl ?_)
      refine WL.nil ?_
      refine WQ.next ?_
      refine WC.ret ?_
      refine WQ.inRet ?_
      refine WQ.thenRet ?_
      refine WQ.out (.cell rfl (run_loadVarS (vs := [_, _, _, _]) (H5.cells (i := 0) rfl rfl) Tryd.underlying138 rfl Fa.I138 rfl) (.tmp rfl .nil)) ?_
      exact ⟨by rw [hc4]; kernel_rfl, H5.fr⟩
    ·
      have hc4 := of_decide_eq_false hb4
      refine WC.seq ?_
      refine WC.region ?_
      refine WL.op rfl rfl (op_eqlU8 (b := 22) rfl rfl ?_)
      refine WL.op rfl rfl (op_assign rfl ?_)
      refine WL.nil ?_
      refine WQ.next ?_
      refine WC.cond rfl (fun (hb6 : (decide (op = (22 : UInt8))) = true) => ?_) (fun (hb6 : (decide (op = (22 : UInt8))) = false) => ?_)
      ·
        have hc6 := of_decide_eq_true hb6
        refine WC.skip ?_
        refine WQ.next ?_
        refine WC.yes rfl hb6 ?_
        refine WC.seq ?_
        refine WC.region ?_
        refine WL.op rfl rfl (op_build (cs := [_, _, _, _]) Fa.I138 Fa.PL138 rfl rfl ?_)
        refine WL.op rfl rfl (op_storeBW (i := 0) H1 rfl rfl rfl rfl rfl Fa.I138 (fun w7 H7 => ?_))
        refine WL.op rfl rfl (op_assign rfl ?_)
        refine WL.nil ?_
        refine WQ.next ?_
        refine WC.ret ?_
        refine WQ.inRet ?_
        refine WQ.thenRet ?_
        refine WQ.out (.cell rfl (run_loadVarS (vs := [_, _, _, _]) (H7.cells (i := 0) rfl rfl) Tryd.underlying138 rfl Fa.I138 rfl) (.tmp rfl .nil)) ?_
        exact ⟨by rw [hc6]; kernel_rfl, H7.fr⟩
      ·
        have hc6 := of_decide_eq_false hb6
        refine WC.seq ?_
        refine WC.region ?_
        refine WL.op rfl rfl (op_eqlU8 (b := 23) rfl rfl ?_)
        refine WL.op rfl rfl (op_assign rfl ?_)
        refine WL.nil ?_
        refine WQ.next ?_
        refine WC.cond rfl (fun (hb8 : (decide (op = (23 : UInt8))) = true) => ?_) (fun (hb8 : (decide (op = (23 : UInt8))) = false) => ?_)
        ·
          have hc8 := of_decide_eq_true hb8
          refine WC.skip ?_
          refine WQ.next ?_
          refine WC.yes rfl hb8 ?_
          refine WC.seq ?_
          refine WC.region ?_
          refine WL.op rfl rfl (op_build (cs := [_, _, _, _]) Fa.I138 Fa.PL138 rfl rfl ?_)
          refine WL.op rfl rfl (op_storeBW (i := 0) H1 rfl rfl rfl rfl rfl Fa.I138 (fun w9 H9 => ?_))
          refine WL.op rfl rfl (op_assign rfl ?_)
          refine WL.nil ?_
          refine WQ.next ?_
          refine WC.ret ?_
          refine WQ.inRet ?_
          refine WQ.thenRet ?_
          refine WQ.out (.cell rfl (run_loadVarS (vs := [_, _, _, _]) (H9.cells (i := 0) rfl rfl) Tryd.underlying138 rfl Fa.I138 rfl) (.tmp rfl .nil)) ?_
          exact ⟨by rw [hc8]; kernel_rfl, H9.fr⟩
        ·
          have hc8 := of_decide_eq_false hb8
          refine WC.seq ?_
          refine WC.region ?_
          refine WL.op rfl rfl (op_eqlU8 (b := 24) rfl rfl ?_)
          refine WL.op rfl rfl (op_assign rfl ?_)
          refine WL.nil ?_
          refine WQ.next ?_
          refine WC.cond rfl (fun (hb10 : (decide (op = (24 : UInt8))) = true) => ?_) (fun (hb10 : (decide (op = (24 : UInt8))) = false) => ?_)
          ·
            have hc10 := of_decide_eq_true hb10
            refine WC.skip ?_
            refine WQ.next ?_
            refine WC.yes rfl hb10 ?_
            refine WC.seq ?_
            refine WC.region ?_
            refine WL.op rfl rfl (op_build (cs := [_, _, _, _]) Fa.I138 Fa.PL138 rfl rfl ?_)
            refine WL.op rfl rfl (op_storeBW (i := 0) H1 rfl rfl rfl rfl rfl Fa.I138 (fun w11 H11 => ?_))
            refine WL.op rfl rfl (op_assign rfl ?_)
            refine WL.nil ?_
            refine WQ.next ?_
            refine WC.ret ?_
            refine WQ.inRet ?_
            refine WQ.thenRet ?_
            refine WQ.out (.cell rfl (run_loadVarS (vs := [_, _, _, _]) (H11.cells (i := 0) rfl rfl) Tryd.underlying138 rfl Fa.I138 rfl) (.tmp rfl .nil)) ?_
            exact ⟨by rw [hc10]; kernel_rfl, H11.fr⟩
          ·
            have hc10 := of_decide_eq_false hb10
            refine WC.seq ?_
            refine WC.region ?_
            refine WL.op rfl rfl (op_eqlU8 (b := 25) rfl rfl ?_)
            refine WL.op rfl rfl (op_assign rfl ?_)
            refine WL.nil ?_
            refine WQ.next ?_
            refine WC.cond rfl (fun (hb12 : (decide (op = (25 : UInt8))) = true) => ?_) (fun (hb12 : (decide (op = (25 : UInt8))) = false) => ?_)
            ·
              have hc12 := of_decide_eq_true hb12
              refine WC.skip ?_
              refine WQ.next ?_
              refine WC.yes rfl hb12 ?_
              refine WC.seq ?_
              refine WC.region ?_
              refine WL.op rfl rfl (op_build (cs := [_, _, _, _]) Fa.I138 Fa.PL138 rfl rfl ?_)
              refine WL.op rfl rfl (op_storeBW (i := 0) H1 rfl rfl rfl rfl rfl Fa.I138 (fun w13 H13 => ?_))
              refine WL.op rfl rfl (op_assign rfl ?_)
              refine WL.nil ?_
              refine WQ.next ?_
              refine WC.ret ?_
              refine WQ.inRet ?_
              refine WQ.thenRet ?_
              refine WQ.out (.cell rfl (run_loadVarS (vs := [_, _, _, _]) (H13.cells (i := 0) rfl rfl) Tryd.underlying138 rfl Fa.I138 rfl) (.tmp rfl .nil)) ?_
              exact ⟨by rw [hc12]; kernel_rfl, H13.fr⟩
            ·
              have hc12 := of_decide_eq_false hb12
              refine WC.seq ?_
              refine WC.region ?_
              refine WL.op rfl rfl (op_eqlU8 (b := 26) rfl rfl ?_)
              refine WL.op rfl rfl (op_assign rfl ?_)
              refine WL.nil ?_
              refine WQ.next ?_
              refine WC.cond rfl (fun (hb14 : (decide (op = (26 : UInt8))) = true) => ?_) (fun (hb14 : (decide (op = (26 : UInt8))) = false) => ?_)
              ·
                have hc14 := of_decide_eq_true hb14
                refine WC.skip ?_
                refine WQ.next ?_
                refine WC.yes rfl hb14 ?_
                refine WC.seq ?_
                refine WC.region ?_
                refine WL.op rfl rfl (op_build (cs := [_, _, _, _]) Fa.I138 Fa.PL138 rfl rfl ?_)
                refine WL.op rfl rfl (op_storeBW (i := 0) H1 rfl rfl rfl rfl rfl Fa.I138 (fun w15 H15 => ?_))
                refine WL.op rfl rfl (op_assign rfl ?_)
                refine WL.nil ?_
                refine WQ.next ?_
                refine WC.ret ?_
                refine WQ.inRet ?_
                refine WQ.thenRet ?_
                refine WQ.out (.cell rfl (run_loadVarS (vs := [_, _, _, _]) (H15.cells (i := 0) rfl rfl) Tryd.underlying138 rfl Fa.I138 rfl) (.tmp rfl .nil)) ?_
                exact ⟨by rw [hc14]; kernel_rfl, H15.fr⟩
              ·
                have hc14 := of_decide_eq_false hb14
                refine WC.seq ?_
                refine WC.region ?_
                refine WL.op rfl rfl (op_eqlU8 (b := 29) rfl rfl ?_)
                refine WL.op rfl rfl (op_assign rfl ?_)
                refine WL.nil ?_
                refine WQ.next ?_
                refine WC.cond rfl (fun (hb16 : (decide (op = (29 : UInt8))) = true) => ?_) (fun (hb16 : (decide (op = (29 : UInt8))) = false) => ?_)
                ·
                  have hc16 := of_decide_eq_true hb16
                  refine WC.skip ?_
                  refine WQ.next ?_
                  refine WC.yes rfl hb16 ?_
                  refine WC.seq ?_
                  refine WC.region ?_
                  refine WL.op rfl rfl (op_build (cs := [_, _, _, _]) Fa.I138 Fa.PL138 rfl rfl ?_)
                  refine WL.op rfl rfl (op_storeBW (i := 0) H1 rfl rfl rfl rfl rfl Fa.I138 (fun w17 H17 => ?_))
                  refine WL.op rfl rfl (op_assign rfl ?_)
                  refine WL.nil ?_
                  refine WQ.next ?_
                  refine WC.ret ?_
                  refine WQ.inRet ?_
                  refine WQ.thenRet ?_
                  refine WQ.out (.cell rfl (run_loadVarS (vs := [_, _, _, _]) (H17.cells (i := 0) rfl rfl) Tryd.underlying138 rfl Fa.I138 rfl) (.tmp rfl .nil)) ?_
                  exact ⟨by rw [hc16]; kernel_rfl, H17.fr⟩
                ·
                  have hc16 := of_decide_eq_false hb16
                  refine WC.seq ?_
                  refine WC.region ?_
                  refine WL.op rfl rfl (op_eqlU8 (b := 30) rfl rfl ?_)
                  refine WL.op rfl rfl (op_assign rfl ?_)
                  refine WL.nil ?_
                  refine WQ.next ?_
                  refine WC.cond rfl (fun (hb18 : (decide (op = (30 : UInt8))) = true) => ?_) (fun (hb18 : (decide (op = (30 : UInt8))) = false) => ?_)
                  ·
                    have hc18 := of_decide_eq_true hb18
                    refine WC.skip ?_
                    refine WQ.next ?_
                    refine WC.yes rfl hb18 ?_
                    refine WC.seq ?_
                    refine WC.region ?_
                    refine WL.op rfl rfl (op_build (cs := [_, _, _, _]) Fa.I138 Fa.PL138 rfl rfl ?_)
                    refine WL.op rfl rfl (op_storeBW (i := 0) H1 rfl rfl rfl rfl rfl Fa.I138 (fun w19 H19 => ?_))
                    refine WL.op rfl rfl (op_assign rfl ?_)
                    refine WL.nil ?_
                    refine WQ.next ?_
                    refine WC.ret ?_
                    refine WQ.inRet ?_
                    refine WQ.thenRet ?_
                    refine WQ.out (.cell rfl (run_loadVarS (vs := [_, _, _, _]) (H19.cells (i := 0) rfl rfl) Tryd.underlying138 rfl Fa.I138 rfl) (.tmp rfl .nil)) ?_
                    exact ⟨by rw [hc18]; kernel_rfl, H19.fr⟩
                  ·
                    have hc18 := of_decide_eq_false hb18
                    refine WC.seq ?_
                    refine WC.region ?_
                    refine WL.op rfl rfl (op_eqlU8 (b := 33) rfl rfl ?_)
                    refine WL.op rfl rfl (op_assign rfl ?_)
                    refine WL.nil ?_
                    refine WQ.next ?_
                    refine WC.cond rfl (fun (hb20 : (decide (op = (33 : UInt8))) = true) => ?_) (fun (hb20 : (decide (op = (33 : UInt8))) = false) => ?_)
                    ·
                      have hc20 := of_decide_eq_true hb20
                      refine WC.skip ?_
                      refine WQ.next ?_
                      refine WC.yes rfl hb20 ?_
                      refine WC.seq ?_
                      refine WC.region ?_
                      refine WL.op rfl rfl (op_build (cs := [_, _, _, _]) Fa.I138 Fa.PL138 rfl rfl ?_)
                      refine WL.op rfl rfl (op_storeBW (i := 0) H1 rfl rfl rfl rfl rfl Fa.I138 (fun w21 H21 => ?_))
                      refine WL.op rfl rfl (op_assign rfl ?_)
                      refine WL.nil ?_
                      refine WQ.next ?_
                      refine WC.ret ?_
                      refine WQ.inRet ?_
                      refine WQ.thenRet ?_
                      refine WQ.out (.cell rfl (run_loadVarS (vs := [_, _, _, _]) (H21.cells (i := 0) rfl rfl) Tryd.underlying138 rfl Fa.I138 rfl) (.tmp rfl .nil)) ?_
                      exact ⟨by rw [hc20]; kernel_rfl, H21.fr⟩
                    ·
                      have hc20 := of_decide_eq_false hb20
                      refine WC.region ?_
                      refine WL.op rfl rfl (op_eqlU8 (b := 34) rfl rfl ?_)
                      refine WL.op rfl rfl (op_assign rfl ?_)
                      refine WL.nil ?_
                      refine WQ.next ?_
                      refine WC.cond rfl (fun (hb22 : (decide (op = (34 : UInt8))) = true) => ?_) (fun (hb22 : (decide (op = (34 : UInt8))) = false) => ?_)
                      ·
                        have hc22 := of_decide_eq_true hb22
                        refine WC.seq ?_
                        refine WC.region ?_
                        refine WL.op rfl rfl (op_build (cs := [_, _, _, _]) Fa.I138 Fa.PL138 rfl rfl ?_)
                        refine WL.op rfl rfl (op_storeBW (i := 0) H1 rfl rfl rfl rfl rfl Fa.I138 (fun w23 H23 => ?_))
                        refine WL.op rfl rfl (op_assign rfl ?_)
                        refine WL.nil ?_
                        refine WQ.next ?_
                        refine WC.ret ?_
                        refine WQ.inRet ?_
                        refine WQ.thenRet ?_
                        refine WQ.out (.cell rfl (run_loadVarS (vs := [_, _, _, _]) (H23.cells (i := 0) rfl rfl) Tryd.underlying138 rfl Fa.I138 rfl) (.tmp rfl .nil)) ?_
                        exact ⟨by rw [hc22]; kernel_rfl, H23.fr⟩
                      ·
                        have hc22 := of_decide_eq_false hb22
                        refine WC.seq ?_
                        refine WC.seq ?_
                        refine WC.region ?_
                        refine WL.op rfl rfl (op_eqlU8 (b := 32) rfl rfl ?_)
                        refine WL.op rfl rfl (op_assign rfl ?_)
                        refine WL.nil ?_
                        refine WQ.next ?_
                        refine WC.cond rfl (fun (hb24 : (decide (op = (32 : UInt8))) = true) => ?_) (fun (hb24 : (decide (op = (32 : UInt8))) = false) => ?_)
                        ·
                          have hc24 := of_decide_eq_true hb24
                          refine WC.skip ?_
                          refine WQ.next ?_
                          refine WC.yes rfl hb24 ?_
                          refine WC.seq ?_
                          refine WC.region ?_
                          refine WL.op rfl rfl (op_build (cs := [_, _, _, _]) Fa.I138 Fa.PL138 rfl rfl ?_)
                          refine WL.op rfl rfl (op_storeBW (i := 0) H1 rfl rfl rfl rfl rfl Fa.I138 (fun w25 H25 => ?_))
                          refine WL.op rfl rfl (op_assign rfl ?_)
                          refine WL.nil ?_
                          refine WQ.next ?_
                          refine WC.ret ?_
                          refine WQ.inRet ?_
                          refine WQ.thenRet ?_
                          refine WQ.out (.cell rfl (run_loadVarS (vs := [_, _, _, _]) (H25.cells (i := 0) rfl rfl) Tryd.underlying138 rfl Fa.I138 rfl) (.tmp rfl .nil)) ?_
                          exact ⟨by rw [hc24]; kernel_rfl, H25.fr⟩
                        ·
                          have hc24 := of_decide_eq_false hb24
                          refine WC.region ?_
                          refine WL.op rfl rfl (op_eqlU8 (b := 41) rfl rfl ?_)
                          refine WL.op rfl rfl (op_assign rfl ?_)
                          refine WL.nil ?_
                          refine WQ.next ?_
                          refine WC.cond rfl (fun (hb26 : (decide (op = (41 : UInt8))) = true) => ?_) (fun (hb26 : (decide (op = (41 : UInt8))) = false) => ?_)
                          ·
                            have hc26 := of_decide_eq_true hb26
                            refine WC.seq ?_
                            refine WC.region ?_
                            refine WL.op rfl rfl (op_build (cs := [_, _, _, _]) Fa.I138 Fa.PL138 rfl rfl ?_)
                            refine WL.op rfl rfl (op_storeBW (i := 0) H1 rfl rfl rfl rfl rfl Fa.I138 (fun w27 H27 => ?_))
                            refine WL.op rfl rfl (op_assign rfl ?_)
                            refine WL.nil ?_
                            refine WQ.next ?_
                            refine WC.ret ?_
                            refine WQ.inRet ?_
                            refine WQ.thenRet ?_
                            refine WQ.out (.cell rfl (run_loadVarS (vs := [_, _, _, _]) (H27.cells (i := 0) rfl rfl) Tryd.underlying138 rfl Fa.I138 rfl) (.tmp rfl .nil)) ?_
                            exact ⟨by rw [hc26]; kernel_rfl, H27.fr⟩
                          ·
                            have hc26 := of_decide_eq_false hb26
                            refine WC.seq ?_
                            refine WC.seq ?_
                            refine WC.region ?_
                            refine WL.op rfl rfl (op_eqlU8 (b := 35) rfl rfl ?_)
                            refine WL.op rfl rfl (op_assign rfl ?_)
                            refine WL.nil ?_
                            refine WQ.next ?_
                            refine WC.cond rfl (fun (hb28 : (decide (op = (35 : UInt8))) = true) => ?_) (fun (hb28 : (decide (op = (35 : UInt8))) = false) => ?_)
                            ·
                              have hc28 := of_decide_eq_true hb28
                              refine WC.skip ?_
                              refine WQ.next ?_
                              refine WC.yes rfl hb28 ?_
                              refine WC.seq ?_
                              refine WC.region ?_
                              refine WL.op rfl rfl (op_build (cs := [_, _, _, _]) Fa.I138 Fa.PL138 rfl rfl ?_)
                              refine WL.op rfl rfl (op_storeBW (i := 0) H1 rfl rfl rfl rfl rfl Fa.I138 (fun w29 H29 => ?_))
                              refine WL.op rfl rfl (op_assign rfl ?_)
                              refine WL.nil ?_
                              refine WQ.next ?_
                              refine WC.ret ?_
                              refine WQ.inRet ?_
                              refine WQ.thenRet ?_
                              refine WQ.out (.cell rfl (run_loadVarS (vs := [_, _, _, _]) (H29.cells (i := 0) rfl rfl) Tryd.underlying138 rfl Fa.I138 rfl) (.tmp rfl .nil)) ?_
                              exact ⟨by rw [hc28]; kernel_rfl, H29.fr⟩
                            ·
                              have hc28 := of_decide_eq_false hb28
                              refine WC.seq ?_
                              refine WC.region ?_
                              refine WL.op rfl rfl (op_eqlU8 (b := 36) rfl rfl ?_)
                              refine WL.op rfl rfl (op_assign rfl ?_)
                              refine WL.nil ?_
                              refine WQ.next ?_
                              refine WC.cond rfl (fun (hb30 : (decide (op = (36 : UInt8))) = true) => ?_) (fun (hb30 : (decide (op = (36 : UInt8))) = false) => ?_)
                              ·
                                have hc30 := of_decide_eq_true hb30
                                refine WC.skip ?_
                                refine WQ.next ?_
                                refine WC.yes rfl hb30 ?_
                                refine WC.seq ?_
                                refine WC.region ?_
                                refine WL.op rfl rfl (op_build (cs := [_, _, _, _]) Fa.I138 Fa.PL138 rfl rfl ?_)
                                refine WL.op rfl rfl (op_storeBW (i := 0) H1 rfl rfl rfl rfl rfl Fa.I138 (fun w31 H31 => ?_))
                                refine WL.op rfl rfl (op_assign rfl ?_)
                                refine WL.nil ?_
                                refine WQ.next ?_
                                refine WC.ret ?_
                                refine WQ.inRet ?_
                                refine WQ.thenRet ?_
                                refine WQ.out (.cell rfl (run_loadVarS (vs := [_, _, _, _]) (H31.cells (i := 0) rfl rfl) Tryd.underlying138 rfl Fa.I138 rfl) (.tmp rfl .nil)) ?_
                                exact ⟨by rw [hc30]; kernel_rfl, H31.fr⟩
                              ·
                                have hc30 := of_decide_eq_false hb30
                                refine WC.seq ?_
                                refine WC.region ?_
                                refine WL.op rfl rfl (op_eqlU8 (b := 43) rfl rfl ?_)
                                refine WL.op rfl rfl (op_assign rfl ?_)
                                refine WL.nil ?_
                                refine WQ.next ?_
                                refine WC.cond rfl (fun (hb32 : (decide (op = (43 : UInt8))) = true) => ?_) (fun (hb32 : (decide (op = (43 : UInt8))) = false) => ?_)
                                ·
                                  have hc32 := of_decide_eq_true hb32
                                  refine WC.skip ?_
                                  refine WQ.next ?_
                                  refine WC.yes rfl hb32 ?_
                                  refine WC.seq ?_
                                  refine WC.region ?_
                                  refine WL.op rfl rfl (op_build (cs := [_, _, _, _]) Fa.I138 Fa.PL138 rfl rfl ?_)
                                  refine WL.op rfl rfl (op_storeBW (i := 0) H1 rfl rfl rfl rfl rfl Fa.I138 (fun w33 H33 => ?_))
                                  refine WL.op rfl rfl (op_assign rfl ?_)
                                  refine WL.nil ?_
                                  refine WQ.next ?_
                                  refine WC.ret ?_
                                  refine WQ.inRet ?_
                                  refine WQ.thenRet ?_
                                  refine WQ.out (.cell rfl (run_loadVarS (vs := [_, _, _, _]) (H33.cells (i := 0) rfl rfl) Tryd.underlying138 rfl Fa.I138 rfl) (.tmp rfl .nil)) ?_
                                  exact ⟨by rw [hc32]; kernel_rfl, H33.fr⟩
                                ·
                                  have hc32 := of_decide_eq_false hb32
                                  refine WC.seq ?_
                                  refine WC.region ?_
                                  refine WL.op rfl rfl (op_eqlU8 (b := 44) rfl rfl ?_)
                                  refine WL.op rfl rfl (op_assign rfl ?_)
                                  refine WL.nil ?_
                                  refine WQ.next ?_
                                  refine WC.cond rfl (fun (hb34 : (decide (op = (44 : UInt8))) = true) => ?_) (fun (hb34 : (decide (op = (44 : UInt8))) = false) => ?_)
                                  ·
                                    have hc34 := of_decide_eq_true hb34
                                    refine WC.skip ?_
                                    refine WQ.next ?_
                                    refine WC.yes rfl hb34 ?_
                                    refine WC.seq ?_
                                    refine WC.region ?_
                                    refine WL.op rfl rfl (op_build (cs := [_, _, _, _]) Fa.I138 Fa.PL138 rfl rfl ?_)
                                    refine WL.op rfl rfl (op_storeBW (i := 0) H1 rfl rfl rfl rfl rfl Fa.I138 (fun w35 H35 => ?_))
                                    refine WL.op rfl rfl (op_assign rfl ?_)
                                    refine WL.nil ?_
                                    refine WQ.next ?_
                                    refine WC.ret ?_
                                    refine WQ.inRet ?_
                                    refine WQ.thenRet ?_
                                    refine WQ.out (.cell rfl (run_loadVarS (vs := [_, _, _, _]) (H35.cells (i := 0) rfl rfl) Tryd.underlying138 rfl Fa.I138 rfl) (.tmp rfl .nil)) ?_
                                    exact ⟨by rw [hc34]; kernel_rfl, H35.fr⟩
                                  ·
                                    have hc34 := of_decide_eq_false hb34
                                    refine WC.seq ?_
                                    refine WC.region ?_
                                    refine WL.op rfl rfl (op_eqlU8 (b := 45) rfl rfl ?_)
                                    refine WL.op rfl rfl (op_assign rfl ?_)
                                    refine WL.nil ?_
                                    refine WQ.next ?_
                                    refine WC.cond rfl (fun (hb36 : (decide (op = (45 : UInt8))) = true) => ?_) (fun (hb36 : (decide (op = (45 : UInt8))) = false) => ?_)
                                    ·
                                      have hc36 := of_decide_eq_true hb36
                                      refine WC.skip ?_
                                      refine WQ.next ?_
                                      refine WC.yes rfl hb36 ?_
                                      refine WC.seq ?_
                                      refine WC.region ?_
                                      refine WL.op rfl rfl (op_build (cs := [_, _, _, _]) Fa.I138 Fa.PL138 rfl rfl ?_)
                                      refine WL.op rfl rfl (op_storeBW (i := 0) H1 rfl rfl rfl rfl rfl Fa.I138 (fun w37 H37 => ?_))
                                      refine WL.op rfl rfl (op_assign rfl ?_)
                                      refine WL.nil ?_
                                      refine WQ.next ?_
                                      refine WC.ret ?_
                                      refine WQ.inRet ?_
                                      refine WQ.thenRet ?_
                                      refine WQ.out (.cell rfl (run_loadVarS (vs := [_, _, _, _]) (H37.cells (i := 0) rfl rfl) Tryd.underlying138 rfl Fa.I138 rfl) (.tmp rfl .nil)) ?_
                                      exact ⟨by rw [hc36]; kernel_rfl, H37.fr⟩
                                    ·
                                      have hc36 := of_decide_eq_false hb36
                                      refine WC.region ?_
                                      refine WL.op rfl rfl (op_eqlU8 (b := 46) rfl rfl ?_)
                                      refine WL.op rfl rfl (op_assign rfl ?_)
                                      refine WL.nil ?_
                                      refine WQ.next ?_
                                      refine WC.cond rfl (fun (hb38 : (decide (op = (46 : UInt8))) = true) => ?_) (fun (hb38 : (decide (op = (46 : UInt8))) = false) => ?_)
                                      ·
                                        have hc38 := of_decide_eq_true hb38
                                        refine WC.seq ?_
                                        refine WC.region ?_
                                        refine WL.op rfl rfl (op_build (cs := [_, _, _, _]) Fa.I138 Fa.PL138 rfl rfl ?_)
                                        refine WL.op rfl rfl (op_storeBW (i := 0) H1 rfl rfl rfl rfl rfl Fa.I138 (fun w39 H39 => ?_))
                                        refine WL.op rfl rfl (op_assign rfl ?_)
                                        refine WL.nil ?_
                                        refine WQ.next ?_
                                        refine WC.ret ?_
                                        refine WQ.inRet ?_
                                        refine WQ.thenRet ?_
                                        refine WQ.out (.cell rfl (run_loadVarS (vs := [_, _, _, _]) (H39.cells (i := 0) rfl rfl) Tryd.underlying138 rfl Fa.I138 rfl) (.tmp rfl .nil)) ?_
                                        exact ⟨by rw [hc38]; kernel_rfl, H39.fr⟩
                                      ·
                                        have hc38 := of_decide_eq_false hb38
                                        refine WC.seq ?_
                                        refine WC.seq ?_
                                        refine WC.region ?_
                                        refine WL.op rfl rfl (op_eqlU8 (b := 40) rfl rfl ?_)
                                        refine WL.op rfl rfl (op_assign rfl ?_)
                                        refine WL.nil ?_
                                        refine WQ.next ?_
                                        refine WC.cond rfl (fun (hb40 : (decide (op = (40 : UInt8))) = true) => ?_) (fun (hb40 : (decide (op = (40 : UInt8))) = false) => ?_)
                                        ·
                                          have hc40 := of_decide_eq_true hb40
                                          refine WC.skip ?_
                                          refine WQ.next ?_
                                          refine WC.yes rfl hb40 ?_
                                          refine WC.seq ?_
                                          refine WC.region ?_
                                          refine WL.op rfl rfl (op_build (cs := [_, _, _, _]) Fa.I138 Fa.PL138 rfl rfl ?_)
                                          refine WL.op rfl rfl (op_storeBW (i := 0) H1 rfl rfl rfl rfl rfl Fa.I138 (fun w41 H41 => ?_))
                                          refine WL.op rfl rfl (op_assign rfl ?_)
                                          refine WL.nil ?_
                                          refine WQ.next ?_
                                          refine WC.ret ?_
                                          refine WQ.inRet ?_
                                          refine WQ.thenRet ?_
                                          refine WQ.out (.cell rfl (run_loadVarS (vs := [_, _, _, _]) (H41.cells (i := 0) rfl rfl) Tryd.underlying138 rfl Fa.I138 rfl) (.tmp rfl .nil)) ?_
                                          exact ⟨by rw [hc40]; kernel_rfl, H41.fr⟩
                                        ·
                                          have hc40 := of_decide_eq_false hb40
                                          refine WC.region ?_
                                          refine WL.op rfl rfl (op_eqlU8 (b := 50) rfl rfl ?_)
                                          refine WL.op rfl rfl (op_assign rfl ?_)
                                          refine WL.nil ?_
                                          refine WQ.next ?_
                                          refine WC.cond rfl (fun (hb42 : (decide (op = (50 : UInt8))) = true) => ?_) (fun (hb42 : (decide (op = (50 : UInt8))) = false) => ?_)
                                          ·
                                            have hc42 := of_decide_eq_true hb42
                                            refine WC.seq ?_
                                            refine WC.region ?_
                                            refine WL.op rfl rfl (op_build (cs := [_, _, _, _]) Fa.I138 Fa.PL138 rfl rfl ?_)
                                            refine WL.op rfl rfl (op_storeBW (i := 0) H1 rfl rfl rfl rfl rfl Fa.I138 (fun w43 H43 => ?_))
                                            refine WL.op rfl rfl (op_assign rfl ?_)
                                            refine WL.nil ?_
                                            refine WQ.next ?_
                                            refine WC.ret ?_
                                            refine WQ.inRet ?_
                                            refine WQ.thenRet ?_
                                            refine WQ.out (.cell rfl (run_loadVarS (vs := [_, _, _, _]) (H43.cells (i := 0) rfl rfl) Tryd.underlying138 rfl Fa.I138 rfl) (.tmp rfl .nil)) ?_
                                            exact ⟨by rw [hc42]; kernel_rfl, H43.fr⟩
                                          ·
                                            have hc42 := of_decide_eq_false hb42
                                            refine WC.seq ?_
                                            refine WC.region ?_
                                            refine WL.op rfl rfl (op_eqlU8 (b := 42) rfl rfl ?_)
                                            refine WL.op rfl rfl (op_assign rfl ?_)
                                            refine WL.nil ?_
                                            refine WQ.next ?_
                                            refine WC.cond rfl (fun (hb44 : (decide (op = (42 : UInt8))) = true) => ?_) (fun (hb44 : (decide (op = (42 : UInt8))) = false) => ?_)
                                            ·
                                              have hc44 := of_decide_eq_true hb44
                                              refine WC.seq ?_
                                              refine WC.region ?_
                                              refine WL.op rfl rfl (op_build (cs := [_, _, _, _]) Fa.I138 Fa.PL138 rfl rfl ?_)
                                              refine WL.op rfl rfl (op_storeBW (i := 0) H1 rfl rfl rfl rfl rfl Fa.I138 (fun w45 H45 => ?_))
                                              refine WL.op rfl rfl (op_assign rfl ?_)
                                              refine WL.nil ?_
                                              refine WQ.next ?_
                                              refine WC.ret ?_
                                              refine WQ.inRet ?_
                                              refine WQ.thenRet ?_
                                              refine WQ.out (.cell rfl (run_loadVarS (vs := [_, _, _, _]) (H45.cells (i := 0) rfl rfl) Tryd.underlying138 rfl Fa.I138 rfl) (.tmp rfl .nil)) ?_
                                              exact ⟨by rw [hc44]; kernel_rfl, H45.fr⟩
                                            ·
                                              have hc44 := of_decide_eq_false hb44
                                              refine WC.skip ?_
                                              refine WQ.inNormal ?_
                                              refine WQ.next ?_
                                              refine WC.seq ?_
                                              refine WC.region ?_
                                              refine WL.op rfl rfl (op_build (cs := [_, _, _, _]) Fa.I138 Fa.PL138 rfl rfl ?_)
                                              refine WL.op rfl rfl (op_move rfl ?_)
                                              refine WL.op rfl rfl (op_geqU8 (b := 1) rfl rfl ?_)
                                              refine WL.op rfl rfl (op_move rfl ?_)
                                              refine WL.split (t := 40) rfl (fun (hb46 : (decide (op ≥ (1 : UInt8))) = true) => ?_) (fun (hb46 : (decide (op ≥ (1 : UInt8))) = false) => ?_)
                                              ·
                                                have hc46 := of_decide_eq_true hb46
                                                refine WL.yes rfl rfl rfl hb46 rfl (op_move rfl ?_)
                                                refine WL.yes rfl rfl rfl hb46 rfl (op_leqU8 (b := 14) rfl rfl ?_)
                                                refine WL.op rfl rfl (op_pickT rfl hb46 rfl ?_)
                                                refine WL.op rfl rfl (op_storeBW (i := 0) H1 rfl rfl rfl rfl rfl Fa.I138 (fun w47 H47 => ?_))
                                                refine WL.op rfl rfl (op_assign rfl ?_)
                                                refine WL.nil ?_
                                                refine WQ.next ?_
                                                refine WC.ret ?_
                                                refine WQ.out (.cell rfl (run_loadVarS (vs := [_, _, _, _]) (H47.cells (i := 0) rfl rfl) Tryd.underlying138 rfl Fa.I138 rfl) (.tmp rfl .nil)) ?_
                                                exact ⟨by simp [tup, ruD, ruA, ruB, ruI, ruOk, hc2, hc4, hc6, hc8, hc10, hc12, hc14, hc16, hc18, hc20, hc22, hc24, hc26, hc28, hc30, hc32, hc34, hc36, hc38, hc40, hc42, hc44, hc46], H47.fr⟩
                                              ·
                                                have hc46 := of_decide_eq_false hb46
                                                refine WL.no rfl rfl rfl hb46 rfl ?_
                                                refine WL.no rfl rfl rfl hb46 rfl ?_
                                                refine WL.op rfl rfl (op_pickF rfl hb46 rfl ?_)
                                                refine WL.op rfl rfl (op_storeBW (i := 0) H1 rfl rfl rfl rfl rfl Fa.I138 (fun w48 H48 => ?_))
                                                refine WL.op rfl rfl (op_assign rfl ?_)
                                                refine WL.nil ?_
                                                refine WQ.next ?_
                                                refine WC.ret ?_
                                                refine WQ.out (.cell rfl (run_loadVarS (vs := [_, _, _, _]) (H48.cells (i := 0) rfl rfl) Tryd.underlying138 rfl Fa.I138 rfl) (.tmp rfl .nil)) ?_
                                                exact ⟨by simp [tup, ruD, ruA, ruB, ruI, ruOk, hc2, hc4, hc6, hc8, hc10, hc12, hc14, hc16, hc18, hc20, hc22, hc24, hc26, hc28, hc30, hc32, hc34, hc36, hc38, hc40, hc42, hc44, hc46], H48.fr⟩
set_option maxRecDepth 100000 in
theorem uses_ok (op : UInt8) (w : World) :
    Calls Tryd.prog 74 #[(vU8 op)] w (fun e w' => e = .returned (.tuple #[.bool (ub op 1), .bool (ub op 2), .bool (ub op 4), .bool (ub op 8), vN (useE op)]) ∧ Fr [] w w') := by
  refine enter (args := [(vU8 op)]) Tryd.func74 rfl rfl ?_
  have H0 : Own [] w w [] := Own.start w []
  refine WC.seq ?_
  refine WC.region ?_
  refine WL.op rfl rfl (op_assign rfl ?_)
  refine WL.op rfl rfl (op_assign rfl ?_)
  refine WL.op rfl rfl (op_assign rfl ?_)
  refine WL.op rfl rfl (op_assign rfl ?_)
  refine WL.op rfl rfl (op_assign rfl ?_)
  refine WL.nil ?_
  refine WQ.next ?_
  refine WC.seq ?_
  refine WC.region ?_
  refine WL.op rfl rfl (op_callF Fa.C85 rfl ((table_ok _).mono (fun e w1 hq => ?_)))
  obtain ⟨rfl, hf1⟩ := hq
  refine ⟨_, rfl, ?_⟩
  have H1 := H0.fr' hf1
  refine WL.op rfl rfl (op_move rfl ?_)
  refine WL.op rfl rfl (op_indexA1 (cs := (tabL.map vU8)) Tryd.underlying130 Fa.I5 Tryd.underlying5 rfl rfl rfl op.toNat_lt (get_map vU8 0 (by rw [tabL, tabTo_length]; exact op.toNat_lt)) ?_)
  refine WL.op rfl rfl (op_assign rfl ?_)
  refine WL.nil ?_
  refine WQ.next ?_
  refine WC.seq ?_
  refine WC.seq ?_
  refine WC.region ?_
  refine WL.op rfl rfl (op_move rfl ?_)
  refine WL.op rfl rfl (op_eqlU8 (b := 0) rfl rfl ?_)
  refine WL.nil ?_
  refine WQ.next ?_
  refine WC.cond rfl (fun (hb2 : (decide ((useOf op) = (0 : UInt8))) = true) => ?_) (fun (hb2 : (decide ((useOf op) = (0 : UInt8))) = false) => ?_)
  ·
    have hc2 := of_decide_eq_true hb2
    refine WC.seq ?_
    refine WC.region ?_
    refine WL.op rfl rfl (op_assign rfl ?_)
    refine WL.op rfl rfl (op_assign rfl ?_)
    refine WL.op rfl rfl (op_assign rfl ?_)
    refine WL.op rfl rfl (op_assign rfl ?_)
    refine WL.op rfl rfl (op_assign rfl ?_)
    refine WL.nil ?_
    refine WQ.next ?_
    refine WC.ret ?_
    refine WQ.thenRet ?_
    refine WQ.out (.tmp rfl (.tmp rfl (.tmp rfl (.tmp rfl (.tmp rfl .nil))))) ?_
    exact ⟨by have h : ∀ k, ub op k = false := (fun k => by simp [ub, hc2]); rw [h, h, h, h, useE, if_pos hc2]; rfl, H1.fr⟩
  ·
    have hc2 := of_decide_eq_false hb2
    refine WC.skip ?_
    refine WQ.next ?_
    refine WC.seq ?_
    refine WC.region ?_
    refine WL.op rfl rfl (op_move rfl ?_)
    refine WL.op rfl rfl (op_andU8 (b := 1) rfl rfl ?_)
    refine WL.op rfl rfl (op_neqU8 (b := 0) rfl rfl ?_)
    refine WL.op rfl rfl (op_move rfl ?_)
    refine WL.op rfl rfl (op_andU8 (b := 2) rfl rfl ?_)
    refine WL.op rfl rfl (op_neqU8 (b := 0) rfl rfl ?_)
    refine WL.op rfl rfl (op_move rfl ?_)
    refine WL.op rfl rfl (op_andU8 (b := 4) rfl rfl ?_)
    refine WL.op rfl rfl (op_neqU8 (b := 0) rfl rfl ?_)
    refine WL.op rfl rfl (op_move rfl ?_)
    refine WL.op rfl rfl (op_andU8 (b := 8) rfl rfl ?_)
    refine WL.op rfl rfl (op_neqU8 (b := 0) rfl rfl ?_)
    refine WL.op rfl rfl (op_assign rfl ?_)
    refine WL.op rfl rfl (op_assign rfl ?_)
    refine WL.op rfl rfl (op_assign rfl ?_)
    refine WL.op rfl rfl (op_assign rfl ?_)
    refine WL.op rfl rfl (op_assign rfl ?_)
    refine WL.nil ?_
    refine WQ.next ?_
    refine WC.ret ?_
    refine WQ.out (.tmp rfl (.tmp rfl (.tmp rfl (.tmp rfl (.tmp rfl .nil))))) ?_
    exact ⟨by rw [useE, if_neg hc2]; rfl, H1.fr⟩
set_option maxRecDepth 100000 in
theorem may_ok (op d a b : UInt8) (imm : UInt32) (w : World) :
    Calls Tryd.prog 78 #[(.agg #[(vU8 op), (vU8 d), (vU8 a), (vU8 b), (vU32 imm)])] w (fun e w' => e = .returned (.bool (mayB op d a b imm)) ∧ Fr [] w w') := by
  refine enter (args := [(.agg #[(vU8 op), (vU8 d), (vU8 a), (vU8 b), (vU32 imm)])]) Tryd.func78 rfl rfl ?_
  have H0 : Own [] w w [] := Own.start w []
  refine WC.seq ?_
  refine WC.region ?_
  refine WL.op rfl rfl (op_box H0 rfl rfl (fun b1 w1 H1 => ?_))
  refine WL.op rfl rfl (op_assign rfl ?_)
  refine WL.nil ?_
  refine WQ.next ?_
  refine WC.seq ?_
  refine WC.region ?_
  refine WL.op rfl rfl (op_fieldAddr rfl Fa.F61_0 ?_)
  refine WL.op rfl rfl (op_load rfl (H1.cell (i := 0) rfl rfl) Tryd.underlying5 rfl ?_)
  refine WL.op rfl rfl (op_callF Fa.C90 rfl ((rUses_ok op _).mono (fun e w2 hq => ?_)))
  obtain ⟨rfl, hf2⟩ := hq
  refine ⟨_, rfl, ?_⟩
  have H2 := H1.fr' hf2
  refine WL.op rfl rfl (op_move rfl ?_)
  refine WL.op rfl rfl (op_extract rfl rfl ?_)
  refine WL.op rfl rfl (op_extract rfl rfl ?_)
  refine WL.op rfl rfl (op_alloc H2 Fa.I138 (fun b3 w3 H3 => ?_))
  refine WL.op rfl rfl (op_storeBW (i := 1) H3 rfl rfl rfl rfl rfl Fa.I138 (fun w4 H4 => ?_))
  refine WL.op rfl rfl (op_assign rfl ?_)
  refine WL.nil ?_
  refine WQ.next ?_
  refine WC.seq ?_
  refine WC.region ?_
  refine WL.op rfl rfl (op_move rfl ?_)
  refine WL.op rfl rfl (op_move rfl ?_)
  refine WL.split (t := 12) rfl (fun (hb5 : (ruOk op) = true) => ?_) (fun (hb5 : (ruOk op) = false) => ?_)
  ·
    refine WL.yes rfl rfl rfl hb5 rfl (op_fieldAddr rfl Fa.F61_1 ?_)
    refine WL.yes rfl rfl rfl hb5 rfl (op_load rfl (H4.cell (i := 0) rfl rfl) Tryd.underlying5 rfl ?_)
    refine WL.yes rfl rfl rfl hb5 rfl (op_fieldAddr rfl Fa.F138_0 ?_)
    refine WL.yes rfl rfl rfl hb5 rfl (op_load rfl (H4.cell (i := 1) rfl rfl) Tryd.underlying4 rfl ?_)
    refine WL.yes rfl rfl rfl hb5 rfl (op_callF Fa.C91 rfl ((register_ok d (ruD op) _).mono (fun e w6 hq => ?_)))
    obtain ⟨rfl, hf6⟩ := hq
    refine ⟨_, rfl, ?_⟩
    have H6 := H4.fr' hf6
    refine WL.op rfl rfl (op_pickT rfl hb5 rfl ?_)
    refine WL.op rfl rfl (op_move rfl ?_)
    refine WL.split (t := 19) rfl (fun (hb7 : (regB d (ruD op)) = true) => ?_) (fun (hb7 : (regB d (ruD op)) = false) => ?_)
    ·
      refine WL.yes rfl rfl rfl hb7 rfl (op_fieldAddr rfl Fa.F61_2 ?_)
      refine WL.yes rfl rfl rfl hb7 rfl (op_load rfl (H6.cell (i := 0) rfl rfl) Tryd.underlying5 rfl ?_)
      refine WL.yes rfl rfl rfl hb7 rfl (op_fieldAddr rfl Fa.F138_1 ?_)
      refine WL.yes rfl rfl rfl hb7 rfl (op_load rfl (H6.cell (i := 1) rfl rfl) Tryd.underlying4 rfl ?_)
      refine WL.yes rfl rfl rfl hb7 rfl (op_callF Fa.C91 rfl ((register_ok a (ruA op) _).mono (fun e w8 hq => ?_)))
      obtain ⟨rfl, hf8⟩ := hq
      refine ⟨_, rfl, ?_⟩
      have H8 := H6.fr' hf8
      refine WL.op rfl rfl (op_pickT rfl hb7 rfl ?_)
      refine WL.op rfl rfl (op_move rfl ?_)
      refine WL.split (t := 26) rfl (fun (hb9 : (regB a (ruA op)) = true) => ?_) (fun (hb9 : (regB a (ruA op)) = false) => ?_)
      ·
        refine WL.yes rfl rfl rfl hb9 rfl (op_fieldAddr rfl Fa.F61_3 ?_)
        refine WL.yes rfl rfl rfl hb9 rfl (op_load rfl (H8.cell (i := 0) rfl rfl) Tryd.underlying5 rfl ?_)
        refine WL.yes rfl rfl rfl hb9 rfl (op_fieldAddr rfl Fa.F138_2 ?_)
        refine WL.yes rfl rfl rfl hb9 rfl (op_load rfl (H8.cell (i := 1) rfl rfl) Tryd.underlying4 rfl ?_)
        refine WL.yes rfl rfl rfl hb9 rfl (op_callF Fa.C91 rfl ((register_ok b (ruB op) _).mono (fun e w10 hq => ?_)))
        obtain ⟨rfl, hf10⟩ := hq
        refine ⟨_, rfl, ?_⟩
        have H10 := H8.fr' hf10
        refine WL.op rfl rfl (op_pickT rfl hb9 rfl ?_)
        refine WL.op rfl rfl (op_move rfl ?_)
        refine WL.split (t := 33) rfl (fun (hb11 : (regB b (ruB op)) = true) => ?_) (fun (hb11 : (regB b (ruB op)) = false) => ?_)
        ·
          refine WL.yes rfl rfl rfl hb11 rfl (op_fieldAddr rfl Fa.F138_3 ?_)
          refine WL.yes rfl rfl rfl hb11 rfl (op_load rfl (H10.cell (i := 1) rfl rfl) Tryd.underlying4 rfl ?_)
          refine WL.yes rfl rfl rfl hb11 rfl (op_move rfl ?_)
          refine WL.split (t := 36) rfl (fun (hb12 : (ruI op) = true) => ?_) (fun (hb12 : (ruI op) = false) => ?_)
          ·
            refine WL.no rfl rfl rfl hb12 rfl ?_
            refine WL.no rfl rfl rfl hb12 rfl ?_
            refine WL.no rfl rfl rfl hb12 rfl ?_
            refine WL.yes rfl rfl rfl hb11 rfl (op_pickT rfl hb12 rfl ?_)
            refine WL.op rfl rfl (op_pickT rfl hb11 rfl ?_)
            refine WL.op rfl rfl (op_assign rfl ?_)
            refine WL.nil ?_
            refine WQ.next ?_
            refine WC.ret ?_
            refine WQ.out (.tmp rfl .nil) ?_
            exact ⟨by simp_all [tup, mayB], H10.fr⟩
          ·
            refine WL.yes rfl rfl rfl hb12 rfl (op_fieldAddr rfl Fa.F61_4 ?_)
            refine WL.yes rfl rfl rfl hb12 rfl (op_load rfl (H10.cell (i := 0) rfl rfl) Tryd.underlying22 rfl ?_)
            refine WL.yes rfl rfl rfl hb12 rfl (op_eqlU32 (b := 0) rfl rfl ?_)
            refine WL.yes rfl rfl rfl hb11 rfl (op_pickF rfl hb12 rfl ?_)
            refine WL.op rfl rfl (op_pickT rfl hb11 rfl ?_)
            refine WL.op rfl rfl (op_assign rfl ?_)
            refine WL.nil ?_
            refine WQ.next ?_
            refine WC.ret ?_
            refine WQ.out (.tmp rfl .nil) ?_
            exact ⟨by simp_all [tup, mayB], H10.fr⟩
        ·
          refine WL.no rfl rfl rfl hb11 rfl ?_
          refine WL.no rfl rfl rfl hb11 rfl ?_
          refine WL.no rfl rfl rfl hb11 rfl ?_
          refine WL.non rfl rfl rfl rfl ?_
          refine WL.non rfl rfl rfl rfl ?_
          refine WL.non rfl rfl rfl rfl ?_
          refine WL.no rfl rfl rfl hb11 rfl ?_
          refine WL.op rfl rfl (op_pickF rfl hb11 rfl ?_)
          refine WL.op rfl rfl (op_assign rfl ?_)
          refine WL.nil ?_
          refine WQ.next ?_
          refine WC.ret ?_
          refine WQ.out (.tmp rfl .nil) ?_
          exact ⟨by simp_all [tup, mayB], H10.fr⟩
      ·
        refine WL.no rfl rfl rfl hb9 rfl ?_
        refine WL.no rfl rfl rfl hb9 rfl ?_
        refine WL.no rfl rfl rfl hb9 rfl ?_
        refine WL.no rfl rfl rfl hb9 rfl ?_
        refine WL.no rfl rfl rfl hb9 rfl ?_
        refine WL.op rfl rfl (op_pickF rfl hb9 rfl ?_)
        refine WL.op rfl rfl (op_move rfl ?_)
        refine WL.no rfl rfl rfl rfl rfl ?_
        refine WL.no rfl rfl rfl rfl rfl ?_
        refine WL.no rfl rfl rfl rfl rfl ?_
        refine WL.non rfl rfl rfl rfl ?_
        refine WL.non rfl rfl rfl rfl ?_
        refine WL.non rfl rfl rfl rfl ?_
        refine WL.no rfl rfl rfl rfl rfl ?_
        refine WL.op rfl rfl (op_pickF rfl rfl rfl ?_)
        refine WL.op rfl rfl (op_assign rfl ?_)
        refine WL.nil ?_
        refine WQ.next ?_
        refine WC.ret ?_
        refine WQ.out (.tmp rfl .nil) ?_
        exact ⟨by simp_all [tup, mayB], H8.fr⟩
    ·
      refine WL.no rfl rfl rfl hb7 rfl ?_
      refine WL.no rfl rfl rfl hb7 rfl ?_
      refine WL.no rfl rfl rfl hb7 rfl ?_
      refine WL.no rfl rfl rfl hb7 rfl ?_
      refine WL.no rfl rfl rfl hb7 rfl ?_
      refine WL.op rfl rfl (op_pickF rfl hb7 rfl ?_)
      refine WL.op rfl rfl (op_move rfl ?_)
      refine WL.no rfl rfl rfl rfl rfl ?_
      refine WL.no rfl rfl rfl rfl rfl ?_
      refine WL.no rfl rfl rfl rfl rfl ?_
      refine WL.no rfl rfl rfl rfl rfl ?_
      refine WL.no rfl rfl rfl rfl rfl ?_
      refine WL.op rfl rfl (op_pickF rfl rfl rfl ?_)
      refine WL.op rfl rfl (op_move rfl ?_)
      refine WL.no rfl rfl rfl rfl rfl ?_
      refine WL.no rfl rfl rfl rfl rfl ?_
      refine WL.no rfl rfl rfl rfl rfl ?_
      refine WL.non rfl rfl rfl rfl ?_
      refine WL.non rfl rfl rfl rfl ?_
      refine WL.non rfl rfl rfl rfl ?_
      refine WL.no rfl rfl rfl rfl rfl ?_
      refine WL.op rfl rfl (op_pickF rfl rfl rfl ?_)
      refine WL.op rfl rfl (op_assign rfl ?_)
      refine WL.nil ?_
      refine WQ.next ?_
      refine WC.ret ?_
      refine WQ.out (.tmp rfl .nil) ?_
      exact ⟨by simp_all [tup, mayB], H6.fr⟩
  ·
    refine WL.no rfl rfl rfl hb5 rfl ?_
    refine WL.no rfl rfl rfl hb5 rfl ?_
    refine WL.no rfl rfl rfl hb5 rfl ?_
    refine WL.no rfl rfl rfl hb5 rfl ?_
    refine WL.no rfl rfl rfl hb5 rfl ?_
    refine WL.op rfl rfl (op_pickF rfl hb5 rfl ?_)
    refine WL.op rfl rfl (op_move rfl ?_)
    refine WL.no rfl rfl rfl rfl rfl ?_
    refine WL.no rfl rfl rfl rfl rfl ?_
    refine WL.no rfl rfl rfl rfl rfl ?_
    refine WL.no rfl rfl rfl rfl rfl ?_
    refine WL.no rfl rfl rfl rfl rfl ?_
    refine WL.op rfl rfl (op_pickF rfl rfl rfl ?_)
    refine WL.op rfl rfl (op_move rfl ?_)
    refine WL.no rfl rfl rfl rfl rfl ?_
    refine WL.no rfl rfl rfl rfl rfl ?_
    refine WL.no rfl rfl rfl rfl rfl ?_
    refine WL.no rfl rfl rfl rfl rfl ?_
    refine WL.no rfl rfl rfl rfl rfl ?_
    refine WL.op rfl rfl (op_pickF rfl rfl rfl ?_)
    refine WL.op rfl rfl (op_move rfl ?_)
    refine WL.no rfl rfl rfl rfl rfl ?_
    refine WL.no rfl rfl rfl rfl rfl ?_
    refine WL.no rfl rfl rfl rfl rfl ?_
    refine WL.non rfl rfl rfl rfl ?_
    refine WL.non rfl rfl rfl rfl ?_
    refine WL.non rfl rfl rfl rfl ?_
    refine WL.no rfl rfl rfl rfl rfl ?_
    refine WL.op rfl rfl (op_pickF rfl rfl rfl ?_)
    refine WL.op rfl rfl (op_assign rfl ?_)
    refine WL.nil ?_
    refine WQ.next ?_
    refine WC.ret ?_
    refine WQ.out (.tmp rfl .nil) ?_
    exact ⟨by simp_all [tup, mayB], H4.fr⟩
set_option maxRecDepth 100000 in
theorem bytes_ok (v : UInt32) (n : Nat) (hn : n ≤ 100) (w : World) :
    Calls Tryd.prog 79 #[(vU32 v), (vN n)] w (fun e w' => e = .returned (str (rB v n)) ∧ Fr [] w w') := by
  refine enter (args := [(vU32 v), (vN n)]) Tryd.func79 rfl rfl ?_
  have H0 : Own [] w w [] := Own.start w []
  refine WC.seq ?_
  refine WC.region ?_
  refine WL.op rfl rfl (op_assign rfl ?_)
  refine WL.nil ?_
  refine WQ.next ?_
  refine WC.seq ?_
  refine WC.region ?_
  refine WL.op rfl rfl (op_assign rfl ?_)
  have H1 := H0.nilRow 5 1
  refine WL.nil ?_
  refine WQ.next ?_
  refine WC.seq ?_
  refine WC.seq ?_
  refine WC.region ?_
  refine WL.op rfl rfl (op_assign rfl ?_)
  refine WL.nil ?_
  refine WQ.next ?_
  refine WC.block ?_
  refine WC.loop (α := Nat × Value) (fun (k, q) => [(1, (vN n)), (6, (vN k)), (0, (vU32 (rV v k))), (5, q)]) (fun (k, q) w' => (k ≤ n) ∧ Own [] w w' [.row q 5 1 k (List.map vU8 (rB v k))]) (fun (k, q) => n - k) (0, (.slice none 0 0)) ⟨(by omega), H1⟩ ⟨rfl, rfl, rfl, rfl, trivial⟩ ?_
  rintro ⟨k, q⟩ w2 ⟨hinv, H2⟩
  show WC _ _ _ _ _ [(1, (vN n)), (6, (vN k)), (0, (vU32 (rV v k))), (5, q)] _
  refine WC.seq ?_
  refine WC.seq ?_
  refine WC.region ?_
  refine WL.op rfl rfl (op_move rfl ?_)
  refine WL.op rfl rfl (op_move rfl ?_)
  refine WL.op rfl rfl (op_lssN rfl rfl ?_)
  refine WL.nil ?_
  refine WQ.next ?_
  refine WC.cond rfl (fun (hb3 : (decide (k < n)) = true) => ?_) (fun (hb3 : (decide (k < n)) = false) => ?_)
  ·
    have hc3 := of_decide_eq_true hb3
    refine WC.skip ?_
    refine WQ.next ?_
    refine WC.seq ?_
    refine WC.block ?_
    refine WC.seq ?_
    refine WC.region ?_
    refine WL.op rfl rfl (op_move rfl ?_)
    refine WL.op rfl rfl (op_move rfl ?_)
    refine WL.op rfl rfl (op_remU32 (b := 256) rfl rfl (by decide) ?_)
    refine WL.op rfl rfl (op_convU32U8 (hs := Tryd.underlying22) (hd := Tryd.underlying5) rfl ?_)
    refine WL.op rfl rfl (op_buildSlice (cs := [_]) H2 Tryd.underlying58 Fa.I5 rfl rfl rfl rfl (by decide) (by decide) (fun b4 w4 H4 => ?_))
    refine WL.op rfl rfl (op_appendM (f := vU8) (l := (rB v k)) (l' := [(UInt8.ofNat ((rV v k) % (256 : UInt32)).toNat)]) (i := 0) H4 Tryd.underlying58 Fa.I5 rfl rfl rfl rfl (Src.ofArr Tryd.underlying58 (H4.arrR (i := 1) rfl)) (one_mapM (fun _ => rfl)) (by omega) (by omega) (fun v5 w5 H5 => ?_))
    refine WL.op rfl rfl (op_assign rfl ?_)
    refine WL.nil ?_
    refine WQ.next ?_
    refine WC.region ?_
    refine WL.op rfl rfl (op_move rfl ?_)
    refine WL.op rfl rfl (op_quoU32 (b := 256) rfl rfl (by decide) ?_)
    refine WL.op rfl rfl (op_assign rfl ?_)
    refine WL.nil ?_
    refine WQ.inNormal ?_
    refine WQ.next ?_
    refine WC.region ?_
    refine WL.op rfl rfl (op_move rfl ?_)
    refine WL.op rfl rfl (op_addN (b := 1) rfl rfl (by omega) ?_)
    refine WL.op rfl rfl (op_assign rfl ?_)
    refine WL.nil ?_
    exact WQ.round (k + 1, v5) ⟨(by omega), (H5.take 1)⟩ ⟨rfl, rfl, rfl, rfl, trivial⟩ (by show n - (k + 1) < n - k; omega)
  ·
    have hc3 := of_decide_eq_false hb3
    refine WC.exit ?_
    refine WQ.thenExit ?_
    refine WQ.thenExit ?_
    refine WQ.inHere ?_
    refine WQ.next ?_
    refine WC.seq ?_
    refine WC.region ?_
    refine WL.op rfl rfl (op_move rfl ?_)
    refine WL.op rfl rfl (op_bytesStr (l := (rB v k)) Tryd.underlying58 Tryd.underlying5 Tryd.underlying9 rfl (H2.arrR (i := 0) rfl) rfl ?_)
    refine WL.op rfl rfl (op_assign rfl ?_)
    refine WL.nil ?_
    refine WQ.next ?_
    refine WC.ret ?_
    refine WQ.out (.tmp rfl .nil) ?_
    exact ⟨by have hk : k = n := (by omega); subst hk; rfl, H2.fr⟩
set_option maxRecDepth 100000 in
theorem rEncode_ok (op d a b : UInt8) (imm : UInt32) (w : World) :
    Calls Tryd.prog 56 #[(.agg #[(vU8 op), (vU8 d), (vU8 a), (vU8 b), (vU32 imm)])] w (fun e w' => e = .returned (.tuple #[str (encS op d a b imm), vN (encE op d a b imm)]) ∧ Fr [] w w') := by
  refine enter (args := [(.agg #[(vU8 op), (vU8 d), (vU8 a), (vU8 b), (vU32 imm)])]) Tryd.func56 rfl rfl ?_
  have H0 : Own [] w w [] := Own.start w []
  refine WC.seq ?_
  refine WC.region ?_
  refine WL.op rfl rfl (op_box H0 rfl rfl (fun b1 w1 H1 => ?_))
  refine WL.op rfl rfl (op_assign rfl ?_)
  refine WL.op rfl rfl (op_assign rfl ?_)
  refine WL.nil ?_
  refine WQ.next ?_
  refine WC.seq ?_
  refine WC.seq ?_
  refine WC.region ?_
  refine WL.op rfl rfl (op_loadS (vs := [_, _, _, _, _]) rfl (H1.cells (i := 0) rfl rfl) Tryd.underlying61 rfl Fa.I61 rfl ?_)
  refine WL.op rfl rfl (op_callF Fa.C78 rfl ((may_ok op d a b imm _).mono (fun e w2 hq => ?_)))
  obtain ⟨rfl, hf2⟩ := hq
  refine ⟨_, rfl, ?_⟩
  have H2 := H1.fr' hf2
  refine WL.op rfl rfl (op_not rfl ?_)
  refine WL.nil ?_
  refine WQ.next ?_
  refine WC.cond rfl (fun (hb3 : (!(mayB op d a b imm)) = true) => ?_) (fun (hb3 : (!(mayB op d a b imm)) = false) => ?_)
  ·
    have hn3 := (Bool.not_eq_true' _).mp hb3
    refine WC.seq ?_
    refine WC.region ?_
    refine WL.op rfl rfl (op_assign rfl ?_)
    refine WL.op rfl rfl (op_assign rfl ?_)
    refine WL.nil ?_
    refine WQ.next ?_
    refine WC.ret ?_
    refine WQ.thenRet ?_
    refine WQ.out (.tmp rfl (.tmp rfl .nil)) ?_
    exact ⟨by rw [(rEncN op d a b imm hn3).1, (rEncN op d a b imm hn3).2]; rfl, H2.fr⟩
  ·
    have hn3 := (Bool.not_eq_false' _).mp hb3
    refine WC.skip ?_
    refine WQ.next ?_
    refine WC.seq ?_
    refine WC.draw 15 Fa.M H2 (HW.op rfl (fun w1 H1 => op_fieldAddr rfl Fa.F61_0 ⟨rfl, Fr.refl _ _⟩) (HW.op rfl (fun w1 H1 => op_load rfl (H1.cell (i := 0) rfl rfl) Tryd.underlying5 rfl ⟨rfl, Fr.refl _ _⟩) (HW.op rfl (fun w1 H1 => op_fieldAddr rfl Fa.F61_1 ⟨rfl, Fr.refl _ _⟩) (HW.op rfl (fun w1 H1 => op_load rfl (H1.cell (i := 0) rfl rfl) Tryd.underlying5 rfl ⟨rfl, Fr.refl _ _⟩) (HW.op rfl (fun w1 H1 => op_fieldAddr rfl Fa.F61_2 ⟨rfl, Fr.refl _ _⟩) (HW.op rfl (fun w1 H1 => op_load rfl (H1.cell (i := 0) rfl rfl) Tryd.underlying5 rfl ⟨rfl, Fr.refl _ _⟩) (HW.op rfl (fun w1 H1 => op_mulU8 (a := 16) rfl rfl ⟨rfl, Fr.refl _ _⟩) (HW.op rfl (fun w1 H1 => op_addU8 rfl rfl ⟨rfl, Fr.refl _ _⟩) (HW.op rfl (fun w1 H1 => op_fieldAddr rfl Fa.F61_3 ⟨rfl, Fr.refl _ _⟩) (HW.op rfl (fun w1 H1 => op_load rfl (H1.cell (i := 0) rfl rfl) Tryd.underlying5 rfl ⟨rfl, Fr.refl _ _⟩) (HW.flt (mk := fun bq => .slice (some ⟨bq.1, 0, none⟩) 4 4) (ent := fun bq => .row (.slice (some ⟨bq.1, 0, none⟩) 4 4) _ _ _ _) rfl (fun w1 _ => op_buildSlice (cs := [_, _, _, _]) (Own.start w1 []) Tryd.underlying58 Fa.I5 rfl rfl rfl rfl (by decide) (by decide) (fun bq w2 H2 => ⟨(bq, undef), rfl, H2, True.intro⟩)) (HW.opFs 0 rfl rfl (fun bq w1 H1 => op_bytesStr (l := [op, (d + ((16 : UInt8) * a)), b, 0]) Tryd.underlying58 Tryd.underlying5 Tryd.underlying9 rfl (H1.arrR (i := 1) rfl) rfl ⟨rfl, Fr.refl _ _⟩) (HW.op rfl (fun w1 H1 => op_fieldAddr rfl Fa.F61_4 ⟨rfl, Fr.refl _ _⟩) (HW.op rfl (fun w1 H1 => op_load rfl (H1.cell (i := 0) rfl rfl) Tryd.underlying22 rfl ⟨rfl, Fr.refl _ _⟩) (HW.op rfl (fun w1 H1 => op_callF Fa.C79 rfl ((bytes_ok imm 4 (by decide) _).mono (fun e w2 hq => ⟨_, hq.1, rfl, hq.2⟩)))  HW.nil))))))))))))))) (by kernel_rfl) ?_
    intro β5 w5 H5
    refine WL.op rfl rfl (op_addStr rfl rfl (by rw [rB_length]; simp) ?_)
    refine WL.op rfl rfl (op_assign rfl ?_)
    refine WL.op rfl rfl (op_assign rfl ?_)
    refine WL.nil ?_
    refine WQ.next ?_
    refine WC.ret ?_
    refine WQ.out (.tmp rfl (.tmp rfl .nil)) ?_
    exact ⟨by rw [← rEnc op d a b imm hn3, rEncE op d a b imm hn3]; rfl, H5.fr⟩
end Go.Proofs.YtnngbnenekjffaaDoor
/-! from DRel2 -/
namespace Go.Proofs.YtnngbnenekjffaaDoor
open Go.Owl Go.Spec
end Go.Proofs.YtnngbnenekjffaaDoor
/-! from DRel3 -/
namespace Go.Proofs.YtnngbnenekjffaaDoor
open Go.Owl Go.Spec
end Go.Proofs.YtnngbnenekjffaaDoor
/-! from DRel4 -/
namespace Go.Proofs.YtnngbnenekjffaaDoor
open Go.Owl Go.Spec
set_option maxRecDepth 100000 in
theorem samesy_ok (x y : Sy) (w : World) (hI : SyD.ok w x) (hJ : SyD.ok w y) (hm : x.rl.length < 2 ^ 47) (hq : x.nt.length < 2 ^ 47) :
    Calls Tryd.prog 19 #[(.agg #[(str x.nm), (vU8 x.bind), (vU8 x.kind), (vU32 x.size), (str x.b), x.rv, x.nv]), (.agg #[(str y.nm), (vU8 y.bind), (vU8 y.kind), (vU32 y.size), (str y.b), y.rv, y.nv])] w (fun e w' => e = .returned (.bool (sameY x y)) ∧ Fr [] w w') := by
  refine enter (args := [(.agg #[(str x.nm), (vU8 x.bind), (vU8 x.kind), (vU32 x.size), (str x.b), x.rv, x.nv]), (.agg #[(str y.nm), (vU8 y.bind), (vU8 y.kind), (vU32 y.size), (str y.b), y.rv, y.nv])]) Tryd.func19 rfl rfl ?_
  have H0 : Own [] w w [] := Own.start w []
  refine WC.seq ?_
  refine WC.region ?_
  refine WL.op rfl rfl (op_box H0 rfl rfl (fun b1 w1 H1 => ?_))
  refine WL.op rfl rfl (op_box H1 rfl rfl (fun b2 w2 H2 => ?_))
  refine WL.op rfl rfl (op_assign rfl ?_)
  refine WL.nil ?_
  refine WQ.next ?_
  refine WC.seq ?_
  refine WC.seq ?_
  refine WC.region ?_
  refine WL.op rfl rfl (op_fieldAddr rfl Fa.F26_0 ?_)
  refine WL.op rfl rfl (op_load rfl (H2.cell (i := 0) rfl rfl) Tryd.underlying9 rfl ?_)
  refine WL.op rfl rfl (op_fieldAddr rfl Fa.F26_0 ?_)
  refine WL.op rfl rfl (op_load rfl (H2.cell (i := 1) rfl rfl) Tryd.underlying9 rfl ?_)
  refine WL.op rfl rfl (op_neqStr rfl rfl ?_)
  refine WL.op rfl rfl (op_move rfl ?_)
  refine WL.split (t := 12) rfl (fun (hb3 : (decide (x.nm ≠ y.nm)) = true) => ?_) (fun (hb3 : (decide (x.nm ≠ y.nm)) = false) => ?_)
  ·
    have hc3 := of_decide_eq_true hb3
    refine WL.no rfl rfl rfl hb3 rfl ?_
    refine WL.no rfl rfl rfl hb3 rfl ?_
    refine WL.no rfl rfl rfl hb3 rfl ?_
    refine WL.no rfl rfl rfl hb3 rfl ?_
    refine WL.no rfl rfl rfl hb3 rfl ?_
    refine WL.op rfl rfl (op_pickT rfl hb3 rfl ?_)
    refine WL.op rfl rfl (op_move rfl ?_)
    refine WL.no rfl rfl rfl rfl rfl ?_
    refine WL.no rfl rfl rfl rfl rfl ?_
    refine WL.no rfl rfl rfl rfl rfl ?_
    refine WL.no rfl rfl rfl rfl rfl ?_
    refine WL.no rfl rfl rfl rfl rfl ?_
    refine WL.op rfl rfl (op_pickT rfl rfl rfl ?_)
    refine WL.op rfl rfl (op_move rfl ?_)
    refine WL.no rfl rfl rfl rfl rfl ?_
    refine WL.no rfl rfl rfl rfl rfl ?_
    refine WL.no rfl rfl rfl rfl rfl ?_
    refine WL.no rfl rfl rfl rfl rfl ?_
    refine WL.no rfl rfl rfl rfl rfl ?_
    refine WL.op rfl rfl (op_pickT rfl rfl rfl ?_)
    refine WL.op rfl rfl (op_move rfl ?_)
    refine WL.no rfl rfl rfl rfl rfl ?_
    refine WL.no rfl rfl rfl rfl rfl ?_
    refine WL.no rfl rfl rfl rfl rfl ?_
    refine WL.no rfl rfl rfl rfl rfl ?_
    refine WL.no rfl rfl rfl rfl rfl ?_
    refine WL.op rfl rfl (op_pickT rfl rfl rfl ?_)
    refine WL.op rfl rfl (op_move rfl ?_)
    refine WL.no rfl rfl rfl rfl rfl ?_
    refine WL.no rfl rfl rfl rfl rfl ?_
    refine WL.no rfl rfl rfl rfl rfl ?_
    refine WL.no rfl rfl rfl rfl rfl ?_
    refine WL.no rfl rfl rfl rfl rfl ?_
    refine WL.no rfl rfl rfl rfl rfl ?_
    refine WL.no rfl rfl rfl rfl rfl ?_
    refine WL.op rfl rfl (op_pickT rfl rfl rfl ?_)
    refine WL.op rfl rfl (op_move rfl ?_)
    refine WL.no rfl rfl rfl rfl rfl ?_
    refine WL.no rfl rfl rfl rfl rfl ?_
    refine WL.no rfl rfl rfl rfl rfl ?_
    refine WL.no rfl rfl rfl rfl rfl ?_
    refine WL.no rfl rfl rfl rfl rfl ?_
    refine WL.no rfl rfl rfl rfl rfl ?_
    refine WL.no rfl rfl rfl rfl rfl ?_
    refine WL.op rfl rfl (op_pickT rfl rfl rfl ?_)
    refine WL.nil ?_
    refine WQ.next ?_
    refine WC.yes rfl rfl ?_
    refine WC.seq ?_
    refine WC.region ?_
    refine WL.op rfl rfl (op_assign rfl ?_)
    refine WL.nil ?_
    refine WQ.next ?_
    refine WC.ret ?_
    refine WQ.thenRet ?_
    refine WQ.out (.tmp rfl .nil) ?_
    exact ⟨by rw [sameY_no (fun h => hc3 h.1)]; rfl, H2.fr⟩
  ·
    have hc3 := of_decide_eq_false hb3
    refine WL.yes rfl rfl rfl hb3 rfl (op_fieldAddr rfl Fa.F26_1 ?_)
    refine WL.yes rfl rfl rfl hb3 rfl (op_load rfl (H2.cell (i := 0) rfl rfl) Tryd.underlying5 rfl ?_)
    refine WL.yes rfl rfl rfl hb3 rfl (op_fieldAddr rfl Fa.F26_1 ?_)
    refine WL.yes rfl rfl rfl hb3 rfl (op_load rfl (H2.cell (i := 1) rfl rfl) Tryd.underlying5 rfl ?_)
    refine WL.yes rfl rfl rfl hb3 rfl (op_neqU8 rfl rfl ?_)
    refine WL.op rfl rfl (op_pickF rfl hb3 rfl ?_)
    refine WL.op rfl rfl (op_move rfl ?_)
    refine WL.split (t := 19) rfl (fun (hb4 : (decide (x.bind ≠ y.bind)) = true) => ?_) (fun (hb4 : (decide (x.bind ≠ y.bind)) = false) => ?_)
    ·
      have hc4 := of_decide_eq_true hb4
      refine WL.no rfl rfl rfl hb4 rfl ?_
      refine WL.no rfl rfl rfl hb4 rfl ?_
      refine WL.no rfl rfl rfl hb4 rfl ?_
      refine WL.no rfl rfl rfl hb4 rfl ?_
      refine WL.no rfl rfl rfl hb4 rfl ?_
      refine WL.op rfl rfl (op_pickT rfl hb4 rfl ?_)
      refine WL.op rfl rfl (op_move rfl ?_)
      refine WL.no rfl rfl rfl rfl rfl ?_
      refine WL.no rfl rfl rfl rfl rfl ?_
      refine WL.no rfl rfl rfl rfl rfl ?_
      refine WL.no rfl rfl rfl rfl rfl ?_
      refine WL.no rfl rfl rfl rfl rfl ?_
      refine WL.op rfl rfl (op_pickT rfl rfl rfl ?_)
      refine WL.op rfl rfl (op_move rfl ?_)
      refine WL.no rfl rfl rfl rfl rfl ?_
      refine WL.no rfl rfl rfl rfl rfl ?_
      refine WL.no rfl rfl rfl rfl rfl ?_
      refine WL.no rfl rfl rfl rfl rfl ?_
      refine WL.no rfl rfl rfl rfl rfl ?_
      refine WL.op rfl rfl (op_pickT rfl rfl rfl ?_)
      refine WL.op rfl rfl (op_move rfl ?_)
      refine WL.no rfl rfl rfl rfl rfl ?_
      refine WL.no rfl rfl rfl rfl rfl ?_
      refine WL.no rfl rfl rfl rfl rfl ?_
      refine WL.no rfl rfl rfl rfl rfl ?_
      refine WL.no rfl rfl rfl rfl rfl ?_
      refine WL.no rfl rfl rfl rfl rfl ?_
      refine WL.no rfl rfl rfl rfl rfl ?_
      refine WL.op rfl rfl (op_pickT rfl rfl rfl ?_)
      refine WL.op rfl rfl (op_move rfl ?_)
      refine WL.no rfl rfl rfl rfl rfl ?_
      refine WL.no rfl rfl rfl rfl rfl ?_
      refine WL.no rfl rfl rfl rfl rfl ?_
      refine WL.no rfl rfl rfl rfl rfl ?_
      refine WL.no rfl rfl rfl rfl rfl ?_
      refine WL.no rfl rfl rfl rfl rfl ?_
      refine WL.no rfl rfl rfl rfl rfl ?_
      refine WL.op rfl rfl (op_pickT rfl rfl rfl ?_)
      refine WL.nil ?_
      refine WQ.next ?_
      refine WC.yes rfl rfl ?_
      refine WC.seq ?_
      refine WC.region ?_
      refine WL.op rfl rfl (op_assign rfl ?_)
      refine WL.nil ?_
      refine WQ.next ?_
      refine WC.ret ?_
      refine WQ.thenRet ?_
      refine WQ.out (.tmp rfl .nil) ?_
      exact ⟨by rw [sameY_no (fun h => hc4 h.2.1)]; rfl, H2.fr⟩
    ·
      have hc4 := of_decide_eq_false hb4
      refine WL.yes rfl rfl rfl hb4 rfl (op_fieldAddr rfl Fa.F26_2 ?_)
      refine WL.yes rfl rfl rfl hb4 rfl (op_load rfl (H2.cell (i := 0) rfl rfl) Tryd.underlying5 rfl ?_)
      refine WL.yes rfl rfl rfl hb4 rfl (op_fieldAddr rfl Fa.F26_2 ?_)
      refine WL.yes rfl rfl rfl hb4 rfl (op_load rfl (H2.cell (i := 1) rfl rfl) Tryd.underlying5 rfl ?_)
      refine WL.yes rfl rfl rfl hb4 rfl (op_neqU8 rfl rfl ?_)
      refine WL.op rfl rfl (op_pickF rfl hb4 rfl ?_)
      refine WL.op rfl rfl (op_move rfl ?_)
      refine WL.split (t := 26) rfl (fun (hb5 : (decide (x.kind ≠ y.kind)) = true) => ?_) (fun (hb5 : (decide (x.kind ≠ y.kind)) = false) => ?_)
      ·
        have hc5 := of_decide_eq_true hb5
        refine WL.no rfl rfl rfl hb5 rfl ?_
        refine WL.no rfl rfl rfl hb5 rfl ?_
        refine WL.no rfl rfl rfl hb5 rfl ?_
        refine WL.no rfl rfl rfl hb5 rfl ?_
        refine WL.no rfl rfl rfl hb5 rfl ?_
        refine WL.op rfl rfl (op_pickT rfl hb5 rfl ?_)
        refine WL.op rfl rfl (op_move rfl ?_)
        refine WL.no rfl rfl rfl rfl rfl ?_
        refine WL.no rfl rfl rfl rfl rfl ?_
        refine WL.no rfl rfl rfl rfl rfl ?_
        refine WL.no rfl rfl rfl rfl rfl ?_
        refine WL.no rfl rfl rfl rfl rfl ?_
        refine WL.op rfl rfl (op_pickT rfl rfl rfl ?_)
        refine WL.op rfl rfl (op_move rfl ?_)
        refine WL.no rfl rfl rfl rfl rfl ?_
        refine WL.no rfl rfl rfl rfl rfl ?_
        refine WL.no rfl rfl rfl rfl rfl ?_
        refine WL.no rfl rfl rfl rfl rfl ?_
        refine WL.no rfl rfl rfl rfl rfl ?_
        refine WL.no rfl rfl rfl rfl rfl ?_
        refine WL.no rfl rfl rfl rfl rfl ?_
        refine WL.op rfl rfl (op_pickT rfl rfl rfl ?_)
        refine WL.op rfl rfl (op_move rfl ?_)
        refine WL.no rfl rfl rfl rfl rfl ?_
        refine WL.no rfl rfl rfl rfl rfl ?_
        refine WL.no rfl rfl rfl rfl rfl ?_
        refine WL.no rfl rfl rfl rfl rfl ?_
        refine WL.no rfl rfl rfl rfl rfl ?_
        refine WL.no rfl rfl rfl rfl rfl ?_
        refine WL.no rfl rfl rfl rfl rfl ?_
        refine WL.op rfl rfl (op_pickT rfl rfl rfl ?_)
        refine WL.nil ?_
        refine WQ.next ?_
        refine WC.yes rfl rfl ?_
        refine WC.seq ?_
        refine WC.region ?_
        refine WL.op rfl rfl (op_assign rfl ?_)
        refine WL.nil ?_
        refine WQ.next ?_
        refine WC.ret ?_
        refine WQ.thenRet ?_
        refine WQ.out (.tmp rfl .nil) ?_
        exact ⟨by rw [sameY_no (fun h => hc5 h.2.2.1)]; rfl, H2.fr⟩
      ·
        have hc5 := of_decide_eq_false hb5
        refine WL.yes rfl rfl rfl hb5 rfl (op_fieldAddr rfl Fa.F26_3 ?_)
        refine WL.yes rfl rfl rfl hb5 rfl (op_load rfl (H2.cell (i := 0) rfl rfl) Tryd.underlying22 rfl ?_)
        refine WL.yes rfl rfl rfl hb5 rfl (op_fieldAddr rfl Fa.F26_3 ?_)
        refine WL.yes rfl rfl rfl hb5 rfl (op_load rfl (H2.cell (i := 1) rfl rfl) Tryd.underlying22 rfl ?_)
        refine WL.yes rfl rfl rfl hb5 rfl (op_neqU32 rfl rfl ?_)
        refine WL.op rfl rfl (op_pickF rfl hb5 rfl ?_)
        refine WL.op rfl rfl (op_move rfl ?_)
        refine WL.split (t := 33) rfl (fun (hb6 : (decide (x.size ≠ y.size)) = true) => ?_) (fun (hb6 : (decide (x.size ≠ y.size)) = false) => ?_)
        ·
          have hc6 := of_decide_eq_true hb6
          refine WL.no rfl rfl rfl hb6 rfl ?_
          refine WL.no rfl rfl rfl hb6 rfl ?_
          refine WL.no rfl rfl rfl hb6 rfl ?_
          refine WL.no rfl rfl rfl hb6 rfl ?_
          refine WL.no rfl rfl rfl hb6 rfl ?_
          refine WL.op rfl rfl (op_pickT rfl hb6 rfl ?_)
          refine WL.op rfl rfl (op_move rfl ?_)
          refine WL.no rfl rfl rfl rfl rfl ?_
          refine WL.no rfl rfl rfl rfl rfl ?_
          refine WL.no rfl rfl rfl rfl rfl ?_
          refine WL.no rfl rfl rfl rfl rfl ?_
          refine WL.no rfl rfl rfl rfl rfl ?_
          refine WL.no rfl rfl rfl rfl rfl ?_
          refine WL.no rfl rfl rfl rfl rfl ?_
          refine WL.op rfl rfl (op_pickT rfl rfl rfl ?_)
          refine WL.op rfl rfl (op_move rfl ?_)
          refine WL.no rfl rfl rfl rfl rfl ?_
          refine WL.no rfl rfl rfl rfl rfl ?_
          refine WL.no rfl rfl rfl rfl rfl ?_
          refine WL.no rfl rfl rfl rfl rfl ?_
          refine WL.no rfl rfl rfl rfl rfl ?_
          refine WL.no rfl rfl rfl rfl rfl ?_
          refine WL.no rfl rfl rfl rfl rfl ?_
          refine WL.op rfl rfl (op_pickT rfl rfl rfl ?_)
          refine WL.nil ?_
          refine WQ.next ?_
          refine WC.yes rfl rfl ?_
          refine WC.seq ?_
          refine WC.region ?_
          refine WL.op rfl rfl (op_assign rfl ?_)
          refine WL.nil ?_
          refine WQ.next ?_
          refine WC.ret ?_
          refine WQ.thenRet ?_
          refine WQ.out (.tmp rfl .nil) ?_
          exact ⟨by rw [sameY_no (fun h => hc6 h.2.2.2.1)]; rfl, H2.fr⟩
        ·
          have hc6 := of_decide_eq_false hb6
          refine WL.yes rfl rfl rfl hb6 rfl (op_fieldAddr rfl Fa.F26_4 ?_)
          refine WL.yes rfl rfl rfl hb6 rfl (op_load rfl (H2.cell (i := 0) rfl rfl) Tryd.underlying9 rfl ?_)
          refine WL.yes rfl rfl rfl hb6 rfl (op_fieldAddr rfl Fa.F26_4 ?_)
          refine WL.yes rfl rfl rfl hb6 rfl (op_load rfl (H2.cell (i := 1) rfl rfl) Tryd.underlying9 rfl ?_)
          refine WL.yes rfl rfl rfl hb6 rfl (op_neqStr rfl rfl ?_)
          refine WL.op rfl rfl (op_pickF rfl hb6 rfl ?_)
          refine WL.op rfl rfl (op_move rfl ?_)
          refine WL.split (t := 40) rfl (fun (hb7 : (decide (x.b ≠ y.b)) = true) => ?_) (fun (hb7 : (decide (x.b ≠ y.b)) = false) => ?_)
          ·
            have hc7 := of_decide_eq_true hb7
            refine WL.no rfl rfl rfl hb7 rfl ?_
            refine WL.no rfl rfl rfl hb7 rfl ?_
            refine WL.no rfl rfl rfl hb7 rfl ?_
            refine WL.no rfl rfl rfl hb7 rfl ?_
            refine WL.no rfl rfl rfl hb7 rfl ?_
            refine WL.no rfl rfl rfl hb7 rfl ?_
            refine WL.no rfl rfl rfl hb7 rfl ?_
            refine WL.op rfl rfl (op_pickT rfl hb7 rfl ?_)
            refine WL.op rfl rfl (op_move rfl ?_)
            refine WL.no rfl rfl rfl rfl rfl ?_
            refine WL.no rfl rfl rfl rfl rfl ?_
            refine WL.no rfl rfl rfl rfl rfl ?_
            refine WL.no rfl rfl rfl rfl rfl ?_
            refine WL.no rfl rfl rfl rfl rfl ?_
            refine WL.no rfl rfl rfl rfl rfl ?_
            refine WL.no rfl rfl rfl rfl rfl ?_
            refine WL.op rfl rfl (op_pickT rfl rfl rfl ?_)
            refine WL.nil ?_
            refine WQ.next ?_
            refine WC.yes rfl rfl ?_
            refine WC.seq ?_
            refine WC.region ?_
            refine WL.op rfl rfl (op_assign rfl ?_)
            refine WL.nil ?_
            refine WQ.next ?_
            refine WC.ret ?_
            refine WQ.thenRet ?_
            refine WQ.out (.tmp rfl .nil) ?_
            exact ⟨by rw [sameY_no (fun h => hc7 h.2.2.2.2.1)]; rfl, H2.fr⟩
          ·
            have hc7 := of_decide_eq_false hb7
            refine WL.yes rfl rfl rfl hb7 rfl (op_fieldAddr rfl Fa.F26_5 ?_)
            refine WL.yes rfl rfl rfl hb7 rfl (op_load rfl (H2.cell (i := 0) rfl rfl) Tryd.underlying23 rfl ?_)
            refine WL.yes rfl rfl rfl hb7 rfl (op_lenA Tryd.underlying23 rfl ((SyD_rl (SyD.fr0 hI H2.fr))) ?_)
            refine WL.yes rfl rfl rfl hb7 rfl (op_fieldAddr rfl Fa.F26_5 ?_)
            refine WL.yes rfl rfl rfl hb7 rfl (op_load rfl (H2.cell (i := 1) rfl rfl) Tryd.underlying23 rfl ?_)
            refine WL.yes rfl rfl rfl hb7 rfl (op_lenA Tryd.underlying23 rfl ((SyD_rl (SyD.fr0 hJ H2.fr))) ?_)
            refine WL.yes rfl rfl rfl hb7 rfl (op_neqN rfl rfl ?_)
            refine WL.op rfl rfl (op_pickF rfl hb7 rfl ?_)
            refine WL.op rfl rfl (op_move rfl ?_)
            refine WL.split (t := 49) rfl (fun (hb8 : (decide (x.rl.length ≠ y.rl.length)) = true) => ?_) (fun (hb8 : (decide (x.rl.length ≠ y.rl.length)) = false) => ?_)
            ·
              have hc8 := of_decide_eq_true hb8
              refine WL.no rfl rfl rfl hb8 rfl ?_
              refine WL.no rfl rfl rfl hb8 rfl ?_
              refine WL.no rfl rfl rfl hb8 rfl ?_
              refine WL.no rfl rfl rfl hb8 rfl ?_
              refine WL.no rfl rfl rfl hb8 rfl ?_
              refine WL.no rfl rfl rfl hb8 rfl ?_
              refine WL.no rfl rfl rfl hb8 rfl ?_
              refine WL.op rfl rfl (op_pickT rfl hb8 rfl ?_)
              refine WL.nil ?_
              refine WQ.next ?_
              refine WC.yes rfl rfl ?_
              refine WC.seq ?_
              refine WC.region ?_
              refine WL.op rfl rfl (op_assign rfl ?_)
              refine WL.nil ?_
              refine WQ.next ?_
              refine WC.ret ?_
              refine WQ.thenRet ?_
              refine WQ.out (.tmp rfl .nil) ?_
              exact ⟨by rw [sameY_no (fun h => hc8 (by rw [h.2.2.2.2.2.1]))]; rfl, H2.fr⟩
            ·
              have hc8 := of_decide_eq_false hb8
              refine WL.yes rfl rfl rfl hb8 rfl (op_fieldAddr rfl Fa.F26_6 ?_)
              refine WL.yes rfl rfl rfl hb8 rfl (op_load rfl (H2.cell (i := 0) rfl rfl) Tryd.underlying24 rfl ?_)
              refine WL.yes rfl rfl rfl hb8 rfl (op_lenA Tryd.underlying24 rfl ((SyD_nt (SyD.fr0 hI H2.fr))) ?_)
              refine WL.yes rfl rfl rfl hb8 rfl (op_fieldAddr rfl Fa.F26_6 ?_)
              refine WL.yes rfl rfl rfl hb8 rfl (op_load rfl (H2.cell (i := 1) rfl rfl) Tryd.underlying24 rfl ?_)
              refine WL.yes rfl rfl rfl hb8 rfl (op_lenA Tryd.underlying24 rfl ((SyD_nt (SyD.fr0 hJ H2.fr))) ?_)
              refine WL.yes rfl rfl rfl hb8 rfl (op_neqN rfl rfl ?_)
              refine WL.op rfl rfl (op_pickF rfl hb8 rfl ?_)
              refine WL.nil ?_
              refine WQ.next ?_
              refine WC.cond rfl (fun (hb9 : (decide (x.nt.length ≠ y.nt.length)) = true) => ?_) (fun (hb9 : (decide (x.nt.length ≠ y.nt.length)) = false) => ?_)
              ·
                have hc9 := of_decide_eq_true hb9
                refine WC.seq ?_
                refine WC.region ?_
                refine WL.op rfl rfl (op_assign rfl ?_)
                refine WL.nil ?_
                refine WQ.next ?_
                refine WC.ret ?_
                refine WQ.thenRet ?_
                refine WQ.out (.tmp rfl .nil) ?_
                exact ⟨by rw [sameY_no (fun h => hc9 (by rw [h.2.2.2.2.2.2]))]; rfl, H2.fr⟩
              ·
                have hc9 := of_decide_eq_false hb9
                refine WC.skip ?_
                refine WQ.next ?_
                refine WC.seq ?_
                refine WC.seq ?_
                refine WC.region ?_
                refine WL.op rfl rfl (op_assign rfl ?_)
                refine WL.nil ?_
                refine WQ.next ?_
                refine WC.block ?_
                refine WC.loop (α := Nat) (fun k => [(2, (ptr b1 0)), (3, (ptr b2 0)), (4, (.bool false)), (5, (vN k))]) (fun k w' => (k ≤ x.rl.length ∧ (∀ j, j < k → x.rl.getD j Rl.zero = y.rl.getD j Rl.zero)) ∧ Own [] w w' [.blk b1 [(str x.nm), (vU8 x.bind), (vU8 x.kind), (vU32 x.size), (str x.b), x.rv, x.nv] 26, .blk b2 [(str y.nm), (vU8 y.bind), (vU8 y.kind), (vU32 y.size), (str y.b), y.rv, y.nv] 26]) (fun k => x.rl.length - k) 0 ⟨⟨Nat.zero_le _, fun j h => by omega⟩, H2⟩ ⟨rfl, rfl, rfl, rfl, trivial⟩ ?_
                rintro k w10 ⟨⟨hk1, hok⟩, H10⟩
                show WC _ _ _ _ _ [(2, (ptr b1 0)), (3, (ptr b2 0)), (4, (.bool false)), (5, (vN k))] _
                refine WC.seq ?_
                refine WC.seq ?_
                refine WC.region ?_
                refine WL.op rfl rfl (op_move rfl ?_)
                refine WL.op rfl rfl (op_fieldAddr rfl Fa.F26_5 ?_)
                refine WL.op rfl rfl (op_load rfl (H10.cell (i := 0) rfl rfl) Tryd.underlying23 rfl ?_)
                refine WL.op rfl rfl (op_lenA Tryd.underlying23 rfl ((SyD_rl (SyD.fr0 hI H10.fr))) ?_)
                refine WL.op rfl rfl (op_lssN rfl rfl ?_)
                refine WL.nil ?_
                refine WQ.next ?_
                refine WC.cond rfl (fun (hb11 : (decide (k < x.rl.length)) = true) => ?_) (fun (hb11 : (decide (k < x.rl.length)) = false) => ?_)
                ·
                  have hc11 := of_decide_eq_true hb11
                  refine WC.skip ?_
                  refine WQ.next ?_
                  refine WC.seq ?_
                  refine WC.block ?_
                  refine WC.seq ?_
                  refine WC.draw 11 Fa.M H10 (HW.op rfl (fun w1 H1 => op_fieldAddr rfl Fa.F26_5 ⟨rfl, Fr.refl _ _⟩) (HW.op rfl (fun w1 H1 => op_load rfl (H1.cell (i := 0) rfl rfl) Tryd.underlying23 rfl ⟨rfl, Fr.refl _ _⟩) (HW.op rfl (fun w1 H1 => op_move rfl ⟨rfl, Fr.refl _ _⟩) (HW.op rfl (fun w1 H1 => op_indexAddr Tryd.underlying23 Fa.I44 rfl ((SyD_rl (SyD.fr0 hI H1.fr))) rfl (by omega) ⟨rfl, Fr.refl _ _⟩) (HW.op rfl (fun w1 H1 => op_loadSP (vs := rlc (x.rl.getD k Rl.zero)) rfl (Arr.atsF ((SyD_rl (SyD.fr0 hI H1.fr))) (fun _ => rfl) (by decide) Rl.zero (by omega)) Tryd.underlying44 rfl Fa.I44 rfl ⟨rfl, Fr.refl _ _⟩) (HW.op rfl (fun w1 H1 => op_fieldAddr rfl Fa.F26_5 ⟨rfl, Fr.refl _ _⟩) (HW.op rfl (fun w1 H1 => op_load rfl (H1.cell (i := 1) rfl rfl) Tryd.underlying23 rfl ⟨rfl, Fr.refl _ _⟩) (HW.op rfl (fun w1 H1 => op_move rfl ⟨rfl, Fr.refl _ _⟩) (HW.op rfl (fun w1 H1 => op_indexAddr Tryd.underlying23 Fa.I44 rfl ((SyD_rl (SyD.fr0 hJ H1.fr))) rfl (by omega) ⟨rfl, Fr.refl _ _⟩) (HW.op rfl (fun w1 H1 => op_loadSP (vs := rlc (y.rl.getD k Rl.zero)) rfl (Arr.atsF ((SyD_rl (SyD.fr0 hJ H1.fr))) (fun _ => rfl) (by decide) Rl.zero (by omega)) Tryd.underlying44 rfl Fa.I44 rfl ⟨rfl, Fr.refl _ _⟩) (HW.op rfl (fun w1 H1 => op_neqS (xs := [_, _, _, _]) (ys := [_, _, _, _]) (b := (!((decide ((x.rl.getD k Rl.zero).off = (y.rl.getD k Rl.zero).off)) && ((decide ((x.rl.getD k Rl.zero).kind = (y.rl.getD k Rl.zero).kind)) && ((decide ((x.rl.getD k Rl.zero).nm = (y.rl.getD k Rl.zero).nm)) && (decide ((x.rl.getD k Rl.zero).add = (y.rl.getD k Rl.zero).add))))))) Fa.FL44 rfl rfl rfl (by simp [eqAll, veqStr, veqU32, veqU8]) ⟨rfl, Fr.refl _ _⟩)  HW.nil))))))))))) (by kernel_rfl) ?_
                  intro β12 w12 H12
                  refine WL.nil ?_
                  refine WQ.next ?_
                  refine WC.cond rfl (fun (hb13 : (!((decide ((x.rl.getD k Rl.zero).off = (y.rl.getD k Rl.zero).off)) && ((decide ((x.rl.getD k Rl.zero).kind = (y.rl.getD k Rl.zero).kind)) && ((decide ((x.rl.getD k Rl.zero).nm = (y.rl.getD k Rl.zero).nm)) && (decide ((x.rl.getD k Rl.zero).add = (y.rl.getD k Rl.zero).add)))))) = true) => ?_) (fun (hb13 : (!((decide ((x.rl.getD k Rl.zero).off = (y.rl.getD k Rl.zero).off)) && ((decide ((x.rl.getD k Rl.zero).kind = (y.rl.getD k Rl.zero).kind)) && ((decide ((x.rl.getD k Rl.zero).nm = (y.rl.getD k Rl.zero).nm)) && (decide ((x.rl.getD k Rl.zero).add = (y.rl.getD k Rl.zero).add)))))) = false) => ?_)
                  ·
                    have hn13 := (Bool.not_eq_true' _).mp hb13
                    refine WC.seq ?_
                    refine WC.region ?_
                    refine WL.op rfl rfl (op_assign rfl ?_)
                    refine WL.nil ?_
                    refine WQ.next ?_
                    refine WC.ret ?_
                    refine WQ.inRet ?_
                    refine WQ.thenRet ?_
                    refine WQ.thenRet ?_
                    refine WQ.inRet ?_
                    refine WQ.thenRet ?_
                    refine WQ.out (.tmp rfl .nil) ?_
                    exact ⟨by rw [sameY_no (fun h => of_decide_eq_false ((rl_eq _ _).symm.trans hn13) (by rw [h.2.2.2.2.2.1]))]; rfl, H12.fr⟩
                  ·
                    have hn13 := (Bool.not_eq_false' _).mp hb13
                    refine WC.skip ?_
                    refine WQ.inNormal ?_
                    refine WQ.next ?_
                    refine WC.region ?_
                    refine WL.op rfl rfl (op_move rfl ?_)
                    refine WL.op rfl rfl (op_addN (b := 1) rfl rfl (by omega) ?_)
                    refine WL.op rfl rfl (op_assign rfl ?_)
                    refine WL.nil ?_
                    exact WQ.round (k + 1) ⟨⟨by omega, allPrev hok (of_decide_eq_true ((rl_eq _ _).symm.trans hn13))⟩, H12⟩ ⟨rfl, rfl, rfl, rfl, trivial⟩ (by omega)
                ·
                  have hc11 := of_decide_eq_false hb11
                  refine WC.exit ?_
                  refine WQ.thenExit ?_
                  refine WQ.thenExit ?_
                  refine WQ.inHere ?_
                  refine WQ.next ?_
                  refine WC.seq ?_
                  refine WC.seq ?_
                  refine WC.region ?_
                  refine WL.op rfl rfl (op_assign rfl ?_)
                  refine WL.nil ?_
                  refine WQ.next ?_
                  refine WC.block ?_
                  refine WC.loop (α := Nat) (fun i => [(2, (ptr b1 0)), (3, (ptr b2 0)), (4, (.bool false)), (6, (vN i))]) (fun i w' => (i ≤ x.nt.length ∧ (∀ j, j < i → x.nt.getD j Nt.zero = y.nt.getD j Nt.zero)) ∧ Own [] w w' [.blk b1 [(str x.nm), (vU8 x.bind), (vU8 x.kind), (vU32 x.size), (str x.b), x.rv, x.nv] 26, .blk b2 [(str y.nm), (vU8 y.bind), (vU8 y.kind), (vU32 y.size), (str y.b), y.rv, y.nv] 26]) (fun i => x.nt.length - i) 0 ⟨⟨Nat.zero_le _, fun j h => by omega⟩, H10⟩ ⟨rfl, rfl, rfl, rfl, trivial⟩ ?_
                  rintro i w14 ⟨⟨hi1, hoi⟩, H14⟩
                  show WC _ _ _ _ _ [(2, (ptr b1 0)), (3, (ptr b2 0)), (4, (.bool false)), (6, (vN i))] _
                  refine WC.seq ?_
                  refine WC.seq ?_
                  refine WC.region ?_
                  refine WL.op rfl rfl (op_move rfl ?_)
                  refine WL.op rfl rfl (op_fieldAddr rfl Fa.F26_6 ?_)
                  refine WL.op rfl rfl (op_load rfl (H14.cell (i := 0) rfl rfl) Tryd.underlying24 rfl ?_)
                  refine WL.op rfl rfl (op_lenA Tryd.underlying24 rfl ((SyD_nt (SyD.fr0 hI H14.fr))) ?_)
                  refine WL.op rfl rfl (op_lssN rfl rfl ?_)
                  refine WL.nil ?_
                  refine WQ.next ?_
                  refine WC.cond rfl (fun (hb15 : (decide (i < x.nt.length)) = true) => ?_) (fun (hb15 : (decide (i < x.nt.length)) = false) => ?_)
                  ·
                    have hc15 := of_decide_eq_true hb15
                    refine WC.skip ?_
                    refine WQ.next ?_
                    refine WC.seq ?_
                    refine WC.block ?_
                    refine WC.seq ?_
                    refine WC.draw 11 Fa.M H14 (HW.op rfl (fun w1 H1 => op_fieldAddr rfl Fa.F26_6 ⟨rfl, Fr.refl _ _⟩) (HW.op rfl (fun w1 H1 => op_load rfl (H1.cell (i := 0) rfl rfl) Tryd.underlying24 rfl ⟨rfl, Fr.refl _ _⟩) (HW.op rfl (fun w1 H1 => op_move rfl ⟨rfl, Fr.refl _ _⟩) (HW.op rfl (fun w1 H1 => op_indexAddr Tryd.underlying24 Fa.I68 rfl ((SyD_nt (SyD.fr0 hI H1.fr))) rfl (by omega) ⟨rfl, Fr.refl _ _⟩) (HW.op rfl (fun w1 H1 => op_loadSP (vs := ntc (x.nt.getD i Nt.zero)) rfl (Arr.atsF ((SyD_nt (SyD.fr0 hI H1.fr))) (fun _ => rfl) (by decide) Nt.zero (by omega)) Tryd.underlying68 rfl Fa.I68 rfl ⟨rfl, Fr.refl _ _⟩) (HW.op rfl (fun w1 H1 => op_fieldAddr rfl Fa.F26_6 ⟨rfl, Fr.refl _ _⟩) (HW.op rfl (fun w1 H1 => op_load rfl (H1.cell (i := 1) rfl rfl) Tryd.underlying24 rfl ⟨rfl, Fr.refl _ _⟩) (HW.op rfl (fun w1 H1 => op_move rfl ⟨rfl, Fr.refl _ _⟩) (HW.op rfl (fun w1 H1 => op_indexAddr Tryd.underlying24 Fa.I68 rfl ((SyD_nt (SyD.fr0 hJ H1.fr))) rfl (by omega) ⟨rfl, Fr.refl _ _⟩) (HW.op rfl (fun w1 H1 => op_loadSP (vs := ntc (y.nt.getD i Nt.zero)) rfl (Arr.atsF ((SyD_nt (SyD.fr0 hJ H1.fr))) (fun _ => rfl) (by decide) Nt.zero (by omega)) Tryd.underlying68 rfl Fa.I68 rfl ⟨rfl, Fr.refl _ _⟩) (HW.op rfl (fun w1 H1 => op_neqS (xs := [_, _, _]) (ys := [_, _, _]) (b := (!((decide ((x.nt.getD i Nt.zero).kind = (y.nt.getD i Nt.zero).kind)) && ((decide ((x.nt.getD i Nt.zero).n = (y.nt.getD i Nt.zero).n)) && (decide ((x.nt.getD i Nt.zero).m = (y.nt.getD i Nt.zero).m)))))) Fa.FL68 rfl rfl rfl (by simp [eqAll, veqU32, veqU8]) ⟨rfl, Fr.refl _ _⟩)  HW.nil))))))))))) (by kernel_rfl) ?_
                    intro β16 w16 H16
                    refine WL.nil ?_
                    refine WQ.next ?_
                    refine WC.cond rfl (fun (hb17 : (!((decide ((x.nt.getD i Nt.zero).kind = (y.nt.getD i Nt.zero).kind)) && ((decide ((x.nt.getD i Nt.zero).n = (y.nt.getD i Nt.zero).n)) && (decide ((x.nt.getD i Nt.zero).m = (y.nt.getD i Nt.zero).m))))) = true) => ?_) (fun (hb17 : (!((decide ((x.nt.getD i Nt.zero).kind = (y.nt.getD i Nt.zero).kind)) && ((decide ((x.nt.getD i Nt.zero).n = (y.nt.getD i Nt.zero).n)) && (decide ((x.nt.getD i Nt.zero).m = (y.nt.getD i Nt.zero).m))))) = false) => ?_)
                    ·
                      have hn17 := (Bool.not_eq_true' _).mp hb17
                      refine WC.seq ?_
                      refine WC.region ?_
                      refine WL.op rfl rfl (op_assign rfl ?_)
                      refine WL.nil ?_
                      refine WQ.next ?_
                      refine WC.ret ?_
                      refine WQ.inRet ?_
                      refine WQ.thenRet ?_
                      refine WQ.thenRet ?_
                      refine WQ.inRet ?_
                      refine WQ.thenRet ?_
                      refine WQ.out (.tmp rfl .nil) ?_
                      exact ⟨by rw [sameY_no (fun h => of_decide_eq_false ((nt_eq _ _).symm.trans hn17) (by rw [h.2.2.2.2.2.2]))]; rfl, H16.fr⟩
                    ·
                      have hn17 := (Bool.not_eq_false' _).mp hb17
                      refine WC.skip ?_
                      refine WQ.inNormal ?_
                      refine WQ.next ?_
                      refine WC.region ?_
                      refine WL.op rfl rfl (op_move rfl ?_)
                      refine WL.op rfl rfl (op_addN (b := 1) rfl rfl (by omega) ?_)
                      refine WL.op rfl rfl (op_assign rfl ?_)
                      refine WL.nil ?_
                      exact WQ.round (i + 1) ⟨⟨by omega, allPrev hoi (of_decide_eq_true ((nt_eq _ _).symm.trans hn17))⟩, H16⟩ ⟨rfl, rfl, rfl, rfl, trivial⟩ (by omega)
                  ·
                    have hc15 := of_decide_eq_false hb15
                    refine WC.exit ?_
                    refine WQ.thenExit ?_
                    refine WQ.thenExit ?_
                    refine WQ.inHere ?_
                    refine WQ.next ?_
                    refine WC.seq ?_
                    refine WC.region ?_
                    refine WL.op rfl rfl (op_assign rfl ?_)
                    refine WL.nil ?_
                    refine WQ.next ?_
                    refine WC.ret ?_
                    refine WQ.out (.tmp rfl .nil) ?_
                    exact ⟨by rw [sameY_iff.2 ⟨Decidable.not_not.mp (of_decide_eq_false hb3), Decidable.not_not.mp (of_decide_eq_false hb4), Decidable.not_not.mp (of_decide_eq_false hb5), Decidable.not_not.mp (of_decide_eq_false hb6), Decidable.not_not.mp (of_decide_eq_false hb7), ext_getD (by omega) (fun j hj => hok j (by omega)), ext_getD (by omega) (fun j hj => hoi j (by omega))⟩]; rfl, H14.fr⟩
end Go.Proofs.YtnngbnenekjffaaDoor
/-! from DAsm -/
namespace Go.Proofs.YtnngbnenekjffaaDoor
open Go.Owl Go.Spec
set_option maxRecDepth 100000 in
theorem aname_ok (s : List UInt8) (w : World) (hs : s.length < 2 ^ 47) :
    Calls Tryd.prog 73 #[(str s)] w (fun e w' => e = .returned (.bool (nmE s)) ∧ Fr [] w w') := by
  refine enter (args := [(str s)]) Tryd.func73 rfl rfl ?_
  have H0 : Own [] w w [] := Own.start w []
  refine WC.seq ?_
  refine WC.region ?_
  refine WL.op rfl rfl (op_assign rfl ?_)
  refine WL.nil ?_
  refine WQ.next ?_
  refine WC.seq ?_
  refine WC.region ?_
  refine WL.op rfl rfl (op_move rfl ?_)
  refine WL.op rfl rfl (op_eqlStr rfl rfl ?_)
  refine WL.op rfl rfl (op_move rfl ?_)
  refine WL.split (t := 5) rfl (fun (hb1 : (decide (s = [])) = true) => ?_) (fun (hb1 : (decide (s = [])) = false) => ?_)
  ·
    have hc1 := of_decide_eq_true hb1
    refine WL.no rfl rfl rfl hb1 rfl ?_
    refine WL.no rfl rfl rfl hb1 rfl ?_
    refine WL.no rfl rfl rfl hb1 rfl ?_
    refine WL.no rfl rfl rfl hb1 rfl ?_
    refine WL.op rfl rfl (op_pickT rfl hb1 rfl ?_)
    refine WL.op rfl rfl (op_assign rfl ?_)
    refine WL.nil ?_
    refine WQ.next ?_
    refine WC.ret ?_
    refine WQ.out (.tmp rfl .nil) ?_
    exact ⟨by (rw [nmE, hb1]) <;> rfl, H0.fr⟩
  ·
    have hc1 := of_decide_eq_false hb1
    refine WL.yes rfl rfl rfl hb1 rfl (op_move rfl ?_)
    refine WL.yes rfl rfl rfl hb1 rfl (op_build (cs := [_, _, _, _, _, _, _]) Fa.I26 Fa.PL26 rfl rfl ?_)
    refine WL.yes rfl rfl rfl hb1 rfl (op_callF Fa.C27 rfl ((osym_ok (Sy.mk s 0 2 1 [] (.slice none 0 0) [] (.slice none 0 0) []) _ (SyD_mk (x := (Sy.mk s 0 2 1 [] (.slice none 0 0) [] (.slice none 0 0) [])) (Arr.nil _ _) (Arr.nil _ _)) (by exact hs) (by show 0 < 2 ^ 32; decide) (fun y hy => by cases hy) (by show 0 < 2 ^ 40; decide) (by show 0 < 2 ^ 40; decide)).mono (fun e w2 hq => ?_)))
    obtain ⟨rfl, hf2⟩ := hq
    refine ⟨_, rfl, ?_⟩
    have H2 := H0.fr' hf2
    refine WL.yes rfl rfl rfl hb1 rfl (op_eqlN (b := 0) rfl rfl ?_)
    refine WL.op rfl rfl (op_pickF rfl hb1 rfl ?_)
    refine WL.op rfl rfl (op_assign rfl ?_)
    refine WL.nil ?_
    refine WQ.next ?_
    refine WC.ret ?_
    refine WQ.out (.tmp rfl .nil) ?_
    exact ⟨by (rw [nmE, hb1, Bool.false_or, ← name_sym]) <;> rfl, H2.fr⟩
set_option maxRecDepth 100000 in
theorem rname10_ok (s : List UInt8) (w : World) (hs : s.length < 2 ^ 47) :
    Calls Tryd.prog 77 #[(str s)] w (fun e w' => e = .returned (.bool (nmE s)) ∧ Fr [] w w') := by
  refine enter (args := [(str s)]) Tryd.func77 rfl rfl ?_
  have H0 : Own [] w w [] := Own.start w []
  refine WC.seq ?_
  refine WC.region ?_
  refine WL.op rfl rfl (op_assign rfl ?_)
  refine WL.nil ?_
  refine WQ.next ?_
  refine WC.seq ?_
  refine WC.region ?_
  refine WL.op rfl rfl (op_move rfl ?_)
  refine WL.op rfl rfl (op_eqlStr rfl rfl ?_)
  refine WL.op rfl rfl (op_move rfl ?_)
  refine WL.split (t := 5) rfl (fun (hb1 : (decide (s = [])) = true) => ?_) (fun (hb1 : (decide (s = [])) = false) => ?_)
  ·
    have hc1 := of_decide_eq_true hb1
    refine WL.no rfl rfl rfl hb1 rfl ?_
    refine WL.no rfl rfl rfl hb1 rfl ?_
    refine WL.op rfl rfl (op_pickT rfl hb1 rfl ?_)
    refine WL.op rfl rfl (op_assign rfl ?_)
    refine WL.nil ?_
    refine WQ.next ?_
    refine WC.ret ?_
    refine WQ.out (.tmp rfl .nil) ?_
    exact ⟨by (rw [nmE, hb1]) <;> rfl, H0.fr⟩
  ·
    have hc1 := of_decide_eq_false hb1
    refine WL.yes rfl rfl rfl hb1 rfl (op_move rfl ?_)
    refine WL.yes rfl rfl rfl hb1 rfl (op_callF Fa.C58 rfl ((rname_ok s _ hs).mono (fun e w2 hq => ?_)))
    obtain ⟨rfl, hf2⟩ := hq
    refine ⟨_, rfl, ?_⟩
    have H2 := H0.fr' hf2
    refine WL.op rfl rfl (op_pickF rfl hb1 rfl ?_)
    refine WL.op rfl rfl (op_assign rfl ?_)
    refine WL.nil ?_
    refine WQ.next ?_
    refine WC.ret ?_
    refine WQ.out (.tmp rfl .nil) ?_
    exact ⟨by (rw [nmE, hb1, Bool.false_or]) <;> rfl, H2.fr⟩
set_option maxRecDepth 100000 in
theorem amay_ok (x : Ln) (w : World) (hx : x.lb.length < 2 ^ 47 ∧ x.to.length < 2 ^ 47 ∧ x.nm.length < 2 ^ 47) :
    Calls Tryd.prog 50 #[(.agg #[(str x.lb), (vU8 x.op), (vU8 x.d), (vU8 x.a), (vU8 x.b), (vU32 x.imm), (str x.to), (str x.nm)])] w (fun e w' => e = .returned (.bool (lnMay x)) ∧ Fr [] w w') := by
  refine enter (args := [(.agg #[(str x.lb), (vU8 x.op), (vU8 x.d), (vU8 x.a), (vU8 x.b), (vU32 x.imm), (str x.to), (str x.nm)])]) Tryd.func50 rfl rfl ?_
  have H0 : Own [] w w [] := Own.start w []
  refine WC.seq ?_
  refine WC.region ?_
  refine WL.op rfl rfl (op_box H0 rfl rfl (fun b1 w1 H1 => ?_))
  refine WL.op rfl rfl (op_assign rfl ?_)
  refine WL.nil ?_
  refine WQ.next ?_
  refine WC.seq ?_
  refine WC.seq ?_
  refine WC.region ?_
  refine WL.op rfl rfl (op_fieldAddr rfl Fa.F65_2 ?_)
  refine WL.op rfl rfl (op_load rfl (H1.cell (i := 0) rfl rfl) Tryd.underlying9 rfl ?_)
  refine WL.op rfl rfl (op_neqStr rfl rfl ?_)
  refine WL.op rfl rfl (op_move rfl ?_)
  refine WL.split (t := 11) rfl (fun (hb2 : (decide (x.to ≠ [])) = true) => ?_) (fun (hb2 : (decide (x.to ≠ [])) = false) => ?_)
  ·
    have hc2 := of_decide_eq_true hb2
    refine WL.yes rfl rfl rfl hb2 rfl (op_fieldAddr rfl Fa.F65_3 ?_)
    refine WL.yes rfl rfl rfl hb2 rfl (op_load rfl (H1.cell (i := 0) rfl rfl) Tryd.underlying9 rfl ?_)
    refine WL.yes rfl rfl rfl hb2 rfl (op_neqStr rfl rfl ?_)
    refine WL.op rfl rfl (op_pickT rfl hb2 rfl ?_)
    refine WL.op rfl rfl (op_move rfl ?_)
    refine WL.split (t := 16) rfl (fun (hb3 : (decide (x.nm ≠ [])) = true) => ?_) (fun (hb3 : (decide (x.nm ≠ [])) = false) => ?_)
    ·
      have hc3 := of_decide_eq_true hb3
      refine WL.no rfl rfl rfl hb3 rfl ?_
      refine WL.no rfl rfl rfl hb3 rfl ?_
      refine WL.no rfl rfl rfl hb3 rfl ?_
      refine WL.no rfl rfl rfl hb3 rfl ?_
      refine WL.op rfl rfl (op_pickT rfl hb3 rfl ?_)
      refine WL.op rfl rfl (op_move rfl ?_)
      refine WL.no rfl rfl rfl rfl rfl ?_
      refine WL.no rfl rfl rfl rfl rfl ?_
      refine WL.no rfl rfl rfl rfl rfl ?_
      refine WL.no rfl rfl rfl rfl rfl ?_
      refine WL.op rfl rfl (op_pickT rfl rfl rfl ?_)
      refine WL.op rfl rfl (op_move rfl ?_)
      refine WL.no rfl rfl rfl rfl rfl ?_
      refine WL.no rfl rfl rfl rfl rfl ?_
      refine WL.no rfl rfl rfl rfl rfl ?_
      refine WL.no rfl rfl rfl rfl rfl ?_
      refine WL.op rfl rfl (op_pickT rfl rfl rfl ?_)
      refine WL.nil ?_
      refine WQ.next ?_
      refine WC.yes rfl rfl ?_
      refine WC.seq ?_
      refine WC.region ?_
      refine WL.op rfl rfl (op_assign rfl ?_)
      refine WL.nil ?_
      refine WQ.next ?_
      refine WC.ret ?_
      refine WQ.thenRet ?_
      refine WQ.out (.tmp rfl .nil) ?_
      exact ⟨by rw [lm_both hb2 hb3]; rfl, H1.fr⟩
    ·
      have hc3 := of_decide_eq_false hb3
      refine WL.yes rfl rfl rfl hb3 rfl (op_fieldAddr rfl Fa.F65_0 ?_)
      refine WL.yes rfl rfl rfl hb3 rfl (op_load rfl (H1.cell (i := 0) rfl rfl) Tryd.underlying9 rfl ?_)
      refine WL.yes rfl rfl rfl hb3 rfl (op_callF Fa.C73 rfl ((aname_ok x.lb _ (by omega)).mono (fun e w4 hq => ?_)))
      obtain ⟨rfl, hf4⟩ := hq
      refine ⟨_, rfl, ?_⟩
      have H4 := H1.fr' hf4
      refine WL.yes rfl rfl rfl hb3 rfl (op_not rfl ?_)
      refine WL.op rfl rfl (op_pickF rfl hb3 rfl ?_)
      refine WL.op rfl rfl (op_move rfl ?_)
      refine WL.split (t := 22) rfl (fun (hb5 : (!(nmE x.lb)) = true) => ?_) (fun (hb5 : (!(nmE x.lb)) = false) => ?_)
      ·
        have hn5 := (Bool.not_eq_true' _).mp hb5
        refine WL.no rfl rfl rfl hb5 rfl ?_
        refine WL.no rfl rfl rfl hb5 rfl ?_
        refine WL.no rfl rfl rfl hb5 rfl ?_
        refine WL.no rfl rfl rfl hb5 rfl ?_
        refine WL.op rfl rfl (op_pickT rfl hb5 rfl ?_)
        refine WL.op rfl rfl (op_move rfl ?_)
        refine WL.no rfl rfl rfl rfl rfl ?_
        refine WL.no rfl rfl rfl rfl rfl ?_
        refine WL.no rfl rfl rfl rfl rfl ?_
        refine WL.no rfl rfl rfl rfl rfl ?_
        refine WL.op rfl rfl (op_pickT rfl rfl rfl ?_)
        refine WL.nil ?_
        refine WQ.next ?_
        refine WC.yes rfl rfl ?_
        refine WC.seq ?_
        refine WC.region ?_
        refine WL.op rfl rfl (op_assign rfl ?_)
        refine WL.nil ?_
        refine WQ.next ?_
        refine WC.ret ?_
        refine WQ.thenRet ?_
        refine WQ.out (.tmp rfl .nil) ?_
        exact ⟨by rw [lm_lb hn5]; rfl, H4.fr⟩
      ·
        have hn5 := (Bool.not_eq_false' _).mp hb5
        refine WL.yes rfl rfl rfl hb5 rfl (op_fieldAddr rfl Fa.F65_2 ?_)
        refine WL.yes rfl rfl rfl hb5 rfl (op_load rfl (H4.cell (i := 0) rfl rfl) Tryd.underlying9 rfl ?_)
        refine WL.yes rfl rfl rfl hb5 rfl (op_callF Fa.C73 rfl ((aname_ok x.to _ (by omega)).mono (fun e w6 hq => ?_)))
        obtain ⟨rfl, hf6⟩ := hq
        refine ⟨_, rfl, ?_⟩
        have H6 := H4.fr' hf6
        refine WL.yes rfl rfl rfl hb5 rfl (op_not rfl ?_)
        refine WL.op rfl rfl (op_pickF rfl hb5 rfl ?_)
        refine WL.op rfl rfl (op_move rfl ?_)
        refine WL.split (t := 28) rfl (fun (hb7 : (!(nmE x.to)) = true) => ?_) (fun (hb7 : (!(nmE x.to)) = false) => ?_)
        ·
          have hn7 := (Bool.not_eq_true' _).mp hb7
          refine WL.no rfl rfl rfl hb7 rfl ?_
          refine WL.no rfl rfl rfl hb7 rfl ?_
          refine WL.no rfl rfl rfl hb7 rfl ?_
          refine WL.no rfl rfl rfl hb7 rfl ?_
          refine WL.op rfl rfl (op_pickT rfl hb7 rfl ?_)
          refine WL.nil ?_
          refine WQ.next ?_
          refine WC.yes rfl rfl ?_
          refine WC.seq ?_
          refine WC.region ?_
          refine WL.op rfl rfl (op_assign rfl ?_)
          refine WL.nil ?_
          refine WQ.next ?_
          refine WC.ret ?_
          refine WQ.thenRet ?_
          refine WQ.out (.tmp rfl .nil) ?_
          exact ⟨by rw [lm_to hn7]; rfl, H6.fr⟩
        ·
          have hn7 := (Bool.not_eq_false' _).mp hb7
          refine WL.yes rfl rfl rfl hb7 rfl (op_fieldAddr rfl Fa.F65_3 ?_)
          refine WL.yes rfl rfl rfl hb7 rfl (op_load rfl (H6.cell (i := 0) rfl rfl) Tryd.underlying9 rfl ?_)
          refine WL.yes rfl rfl rfl hb7 rfl (op_callF Fa.C73 rfl ((aname_ok x.nm _ (by omega)).mono (fun e w8 hq => ?_)))
          obtain ⟨rfl, hf8⟩ := hq
          refine ⟨_, rfl, ?_⟩
          have H8 := H6.fr' hf8
          refine WL.yes rfl rfl rfl hb7 rfl (op_not rfl ?_)
          refine WL.op rfl rfl (op_pickF rfl hb7 rfl ?_)
          refine WL.nil ?_
          refine WQ.next ?_
          refine WC.cond rfl (fun (hb9 : (!(nmE x.nm)) = true) => ?_) (fun (hb9 : (!(nmE x.nm)) = false) => ?_)
          ·
            have hn9 := (Bool.not_eq_true' _).mp hb9
            refine WC.seq ?_
            refine WC.region ?_
            refine WL.op rfl rfl (op_assign rfl ?_)
            refine WL.nil ?_
            refine WQ.next ?_
            refine WC.ret ?_
            refine WQ.thenRet ?_
            refine WQ.out (.tmp rfl .nil) ?_
            exact ⟨by rw [lm_nm hn9]; rfl, H8.fr⟩
          ·
            have hn9 := (Bool.not_eq_false' _).mp hb9
            refine WC.skip ?_
            refine WQ.next ?_
            refine WC.seq ?_
            refine WC.seq ?_
            refine WC.region ?_
            refine WL.op rfl rfl (op_fieldAddr rfl Fa.F65_2 ?_)
            refine WL.op rfl rfl (op_load rfl (H8.cell (i := 0) rfl rfl) Tryd.underlying9 rfl ?_)
            refine WL.op rfl rfl (op_fieldAddr rfl Fa.F65_3 ?_)
            refine WL.op rfl rfl (op_load rfl (H8.cell (i := 0) rfl rfl) Tryd.underlying9 rfl ?_)
            refine WL.op rfl rfl (op_addStr rfl rfl (by first | omega | (rw [List.length_append]; omega) | (simp; omega)) ?_)
            refine WL.op rfl rfl (op_neqStr rfl rfl ?_)
            refine WL.nil ?_
            refine WQ.next ?_
            refine WC.yes rfl (by rw [ref_app]; exact ref_T hb2) ?_
            refine WC.seq ?_
            refine WC.region ?_
            refine WL.op rfl rfl (op_fieldAddr rfl Fa.F65_1 ?_)
            refine WL.op rfl rfl (op_fieldAddr rfl Fa.F61_0 ?_)
            refine WL.op rfl rfl (op_load rfl (H8.cell (i := 0) rfl rfl) Tryd.underlying5 rfl ?_)
            refine WL.op rfl rfl (op_callF Fa.C74 rfl ((uses_ok x.op _).mono (fun e w10 hq => ?_)))
            obtain ⟨rfl, hf10⟩ := hq
            refine ⟨_, rfl, ?_⟩
            have H10 := H8.fr' hf10
            refine WL.op rfl rfl (op_move rfl ?_)
            refine WL.op rfl rfl (op_extract rfl rfl ?_)
            refine WL.op rfl rfl (op_extract rfl rfl ?_)
            refine WL.op rfl rfl (op_extract rfl rfl ?_)
            refine WL.op rfl rfl (op_extract rfl rfl ?_)
            refine WL.op rfl rfl (op_extract rfl rfl ?_)
            refine WL.op rfl rfl (op_assign rfl ?_)
            refine WL.op rfl rfl (op_assign rfl ?_)
            refine WL.op rfl rfl (op_assign rfl ?_)
            refine WL.op rfl rfl (op_assign rfl ?_)
            refine WL.op rfl rfl (op_assign rfl ?_)
            refine WL.nil ?_
            refine WQ.next ?_
            refine WC.seq ?_
            refine WC.region ?_
            refine WL.op rfl rfl (op_fieldAddr rfl Fa.F65_1 ?_)
            refine WL.op rfl rfl (op_fieldAddr rfl Fa.F61_4 ?_)
            refine WL.op rfl rfl (op_storeB (i := 0) H10 rfl rfl rfl rfl rfl Fa.I22 (fun w11 H11 => ?_))
            refine WL.nil ?_
            refine WQ.next ?_
            refine WC.seq ?_
            refine WC.region ?_
            refine WL.op rfl rfl (op_move rfl ?_)
            refine WL.op rfl rfl (op_neqN (b := 0) rfl rfl ?_)
            refine WL.op rfl rfl (op_move rfl ?_)
            refine WL.split (t := 54) rfl (fun (hb12 : (decide ((useE x.op) ≠ 0)) = true) => ?_) (fun (hb12 : (decide ((useE x.op) ≠ 0)) = false) => ?_)
            ·
              have hc12 := of_decide_eq_true hb12
              refine WL.no rfl rfl rfl hb12 rfl ?_
              refine WL.no rfl rfl rfl hb12 rfl ?_
              refine WL.op rfl rfl (op_pickT rfl hb12 rfl ?_)
              refine WL.nil ?_
              refine WQ.next ?_
              refine WC.yes rfl rfl ?_
              refine WC.seq ?_
              refine WC.region ?_
              refine WL.op rfl rfl (op_assign rfl ?_)
              refine WL.nil ?_
              refine WQ.next ?_
              refine WC.ret ?_
              refine WQ.thenRet ?_
              refine WQ.out (.tmp rfl .nil) ?_
              exact ⟨by rw [lm_use (ref_T hb2) hb12]; rfl, H11.fr⟩
            ·
              have hc12 := of_decide_eq_false hb12
              refine WL.yes rfl rfl rfl hb12 rfl (op_move rfl ?_)
              refine WL.yes rfl rfl rfl hb12 rfl (op_not rfl ?_)
              refine WL.op rfl rfl (op_pickF rfl hb12 rfl ?_)
              refine WL.nil ?_
              refine WQ.next ?_
              refine WC.cond rfl (fun (hb13 : (!(ub x.op 8)) = true) => ?_) (fun (hb13 : (!(ub x.op 8)) = false) => ?_)
              ·
                have hn13 := (Bool.not_eq_true' _).mp hb13
                refine WC.seq ?_
                refine WC.region ?_
                refine WL.op rfl rfl (op_assign rfl ?_)
                refine WL.nil ?_
                refine WQ.next ?_
                refine WC.ret ?_
                refine WQ.thenRet ?_
                refine WQ.out (.tmp rfl .nil) ?_
                exact ⟨by rw [lm_imm (ref_T hb2) hn13]; rfl, H11.fr⟩
              ·
                have hn13 := (Bool.not_eq_false' _).mp hb13
                refine WC.skip ?_
                refine WQ.next ?_
                refine WC.seq ?_
                refine WC.region ?_
                refine WL.op rfl rfl (op_fieldAddr rfl Fa.F65_1 ?_)
                refine WL.op rfl rfl (op_loadS (vs := [_, _, _, _, _]) rfl (H11.cells (i := 0) rfl rfl) Tryd.underlying61 rfl Fa.I61 rfl ?_)
                refine WL.op rfl rfl (op_callF Fa.C62 rfl ((check_ok x.op x.d x.a x.b 0 _).mono (fun e w14 hq => ?_)))
                obtain ⟨rfl, hf14⟩ := hq
                refine ⟨_, rfl, ?_⟩
                have H14 := H11.fr' hf14
                refine WL.op rfl rfl (op_eqlN (b := 0) rfl rfl ?_)
                refine WL.op rfl rfl (op_assign rfl ?_)
                refine WL.nil ?_
                refine WQ.next ?_
                refine WC.ret ?_
                refine WQ.out (.tmp rfl .nil) ?_
                exact ⟨by rw [lm_chk (by rw [hb3, Bool.and_false]) hn5 hn7 hn9 (ref_T hb2) hn13]; rfl, H14.fr⟩
  ·
    have hc2 := of_decide_eq_false hb2
    refine WL.no rfl rfl rfl hb2 rfl ?_
    refine WL.no rfl rfl rfl hb2 rfl ?_
    refine WL.no rfl rfl rfl hb2 rfl ?_
    refine WL.op rfl rfl (op_pickF rfl hb2 rfl ?_)
    refine WL.op rfl rfl (op_move rfl ?_)
    refine WL.yes rfl rfl rfl rfl rfl (op_fieldAddr rfl Fa.F65_0 ?_)
    refine WL.yes rfl rfl rfl rfl rfl (op_load rfl (H1.cell (i := 0) rfl rfl) Tryd.underlying9 rfl ?_)
    refine WL.yes rfl rfl rfl rfl rfl (op_callF Fa.C73 rfl ((aname_ok x.lb _ (by omega)).mono (fun e w15 hq => ?_)))
    obtain ⟨rfl, hf15⟩ := hq
    refine ⟨_, rfl, ?_⟩
    have H15 := H1.fr' hf15
    refine WL.yes rfl rfl rfl rfl rfl (op_not rfl ?_)
    refine WL.op rfl rfl (op_pickF rfl rfl rfl ?_)
    refine WL.op rfl rfl (op_move rfl ?_)
    refine WL.split (t := 22) rfl (fun (hb16 : (!(nmE x.lb)) = true) => ?_) (fun (hb16 : (!(nmE x.lb)) = false) => ?_)
    ·
      have hn16 := (Bool.not_eq_true' _).mp hb16
      refine WL.no rfl rfl rfl hb16 rfl ?_
      refine WL.no rfl rfl rfl hb16 rfl ?_
      refine WL.no rfl rfl rfl hb16 rfl ?_
      refine WL.no rfl rfl rfl hb16 rfl ?_
      refine WL.op rfl rfl (op_pickT rfl hb16 rfl ?_)
      refine WL.op rfl rfl (op_move rfl ?_)
      refine WL.no rfl rfl rfl rfl rfl ?_
      refine WL.no rfl rfl rfl rfl rfl ?_
      refine WL.no rfl rfl rfl rfl rfl ?_
      refine WL.no rfl rfl rfl rfl rfl ?_
      refine WL.op rfl rfl (op_pickT rfl rfl rfl ?_)
      refine WL.nil ?_
      refine WQ.next ?_
      refine WC.yes rfl rfl ?_
      refine WC.seq ?_
      refine WC.region ?_
      refine WL.op rfl rfl (op_assign rfl ?_)
      refine WL.nil ?_
      refine WQ.next ?_
      refine WC.ret ?_
      refine WQ.thenRet ?_
      refine WQ.out (.tmp rfl .nil) ?_
      exact ⟨by rw [lm_lb hn16]; rfl, H15.fr⟩
    ·
      have hn16 := (Bool.not_eq_false' _).mp hb16
      refine WL.yes rfl rfl rfl hb16 rfl (op_fieldAddr rfl Fa.F65_2 ?_)
      refine WL.yes rfl rfl rfl hb16 rfl (op_load rfl (H15.cell (i := 0) rfl rfl) Tryd.underlying9 rfl ?_)
      refine WL.yes rfl rfl rfl hb16 rfl (op_callF Fa.C73 rfl ((aname_ok x.to _ (by omega)).mono (fun e w17 hq => ?_)))
      obtain ⟨rfl, hf17⟩ := hq
      refine ⟨_, rfl, ?_⟩
      have H17 := H15.fr' hf17
      refine WL.yes rfl rfl rfl hb16 rfl (op_not rfl ?_)
      refine WL.op rfl rfl (op_pickF rfl hb16 rfl ?_)
      refine WL.op rfl rfl (op_move rfl ?_)
      refine WL.split (t := 28) rfl (fun (hb18 : (!(nmE x.to)) = true) => ?_) (fun (hb18 : (!(nmE x.to)) = false) => ?_)
      ·
        have hn18 := (Bool.not_eq_true' _).mp hb18
        refine WL.no rfl rfl rfl hb18 rfl ?_
        refine WL.no rfl rfl rfl hb18 rfl ?_
        refine WL.no rfl rfl rfl hb18 rfl ?_
        refine WL.no rfl rfl rfl hb18 rfl ?_
        refine WL.op rfl rfl (op_pickT rfl hb18 rfl ?_)
        refine WL.nil ?_
        refine WQ.next ?_
        refine WC.yes rfl rfl ?_
        refine WC.seq ?_
        refine WC.region ?_
        refine WL.op rfl rfl (op_assign rfl ?_)
        refine WL.nil ?_
        refine WQ.next ?_
        refine WC.ret ?_
        refine WQ.thenRet ?_
        refine WQ.out (.tmp rfl .nil) ?_
        exact ⟨by rw [lm_to hn18]; rfl, H17.fr⟩
      ·
        have hn18 := (Bool.not_eq_false' _).mp hb18
        refine WL.yes rfl rfl rfl hb18 rfl (op_fieldAddr rfl Fa.F65_3 ?_)
        refine WL.yes rfl rfl rfl hb18 rfl (op_load rfl (H17.cell (i := 0) rfl rfl) Tryd.underlying9 rfl ?_)
        refine WL.yes rfl rfl rfl hb18 rfl (op_callF Fa.C73 rfl ((aname_ok x.nm _ (by omega)).mono (fun e w19 hq => ?_)))
        obtain ⟨rfl, hf19⟩ := hq
        refine ⟨_, rfl, ?_⟩
        have H19 := H17.fr' hf19
        refine WL.yes rfl rfl rfl hb18 rfl (op_not rfl ?_)
        refine WL.op rfl rfl (op_pickF rfl hb18 rfl ?_)
        refine WL.nil ?_
        refine WQ.next ?_
        refine WC.cond rfl (fun (hb20 : (!(nmE x.nm)) = true) => ?_) (fun (hb20 : (!(nmE x.nm)) = false) => ?_)
        ·
          have hn20 := (Bool.not_eq_true' _).mp hb20
          refine WC.seq ?_
          refine WC.region ?_
          refine WL.op rfl rfl (op_assign rfl ?_)
          refine WL.nil ?_
          refine WQ.next ?_
          refine WC.ret ?_
          refine WQ.thenRet ?_
          refine WQ.out (.tmp rfl .nil) ?_
          exact ⟨by rw [lm_nm hn20]; rfl, H19.fr⟩
        ·
          have hn20 := (Bool.not_eq_false' _).mp hb20
          refine WC.skip ?_
          refine WQ.next ?_
          refine WC.seq ?_
          refine WC.seq ?_
          refine WC.region ?_
          refine WL.op rfl rfl (op_fieldAddr rfl Fa.F65_2 ?_)
          refine WL.op rfl rfl (op_load rfl (H19.cell (i := 0) rfl rfl) Tryd.underlying9 rfl ?_)
          refine WL.op rfl rfl (op_fieldAddr rfl Fa.F65_3 ?_)
          refine WL.op rfl rfl (op_load rfl (H19.cell (i := 0) rfl rfl) Tryd.underlying9 rfl ?_)
          refine WL.op rfl rfl (op_addStr rfl rfl (by first | omega | (rw [List.length_append]; omega) | (simp; omega)) ?_)
          refine WL.op rfl rfl (op_neqStr rfl rfl ?_)
          refine WL.nil ?_
          refine WQ.next ?_
          refine WC.cond rfl (fun (hb21 : (decide ((x.to ++ x.nm) ≠ [])) = true) => ?_) (fun (hb21 : (decide ((x.to ++ x.nm) ≠ [])) = false) => ?_)
          ·
            have hc21 := of_decide_eq_true hb21
            refine WC.seq ?_
            refine WC.region ?_
            refine WL.op rfl rfl (op_fieldAddr rfl Fa.F65_1 ?_)
            refine WL.op rfl rfl (op_fieldAddr rfl Fa.F61_0 ?_)
            refine WL.op rfl rfl (op_load rfl (H19.cell (i := 0) rfl rfl) Tryd.underlying5 rfl ?_)
            refine WL.op rfl rfl (op_callF Fa.C74 rfl ((uses_ok x.op _).mono (fun e w22 hq => ?_)))
            obtain ⟨rfl, hf22⟩ := hq
            refine ⟨_, rfl, ?_⟩
            have H22 := H19.fr' hf22
            refine WL.op rfl rfl (op_move rfl ?_)
            refine WL.op rfl rfl (op_extract rfl rfl ?_)
            refine WL.op rfl rfl (op_extract rfl rfl ?_)
            refine WL.op rfl rfl (op_extract rfl rfl ?_)
            refine WL.op rfl rfl (op_extract rfl rfl ?_)
            refine WL.op rfl rfl (op_extract rfl rfl ?_)
            refine WL.op rfl rfl (op_assign rfl ?_)
            refine WL.op rfl rfl (op_assign rfl ?_)
            refine WL.op rfl rfl (op_assign rfl ?_)
            refine WL.op rfl rfl (op_assign rfl ?_)
            refine WL.op rfl rfl (op_assign rfl ?_)
            refine WL.nil ?_
            refine WQ.next ?_
            refine WC.seq ?_
            refine WC.region ?_
            refine WL.op rfl rfl (op_fieldAddr rfl Fa.F65_1 ?_)
            refine WL.op rfl rfl (op_fieldAddr rfl Fa.F61_4 ?_)
            refine WL.op rfl rfl (op_storeB (i := 0) H22 rfl rfl rfl rfl rfl Fa.I22 (fun w23 H23 => ?_))
            refine WL.nil ?_
            refine WQ.next ?_
            refine WC.seq ?_
            refine WC.region ?_
            refine WL.op rfl rfl (op_move rfl ?_)
            refine WL.op rfl rfl (op_neqN (b := 0) rfl rfl ?_)
            refine WL.op rfl rfl (op_move rfl ?_)
            refine WL.split (t := 54) rfl (fun (hb24 : (decide ((useE x.op) ≠ 0)) = true) => ?_) (fun (hb24 : (decide ((useE x.op) ≠ 0)) = false) => ?_)
            ·
              have hc24 := of_decide_eq_true hb24
              refine WL.no rfl rfl rfl hb24 rfl ?_
              refine WL.no rfl rfl rfl hb24 rfl ?_
              refine WL.op rfl rfl (op_pickT rfl hb24 rfl ?_)
              refine WL.nil ?_
              refine WQ.next ?_
              refine WC.yes rfl rfl ?_
              refine WC.seq ?_
              refine WC.region ?_
              refine WL.op rfl rfl (op_assign rfl ?_)
              refine WL.nil ?_
              refine WQ.next ?_
              refine WC.ret ?_
              refine WQ.thenRet ?_
              refine WQ.out (.tmp rfl .nil) ?_
              exact ⟨by rw [lm_use ((ref_app x).symm.trans hb21) hb24]; rfl, H23.fr⟩
            ·
              have hc24 := of_decide_eq_false hb24
              refine WL.yes rfl rfl rfl hb24 rfl (op_move rfl ?_)
              refine WL.yes rfl rfl rfl hb24 rfl (op_not rfl ?_)
              refine WL.op rfl rfl (op_pickF rfl hb24 rfl ?_)
              refine WL.nil ?_
              refine WQ.next ?_
              refine WC.cond rfl (fun (hb25 : (!(ub x.op 8)) = true) => ?_) (fun (hb25 : (!(ub x.op 8)) = false) => ?_)
              ·
                have hn25 := (Bool.not_eq_true' _).mp hb25
                refine WC.seq ?_
                refine WC.region ?_
                refine WL.op rfl rfl (op_assign rfl ?_)
                refine WL.nil ?_
                refine WQ.next ?_
                refine WC.ret ?_
                refine WQ.thenRet ?_
                refine WQ.out (.tmp rfl .nil) ?_
                exact ⟨by rw [lm_imm ((ref_app x).symm.trans hb21) hn25]; rfl, H23.fr⟩
              ·
                have hn25 := (Bool.not_eq_false' _).mp hb25
                refine WC.skip ?_
                refine WQ.next ?_
                refine WC.seq ?_
                refine WC.region ?_
                refine WL.op rfl rfl (op_fieldAddr rfl Fa.F65_1 ?_)
                refine WL.op rfl rfl (op_loadS (vs := [_, _, _, _, _]) rfl (H23.cells (i := 0) rfl rfl) Tryd.underlying61 rfl Fa.I61 rfl ?_)
                refine WL.op rfl rfl (op_callF Fa.C62 rfl ((check_ok x.op x.d x.a x.b 0 _).mono (fun e w26 hq => ?_)))
                obtain ⟨rfl, hf26⟩ := hq
                refine ⟨_, rfl, ?_⟩
                have H26 := H23.fr' hf26
                refine WL.op rfl rfl (op_eqlN (b := 0) rfl rfl ?_)
                refine WL.op rfl rfl (op_assign rfl ?_)
                refine WL.nil ?_
                refine WQ.next ?_
                refine WC.ret ?_
                refine WQ.out (.tmp rfl .nil) ?_
                exact ⟨by rw [lm_chk (by rw [hb2]; rfl) hn16 hn18 hn20 ((ref_app x).symm.trans hb21) hn25]; rfl, H26.fr⟩
          ·
            have hc21 := of_decide_eq_false hb21
            refine WC.skip ?_
            refine WQ.next ?_
            refine WC.seq ?_
            refine WC.region ?_
            refine WL.op rfl rfl (op_fieldAddr rfl Fa.F65_1 ?_)
            refine WL.op rfl rfl (op_loadS (vs := [_, _, _, _, _]) rfl (H19.cells (i := 0) rfl rfl) Tryd.underlying61 rfl Fa.I61 rfl ?_)
            refine WL.op rfl rfl (op_callF Fa.C62 rfl ((check_ok x.op x.d x.a x.b x.imm _).mono (fun e w27 hq => ?_)))
            obtain ⟨rfl, hf27⟩ := hq
            refine ⟨_, rfl, ?_⟩
            have H27 := H19.fr' hf27
            refine WL.op rfl rfl (op_eqlN (b := 0) rfl rfl ?_)
            refine WL.op rfl rfl (op_assign rfl ?_)
            refine WL.nil ?_
            refine WQ.next ?_
            refine WC.ret ?_
            refine WQ.out (.tmp rfl .nil) ?_
            exact ⟨by rw [lm_plain (by rw [hb2]; rfl) hn16 hn18 hn20 ((ref_app x).symm.trans hb21)]; rfl, H27.fr⟩
set_option maxRecDepth 100000 in
theorem lnbad_ok (x : Ln) (w : World) (hx : x.lb.length < 2 ^ 47 ∧ x.to.length < 2 ^ 47 ∧ x.nm.length < 2 ^ 47) :
    Calls Tryd.prog 49 #[(.agg #[(str x.lb), (vU8 x.op), (vU8 x.d), (vU8 x.a), (vU8 x.b), (vU32 x.imm), (str x.to), (str x.nm)])] w (fun e w' => e = .returned (.bool (!lnMay x)) ∧ Fr [] w w') := by
  refine enter (args := [(.agg #[(str x.lb), (vU8 x.op), (vU8 x.d), (vU8 x.a), (vU8 x.b), (vU32 x.imm), (str x.to), (str x.nm)])]) Tryd.func49 rfl rfl ?_
  have H0 : Own [] w w [] := Own.start w []
  refine WC.seq ?_
  refine WC.region ?_
  refine WL.op rfl rfl (op_box H0 rfl rfl (fun b1 w1 H1 => ?_))
  refine WL.op rfl rfl (op_assign rfl ?_)
  refine WL.nil ?_
  refine WQ.next ?_
  refine WC.seq ?_
  refine WC.region ?_
  refine WL.op rfl rfl (op_loadS (vs := [_, _, _, _, _, _, _, _]) rfl (H1.cells (i := 0) rfl rfl) Tryd.underlying65 rfl Fa.I65 rfl ?_)
  refine WL.op rfl rfl (op_callF Fa.C50 rfl ((amay_ok x _ hx).mono (fun e w2 hq => ?_)))
  obtain ⟨rfl, hf2⟩ := hq
  refine ⟨_, rfl, ?_⟩
  have H2 := H1.fr' hf2
  refine WL.op rfl rfl (op_not rfl ?_)
  refine WL.op rfl rfl (op_assign rfl ?_)
  refine WL.nil ?_
  refine WQ.next ?_
  refine WC.ret ?_
  refine WQ.out (.tmp rfl .nil) ?_
  exact ⟨rfl, H2.fr⟩
set_option maxRecDepth 100000 in
theorem bare_ok (x : Ln) (w : World) :
    Calls Tryd.prog 57 #[(.agg #[(str x.lb), (vU8 x.op), (vU8 x.d), (vU8 x.a), (vU8 x.b), (vU32 x.imm), (str x.to), (str x.nm)])] w (fun e w' => e = .returned (.agg #[vU8 x.op, vU8 x.d, vU8 x.a, vU8 x.b, vU32 (bareI x)]) ∧ Fr [] w w') := by
  refine enter (args := [(.agg #[(str x.lb), (vU8 x.op), (vU8 x.d), (vU8 x.a), (vU8 x.b), (vU32 x.imm), (str x.to), (str x.nm)])]) Tryd.func57 rfl rfl ?_
  have H0 : Own [] w w [] := Own.start w []
  refine WC.seq ?_
  refine WC.region ?_
  refine WL.op rfl rfl (op_box H0 rfl rfl (fun b1 w1 H1 => ?_))
  refine WL.op rfl rfl (op_alloc H1 Fa.I61 (fun b2 w2 H2 => ?_))
  refine WL.nil ?_
  refine WQ.next ?_
  refine WC.seq ?_
  refine WC.region ?_
  refine WL.op rfl rfl (op_fieldAddr rfl Fa.F65_1 ?_)
  refine WL.op rfl rfl (op_loadS (vs := [_, _, _, _, _]) rfl (H2.cells (i := 0) rfl rfl) Tryd.underlying61 rfl Fa.I61 rfl ?_)
  refine WL.op rfl rfl (op_alloc H2 Fa.I61 (fun b3 w3 H3 => ?_))
  refine WL.op rfl rfl (op_storeBW (i := 2) H3 rfl rfl rfl rfl rfl Fa.I61 (fun w4 H4 => ?_))
  refine WL.nil ?_
  refine WQ.next ?_
  refine WC.seq ?_
  refine WC.seq ?_
  refine WC.region ?_
  refine WL.op rfl rfl (op_fieldAddr rfl Fa.F65_2 ?_)
  refine WL.op rfl rfl (op_load rfl (H4.cell (i := 0) rfl rfl) Tryd.underlying9 rfl ?_)
  refine WL.op rfl rfl (op_neqStr rfl rfl ?_)
  refine WL.op rfl rfl (op_move rfl ?_)
  refine WL.split (t := 9) rfl (fun (hb5 : (decide (x.to ≠ [])) = true) => ?_) (fun (hb5 : (decide (x.to ≠ [])) = false) => ?_)
  ·
    have hc5 := of_decide_eq_true hb5
    refine WL.no rfl rfl rfl hb5 rfl ?_
    refine WL.no rfl rfl rfl hb5 rfl ?_
    refine WL.no rfl rfl rfl hb5 rfl ?_
    refine WL.op rfl rfl (op_pickT rfl hb5 rfl ?_)
    refine WL.nil ?_
    refine WQ.next ?_
    refine WC.yes rfl rfl ?_
    refine WC.region ?_
    refine WL.op rfl rfl (op_fieldAddr rfl Fa.F61_4 ?_)
    refine WL.op rfl rfl (op_storeB (i := 2) H4 rfl rfl rfl rfl rfl Fa.I22 (fun w6 H6 => ?_))
    refine WL.nil ?_
    refine WQ.next ?_
    refine WC.seq ?_
    refine WC.region ?_
    refine WL.op rfl rfl (op_loadS (vs := [_, _, _, _, _]) rfl (H6.cells (i := 2) rfl rfl) Tryd.underlying61 rfl Fa.I61 rfl ?_)
    refine WL.op rfl rfl (op_storeBW (i := 1) H6 rfl rfl rfl rfl rfl Fa.I61 (fun w7 H7 => ?_))
    refine WL.nil ?_
    refine WQ.next ?_
    refine WC.ret ?_
    refine WQ.out (.cell rfl (run_loadVarS (vs := [_, _, _, _, _]) (H7.cells (i := 1) rfl rfl) Tryd.underlying61 rfl Fa.I61 rfl) .nil) ?_
    exact ⟨by (rw [bareI, ref_T hb5]) <;> rfl, H7.fr⟩
  ·
    have hc5 := of_decide_eq_false hb5
    refine WL.yes rfl rfl rfl hb5 rfl (op_fieldAddr rfl Fa.F65_3 ?_)
    refine WL.yes rfl rfl rfl hb5 rfl (op_load rfl (H4.cell (i := 0) rfl rfl) Tryd.underlying9 rfl ?_)
    refine WL.yes rfl rfl rfl hb5 rfl (op_neqStr rfl rfl ?_)
    refine WL.op rfl rfl (op_pickF rfl hb5 rfl ?_)
    refine WL.nil ?_
    refine WQ.next ?_
    refine WC.cond rfl (fun (hb8 : (decide (x.nm ≠ [])) = true) => ?_) (fun (hb8 : (decide (x.nm ≠ [])) = false) => ?_)
    ·
      have hc8 := of_decide_eq_true hb8
      refine WC.region ?_
      refine WL.op rfl rfl (op_fieldAddr rfl Fa.F61_4 ?_)
      refine WL.op rfl rfl (op_storeB (i := 2) H4 rfl rfl rfl rfl rfl Fa.I22 (fun w9 H9 => ?_))
      refine WL.nil ?_
      refine WQ.next ?_
      refine WC.seq ?_
      refine WC.region ?_
      refine WL.op rfl rfl (op_loadS (vs := [_, _, _, _, _]) rfl (H9.cells (i := 2) rfl rfl) Tryd.underlying61 rfl Fa.I61 rfl ?_)
      refine WL.op rfl rfl (op_storeBW (i := 1) H9 rfl rfl rfl rfl rfl Fa.I61 (fun w10 H10 => ?_))
      refine WL.nil ?_
      refine WQ.next ?_
      refine WC.ret ?_
      refine WQ.out (.cell rfl (run_loadVarS (vs := [_, _, _, _, _]) (H10.cells (i := 1) rfl rfl) Tryd.underlying61 rfl Fa.I61 rfl) .nil) ?_
      exact ⟨by (rw [bareI, ref_N hb8]) <;> rfl, H10.fr⟩
    ·
      have hc8 := of_decide_eq_false hb8
      refine WC.skip ?_
      refine WQ.next ?_
      refine WC.seq ?_
      refine WC.region ?_
      refine WL.op rfl rfl (op_loadS (vs := [_, _, _, _, _]) rfl (H4.cells (i := 2) rfl rfl) Tryd.underlying61 rfl Fa.I61 rfl ?_)
      refine WL.op rfl rfl (op_storeBW (i := 1) H4 rfl rfl rfl rfl rfl Fa.I61 (fun w11 H11 => ?_))
      refine WL.nil ?_
      refine WQ.next ?_
      refine WC.ret ?_
      refine WQ.out (.cell rfl (run_loadVarS (vs := [_, _, _, _, _]) (H11.cells (i := 1) rfl rfl) Tryd.underlying61 rfl Fa.I61 rfl) .nil) ?_
      exact ⟨by (rw [bareI, refB, hb5, hb8]) <;> rfl, H11.fr⟩
set_option maxRecDepth 100000 in
theorem rmay10_ok (x : Ln) (w : World) (hx : x.lb.length < 2 ^ 47 ∧ x.to.length < 2 ^ 47 ∧ x.nm.length < 2 ^ 47) :
    Calls Tryd.prog 54 #[(.agg #[(str x.lb), (vU8 x.op), (vU8 x.d), (vU8 x.a), (vU8 x.b), (vU32 x.imm), (str x.to), (str x.nm)])] w (fun e w' => e = .returned (.bool (lnMay x)) ∧ Fr [] w w') := by
  refine enter (args := [(.agg #[(str x.lb), (vU8 x.op), (vU8 x.d), (vU8 x.a), (vU8 x.b), (vU32 x.imm), (str x.to), (str x.nm)])]) Tryd.func54 rfl rfl ?_
  have H0 : Own [] w w [] := Own.start w []
  refine WC.seq ?_
  refine WC.region ?_
  refine WL.op rfl rfl (op_box H0 rfl rfl (fun b1 w1 H1 => ?_))
  refine WL.op rfl rfl (op_assign rfl ?_)
  refine WL.nil ?_
  refine WQ.next ?_
  refine WC.seq ?_
  refine WC.region ?_
  refine WL.op rfl rfl (op_loadS (vs := [_, _, _, _, _, _, _, _]) rfl (H1.cells (i := 0) rfl rfl) Tryd.underlying65 rfl Fa.I65 rfl ?_)
  refine WL.op rfl rfl (op_callF Fa.C57 rfl ((bare_ok x _).mono (fun e w2 hq => ?_)))
  obtain ⟨rfl, hf2⟩ := hq
  refine ⟨_, rfl, ?_⟩
  have H2 := H1.fr' hf2
  refine WL.op rfl rfl (op_callF Fa.C56 rfl ((rEncode_ok x.op x.d x.a x.b (bareI x) _).mono (fun e w3 hq => ?_)))
  obtain ⟨rfl, hf3⟩ := hq
  refine ⟨_, rfl, ?_⟩
  have H3 := H2.fr' hf3
  refine WL.op rfl rfl (op_move rfl ?_)
  refine WL.op rfl rfl (op_extract rfl rfl ?_)
  refine WL.op rfl rfl (op_extract rfl rfl ?_)
  refine WL.op rfl rfl (op_assign rfl ?_)
  refine WL.op rfl rfl (op_assign rfl ?_)
  refine WL.nil ?_
  refine WQ.next ?_
  refine WC.seq ?_
  refine WC.seq ?_
  refine WC.region ?_
  refine WL.op rfl rfl (op_move rfl ?_)
  refine WL.op rfl rfl (op_neqN (b := 0) rfl rfl ?_)
  refine WL.op rfl rfl (op_move rfl ?_)
  refine WL.split (t := 14) rfl (fun (hb4 : (decide ((encE x.op x.d x.a x.b (bareI x)) ≠ 0)) = true) => ?_) (fun (hb4 : (decide ((encE x.op x.d x.a x.b (bareI x)) ≠ 0)) = false) => ?_)
  ·
    have hc4 := of_decide_eq_true hb4
    refine WL.no rfl rfl rfl hb4 rfl ?_
    refine WL.no rfl rfl rfl hb4 rfl ?_
    refine WL.no rfl rfl rfl hb4 rfl ?_
    refine WL.no rfl rfl rfl hb4 rfl ?_
    refine WL.op rfl rfl (op_pickT rfl hb4 rfl ?_)
    refine WL.op rfl rfl (op_move rfl ?_)
    refine WL.no rfl rfl rfl rfl rfl ?_
    refine WL.no rfl rfl rfl rfl rfl ?_
    refine WL.no rfl rfl rfl rfl rfl ?_
    refine WL.no rfl rfl rfl rfl rfl ?_
    refine WL.op rfl rfl (op_pickT rfl rfl rfl ?_)
    refine WL.op rfl rfl (op_move rfl ?_)
    refine WL.no rfl rfl rfl rfl rfl ?_
    refine WL.no rfl rfl rfl rfl rfl ?_
    refine WL.no rfl rfl rfl rfl rfl ?_
    refine WL.no rfl rfl rfl rfl rfl ?_
    refine WL.op rfl rfl (op_pickT rfl rfl rfl ?_)
    refine WL.op rfl rfl (op_move rfl ?_)
    refine WL.no rfl rfl rfl rfl rfl ?_
    refine WL.no rfl rfl rfl rfl rfl ?_
    refine WL.no rfl rfl rfl rfl rfl ?_
    refine WL.no rfl rfl rfl rfl rfl ?_
    refine WL.non rfl rfl rfl rfl ?_
    refine WL.non rfl rfl rfl rfl ?_
    refine WL.non rfl rfl rfl rfl ?_
    refine WL.no rfl rfl rfl rfl rfl ?_
    refine WL.op rfl rfl (op_pickT rfl rfl rfl ?_)
    refine WL.nil ?_
    refine WQ.next ?_
    refine WC.yes rfl rfl ?_
    refine WC.seq ?_
    refine WC.region ?_
    refine WL.op rfl rfl (op_assign rfl ?_)
    refine WL.nil ?_
    refine WQ.next ?_
    refine WC.ret ?_
    refine WQ.thenRet ?_
    refine WQ.out (.tmp rfl .nil) ?_
    exact ⟨by rw [lm_enc (of_decide_eq_true hb4)]; rfl, H3.fr⟩
  ·
    have hc4 := of_decide_eq_false hb4
    refine WL.yes rfl rfl rfl hb4 rfl (op_fieldAddr rfl Fa.F65_0 ?_)
    refine WL.yes rfl rfl rfl hb4 rfl (op_load rfl (H3.cell (i := 0) rfl rfl) Tryd.underlying9 rfl ?_)
    refine WL.yes rfl rfl rfl hb4 rfl (op_callF Fa.C77 rfl ((rname10_ok x.lb _ (by omega)).mono (fun e w5 hq => ?_)))
    obtain ⟨rfl, hf5⟩ := hq
    refine ⟨_, rfl, ?_⟩
    have H5 := H3.fr' hf5
    refine WL.yes rfl rfl rfl hb4 rfl (op_not rfl ?_)
    refine WL.op rfl rfl (op_pickF rfl hb4 rfl ?_)
    refine WL.op rfl rfl (op_move rfl ?_)
    refine WL.split (t := 20) rfl (fun (hb6 : (!(nmE x.lb)) = true) => ?_) (fun (hb6 : (!(nmE x.lb)) = false) => ?_)
    ·
      have hn6 := (Bool.not_eq_true' _).mp hb6
      refine WL.no rfl rfl rfl hb6 rfl ?_
      refine WL.no rfl rfl rfl hb6 rfl ?_
      refine WL.no rfl rfl rfl hb6 rfl ?_
      refine WL.no rfl rfl rfl hb6 rfl ?_
      refine WL.op rfl rfl (op_pickT rfl hb6 rfl ?_)
      refine WL.op rfl rfl (op_move rfl ?_)
      refine WL.no rfl rfl rfl rfl rfl ?_
      refine WL.no rfl rfl rfl rfl rfl ?_
      refine WL.no rfl rfl rfl rfl rfl ?_
      refine WL.no rfl rfl rfl rfl rfl ?_
      refine WL.op rfl rfl (op_pickT rfl rfl rfl ?_)
      refine WL.op rfl rfl (op_move rfl ?_)
      refine WL.no rfl rfl rfl rfl rfl ?_
      refine WL.no rfl rfl rfl rfl rfl ?_
      refine WL.no rfl rfl rfl rfl rfl ?_
      refine WL.no rfl rfl rfl rfl rfl ?_
      refine WL.non rfl rfl rfl rfl ?_
      refine WL.non rfl rfl rfl rfl ?_
      refine WL.non rfl rfl rfl rfl ?_
      refine WL.no rfl rfl rfl rfl rfl ?_
      refine WL.op rfl rfl (op_pickT rfl rfl rfl ?_)
      refine WL.nil ?_
      refine WQ.next ?_
      refine WC.yes rfl rfl ?_
      refine WC.seq ?_
      refine WC.region ?_
      refine WL.op rfl rfl (op_assign rfl ?_)
      refine WL.nil ?_
      refine WQ.next ?_
      refine WC.ret ?_
      refine WQ.thenRet ?_
      refine WQ.out (.tmp rfl .nil) ?_
      exact ⟨by rw [lm_lb hn6]; rfl, H5.fr⟩
    ·
      have hn6 := (Bool.not_eq_false' _).mp hb6
      refine WL.yes rfl rfl rfl hb6 rfl (op_fieldAddr rfl Fa.F65_2 ?_)
      refine WL.yes rfl rfl rfl hb6 rfl (op_load rfl (H5.cell (i := 0) rfl rfl) Tryd.underlying9 rfl ?_)
      refine WL.yes rfl rfl rfl hb6 rfl (op_callF Fa.C77 rfl ((rname10_ok x.to _ (by omega)).mono (fun e w7 hq => ?_)))
      obtain ⟨rfl, hf7⟩ := hq
      refine ⟨_, rfl, ?_⟩
      have H7 := H5.fr' hf7
      refine WL.yes rfl rfl rfl hb6 rfl (op_not rfl ?_)
      refine WL.op rfl rfl (op_pickF rfl hb6 rfl ?_)
      refine WL.op rfl rfl (op_move rfl ?_)
      refine WL.split (t := 26) rfl (fun (hb8 : (!(nmE x.to)) = true) => ?_) (fun (hb8 : (!(nmE x.to)) = false) => ?_)
      ·
        have hn8 := (Bool.not_eq_true' _).mp hb8
        refine WL.no rfl rfl rfl hb8 rfl ?_
        refine WL.no rfl rfl rfl hb8 rfl ?_
        refine WL.no rfl rfl rfl hb8 rfl ?_
        refine WL.no rfl rfl rfl hb8 rfl ?_
        refine WL.op rfl rfl (op_pickT rfl hb8 rfl ?_)
        refine WL.op rfl rfl (op_move rfl ?_)
        refine WL.no rfl rfl rfl rfl rfl ?_
        refine WL.no rfl rfl rfl rfl rfl ?_
        refine WL.no rfl rfl rfl rfl rfl ?_
        refine WL.no rfl rfl rfl rfl rfl ?_
        refine WL.non rfl rfl rfl rfl ?_
        refine WL.non rfl rfl rfl rfl ?_
        refine WL.non rfl rfl rfl rfl ?_
        refine WL.no rfl rfl rfl rfl rfl ?_
        refine WL.op rfl rfl (op_pickT rfl rfl rfl ?_)
        refine WL.nil ?_
        refine WQ.next ?_
        refine WC.yes rfl rfl ?_
        refine WC.seq ?_
        refine WC.region ?_
        refine WL.op rfl rfl (op_assign rfl ?_)
        refine WL.nil ?_
        refine WQ.next ?_
        refine WC.ret ?_
        refine WQ.thenRet ?_
        refine WQ.out (.tmp rfl .nil) ?_
        exact ⟨by rw [lm_to hn8]; rfl, H7.fr⟩
      ·
        have hn8 := (Bool.not_eq_false' _).mp hb8
        refine WL.yes rfl rfl rfl hb8 rfl (op_fieldAddr rfl Fa.F65_3 ?_)
        refine WL.yes rfl rfl rfl hb8 rfl (op_load rfl (H7.cell (i := 0) rfl rfl) Tryd.underlying9 rfl ?_)
        refine WL.yes rfl rfl rfl hb8 rfl (op_callF Fa.C77 rfl ((rname10_ok x.nm _ (by omega)).mono (fun e w9 hq => ?_)))
        obtain ⟨rfl, hf9⟩ := hq
        refine ⟨_, rfl, ?_⟩
        have H9 := H7.fr' hf9
        refine WL.yes rfl rfl rfl hb8 rfl (op_not rfl ?_)
        refine WL.op rfl rfl (op_pickF rfl hb8 rfl ?_)
        refine WL.op rfl rfl (op_move rfl ?_)
        refine WL.split (t := 32) rfl (fun (hb10 : (!(nmE x.nm)) = true) => ?_) (fun (hb10 : (!(nmE x.nm)) = false) => ?_)
        ·
          have hn10 := (Bool.not_eq_true' _).mp hb10
          refine WL.no rfl rfl rfl hb10 rfl ?_
          refine WL.no rfl rfl rfl hb10 rfl ?_
          refine WL.no rfl rfl rfl hb10 rfl ?_
          refine WL.no rfl rfl rfl hb10 rfl ?_
          refine WL.non rfl rfl rfl rfl ?_
          refine WL.non rfl rfl rfl rfl ?_
          refine WL.non rfl rfl rfl rfl ?_
          refine WL.no rfl rfl rfl hb10 rfl ?_
          refine WL.op rfl rfl (op_pickT rfl hb10 rfl ?_)
          refine WL.nil ?_
          refine WQ.next ?_
          refine WC.yes rfl rfl ?_
          refine WC.seq ?_
          refine WC.region ?_
          refine WL.op rfl rfl (op_assign rfl ?_)
          refine WL.nil ?_
          refine WQ.next ?_
          refine WC.ret ?_
          refine WQ.thenRet ?_
          refine WQ.out (.tmp rfl .nil) ?_
          exact ⟨by rw [lm_nm hn10]; rfl, H9.fr⟩
        ·
          have hn10 := (Bool.not_eq_false' _).mp hb10
          refine WL.yes rfl rfl rfl hb10 rfl (op_fieldAddr rfl Fa.F65_2 ?_)
          refine WL.yes rfl rfl rfl hb10 rfl (op_load rfl (H9.cell (i := 0) rfl rfl) Tryd.underlying9 rfl ?_)
          refine WL.yes rfl rfl rfl hb10 rfl (op_neqStr rfl rfl ?_)
          refine WL.yes rfl rfl rfl hb10 rfl (op_move rfl ?_)
          refine WL.split (t := 36) rfl (fun (hb11 : (decide (x.to ≠ [])) = true) => ?_) (fun (hb11 : (decide (x.to ≠ [])) = false) => ?_)
          ·
            have hc11 := of_decide_eq_true hb11
            refine WL.yes rfl rfl rfl hb11 rfl (op_fieldAddr rfl Fa.F65_3 ?_)
            refine WL.yes rfl rfl rfl hb11 rfl (op_load rfl (H9.cell (i := 0) rfl rfl) Tryd.underlying9 rfl ?_)
            refine WL.yes rfl rfl rfl hb11 rfl (op_neqStr rfl rfl ?_)
            refine WL.yes rfl rfl rfl hb10 rfl (op_pickT rfl hb11 rfl ?_)
            refine WL.op rfl rfl (op_pickF rfl hb10 rfl ?_)
            refine WL.nil ?_
            refine WQ.next ?_
            refine WC.cond rfl (fun (hb12 : (decide (x.nm ≠ [])) = true) => ?_) (fun (hb12 : (decide (x.nm ≠ [])) = false) => ?_)
            ·
              have hc12 := of_decide_eq_true hb12
              refine WC.seq ?_
              refine WC.region ?_
              refine WL.op rfl rfl (op_assign rfl ?_)
              refine WL.nil ?_
              refine WQ.next ?_
              refine WC.ret ?_
              refine WQ.thenRet ?_
              refine WQ.out (.tmp rfl .nil) ?_
              exact ⟨by rw [lm_both hb11 hb12]; rfl, H9.fr⟩
            ·
              have hc12 := of_decide_eq_false hb12
              refine WC.skip ?_
              refine WQ.next ?_
              refine WC.seq ?_
              refine WC.seq ?_
              refine WC.region ?_
              refine WL.op rfl rfl (op_fieldAddr rfl Fa.F65_2 ?_)
              refine WL.op rfl rfl (op_load rfl (H9.cell (i := 0) rfl rfl) Tryd.underlying9 rfl ?_)
              refine WL.op rfl rfl (op_eqlStr rfl rfl ?_)
              refine WL.op rfl rfl (op_move rfl ?_)
              refine WL.no rfl rfl rfl (by (rw [eq_nil, hb11]) <;> rfl) rfl ?_
              refine WL.no rfl rfl rfl (by (rw [eq_nil, hb11]) <;> rfl) rfl ?_
              refine WL.no rfl rfl rfl (by (rw [eq_nil, hb11]) <;> rfl) rfl ?_
              refine WL.op rfl rfl (op_pickF rfl (by (rw [eq_nil, hb11]) <;> rfl) rfl ?_)
              refine WL.nil ?_
              refine WQ.next ?_
              refine WC.no rfl rfl ?_
              refine WC.skip ?_
              refine WQ.next ?_
              refine WC.seq ?_
              refine WC.region ?_
              refine WL.op rfl rfl (op_loadS (vs := [_, _, _, _, _, _, _, _]) rfl (H9.cells (i := 0) rfl rfl) Tryd.underlying65 rfl Fa.I65 rfl ?_)
              refine WL.op rfl rfl (op_callF Fa.C57 rfl ((bare_ok x _).mono (fun e w13 hq => ?_)))
              obtain ⟨rfl, hf13⟩ := hq
              refine ⟨_, rfl, ?_⟩
              have H13 := H9.fr' hf13
              refine WL.op rfl rfl (op_alloc H13 Fa.I61 (fun b14 w14 H14 => ?_))
              refine WL.op rfl rfl (op_storeBW (i := 1) H14 rfl rfl rfl rfl rfl Fa.I61 (fun w15 H15 => ?_))
              refine WL.nil ?_
              refine WQ.next ?_
              refine WC.seq ?_
              refine WC.region ?_
              refine WL.op rfl rfl (op_fieldAddr rfl Fa.F61_4 ?_)
              refine WL.op rfl rfl (op_storeB (i := 1) H15 rfl rfl rfl rfl rfl Fa.I22 (fun w16 H16 => ?_))
              refine WL.nil ?_
              refine WQ.next ?_
              refine WC.seq ?_
              refine WC.region ?_
              refine WL.op rfl rfl (op_loadS (vs := [_, _, _, _, _]) rfl (H16.cells (i := 1) rfl rfl) Tryd.underlying61 rfl Fa.I61 rfl ?_)
              refine WL.op rfl rfl (op_callF Fa.C56 rfl ((rEncode_ok x.op x.d x.a x.b 4 _).mono (fun e w17 hq => ?_)))
              obtain ⟨rfl, hf17⟩ := hq
              refine ⟨_, rfl, ?_⟩
              have H17 := H16.fr' hf17
              refine WL.op rfl rfl (op_move rfl ?_)
              refine WL.op rfl rfl (op_extract rfl rfl ?_)
              refine WL.op rfl rfl (op_extract rfl rfl ?_)
              refine WL.op rfl rfl (op_assign rfl ?_)
              refine WL.nil ?_
              refine WQ.next ?_
              refine WC.seq ?_
              refine WC.region ?_
              refine WL.op rfl rfl (op_move rfl ?_)
              refine WL.op rfl rfl (op_eqlN (b := 0) rfl rfl ?_)
              refine WL.op rfl rfl (op_assign rfl ?_)
              refine WL.nil ?_
              refine WQ.next ?_
              refine WC.ret ?_
              refine WQ.out (.tmp rfl .nil) ?_
              exact ⟨by rw [lm_ref (by rw [hb12, Bool.and_false]) hn6 hn8 hn10 (ref_T hb11) (Decidable.not_not.mp (of_decide_eq_false hb4))]; rfl, H17.fr⟩
          ·
            have hc11 := of_decide_eq_false hb11
            refine WL.no rfl rfl rfl hb11 rfl ?_
            refine WL.no rfl rfl rfl hb11 rfl ?_
            refine WL.no rfl rfl rfl hb11 rfl ?_
            refine WL.yes rfl rfl rfl hb10 rfl (op_pickF rfl hb11 rfl ?_)
            refine WL.op rfl rfl (op_pickF rfl hb10 rfl ?_)
            refine WL.nil ?_
            refine WQ.next ?_
            refine WC.no rfl rfl ?_
            refine WC.skip ?_
            refine WQ.next ?_
            refine WC.seq ?_
            refine WC.seq ?_
            refine WC.region ?_
            refine WL.op rfl rfl (op_fieldAddr rfl Fa.F65_2 ?_)
            refine WL.op rfl rfl (op_load rfl (H9.cell (i := 0) rfl rfl) Tryd.underlying9 rfl ?_)
            refine WL.op rfl rfl (op_eqlStr rfl rfl ?_)
            refine WL.op rfl rfl (op_move rfl ?_)
            refine WL.yes rfl rfl rfl (by (rw [eq_nil, hb11]) <;> rfl) rfl (op_fieldAddr rfl Fa.F65_3 ?_)
            refine WL.yes rfl rfl rfl (by (rw [eq_nil, hb11]) <;> rfl) rfl (op_load rfl (H9.cell (i := 0) rfl rfl) Tryd.underlying9 rfl ?_)
            refine WL.yes rfl rfl rfl (by (rw [eq_nil, hb11]) <;> rfl) rfl (op_eqlStr rfl rfl ?_)
            refine WL.op rfl rfl (op_pickT rfl (by (rw [eq_nil, hb11]) <;> rfl) rfl ?_)
            refine WL.nil ?_
            refine WQ.next ?_
            refine WC.cond rfl (fun (hb18 : (decide (x.nm = [])) = true) => ?_) (fun (hb18 : (decide (x.nm = [])) = false) => ?_)
            ·
              have hc18 := of_decide_eq_true hb18
              refine WC.seq ?_
              refine WC.region ?_
              refine WL.op rfl rfl (op_assign rfl ?_)
              refine WL.nil ?_
              refine WQ.next ?_
              refine WC.ret ?_
              refine WQ.thenRet ?_
              refine WQ.out (.tmp rfl .nil) ?_
              exact ⟨by rw [lm_none (by rw [hb11]; rfl) hn6 hn8 hn10 (by rw [refB, hb11, Bool.false_or]; exact decide_eq_false (fun h => h (of_decide_eq_true hb18))) (Decidable.not_not.mp (of_decide_eq_false hb4))]; rfl, H9.fr⟩
            ·
              have hc18 := of_decide_eq_false hb18
              refine WC.skip ?_
              refine WQ.next ?_
              refine WC.seq ?_
              refine WC.region ?_
              refine WL.op rfl rfl (op_loadS (vs := [_, _, _, _, _, _, _, _]) rfl (H9.cells (i := 0) rfl rfl) Tryd.underlying65 rfl Fa.I65 rfl ?_)
              refine WL.op rfl rfl (op_callF Fa.C57 rfl ((bare_ok x _).mono (fun e w19 hq => ?_)))
              obtain ⟨rfl, hf19⟩ := hq
              refine ⟨_, rfl, ?_⟩
              have H19 := H9.fr' hf19
              refine WL.op rfl rfl (op_alloc H19 Fa.I61 (fun b20 w20 H20 => ?_))
              refine WL.op rfl rfl (op_storeBW (i := 1) H20 rfl rfl rfl rfl rfl Fa.I61 (fun w21 H21 => ?_))
              refine WL.nil ?_
              refine WQ.next ?_
              refine WC.seq ?_
              refine WC.region ?_
              refine WL.op rfl rfl (op_fieldAddr rfl Fa.F61_4 ?_)
              refine WL.op rfl rfl (op_storeB (i := 1) H21 rfl rfl rfl rfl rfl Fa.I22 (fun w22 H22 => ?_))
              refine WL.nil ?_
              refine WQ.next ?_
              refine WC.seq ?_
              refine WC.region ?_
              refine WL.op rfl rfl (op_loadS (vs := [_, _, _, _, _]) rfl (H22.cells (i := 1) rfl rfl) Tryd.underlying61 rfl Fa.I61 rfl ?_)
              refine WL.op rfl rfl (op_callF Fa.C56 rfl ((rEncode_ok x.op x.d x.a x.b 4 _).mono (fun e w23 hq => ?_)))
              obtain ⟨rfl, hf23⟩ := hq
              refine ⟨_, rfl, ?_⟩
              have H23 := H22.fr' hf23
              refine WL.op rfl rfl (op_move rfl ?_)
              refine WL.op rfl rfl (op_extract rfl rfl ?_)
              refine WL.op rfl rfl (op_extract rfl rfl ?_)
              refine WL.op rfl rfl (op_assign rfl ?_)
              refine WL.nil ?_
              refine WQ.next ?_
              refine WC.seq ?_
              refine WC.region ?_
              refine WL.op rfl rfl (op_move rfl ?_)
              refine WL.op rfl rfl (op_eqlN (b := 0) rfl rfl ?_)
              refine WL.op rfl rfl (op_assign rfl ?_)
              refine WL.nil ?_
              refine WQ.next ?_
              refine WC.ret ?_
              refine WQ.out (.tmp rfl .nil) ?_
              exact ⟨by rw [lm_ref (by rw [hb11]; rfl) hn6 hn8 hn10 (ref_N (decide_eq_true (of_decide_eq_false hb18))) (Decidable.not_not.mp (of_decide_eq_false hb4))]; rfl, H23.fr⟩
set_option maxRecDepth 100000 in
theorem idxL_ok (lv : Value) (l : List Ln) (w : World) (hA : Arr w lv 8 l.length (List.flatMap lnc l)) (hfx : ∀ k, (l.getD k Ln.zero).lb.length < 2 ^ 47 ∧ (l.getD k Ln.zero).to.length < 2 ^ 47 ∧ (l.getD k Ln.zero).nm.length < 2 ^ 47) (hn : l.length < 2 ^ 47) :
    Calls Tryd.prog 72 #[lv, (.func (.func 49) #[] #[])] w (fun e w' => e = .returned (vI (fidx (fun n => !lnMay n) l)) ∧ Fr [] w w') := by
  refine enter (args := [lv, (.func (.func 49) #[] #[])]) Tryd.func72 rfl rfl ?_
  have H0 : Own [] w w [] := Own.start w []
  refine WC.seq ?_
  refine WC.region ?_
  refine WL.op rfl rfl (op_assign rfl ?_)
  refine WL.nil ?_
  refine WQ.next ?_
  refine WC.seq ?_
  refine WC.seq ?_
  refine WC.region ?_
  refine WL.op rfl rfl (op_move rfl ?_)
  refine WL.op rfl rfl (op_lenA Tryd.underlying48 rfl (H0.arr hA) ?_)
  refine WL.op rfl rfl (op_move rfl ?_)
  refine WL.nil ?_
  refine WQ.next ?_
  refine WC.block ?_
  refine WC.loop (α := Nat) (fun k => [(0, lv), (1, (.func (.func 49) #[] #[])), (7, (vN l.length)), (8, (vN k))]) (fun k w' => (k ≤ l.length ∧ (∀ j, j < k → (fun n => !lnMay n) (l.getD j Ln.zero) = false)) ∧ Own [] w w' []) (fun k => l.length - k) 0 ⟨⟨Nat.zero_le _, fun j h => by omega⟩, H0⟩ ⟨rfl, rfl, rfl, rfl, trivial⟩ ?_
  rintro k w1 ⟨⟨hk1, hok⟩, H1⟩
  show WC _ _ _ _ _ [(0, lv), (1, (.func (.func 49) #[] #[])), (7, (vN l.length)), (8, (vN k))] _
  refine WC.seq ?_
  refine WC.region ?_
  refine WL.op rfl rfl (op_lssN rfl rfl ?_)
  refine WL.nil ?_
  refine WQ.next ?_
  refine WC.seq ?_
  refine WC.cond rfl (fun (hb2 : (decide (k < l.length)) = true) => ?_) (fun (hb2 : (decide (k < l.length)) = false) => ?_)
  ·
    have hc2 := of_decide_eq_true hb2
    refine WC.skip ?_
    refine WQ.next ?_
    refine WC.seq ?_
    refine WC.block ?_
    refine WC.seq ?_
    refine WC.region ?_
    refine WL.op rfl rfl (op_move rfl ?_)
    refine WL.op rfl rfl (op_assign rfl ?_)
    refine WL.nil ?_
    refine WQ.next ?_
    refine WC.seq ?_
    refine WC.region ?_
    refine WL.op rfl rfl (op_move rfl ?_)
    refine WL.op rfl rfl (op_move rfl ?_)
    refine WL.op rfl rfl (op_move rfl ?_)
    refine WL.op rfl rfl (op_indexAddr Tryd.underlying48 Fa.I65 rfl (H1.arr hA) rfl (by omega) ?_)
    refine WL.op rfl rfl (op_loadSP (vs := lnc (l.getD k Ln.zero)) rfl (Arr.atsF (H1.arr hA) (fun _ => rfl) (by decide) Ln.zero (by omega)) Tryd.underlying65 rfl Fa.I65 rfl ?_)
    refine WL.op rfl rfl (op_call (f := 49) rfl Fa.C49 rfl ((lnbad_ok (l.getD k Ln.zero) _ (hfx _)).mono (fun e w3 hq => ?_)))
    obtain ⟨rfl, hf3⟩ := hq
    refine ⟨_, rfl, ?_⟩
    have H3 := H1.fr' hf3
    refine WL.nil ?_
    refine WQ.next ?_
    refine WC.cond rfl (fun (hb4 : (!lnMay (l.getD k Ln.zero)) = true) => ?_) (fun (hb4 : (!lnMay (l.getD k Ln.zero)) = false) => ?_)
    ·
      have hn4 := (Bool.not_eq_true' _).mp hb4
      refine WC.seq ?_
      refine WC.region ?_
      refine WL.op rfl rfl (op_move rfl ?_)
      refine WL.op rfl rfl (op_assign rfl ?_)
      refine WL.nil ?_
      refine WQ.next ?_
      refine WC.ret ?_
      refine WQ.inRet ?_
      refine WQ.thenRet ?_
      refine WQ.thenRet ?_
      refine WQ.inRet ?_
      refine WQ.thenRet ?_
      refine WQ.out (.tmp rfl .nil) ?_
      exact ⟨by rw [fidx_yes (d := Ln.zero) (by omega) hok hb4]; rfl, H3.fr⟩
    ·
      have hn4 := (Bool.not_eq_false' _).mp hb4
      refine WC.skip ?_
      refine WQ.inNormal ?_
      refine WQ.next ?_
      refine WC.region ?_
      refine WL.op rfl rfl (op_addN (b := 1) rfl rfl (by omega) ?_)
      refine WL.op rfl rfl (op_move rfl ?_)
      refine WL.nil ?_
      exact WQ.round (k + 1) ⟨⟨by omega, allPrev hok hb4⟩, H3⟩ ⟨rfl, rfl, rfl, rfl, trivial⟩ (by omega)
  ·
    have hc2 := of_decide_eq_false hb2
    refine WC.exit ?_
    refine WQ.thenExit ?_
    refine WQ.thenExit ?_
    refine WQ.inHere ?_
    refine WQ.next ?_
    refine WC.seq ?_
    refine WC.region ?_
    refine WL.op rfl rfl (op_assign rfl ?_)
    refine WL.nil ?_
    refine WQ.next ?_
    refine WC.ret ?_
    refine WQ.out (.tmp rfl .nil) ?_
    exact ⟨by rw [fidx_no (d := Ln.zero) (fun j hj => hok j (by omega))]; rfl, H1.fr⟩
set_option maxRecDepth 100000 in
theorem conL_ok (lv : Value) (l : List Ln) (w : World) (hA : Arr w lv 8 l.length (List.flatMap lnc l)) (hfx : ∀ k, (l.getD k Ln.zero).lb.length < 2 ^ 47 ∧ (l.getD k Ln.zero).to.length < 2 ^ 47 ∧ (l.getD k Ln.zero).nm.length < 2 ^ 47) (hn : l.length < 2 ^ 47) :
    Calls Tryd.prog 48 #[lv, (.func (.func 49) #[] #[])] w (fun e w' => e = .returned (.bool (l.any (fun n => !lnMay n))) ∧ Fr [] w w') := by
  refine enter (args := [lv, (.func (.func 49) #[] #[])]) Tryd.func48 rfl rfl ?_
  have H0 : Own [] w w [] := Own.start w []
  refine WC.seq ?_
  refine WC.region ?_
  refine WL.op rfl rfl (op_assign rfl ?_)
  refine WL.nil ?_
  refine WQ.next ?_
  refine WC.seq ?_
  refine WC.region ?_
  refine WL.op rfl rfl (op_move rfl ?_)
  refine WL.op rfl rfl (op_move rfl ?_)
  refine WL.op rfl rfl (op_callF Fa.C72 rfl ((idxL_ok _ l _ (H0.arr hA) hfx (by omega)).mono (fun e w1 hq => ?_)))
  obtain ⟨rfl, hf1⟩ := hq
  refine ⟨_, rfl, ?_⟩
  have H1 := H0.fr' hf1
  refine WL.op rfl rfl (op_geqI (b := (0 : Int)) rfl rfl ?_)
  refine WL.op rfl rfl (op_assign rfl ?_)
  refine WL.nil ?_
  refine WQ.next ?_
  refine WC.ret ?_
  refine WQ.out (.tmp rfl .nil) ?_
  exact ⟨by rw [← fidx_any]; rfl, H1.fr⟩
set_option maxRecDepth 100000 in
theorem find_ok (lv : Value) (l : List Ln) (s : List UInt8) (w : World) (hA : Arr w lv 8 l.length (List.flatMap lnc l)) (hn : l.length < 2 ^ 47) :
    Calls Tryd.prog 55 #[lv, (str s)] w (fun e w' => e = .returned (.tuple #[vN ((firstIx l s l.length).getD 0), .bool (firstIx l s l.length).isSome]) ∧ Fr [] w w') := by
  refine enter (args := [lv, (str s)]) Tryd.func55 rfl rfl ?_
  have H0 : Own [] w w [] := Own.start w []
  refine WC.seq ?_
  refine WC.region ?_
  refine WL.op rfl rfl (op_assign rfl ?_)
  refine WL.op rfl rfl (op_assign rfl ?_)
  refine WL.nil ?_
  refine WQ.next ?_
  refine WC.seq ?_
  refine WC.seq ?_
  refine WC.region ?_
  refine WL.op rfl rfl (op_assign rfl ?_)
  refine WL.nil ?_
  refine WQ.next ?_
  refine WC.block ?_
  refine WC.loop (α := Nat) (fun k => [(0, lv), (1, (str s)), (4, (vN 0)), (5, (.bool false)), (6, (vN k))]) (fun k w' => (k ≤ l.length ∧ (∀ j, j < k → (l.getD j Ln.zero).lb ≠ s)) ∧ Own [] w w' []) (fun k => l.length - k) 0 ⟨⟨Nat.zero_le _, fun j h => by omega⟩, H0⟩ ⟨rfl, rfl, rfl, rfl, rfl, trivial⟩ ?_
  rintro k w1 ⟨⟨hk1, hok⟩, H1⟩
  show WC _ _ _ _ _ [(0, lv), (1, (str s)), (4, (vN 0)), (5, (.bool false)), (6, (vN k))] _
  refine WC.seq ?_
  refine WC.seq ?_
  refine WC.region ?_
  refine WL.op rfl rfl (op_move rfl ?_)
  refine WL.op rfl rfl (op_move rfl ?_)
  refine WL.op rfl rfl (op_lenA Tryd.underlying48 rfl (H1.arr hA) ?_)
  refine WL.op rfl rfl (op_lssN rfl rfl ?_)
  refine WL.nil ?_
  refine WQ.next ?_
  refine WC.cond rfl (fun (hb2 : (decide (k < l.length)) = true) => ?_) (fun (hb2 : (decide (k < l.length)) = false) => ?_)
  ·
    have hc2 := of_decide_eq_true hb2
    refine WC.skip ?_
    refine WQ.next ?_
    refine WC.seq ?_
    refine WC.block ?_
    refine WC.seq ?_
    refine WC.region ?_
    refine WL.op rfl rfl (op_move rfl ?_)
    refine WL.op rfl rfl (op_move rfl ?_)
    refine WL.op rfl rfl (op_indexAddr Tryd.underlying48 Fa.I65 rfl (H1.arr hA) rfl (by omega) ?_)
    refine WL.op rfl rfl (op_fieldAddrS rfl Fa.F65_0 ?_)
    refine WL.op rfl rfl (op_load rfl (Arr.atF (k := 0) (H1.arr hA) (fun _ => rfl) (by decide) Ln.zero (by omega) rfl) Tryd.underlying9 rfl ?_)
    refine WL.op rfl rfl (op_move rfl ?_)
    refine WL.op rfl rfl (op_eqlStr rfl rfl ?_)
    refine WL.nil ?_
    refine WQ.next ?_
    refine WC.cond rfl (fun (hb3 : (decide ((l.getD k Ln.zero).lb = s)) = true) => ?_) (fun (hb3 : (decide ((l.getD k Ln.zero).lb = s)) = false) => ?_)
    ·
      have hc3 := of_decide_eq_true hb3
      refine WC.seq ?_
      refine WC.region ?_
      refine WL.op rfl rfl (op_move rfl ?_)
      refine WL.op rfl rfl (op_assign rfl ?_)
      refine WL.op rfl rfl (op_assign rfl ?_)
      refine WL.nil ?_
      refine WQ.next ?_
      refine WC.ret ?_
      refine WQ.inRet ?_
      refine WQ.thenRet ?_
      refine WQ.thenRet ?_
      refine WQ.inRet ?_
      refine WQ.thenRet ?_
      refine WQ.out (.tmp rfl (.tmp rfl .nil)) ?_
      exact ⟨by rw [first_at hok hc3 _ (by omega)]; rfl, H1.fr⟩
    ·
      have hc3 := of_decide_eq_false hb3
      refine WC.skip ?_
      refine WQ.inNormal ?_
      refine WQ.next ?_
      refine WC.region ?_
      refine WL.op rfl rfl (op_move rfl ?_)
      refine WL.op rfl rfl (op_addN (b := 1) rfl rfl (by omega) ?_)
      refine WL.op rfl rfl (op_assign rfl ?_)
      refine WL.nil ?_
      exact WQ.round (k + 1) ⟨⟨by omega, allPrev hok hc3⟩, H1⟩ ⟨rfl, rfl, rfl, rfl, rfl, trivial⟩ (by omega)
  ·
    have hc2 := of_decide_eq_false hb2
    refine WC.exit ?_
    refine WQ.thenExit ?_
    refine WQ.thenExit ?_
    refine WQ.inHere ?_
    refine WQ.next ?_
    refine WC.seq ?_
    refine WC.region ?_
    refine WL.op rfl rfl (op_assign rfl ?_)
    refine WL.op rfl rfl (op_assign rfl ?_)
    refine WL.nil ?_
    refine WQ.next ?_
    refine WC.ret ?_
    refine WQ.out (.tmp rfl (.tmp rfl .nil)) ?_
    exact ⟨by rw [first_none (fun j hj => hok j (by omega))]; rfl, H1.fr⟩
set_option maxRecDepth 100000 in
theorem same10_ok (va vb : Value) (a b : List Ln) (w : World) (hA : Arr w va 8 a.length (List.flatMap lnc a)) (hB : Arr w vb 8 b.length (List.flatMap lnc b)) (hn : a.length < 2 ^ 47) :
    Calls Tryd.prog 24 #[va, vb] w (fun e w' => e = .returned (.bool (decide (a = b))) ∧ Fr [] w w') := by
  refine enter (args := [va, vb]) Tryd.func24 rfl rfl ?_
  have H0 : Own [] w w [] := Own.start w []
  refine WC.seq ?_
  refine WC.region ?_
  refine WL.op rfl rfl (op_assign rfl ?_)
  refine WL.nil ?_
  refine WQ.next ?_
  refine WC.seq ?_
  refine WC.seq ?_
  refine WC.region ?_
  refine WL.op rfl rfl (op_move rfl ?_)
  refine WL.op rfl rfl (op_lenA Tryd.underlying48 rfl (H0.arr hA) ?_)
  refine WL.op rfl rfl (op_move rfl ?_)
  refine WL.op rfl rfl (op_lenA Tryd.underlying48 rfl (H0.arr hB) ?_)
  refine WL.op rfl rfl (op_neqN rfl rfl ?_)
  refine WL.nil ?_
  refine WQ.next ?_
  refine WC.cond rfl (fun (hb1 : (decide (a.length ≠ b.length)) = true) => ?_) (fun (hb1 : (decide (a.length ≠ b.length)) = false) => ?_)
  ·
    have hc1 := of_decide_eq_true hb1
    refine WC.seq ?_
    refine WC.region ?_
    refine WL.op rfl rfl (op_assign rfl ?_)
    refine WL.nil ?_
    refine WQ.next ?_
    refine WC.ret ?_
    refine WQ.thenRet ?_
    refine WQ.out (.tmp rfl .nil) ?_
    exact ⟨by rw [decide_eq_false (fun h : a = b => hc1 (by rw [h]))]; rfl, H0.fr⟩
  ·
    have hc1 := of_decide_eq_false hb1
    refine WC.skip ?_
    refine WQ.next ?_
    refine WC.seq ?_
    refine WC.seq ?_
    refine WC.region ?_
    refine WL.op rfl rfl (op_assign rfl ?_)
    refine WL.nil ?_
    refine WQ.next ?_
    refine WC.block ?_
    refine WC.loop (α := Nat) (fun k => [(0, va), (1, vb), (5, (vN k))]) (fun k w' => (k ≤ a.length ∧ (∀ j, j < k → a.getD j Ln.zero = b.getD j Ln.zero)) ∧ Own [] w w' []) (fun k => a.length - k) 0 ⟨⟨Nat.zero_le _, fun j h => by omega⟩, H0⟩ ⟨rfl, rfl, rfl, trivial⟩ ?_
    rintro k w2 ⟨⟨hk1, hok⟩, H2⟩
    show WC _ _ _ _ _ [(0, va), (1, vb), (5, (vN k))] _
    refine WC.seq ?_
    refine WC.seq ?_
    refine WC.region ?_
    refine WL.op rfl rfl (op_move rfl ?_)
    refine WL.op rfl rfl (op_move rfl ?_)
    refine WL.op rfl rfl (op_lenA Tryd.underlying48 rfl (H2.arr hA) ?_)
    refine WL.op rfl rfl (op_lssN rfl rfl ?_)
    refine WL.nil ?_
    refine WQ.next ?_
    refine WC.cond rfl (fun (hb3 : (decide (k < a.length)) = true) => ?_) (fun (hb3 : (decide (k < a.length)) = false) => ?_)
    ·
      have hc3 := of_decide_eq_true hb3
      refine WC.skip ?_
      refine WQ.next ?_
      refine WC.seq ?_
      refine WC.block ?_
      refine WC.seq ?_
      refine WC.draw 9 Fa.M H2 (HW.op rfl (fun w1 H1 => op_move rfl ⟨rfl, Fr.refl _ _⟩) (HW.op rfl (fun w1 H1 => op_move rfl ⟨rfl, Fr.refl _ _⟩) (HW.op rfl (fun w1 H1 => op_indexAddr Tryd.underlying48 Fa.I65 rfl (H1.arr hA) rfl (by omega) ⟨rfl, Fr.refl _ _⟩) (HW.op rfl (fun w1 H1 => op_loadSP (vs := lnc (a.getD k Ln.zero)) rfl (Arr.atsF (H1.arr hA) (fun _ => rfl) (by decide) Ln.zero (by omega)) Tryd.underlying65 rfl Fa.I65 rfl ⟨rfl, Fr.refl _ _⟩) (HW.op rfl (fun w1 H1 => op_move rfl ⟨rfl, Fr.refl _ _⟩) (HW.op rfl (fun w1 H1 => op_move rfl ⟨rfl, Fr.refl _ _⟩) (HW.op rfl (fun w1 H1 => op_indexAddr Tryd.underlying48 Fa.I65 rfl (H1.arr hB) rfl (by omega) ⟨rfl, Fr.refl _ _⟩) (HW.op rfl (fun w1 H1 => op_loadSP (vs := lnc (b.getD k Ln.zero)) rfl (Arr.atsF (H1.arr hB) (fun _ => rfl) (by decide) Ln.zero (by omega)) Tryd.underlying65 rfl Fa.I65 rfl ⟨rfl, Fr.refl _ _⟩) (HW.op rfl (fun w1 H1 => op_neqS2 (xs := [_, _, _, _, _, _, _, _]) (ys := [_, _, _, _, _, _, _, _]) (b := (!((decide ((a.getD k Ln.zero).lb = (b.getD k Ln.zero).lb)) && ((decide ((a.getD k Ln.zero).op = (b.getD k Ln.zero).op)) && ((decide ((a.getD k Ln.zero).d = (b.getD k Ln.zero).d)) && ((decide ((a.getD k Ln.zero).a = (b.getD k Ln.zero).a)) && ((decide ((a.getD k Ln.zero).b = (b.getD k Ln.zero).b)) && ((decide ((a.getD k Ln.zero).imm = (b.getD k Ln.zero).imm)) && ((decide ((a.getD k Ln.zero).to = (b.getD k Ln.zero).to)) && (decide ((a.getD k Ln.zero).nm = (b.getD k Ln.zero).nm))))))))))) Fa.FL65 rfl rfl rfl (by simp [eqAll, veqStr, veqU32, veqU8]) ⟨rfl, Fr.refl _ _⟩)  HW.nil))))))))) (by kernel_rfl) ?_
      intro β4 w4 H4
      refine WL.nil ?_
      refine WQ.next ?_
      refine WC.cond rfl (fun (hb5 : (!((decide ((a.getD k Ln.zero).lb = (b.getD k Ln.zero).lb)) && ((decide ((a.getD k Ln.zero).op = (b.getD k Ln.zero).op)) && ((decide ((a.getD k Ln.zero).d = (b.getD k Ln.zero).d)) && ((decide ((a.getD k Ln.zero).a = (b.getD k Ln.zero).a)) && ((decide ((a.getD k Ln.zero).b = (b.getD k Ln.zero).b)) && ((decide ((a.getD k Ln.zero).imm = (b.getD k Ln.zero).imm)) && ((decide ((a.getD k Ln.zero).to = (b.getD k Ln.zero).to)) && (decide ((a.getD k Ln.zero).nm = (b.getD k Ln.zero).nm)))))))))) = true) => ?_) (fun (hb5 : (!((decide ((a.getD k Ln.zero).lb = (b.getD k Ln.zero).lb)) && ((decide ((a.getD k Ln.zero).op = (b.getD k Ln.zero).op)) && ((decide ((a.getD k Ln.zero).d = (b.getD k Ln.zero).d)) && ((decide ((a.getD k Ln.zero).a = (b.getD k Ln.zero).a)) && ((decide ((a.getD k Ln.zero).b = (b.getD k Ln.zero).b)) && ((decide ((a.getD k Ln.zero).imm = (b.getD k Ln.zero).imm)) && ((decide ((a.getD k Ln.zero).to = (b.getD k Ln.zero).to)) && (decide ((a.getD k Ln.zero).nm = (b.getD k Ln.zero).nm)))))))))) = false) => ?_)
      ·
        have hn5 := (Bool.not_eq_true' _).mp hb5
        refine WC.seq ?_
        refine WC.region ?_
        refine WL.op rfl rfl (op_assign rfl ?_)
        refine WL.nil ?_
        refine WQ.next ?_
        refine WC.ret ?_
        refine WQ.inRet ?_
        refine WQ.thenRet ?_
        refine WQ.thenRet ?_
        refine WQ.inRet ?_
        refine WQ.thenRet ?_
        refine WQ.out (.tmp rfl .nil) ?_
        exact ⟨by rw [decide_eq_false (fun h : a = b => of_decide_eq_false ((ln_eq _ _).symm.trans hn5) (by rw [h]))]; rfl, H4.fr⟩
      ·
        have hn5 := (Bool.not_eq_false' _).mp hb5
        refine WC.skip ?_
        refine WQ.inNormal ?_
        refine WQ.next ?_
        refine WC.region ?_
        refine WL.op rfl rfl (op_move rfl ?_)
        refine WL.op rfl rfl (op_addN (b := 1) rfl rfl (by omega) ?_)
        refine WL.op rfl rfl (op_assign rfl ?_)
        refine WL.nil ?_
        exact WQ.round (k + 1) ⟨⟨by omega, allPrev hok (of_decide_eq_true ((ln_eq _ _).symm.trans hn5))⟩, H4⟩ ⟨rfl, rfl, rfl, trivial⟩ (by omega)
    ·
      have hc3 := of_decide_eq_false hb3
      refine WC.exit ?_
      refine WQ.thenExit ?_
      refine WQ.thenExit ?_
      refine WQ.inHere ?_
      refine WQ.next ?_
      refine WC.seq ?_
      refine WC.region ?_
      refine WL.op rfl rfl (op_assign rfl ?_)
      refine WL.nil ?_
      refine WQ.next ?_
      refine WC.ret ?_
      refine WQ.out (.tmp rfl .nil) ?_
      exact ⟨by rw [decide_eq_true (list_eqD (by omega) (fun j hj => hok j (by omega)))]; rfl, H2.fr⟩
end Go.Proofs.YtnngbnenekjffaaDoor
