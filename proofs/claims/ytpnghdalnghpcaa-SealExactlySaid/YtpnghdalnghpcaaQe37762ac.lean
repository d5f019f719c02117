/- General lemmas and walks: WSha, WSha2, WRef2, WMac, WSeal, WSeal2, WImg14, WImg15, WSeal3. No condition but what each theorem names. -/
import Derived.Test.YtpnghdalnghpcaaQa06c13cf
import Derived.Test.YtpnghdalnghpcaaQ6c2d3085
import Derived.Test.YtpnghdalnghpcaaQ3756f02f
import Derived.Test.YtpnghdalnghpcaaQ192aa1d8
/-! from WSha -/
namespace Go.Proofs.Ytpnghdalnghpcaa
open Go.Owl Go.Spec
set_option maxRecDepth 100000 in
theorem turn_ok (x : UInt32) (n : Nat) (hn : n ≤ 32) (w : World) :
    Calls Try.prog 152 #[(vU32 x), (vN n)] w (fun e w' => e = .returned (vU32 (rot x n)) ∧ Fr [] w w') := by
  refine enter (args := [(vU32 x), (vN n)]) Try.func152 rfl rfl ?_
  have H0 : Own [] w w [] := Own.start w []
  refine WC.seq ?_
  refine WC.region ?_
  refine WL.op rfl rfl (op_assign rfl ?_)
  refine WL.nil ?_
  refine WQ.next ?_
  refine WC.seq ?_
  refine WC.draw 9 Fa.M H0 (HW.op rfl (fun w1 H1 => op_move rfl ⟨rfl, Fr.refl _ _⟩) (HW.op rfl (fun w1 H1 => op_move rfl ⟨rfl, Fr.refl _ _⟩) (HW.op rfl (fun w1 H1 => op_shrU32 rfl rfl ⟨rfl, Fr.refl _ _⟩) (HW.op rfl (fun w1 H1 => op_move rfl ⟨rfl, Fr.refl _ _⟩) (HW.op rfl (fun w1 H1 => op_move rfl ⟨rfl, Fr.refl _ _⟩) (HW.op rfl (fun w1 H1 => op_subN (a := 32) rfl rfl (by omega) (by omega) ⟨rfl, Fr.refl _ _⟩) (HW.op rfl (fun w1 H1 => op_shlU32 rfl rfl ⟨rfl, Fr.refl _ _⟩) (HW.op rfl (fun w1 H1 => op_orU32 rfl rfl ⟨rfl, Fr.refl _ _⟩) (HW.op rfl (fun w1 H1 => op_assign rfl ⟨rfl, Fr.refl _ _⟩)  HW.nil))))))))) (by kernel_rfl) ?_
  intro β1 w1 H1
  refine WL.nil ?_
  refine WQ.next ?_
  refine WC.ret ?_
  refine WQ.out (.tmp rfl .nil) ?_
  exact ⟨rfl, H1.fr⟩
set_option maxRecDepth 100000 in
theorem first_ok  (w : World) :
    Calls Try.prog 143 #[] w (fun e w' => e = .returned (.agg #[vU32 firstS.a, vU32 firstS.b, vU32 firstS.c, vU32 firstS.d, vU32 firstS.e, vU32 firstS.f, vU32 firstS.g, vU32 firstS.h]) ∧ Fr [] w w') := by
  refine enter (args := []) Try.func143 rfl rfl ?_
  have H0 : Own [] w w [] := Own.start w []
  refine WC.seq ?_
  refine WC.region ?_
  refine WL.op rfl rfl (op_alloc H0 Fa.I195 (fun b1 w1 H1 => ?_))
  refine WL.nil ?_
  refine WQ.next ?_
  refine WC.seq ?_
  refine WC.region ?_
  refine WL.op rfl rfl (op_buildA (cs := [_, _, _, _, _, _, _, _]) Fa.I195 Try.underlying195 Fa.I22 rfl rfl ?_)
  refine WL.op rfl rfl (op_storeBW (i := 0) H1 rfl rfl rfl rfl rfl Fa.I195 (fun w2 H2 => ?_))
  refine WL.nil ?_
  refine WQ.next ?_
  refine WC.ret ?_
  refine WQ.out (.cell rfl (run_loadVarS (vs := [_, _, _, _, _, _, _, _]) (H2.cells (i := 0) rfl rfl) Try.underlying195 rfl Fa.I195 rfl) .nil) ?_
  exact ⟨rfl, H2.fr⟩
set_option maxRecDepth 100000 in
theorem keys_ok  (w : World) :
    Calls Try.prog 151 #[] w (fun e w' => e = .returned (.agg (keyL.map vU32).toArray) ∧ Fr [] w w') := by
  refine enter (args := []) Try.func151 rfl rfl ?_
  have H0 : Own [] w w [] := Own.start w []
  refine WC.seq ?_
  refine WC.region ?_
  refine WL.op rfl rfl (op_alloc H0 Fa.I204 (fun b1 w1 H1 => ?_))
  refine WL.nil ?_
  refine WQ.next ?_
  refine WC.seq ?_
  refine WC.region ?_
  refine WL.op rfl rfl (op_buildA (cs := keyL.map vU32) Fa.I204 Try.underlying204 Fa.I22 rfl (by kernel_rfl) ?_)
  refine WL.op rfl rfl (op_storeBV (i := 0) H1 rfl rfl rfl (by kernel_rfl) (one_U32 _) (by kernel_rfl) Fa.I204 (fun w2 H2 => ?_))
  refine WL.nil ?_
  refine WQ.next ?_
  refine WC.ret ?_
  refine WQ.out (.cell rfl (run_loadVarS (H2.cellsW (i := 0) rfl) Try.underlying204 rfl Fa.I204 (by kernel_rfl)) .nil) ?_
  exact ⟨rfl, H2.fr⟩
set_option maxRecDepth 100000 in
theorem words_ok (v : Value) (b : List UInt8) (w : World) (hl : b.length = 64) (hA : Arr w v 1 64 (b.map vU8)) :
    Calls Try.prog 150 #[v] w (fun e w' => e = .returned (.agg ((wl b 64).map vU32).toArray) ∧ Fr [] w w') := by
  refine enter (args := [v]) Try.func150 rfl rfl ?_
  have H0 : Own [] w w [] := Own.start w []
  refine WC.seq ?_
  refine WC.region ?_
  refine WL.op rfl rfl (op_alloc H0 Fa.I204 (fun b1 w1 H1 => ?_))
  refine WL.nil ?_
  refine WQ.next ?_
  refine WC.seq ?_
  refine WC.seq ?_
  refine WC.region ?_
  refine WL.op rfl rfl (op_move rfl ?_)
  refine WL.nil ?_
  refine WQ.next ?_
  refine WC.block ?_
  refine WC.loop (α := Nat) (fun k => [(0, v), (2, (ptr b1 0)), (7, (vN k))]) (fun k w' => (k ≤ 16) ∧ Own [] w w' [.blk b1 (wC b k) 204]) (fun k => 16 - k) 0 ⟨(by omega), H1⟩ ⟨rfl, rfl, rfl, trivial⟩ ?_
  rintro k w2 ⟨hinv, H2⟩
  show WC _ _ _ _ _ [(0, v), (2, (ptr b1 0)), (7, (vN k))] _
  refine WC.seq ?_
  refine WC.region ?_
  refine WL.op rfl rfl (op_lssN (b := 16) rfl rfl ?_)
  refine WL.nil ?_
  refine WQ.next ?_
  refine WC.seq ?_
  refine WC.cond rfl (fun (hb3 : (decide (k < 16)) = true) => ?_) (fun (hb3 : (decide (k < 16)) = false) => ?_)
  ·
    have hc3 := of_decide_eq_true hb3
    refine WC.skip ?_
    refine WQ.next ?_
    refine WC.seq ?_
    refine WC.block ?_
    refine WC.seq ?_
    refine WC.region ?_
    refine WL.op rfl rfl (op_move rfl ?_)
    refine WL.op rfl rfl (op_assign rfl ?_)
    refine WL.nil ?_
    refine WQ.next ?_
    refine WC.draw 35 Fa.M H2 (HW.op rfl (fun w1 H1 => op_move rfl ⟨rfl, Fr.refl _ _⟩) (HW.op rfl (fun w1 H1 => op_move rfl ⟨rfl, Fr.refl _ _⟩) (HW.op rfl (fun w1 H1 => op_move rfl ⟨rfl, Fr.refl _ _⟩) (HW.op rfl (fun w1 H1 => op_mulN (a := 4) rfl rfl (by omega) ⟨rfl, Fr.refl _ _⟩) (HW.op rfl (fun w1 H1 => op_indexAddr1 Try.underlying73 Fa.I5 rfl (H1.arr hA) rfl (by omega) ⟨rfl, Fr.refl _ _⟩) (HW.op rfl (fun w1 H1 => op_load rfl ((H1.arr hA).at (get_map vU8 0 (by omega))) Try.underlying5 rfl ⟨rfl, Fr.refl _ _⟩) (HW.op rfl (fun w1 H1 => op_convU8U32 (hs := Try.underlying5) (hd := Try.underlying22) rfl ⟨rfl, Fr.refl _ _⟩) (HW.op rfl (fun w1 H1 => op_shlU32 (s := 24) rfl rfl ⟨rfl, Fr.refl _ _⟩) (HW.op rfl (fun w1 H1 => op_move rfl ⟨rfl, Fr.refl _ _⟩) (HW.op rfl (fun w1 H1 => op_move rfl ⟨rfl, Fr.refl _ _⟩) (HW.op rfl (fun w1 H1 => op_mulN (a := 4) rfl rfl (by omega) ⟨rfl, Fr.refl _ _⟩) (HW.op rfl (fun w1 H1 => op_addN (b := 1) rfl rfl (by omega) ⟨rfl, Fr.refl _ _⟩) (HW.op rfl (fun w1 H1 => op_indexAddr1 Try.underlying73 Fa.I5 rfl (H1.arr hA) rfl (by omega) ⟨rfl, Fr.refl _ _⟩) (HW.op rfl (fun w1 H1 => op_load rfl ((H1.arr hA).at (get_map vU8 0 (by omega))) Try.underlying5 rfl ⟨rfl, Fr.refl _ _⟩) (HW.op rfl (fun w1 H1 => op_convU8U32 (hs := Try.underlying5) (hd := Try.underlying22) rfl ⟨rfl, Fr.refl _ _⟩) (HW.op rfl (fun w1 H1 => op_shlU32 (s := 16) rfl rfl ⟨rfl, Fr.refl _ _⟩) (HW.op rfl (fun w1 H1 => op_orU32 rfl rfl ⟨rfl, Fr.refl _ _⟩) (HW.op rfl (fun w1 H1 => op_move rfl ⟨rfl, Fr.refl _ _⟩) (HW.op rfl (fun w1 H1 => op_move rfl ⟨rfl, Fr.refl _ _⟩) (HW.op rfl (fun w1 H1 => op_mulN (a := 4) rfl rfl (by omega) ⟨rfl, Fr.refl _ _⟩) (HW.op rfl (fun w1 H1 => op_addN (b := 2) rfl rfl (by omega) ⟨rfl, Fr.refl _ _⟩) (HW.op rfl (fun w1 H1 => op_indexAddr1 Try.underlying73 Fa.I5 rfl (H1.arr hA) rfl (by omega) ⟨rfl, Fr.refl _ _⟩) (HW.op rfl (fun w1 H1 => op_load rfl ((H1.arr hA).at (get_map vU8 0 (by omega))) Try.underlying5 rfl ⟨rfl, Fr.refl _ _⟩) (HW.op rfl (fun w1 H1 => op_convU8U32 (hs := Try.underlying5) (hd := Try.underlying22) rfl ⟨rfl, Fr.refl _ _⟩) (HW.op rfl (fun w1 H1 => op_shlU32 (s := 8) rfl rfl ⟨rfl, Fr.refl _ _⟩) (HW.op rfl (fun w1 H1 => op_orU32 rfl rfl ⟨rfl, Fr.refl _ _⟩) (HW.op rfl (fun w1 H1 => op_move rfl ⟨rfl, Fr.refl _ _⟩) (HW.op rfl (fun w1 H1 => op_move rfl ⟨rfl, Fr.refl _ _⟩) (HW.op rfl (fun w1 H1 => op_mulN (a := 4) rfl rfl (by omega) ⟨rfl, Fr.refl _ _⟩) (HW.op rfl (fun w1 H1 => op_addN (b := 3) rfl rfl (by omega) ⟨rfl, Fr.refl _ _⟩) (HW.op rfl (fun w1 H1 => op_indexAddr1 Try.underlying73 Fa.I5 rfl (H1.arr hA) rfl (by omega) ⟨rfl, Fr.refl _ _⟩) (HW.op rfl (fun w1 H1 => op_load rfl ((H1.arr hA).at (get_map vU8 0 (by omega))) Try.underlying5 rfl ⟨rfl, Fr.refl _ _⟩) (HW.op rfl (fun w1 H1 => op_convU8U32 (hs := Try.underlying5) (hd := Try.underlying22) rfl ⟨rfl, Fr.refl _ _⟩) (HW.op rfl (fun w1 H1 => op_orU32 rfl rfl ⟨rfl, Fr.refl _ _⟩) (HW.op rfl (fun w1 H1 => op_indexAddrA1 Try.underlying204 Fa.I22 rfl rfl (by omega) ⟨rfl, Fr.refl _ _⟩)  HW.nil))))))))))))))))))))))))))))))))))) (by kernel_rfl) ?_
    intro β4 w4 H4
    refine WL.op rfl rfl (op_storeB (i := 0) H4 rfl rfl rfl (by rw [Nat.blt_eq, wC_length _ _ (by omega)]; omega) rfl Fa.I22 (fun w5 H5 => ?_))
    refine WL.nil ?_
    refine WQ.inNormal ?_
    refine WQ.next ?_
    refine WC.region ?_
    refine WL.op rfl rfl (op_addN (b := 1) rfl rfl (by omega) ?_)
    refine WL.op rfl rfl (op_move rfl ?_)
    refine WL.nil ?_
    exact WQ.round (k + 1) ⟨(by omega), (by rw [wC_set b (k := k) (by omega), if_pos (by omega)]; exact H5)⟩ ⟨rfl, rfl, rfl, trivial⟩ (by omega)
  ·
    have hc3 := of_decide_eq_false hb3
    refine WC.exit ?_
    refine WQ.thenExit ?_
    refine WQ.thenExit ?_
    refine WQ.inHere ?_
    refine WQ.next ?_
    refine WC.seq ?_
    refine WC.seq ?_
    refine WC.region ?_
    refine WL.op rfl rfl (op_assign rfl ?_)
    refine WL.nil ?_
    refine WQ.next ?_
    refine WC.block ?_
    refine WC.loop (α := Nat) (fun k => [(0, v), (2, (ptr b1 0)), (4, (vN k))]) (fun k w' => ((16 ≤ k ∧ k ≤ 64)) ∧ Own [] w w' [.blk b1 (wC b k) 204]) (fun k => 64 - k) 16 ⟨(by omega), (by have hk : k = 16 := (by omega); subst hk; exact H2)⟩ ⟨rfl, rfl, rfl, trivial⟩ ?_
    rintro k w6 ⟨hinv, H6⟩
    show WC _ _ _ _ _ [(0, v), (2, (ptr b1 0)), (4, (vN k))] _
    refine WC.seq ?_
    refine WC.seq ?_
    refine WC.region ?_
    refine WL.op rfl rfl (op_move rfl ?_)
    refine WL.op rfl rfl (op_lssN (b := 64) rfl rfl ?_)
    refine WL.nil ?_
    refine WQ.next ?_
    refine WC.cond rfl (fun (hb7 : (decide (k < 64)) = true) => ?_) (fun (hb7 : (decide (k < 64)) = false) => ?_)
    ·
      have hc7 := of_decide_eq_true hb7
      refine WC.skip ?_
      refine WQ.next ?_
      refine WC.seq ?_
      refine WC.block ?_
      refine WC.seq ?_
      refine WC.draw 10 Fa.M H6 (HW.op rfl (fun w1 H1 => op_move rfl ⟨rfl, Fr.refl _ _⟩) (HW.op rfl (fun w1 H1 => op_subN (b := 15) rfl rfl (by omega) (by omega) ⟨rfl, Fr.refl _ _⟩) (HW.op rfl (fun w1 H1 => op_indexAddrA1 Try.underlying204 Fa.I22 rfl rfl (by omega) ⟨rfl, Fr.refl _ _⟩) (HW.op rfl (fun w1 H1 => op_load rfl (H1.cell (i := 0) rfl (wC_get b (by omega))) Try.underlying22 rfl ⟨rfl, Fr.refl _ _⟩) (HW.op rfl (fun w1 H1 => op_move rfl ⟨rfl, Fr.refl _ _⟩) (HW.op rfl (fun w1 H1 => op_subN (b := 2) rfl rfl (by omega) (by omega) ⟨rfl, Fr.refl _ _⟩) (HW.op rfl (fun w1 H1 => op_indexAddrA1 Try.underlying204 Fa.I22 rfl rfl (by omega) ⟨rfl, Fr.refl _ _⟩) (HW.op rfl (fun w1 H1 => op_load rfl (H1.cell (i := 0) rfl (wC_get b (by omega))) Try.underlying22 rfl ⟨rfl, Fr.refl _ _⟩) (HW.op rfl (fun w1 H1 => op_assign rfl ⟨rfl, Fr.refl _ _⟩) (HW.op rfl (fun w1 H1 => op_assign rfl ⟨rfl, Fr.refl _ _⟩)  HW.nil)))))))))) (by kernel_rfl) ?_
      intro β8 w8 H8
      refine WL.nil ?_
      refine WQ.next ?_
      refine WC.draw 29 Fa.M H8 (HW.op rfl (fun w1 H1 => op_move rfl ⟨rfl, Fr.refl _ _⟩) (HW.op rfl (fun w1 H1 => op_move rfl ⟨rfl, Fr.refl _ _⟩) (HW.op rfl (fun w1 H1 => op_subN (b := 16) rfl rfl (by omega) (by omega) ⟨rfl, Fr.refl _ _⟩) (HW.op rfl (fun w1 H1 => op_indexAddrA1 Try.underlying204 Fa.I22 rfl rfl (by omega) ⟨rfl, Fr.refl _ _⟩) (HW.op rfl (fun w1 H1 => op_load rfl (H1.cell (i := 0) rfl (wC_get b (by omega))) Try.underlying22 rfl ⟨rfl, Fr.refl _ _⟩) (HW.op rfl (fun w1 H1 => op_move rfl ⟨rfl, Fr.refl _ _⟩) (HW.op rfl (fun w1 H1 => op_callF Fa.C152 rfl ((turn_ok ((wl b k).getD (k - 15) 0) 7 (by decide) _).mono (fun e w2 hq => ⟨_, hq.1, rfl, hq.2⟩))) (HW.op rfl (fun w1 H1 => op_move rfl ⟨rfl, Fr.refl _ _⟩) (HW.op rfl (fun w1 H1 => op_callF Fa.C152 rfl ((turn_ok ((wl b k).getD (k - 15) 0) 18 (by decide) _).mono (fun e w2 hq => ⟨_, hq.1, rfl, hq.2⟩))) (HW.op rfl (fun w1 H1 => op_xorU32 rfl rfl ⟨rfl, Fr.refl _ _⟩) (HW.op rfl (fun w1 H1 => op_move rfl ⟨rfl, Fr.refl _ _⟩) (HW.op rfl (fun w1 H1 => op_shrU32 (s := 3) rfl rfl ⟨rfl, Fr.refl _ _⟩) (HW.op rfl (fun w1 H1 => op_xorU32 rfl rfl ⟨rfl, Fr.refl _ _⟩) (HW.op rfl (fun w1 H1 => op_addU32 rfl rfl ⟨rfl, Fr.refl _ _⟩) (HW.op rfl (fun w1 H1 => op_move rfl ⟨rfl, Fr.refl _ _⟩) (HW.op rfl (fun w1 H1 => op_subN (b := 7) rfl rfl (by omega) (by omega) ⟨rfl, Fr.refl _ _⟩) (HW.op rfl (fun w1 H1 => op_indexAddrA1 Try.underlying204 Fa.I22 rfl rfl (by omega) ⟨rfl, Fr.refl _ _⟩) (HW.op rfl (fun w1 H1 => op_load rfl (H1.cell (i := 0) rfl (wC_get b (by omega))) Try.underlying22 rfl ⟨rfl, Fr.refl _ _⟩) (HW.op rfl (fun w1 H1 => op_addU32 rfl rfl ⟨rfl, Fr.refl _ _⟩) (HW.op rfl (fun w1 H1 => op_move rfl ⟨rfl, Fr.refl _ _⟩) (HW.op rfl (fun w1 H1 => op_callF Fa.C152 rfl ((turn_ok ((wl b k).getD (k - 2) 0) 17 (by decide) _).mono (fun e w2 hq => ⟨_, hq.1, rfl, hq.2⟩))) (HW.op rfl (fun w1 H1 => op_move rfl ⟨rfl, Fr.refl _ _⟩) (HW.op rfl (fun w1 H1 => op_callF Fa.C152 rfl ((turn_ok ((wl b k).getD (k - 2) 0) 19 (by decide) _).mono (fun e w2 hq => ⟨_, hq.1, rfl, hq.2⟩))) (HW.op rfl (fun w1 H1 => op_xorU32 rfl rfl ⟨rfl, Fr.refl _ _⟩) (HW.op rfl (fun w1 H1 => op_move rfl ⟨rfl, Fr.refl _ _⟩) (HW.op rfl (fun w1 H1 => op_shrU32 (s := 10) rfl rfl ⟨rfl, Fr.refl _ _⟩) (HW.op rfl (fun w1 H1 => op_xorU32 rfl rfl ⟨rfl, Fr.refl _ _⟩) (HW.op rfl (fun w1 H1 => op_addU32 rfl rfl ⟨rfl, Fr.refl _ _⟩) (HW.op rfl (fun w1 H1 => op_indexAddrA1 Try.underlying204 Fa.I22 rfl rfl (by omega) ⟨rfl, Fr.refl _ _⟩)  HW.nil))))))))))))))))))))))))))))) (by kernel_rfl) ?_
      intro β13 w13 H13
      refine WL.op rfl rfl (op_storeB (i := 0) H13 rfl rfl rfl (by rw [Nat.blt_eq, wC_length _ _ (by omega)]; omega) rfl Fa.I22 (fun w14 H14 => ?_))
      refine WL.nil ?_
      refine WQ.inNormal ?_
      refine WQ.next ?_
      refine WC.region ?_
      refine WL.op rfl rfl (op_move rfl ?_)
      refine WL.op rfl rfl (op_addN (b := 1) rfl rfl (by omega) ?_)
      refine WL.op rfl rfl (op_assign rfl ?_)
      refine WL.nil ?_
      exact WQ.round (k + 1) ⟨(by omega), (by rw [wC_set b (k := k) (by omega), if_neg (by omega)]; exact H14)⟩ ⟨rfl, rfl, rfl, trivial⟩ (by omega)
    ·
      have hc7 := of_decide_eq_false hb7
      refine WC.exit ?_
      refine WQ.thenExit ?_
      refine WQ.thenExit ?_
      refine WQ.inHere ?_
      refine WQ.next ?_
      refine WC.seq ?_
      refine WC.region ?_
      refine WL.op rfl rfl (op_loadS rfl (H6.cellsW (i := 0) rfl) Try.underlying204 rfl Fa.I204 (wC_length _ _ (by omega)) ?_)
      refine WL.op rfl rfl (op_storeBV (i := 0) H6 rfl rfl rfl (by rw [wC_length _ _ (by omega)]; exact Nat.beq_refl 64) (by have hk : k = 64 := (by omega); subst hk; rw [wC_end]; exact one_U32 _) (wC_length _ _ (by omega)) Fa.I204 (fun w15 H15 => ?_))
      refine WL.nil ?_
      refine WQ.next ?_
      refine WC.ret ?_
      refine WQ.out (.cell rfl (run_loadVarS (H15.cellsW (i := 0) rfl) Try.underlying204 rfl Fa.I204 (wC_length _ _ (by omega))) .nil) ?_
      exact ⟨by have hk : k = 64 := (by omega); subst hk; rw [← wC_end]; rfl, H15.fr⟩
set_option maxRecDepth 100000 in
theorem block_ok (h : St) (v : Value) (b : List UInt8) (w : World) (hl : b.length = 64) (hA : Arr w v 1 64 (b.map vU8)) :
    Calls Try.prog 145 #[(.agg #[(vU32 h.a), (vU32 h.b), (vU32 h.c), (vU32 h.d), (vU32 h.e), (vU32 h.f), (vU32 h.g), (vU32 h.h)]), v] w (fun e w' => e = .returned (.agg #[vU32 (blockS h b).a, vU32 (blockS h b).b, vU32 (blockS h b).c, vU32 (blockS h b).d, vU32 (blockS h b).e, vU32 (blockS h b).f, vU32 (blockS h b).g, vU32 (blockS h b).h]) ∧ Fr [] w w') := by
  refine enter (args := [(.agg #[(vU32 h.a), (vU32 h.b), (vU32 h.c), (vU32 h.d), (vU32 h.e), (vU32 h.f), (vU32 h.g), (vU32 h.h)]), v]) Try.func145 rfl rfl ?_
  have H0 : Own [] w w [] := Own.start w []
  refine WC.seq ?_
  refine WC.region ?_
  refine WL.op rfl rfl (op_box H0 rfl rfl (fun b1 w1 H1 => ?_))
  refine WL.op rfl rfl (op_alloc H1 Fa.I195 (fun b2 w2 H2 => ?_))
  refine WL.nil ?_
  refine WQ.next ?_
  refine WC.seq ?_
  refine WC.draw 7 Fa.M H2 (HW.op rfl (fun w1 H1 => op_loadS (vs := [_, _, _, _, _, _, _, _]) rfl (H1.cells (i := 0) rfl rfl) Try.underlying195 rfl Fa.I195 rfl ⟨rfl, Fr.refl _ _⟩) (HW.op rfl (fun w1 H1 => op_move rfl ⟨rfl, Fr.refl _ _⟩) (HW.op rfl (fun w1 H1 => op_callF Fa.C150 rfl ((words_ok _ _ _ hl (H1.arr hA)).mono (fun e w2 hq => ⟨_, hq.1, rfl, hq.2⟩))) (HW.op rfl (fun w1 H1 => op_callF Fa.C151 rfl ((keys_ok _).mono (fun e w2 hq => ⟨_, hq.1, rfl, hq.2⟩))) (HW.flt (mk := fun bq => ptr bq.1 0) (ent := fun bq => .blk bq.1 _ _) rfl (fun w1 _ => op_alloc (Own.start w1 []) Fa.I195 (fun bq w2 H2 => ⟨(bq, undef), rfl, H2, True.intro⟩)) (HW.flt (mk := fun bq => ptr bq.1 0) (ent := fun bq => .blk bq.1 _ _) rfl (fun w1 _ => op_alloc (Own.start w1 []) Fa.I204 (fun bq w2 H2 => ⟨(bq, undef), rfl, H2, True.intro⟩)) (HW.flt (mk := fun bq => ptr bq.1 0) (ent := fun bq => .blk bq.1 _ _) rfl (fun w1 _ => op_alloc (Own.start w1 []) Fa.I204 (fun bq w2 H2 => ⟨(bq, undef), rfl, H2, True.intro⟩))  HW.nil))))))) (by kernel_rfl) ?_
  intro β5 w5 H5
  refine WL.op rfl rfl (op_storeBW (i := 2) H5 rfl rfl rfl rfl rfl Fa.I195 (fun w6 H6 => ?_))
  refine WL.op rfl rfl (op_storeBV (i := 3) H6 rfl rfl rfl (by rw [List.length_map, wl_length, List.length_replicate]; rfl) (one_U32 _) (by rw [List.length_map, wl_length]) Fa.I204 (fun w7 H7 => ?_))
  refine WL.op rfl rfl (op_storeBV (i := 4) H7 rfl rfl rfl (by kernel_rfl) (one_U32 _) (by kernel_rfl) Fa.I204 (fun w8 H8 => ?_))
  refine WL.nil ?_
  refine WQ.next ?_
  refine WC.seq ?_
  refine WC.seq ?_
  refine WC.region ?_
  refine WL.op rfl rfl (op_move rfl ?_)
  refine WL.nil ?_
  refine WQ.next ?_
  refine WC.block ?_
  refine WC.loop (α := Nat) (fun t => [(2, (ptr b1 0)), (4, (ptr b2 0)), (5, (ptr (β5 4).1 0)), (6, (ptr (β5 5).1 0)), (7, (ptr (β5 6).1 0)), (16, (vN t))]) (fun t w' => (t ≤ 64) ∧ Own [] w w' [.blk b1 [(vU32 h.a), (vU32 h.b), (vU32 h.c), (vU32 h.d), (vU32 h.e), (vU32 h.f), (vU32 h.g), (vU32 h.h)] 195, .blk b2 [(vU32 0), (vU32 0), (vU32 0), (vU32 0), (vU32 0), (vU32 0), (vU32 0), (vU32 0)] 195, .blk (β5 4).1 [(vU32 (rounds h (wl b 64) t).a), (vU32 (rounds h (wl b 64) t).b), (vU32 (rounds h (wl b 64) t).c), (vU32 (rounds h (wl b 64) t).d), (vU32 (rounds h (wl b 64) t).e), (vU32 (rounds h (wl b 64) t).f), (vU32 (rounds h (wl b 64) t).g), (vU32 (rounds h (wl b 64) t).h)] 195, .blk (β5 5).1 ((wl b 64).map vU32) 204, .blk (β5 6).1 (keyL.map vU32) 204]) (fun t => 64 - t) 0 ⟨(by omega), H8⟩ ⟨rfl, rfl, rfl, rfl, rfl, rfl, trivial⟩ ?_
  rintro t w9 ⟨hinv, H9⟩
  show WC _ _ _ _ _ [(2, (ptr b1 0)), (4, (ptr b2 0)), (5, (ptr (β5 4).1 0)), (6, (ptr (β5 5).1 0)), (7, (ptr (β5 6).1 0)), (16, (vN t))] _
  refine WC.seq ?_
  refine WC.region ?_
  refine WL.op rfl rfl (op_lssN (b := 64) rfl rfl ?_)
  refine WL.nil ?_
  refine WQ.next ?_
  refine WC.seq ?_
  refine WC.cond rfl (fun (hb10 : (decide (t < 64)) = true) => ?_) (fun (hb10 : (decide (t < 64)) = false) => ?_)
  ·
    have hc10 := of_decide_eq_true hb10
    refine WC.skip ?_
    refine WQ.next ?_
    refine WC.seq ?_
    refine WC.block ?_
    refine WC.seq ?_
    refine WC.region ?_
    refine WL.op rfl rfl (op_move rfl ?_)
    refine WL.op rfl rfl (op_assign rfl ?_)
    refine WL.nil ?_
    refine WQ.next ?_
    refine WC.seq ?_
    refine WC.draw 35 Fa.M H9 (HW.op rfl (fun w1 H1 => op_indexAddrA1 (m := 7) Try.underlying195 Fa.I22 rfl rfl (by omega) ⟨rfl, Fr.refl _ _⟩) (HW.op rfl (fun w1 H1 => op_load rfl (H1.cell (i := 2) rfl rfl) Try.underlying22 rfl ⟨rfl, Fr.refl _ _⟩) (HW.op rfl (fun w1 H1 => op_indexAddrA1 (m := 4) Try.underlying195 Fa.I22 rfl rfl (by omega) ⟨rfl, Fr.refl _ _⟩) (HW.op rfl (fun w1 H1 => op_load rfl (H1.cell (i := 2) rfl rfl) Try.underlying22 rfl ⟨rfl, Fr.refl _ _⟩) (HW.op rfl (fun w1 H1 => op_callF Fa.C152 rfl ((turn_ok ((rounds h (wl b 64) t).e) 6 (by decide) _).mono (fun e w2 hq => ⟨_, hq.1, rfl, hq.2⟩))) (HW.op rfl (fun w1 H1 => op_indexAddrA1 (m := 4) Try.underlying195 Fa.I22 rfl rfl (by omega) ⟨rfl, Fr.refl _ _⟩) (HW.op rfl (fun w1 H1 => op_load rfl (H1.cell (i := 2) rfl rfl) Try.underlying22 rfl ⟨rfl, Fr.refl _ _⟩) (HW.op rfl (fun w1 H1 => op_callF Fa.C152 rfl ((turn_ok ((rounds h (wl b 64) t).e) 11 (by decide) _).mono (fun e w2 hq => ⟨_, hq.1, rfl, hq.2⟩))) (HW.op rfl (fun w1 H1 => op_xorU32 rfl rfl ⟨rfl, Fr.refl _ _⟩) (HW.op rfl (fun w1 H1 => op_indexAddrA1 (m := 4) Try.underlying195 Fa.I22 rfl rfl (by omega) ⟨rfl, Fr.refl _ _⟩) (HW.op rfl (fun w1 H1 => op_load rfl (H1.cell (i := 2) rfl rfl) Try.underlying22 rfl ⟨rfl, Fr.refl _ _⟩) (HW.op rfl (fun w1 H1 => op_callF Fa.C152 rfl ((turn_ok ((rounds h (wl b 64) t).e) 25 (by decide) _).mono (fun e w2 hq => ⟨_, hq.1, rfl, hq.2⟩))) (HW.op rfl (fun w1 H1 => op_xorU32 rfl rfl ⟨rfl, Fr.refl _ _⟩) (HW.op rfl (fun w1 H1 => op_addU32 rfl rfl ⟨rfl, Fr.refl _ _⟩) (HW.op rfl (fun w1 H1 => op_indexAddrA1 (m := 4) Try.underlying195 Fa.I22 rfl rfl (by omega) ⟨rfl, Fr.refl _ _⟩) (HW.op rfl (fun w1 H1 => op_load rfl (H1.cell (i := 2) rfl rfl) Try.underlying22 rfl ⟨rfl, Fr.refl _ _⟩) (HW.op rfl (fun w1 H1 => op_indexAddrA1 (m := 5) Try.underlying195 Fa.I22 rfl rfl (by omega) ⟨rfl, Fr.refl _ _⟩) (HW.op rfl (fun w1 H1 => op_load rfl (H1.cell (i := 2) rfl rfl) Try.underlying22 rfl ⟨rfl, Fr.refl _ _⟩) (HW.op rfl (fun w1 H1 => op_andU32 rfl rfl ⟨rfl, Fr.refl _ _⟩) (HW.op rfl (fun w1 H1 => op_indexAddrA1 (m := 6) Try.underlying195 Fa.I22 rfl rfl (by omega) ⟨rfl, Fr.refl _ _⟩) (HW.op rfl (fun w1 H1 => op_load rfl (H1.cell (i := 2) rfl rfl) Try.underlying22 rfl ⟨rfl, Fr.refl _ _⟩) (HW.op rfl (fun w1 H1 => op_indexAddrA1 (m := 4) Try.underlying195 Fa.I22 rfl rfl (by omega) ⟨rfl, Fr.refl _ _⟩) (HW.op rfl (fun w1 H1 => op_load rfl (H1.cell (i := 2) rfl rfl) Try.underlying22 rfl ⟨rfl, Fr.refl _ _⟩) (HW.op rfl (fun w1 H1 => op_andNotU32 rfl rfl ⟨rfl, Fr.refl _ _⟩) (HW.op rfl (fun w1 H1 => op_xorU32 rfl rfl ⟨rfl, Fr.refl _ _⟩) (HW.op rfl (fun w1 H1 => op_addU32 rfl rfl ⟨rfl, Fr.refl _ _⟩) (HW.op rfl (fun w1 H1 => op_move rfl ⟨rfl, Fr.refl _ _⟩) (HW.op rfl (fun w1 H1 => op_indexAddrA1 Try.underlying204 Fa.I22 rfl rfl (by omega) ⟨rfl, Fr.refl _ _⟩) (HW.op rfl (fun w1 H1 => op_load rfl (H1.cell (i := 4) rfl (get_map0 vU32 0 (by rw [keyL_length]; omega))) Try.underlying22 rfl ⟨rfl, Fr.refl _ _⟩) (HW.op rfl (fun w1 H1 => op_addU32 rfl rfl ⟨rfl, Fr.refl _ _⟩) (HW.op rfl (fun w1 H1 => op_move rfl ⟨rfl, Fr.refl _ _⟩) (HW.op rfl (fun w1 H1 => op_indexAddrA1 Try.underlying204 Fa.I22 rfl rfl (by omega) ⟨rfl, Fr.refl _ _⟩) (HW.op rfl (fun w1 H1 => op_load rfl (H1.cell (i := 3) rfl (get_map0 vU32 0 (by rw [wl_length]; omega))) Try.underlying22 rfl ⟨rfl, Fr.refl _ _⟩) (HW.op rfl (fun w1 H1 => op_addU32 rfl rfl ⟨rfl, Fr.refl _ _⟩) (HW.op rfl (fun w1 H1 => op_assign rfl ⟨rfl, Fr.refl _ _⟩)  HW.nil))))))))))))))))))))))))))))))))))) (by kernel_rfl) ?_
    intro β14 w14 H14
    refine WL.nil ?_
    refine WQ.next ?_
    refine WC.seq ?_
    refine WC.draw 30 Fa.M H14 (HW.op rfl (fun w1 H1 => op_indexAddrA1 (m := 0) Try.underlying195 Fa.I22 rfl rfl (by omega) ⟨rfl, Fr.refl _ _⟩) (HW.op rfl (fun w1 H1 => op_load rfl (H1.cell (i := 2) rfl rfl) Try.underlying22 rfl ⟨rfl, Fr.refl _ _⟩) (HW.op rfl (fun w1 H1 => op_callF Fa.C152 rfl ((turn_ok ((rounds h (wl b 64) t).a) 2 (by decide) _).mono (fun e w2 hq => ⟨_, hq.1, rfl, hq.2⟩))) (HW.op rfl (fun w1 H1 => op_indexAddrA1 (m := 0) Try.underlying195 Fa.I22 rfl rfl (by omega) ⟨rfl, Fr.refl _ _⟩) (HW.op rfl (fun w1 H1 => op_load rfl (H1.cell (i := 2) rfl rfl) Try.underlying22 rfl ⟨rfl, Fr.refl _ _⟩) (HW.op rfl (fun w1 H1 => op_callF Fa.C152 rfl ((turn_ok ((rounds h (wl b 64) t).a) 13 (by decide) _).mono (fun e w2 hq => ⟨_, hq.1, rfl, hq.2⟩))) (HW.op rfl (fun w1 H1 => op_xorU32 rfl rfl ⟨rfl, Fr.refl _ _⟩) (HW.op rfl (fun w1 H1 => op_indexAddrA1 (m := 0) Try.underlying195 Fa.I22 rfl rfl (by omega) ⟨rfl, Fr.refl _ _⟩) (HW.op rfl (fun w1 H1 => op_load rfl (H1.cell (i := 2) rfl rfl) Try.underlying22 rfl ⟨rfl, Fr.refl _ _⟩) (HW.op rfl (fun w1 H1 => op_callF Fa.C152 rfl ((turn_ok ((rounds h (wl b 64) t).a) 22 (by decide) _).mono (fun e w2 hq => ⟨_, hq.1, rfl, hq.2⟩))) (HW.op rfl (fun w1 H1 => op_xorU32 rfl rfl ⟨rfl, Fr.refl _ _⟩) (HW.op rfl (fun w1 H1 => op_indexAddrA1 (m := 0) Try.underlying195 Fa.I22 rfl rfl (by omega) ⟨rfl, Fr.refl _ _⟩) (HW.op rfl (fun w1 H1 => op_load rfl (H1.cell (i := 2) rfl rfl) Try.underlying22 rfl ⟨rfl, Fr.refl _ _⟩) (HW.op rfl (fun w1 H1 => op_indexAddrA1 (m := 1) Try.underlying195 Fa.I22 rfl rfl (by omega) ⟨rfl, Fr.refl _ _⟩) (HW.op rfl (fun w1 H1 => op_load rfl (H1.cell (i := 2) rfl rfl) Try.underlying22 rfl ⟨rfl, Fr.refl _ _⟩) (HW.op rfl (fun w1 H1 => op_andU32 rfl rfl ⟨rfl, Fr.refl _ _⟩) (HW.op rfl (fun w1 H1 => op_indexAddrA1 (m := 0) Try.underlying195 Fa.I22 rfl rfl (by omega) ⟨rfl, Fr.refl _ _⟩) (HW.op rfl (fun w1 H1 => op_load rfl (H1.cell (i := 2) rfl rfl) Try.underlying22 rfl ⟨rfl, Fr.refl _ _⟩) (HW.op rfl (fun w1 H1 => op_indexAddrA1 (m := 2) Try.underlying195 Fa.I22 rfl rfl (by omega) ⟨rfl, Fr.refl _ _⟩) (HW.op rfl (fun w1 H1 => op_load rfl (H1.cell (i := 2) rfl rfl) Try.underlying22 rfl ⟨rfl, Fr.refl _ _⟩) (HW.op rfl (fun w1 H1 => op_andU32 rfl rfl ⟨rfl, Fr.refl _ _⟩) (HW.op rfl (fun w1 H1 => op_xorU32 rfl rfl ⟨rfl, Fr.refl _ _⟩) (HW.op rfl (fun w1 H1 => op_indexAddrA1 (m := 1) Try.underlying195 Fa.I22 rfl rfl (by omega) ⟨rfl, Fr.refl _ _⟩) (HW.op rfl (fun w1 H1 => op_load rfl (H1.cell (i := 2) rfl rfl) Try.underlying22 rfl ⟨rfl, Fr.refl _ _⟩) (HW.op rfl (fun w1 H1 => op_indexAddrA1 (m := 2) Try.underlying195 Fa.I22 rfl rfl (by omega) ⟨rfl, Fr.refl _ _⟩) (HW.op rfl (fun w1 H1 => op_load rfl (H1.cell (i := 2) rfl rfl) Try.underlying22 rfl ⟨rfl, Fr.refl _ _⟩) (HW.op rfl (fun w1 H1 => op_andU32 rfl rfl ⟨rfl, Fr.refl _ _⟩) (HW.op rfl (fun w1 H1 => op_xorU32 rfl rfl ⟨rfl, Fr.refl _ _⟩) (HW.op rfl (fun w1 H1 => op_addU32 rfl rfl ⟨rfl, Fr.refl _ _⟩) (HW.op rfl (fun w1 H1 => op_assign rfl ⟨rfl, Fr.refl _ _⟩)  HW.nil)))))))))))))))))))))))))))))) (by kernel_rfl) ?_
    intro β18 w18 H18
    refine WL.nil ?_
    refine WQ.next ?_
    refine WC.region ?_
    refine WL.op rfl rfl (op_move rfl ?_)
    refine WL.op rfl rfl (op_move rfl ?_)
    refine WL.op rfl rfl (op_addU32 rfl rfl ?_)
    refine WL.op rfl rfl (op_indexAddrA1 (m := 0) Try.underlying195 Fa.I22 rfl rfl (by omega) ?_)
    refine WL.op rfl rfl (op_load rfl (H18.cell (i := 2) rfl rfl) Try.underlying22 rfl ?_)
    refine WL.op rfl rfl (op_indexAddrA1 (m := 1) Try.underlying195 Fa.I22 rfl rfl (by omega) ?_)
    refine WL.op rfl rfl (op_load rfl (H18.cell (i := 2) rfl rfl) Try.underlying22 rfl ?_)
    refine WL.op rfl rfl (op_indexAddrA1 (m := 2) Try.underlying195 Fa.I22 rfl rfl (by omega) ?_)
    refine WL.op rfl rfl (op_load rfl (H18.cell (i := 2) rfl rfl) Try.underlying22 rfl ?_)
    refine WL.op rfl rfl (op_indexAddrA1 (m := 3) Try.underlying195 Fa.I22 rfl rfl (by omega) ?_)
    refine WL.op rfl rfl (op_load rfl (H18.cell (i := 2) rfl rfl) Try.underlying22 rfl ?_)
    refine WL.op rfl rfl (op_move rfl ?_)
    refine WL.op rfl rfl (op_addU32 rfl rfl ?_)
    refine WL.op rfl rfl (op_indexAddrA1 (m := 4) Try.underlying195 Fa.I22 rfl rfl (by omega) ?_)
    refine WL.op rfl rfl (op_load rfl (H18.cell (i := 2) rfl rfl) Try.underlying22 rfl ?_)
    refine WL.op rfl rfl (op_indexAddrA1 (m := 5) Try.underlying195 Fa.I22 rfl rfl (by omega) ?_)
    refine WL.op rfl rfl (op_load rfl (H18.cell (i := 2) rfl rfl) Try.underlying22 rfl ?_)
    refine WL.op rfl rfl (op_indexAddrA1 (m := 6) Try.underlying195 Fa.I22 rfl rfl (by omega) ?_)
    refine WL.op rfl rfl (op_load rfl (H18.cell (i := 2) rfl rfl) Try.underlying22 rfl ?_)
    refine WL.op rfl rfl (op_buildA (cs := [_, _, _, _, _, _, _, _]) Fa.I195 Try.underlying195 Fa.I22 rfl rfl ?_)
    refine WL.op rfl rfl (op_storeBW (i := 2) H18 rfl rfl rfl rfl rfl Fa.I195 (fun w19 H19 => ?_))
    refine WL.nil ?_
    refine WQ.inNormal ?_
    refine WQ.next ?_
    refine WC.region ?_
    refine WL.op rfl rfl (op_addN (b := 1) rfl rfl (by omega) ?_)
    refine WL.op rfl rfl (op_move rfl ?_)
    refine WL.nil ?_
    exact WQ.round (t + 1) ⟨(by omega), (by exact H19)⟩ ⟨rfl, rfl, rfl, rfl, rfl, rfl, trivial⟩ (by omega)
  ·
    have hc10 := of_decide_eq_false hb10
    refine WC.exit ?_
    refine WQ.thenExit ?_
    refine WQ.thenExit ?_
    refine WQ.inHere ?_
    refine WQ.next ?_
    refine WC.seq ?_
    refine WC.seq ?_
    refine WC.region ?_
    refine WL.op rfl rfl (op_move rfl ?_)
    refine WL.nil ?_
    refine WQ.next ?_
    refine WC.block ?_
    refine WC.loop (α := Nat) (fun k => [(2, (ptr b1 0)), (4, (ptr b2 0)), (5, (ptr (β5 4).1 0)), (103, (vN k))]) (fun k w' => (k ≤ 8) ∧ Own [] w w' [.blk b1 (h.vals.map vU32) 195, .blk b2 [(vU32 0), (vU32 0), (vU32 0), (vU32 0), (vU32 0), (vU32 0), (vU32 0), (vU32 0)] 195, .blk (β5 4).1 ((addTo (rounds h (wl b 64) 64) h k).map vU32) 195, .blk (β5 5).1 ((wl b 64).map vU32) 204, .blk (β5 6).1 (keyL.map vU32) 204]) (fun k => 8 - k) 0 ⟨(by omega), (by have ht : t = 64 := (by omega); subst ht; exact H9)⟩ ⟨rfl, rfl, rfl, rfl, trivial⟩ ?_
    rintro k w20 ⟨hinv, H20⟩
    show WC _ _ _ _ _ [(2, (ptr b1 0)), (4, (ptr b2 0)), (5, (ptr (β5 4).1 0)), (103, (vN k))] _
    refine WC.seq ?_
    refine WC.region ?_
    refine WL.op rfl rfl (op_lssN (b := 8) rfl rfl ?_)
    refine WL.nil ?_
    refine WQ.next ?_
    refine WC.seq ?_
    refine WC.cond rfl (fun (hb21 : (decide (k < 8)) = true) => ?_) (fun (hb21 : (decide (k < 8)) = false) => ?_)
    ·
      have hc21 := of_decide_eq_true hb21
      refine WC.skip ?_
      refine WQ.next ?_
      refine WC.seq ?_
      refine WC.block ?_
      refine WC.seq ?_
      refine WC.region ?_
      refine WL.op rfl rfl (op_move rfl ?_)
      refine WL.op rfl rfl (op_assign rfl ?_)
      refine WL.nil ?_
      refine WQ.next ?_
      refine WC.draw 8 Fa.M H20 (HW.op rfl (fun w1 H1 => op_move rfl ⟨rfl, Fr.refl _ _⟩) (HW.op rfl (fun w1 H1 => op_indexAddrA1 Try.underlying195 Fa.I22 rfl rfl (by omega) ⟨rfl, Fr.refl _ _⟩) (HW.op rfl (fun w1 H1 => op_load rfl (H1.cell (i := 2) rfl (get_map0 vU32 0 (by rw [addTo_length _ _ _ (by omega)]; omega))) Try.underlying22 rfl ⟨rfl, Fr.refl _ _⟩) (HW.op rfl (fun w1 H1 => op_move rfl ⟨rfl, Fr.refl _ _⟩) (HW.op rfl (fun w1 H1 => op_indexAddrA1 Try.underlying195 Fa.I22 rfl rfl (by omega) ⟨rfl, Fr.refl _ _⟩) (HW.op rfl (fun w1 H1 => op_load rfl (H1.cell (i := 0) rfl (get_map0 vU32 0 (by rw [vals_length]; omega))) Try.underlying22 rfl ⟨rfl, Fr.refl _ _⟩) (HW.op rfl (fun w1 H1 => op_addU32 rfl rfl ⟨rfl, Fr.refl _ _⟩) (HW.op rfl (fun w1 H1 => op_indexAddrA1 Try.underlying195 Fa.I22 rfl rfl (by omega) ⟨rfl, Fr.refl _ _⟩)  HW.nil)))))))) (by kernel_rfl) ?_
      intro β22 w22 H22
      refine WL.op rfl rfl (op_storeB (i := 2) H22 rfl rfl rfl (by rw [Nat.blt_eq, List.length_map, addTo_length _ _ _ (by omega)]; omega) rfl Fa.I22 (fun w23 H23 => ?_))
      refine WL.nil ?_
      refine WQ.inNormal ?_
      refine WQ.next ?_
      refine WC.region ?_
      refine WL.op rfl rfl (op_addN (b := 1) rfl rfl (by omega) ?_)
      refine WL.op rfl rfl (op_move rfl ?_)
      refine WL.nil ?_
      exact WQ.round (k + 1) ⟨(by omega), (by rw [addTo_map _ _ (by omega)]; exact H23)⟩ ⟨rfl, rfl, rfl, rfl, trivial⟩ (by omega)
    ·
      have hc21 := of_decide_eq_false hb21
      refine WC.exit ?_
      refine WQ.thenExit ?_
      refine WQ.thenExit ?_
      refine WQ.inHere ?_
      refine WQ.next ?_
      refine WC.seq ?_
      refine WC.region ?_
      refine WL.op rfl rfl (op_loadS rfl (H20.cellsW (i := 2) rfl) Try.underlying195 rfl Fa.I195 (by rw [List.length_map, addTo_length _ _ _ (by omega)]) ?_)
      refine WL.op rfl rfl (op_storeBV (i := 1) H20 rfl rfl rfl (by rw [List.length_map, addTo_length _ _ _ (by omega)]; rfl) (one_U32 _) (by rw [List.length_map, addTo_length _ _ _ (by omega)]) Fa.I195 (fun w24 H24 => ?_))
      refine WL.nil ?_
      refine WQ.next ?_
      refine WC.ret ?_
      refine WQ.out (.cell rfl (run_loadVarS (H24.cellsW (i := 1) rfl) Try.underlying195 rfl Fa.I195 (by rw [List.length_map, addTo_length _ _ _ (by omega)])) .nil) ?_
      exact ⟨by have hk : k = 8 := (by omega); subst hk; rw [addTo_end]; rfl, H24.fr⟩
set_option maxRecDepth 100000 in
theorem new_ok  (w : World) :
    Calls Try.prog 131 #[] w (fun e w' => ∃ q, e = .returned (ptr q 0) ∧ Own [] w w' [.blk q [(vU32 (hst ([] : List UInt8)).a), (vU32 (hst ([] : List UInt8)).b), (vU32 (hst ([] : List UInt8)).c), (vU32 (hst ([] : List UInt8)).d), (vU32 (hst ([] : List UInt8)).e), (vU32 (hst ([] : List UInt8)).f), (vU32 (hst ([] : List UInt8)).g), (vU32 (hst ([] : List UInt8)).h), (.slice none 0 0), (vN ([] : List UInt8).length)] 198, .row (.slice none 0 0) 5 1 (hrest ([] : List UInt8)).length ((hrest ([] : List UInt8)).map vU8)]) := by
  refine enter (args := []) Try.func131 rfl rfl ?_
  have H0 : Own [] w w [] := Own.start w []
  refine WC.seq ?_
  refine WC.region ?_
  refine WL.op rfl rfl (op_assign rfl ?_)
  refine WL.nil ?_
  refine WQ.next ?_
  refine WC.seq ?_
  refine WC.region ?_
  refine WL.op rfl rfl (op_callF Fa.C143 rfl ((first_ok _).mono (fun e w1 hq => ?_)))
  obtain ⟨rfl, hf1⟩ := hq
  refine ⟨_, rfl, ?_⟩
  have H1 := H0.fr' hf1
  refine WL.op rfl rfl (op_build (cs := [_, _, _, _, _, _, _, _, _, _]) Fa.I198 Fa.PL198 rfl rfl ?_)
  refine WL.op rfl rfl (op_box H1 rfl rfl (fun b2 w2 H2 => ?_))
  refine WL.op rfl rfl (op_assign rfl ?_)
  refine WL.nil ?_
  refine WQ.next ?_
  refine WC.ret ?_
  refine WQ.out (.tmp rfl .nil) ?_
  exact ⟨b2, rfl, H2.nilRow _ _⟩
set_option maxRecDepth 100000 in
theorem write_ok (q : Nat) (v lv : Value) (all : List UInt8) (ls : List (List UInt8)) (T : List Nat) (w : World) (H : Own T w w [.blk q [(vU32 (hst all).a), (vU32 (hst all).b), (vU32 (hst all).c), (vU32 (hst all).d), (vU32 (hst all).e), (vU32 (hst all).f), (vU32 (hst all).g), (vU32 (hst all).h), v, (vN all.length)] 198, .row v 5 1 (hrest all).length ((hrest all).map vU8)]) {nl : Nat} (hA : ∀ w1, Fr T w w1 → Arr w1 lv 1 nl (ls.map str)) (hb : (all ++ ls.flatten).length < 2 ^ 40) (hn : ls.length < 2 ^ 40) :
    Calls Try.prog 133 #[(ptr q 0), lv] w (fun e w' => ∃ v, e = .returned (vN 0) ∧ Own T w w' [.blk q [(vU32 (hst (all ++ ls.flatten)).a), (vU32 (hst (all ++ ls.flatten)).b), (vU32 (hst (all ++ ls.flatten)).c), (vU32 (hst (all ++ ls.flatten)).d), (vU32 (hst (all ++ ls.flatten)).e), (vU32 (hst (all ++ ls.flatten)).f), (vU32 (hst (all ++ ls.flatten)).g), (vU32 (hst (all ++ ls.flatten)).h), v, (vN (all ++ ls.flatten).length)] 198, .row v 5 1 (hrest (all ++ ls.flatten)).length ((hrest (all ++ ls.flatten)).map vU8)]) := by
  refine enter (args := [(ptr q 0), lv]) Try.func133 rfl rfl ?_
  obtain rfl := (hA w (Fr.refl _ _)).mapLen
  refine WC.seq ?_
  refine WC.region ?_
  refine WL.op rfl rfl (op_assign rfl ?_)
  refine WL.nil ?_
  refine WQ.next ?_
  refine WC.seq ?_
  refine WC.seq ?_
  refine WC.region ?_
  refine WL.op rfl rfl (op_move rfl ?_)
  refine WL.op rfl rfl (op_eqlPN Fa.PT182 rfl rfl ?_)
  refine WL.nil ?_
  refine WQ.next ?_
  refine WC.no rfl rfl ?_
  refine WC.skip ?_
  refine WQ.next ?_
  refine WC.seq ?_
  refine WC.seq ?_
  refine WC.region ?_
  refine WL.op rfl rfl (op_move rfl ?_)
  refine WL.op rfl rfl (op_lenA Try.underlying23 rfl (hA _ H.fr) ?_)
  refine WL.op rfl rfl (op_move rfl ?_)
  refine WL.nil ?_
  refine WQ.next ?_
  refine WC.block ?_
  refine WC.loop (α := Nat × Value) (fun (k, v) => [(0, (ptr q 0)), (9, lv), (10, (vN ls.length)), (11, (vN k))]) (fun (k, v) w' => (k ≤ ls.length) ∧ Own T w w' [.blk q [(vU32 (hst (acc all ls k)).a), (vU32 (hst (acc all ls k)).b), (vU32 (hst (acc all ls k)).c), (vU32 (hst (acc all ls k)).d), (vU32 (hst (acc all ls k)).e), (vU32 (hst (acc all ls k)).f), (vU32 (hst (acc all ls k)).g), (vU32 (hst (acc all ls k)).h), v, (vN (acc all ls k).length)] 198, .row v 5 1 (hrest (acc all ls k)).length (List.map vU8 (hrest (acc all ls k)))]) (fun (k, v) => ls.length - k) (0, v) ⟨(by omega), H⟩ ⟨rfl, rfl, rfl, rfl, trivial⟩ ?_
  rintro ⟨k, v⟩ w1 ⟨hinv, H1⟩
  show WC _ _ _ _ _ [(0, (ptr q 0)), (9, lv), (10, (vN ls.length)), (11, (vN k))] _
  have hl0 := acc_len all ls k (by omega)
  have hr0 := hrest_length (acc all ls k)
  refine WC.seq ?_
  refine WC.region ?_
  refine WL.op rfl rfl (op_lssN rfl rfl ?_)
  refine WL.nil ?_
  refine WQ.next ?_
  refine WC.seq ?_
  refine WC.cond rfl (fun (hb2 : (decide (k < ls.length)) = true) => ?_) (fun (hb2 : (decide (k < ls.length)) = false) => ?_)
  ·
    have hc2 := of_decide_eq_true hb2
    have hl1 := acc_len1 all ls k hc2
    refine WC.skip ?_
    refine WQ.next ?_
    refine WC.seq ?_
    refine WC.block ?_
    refine WC.seq ?_
    refine WC.region ?_
    refine WL.op rfl rfl (op_indexAddr1 Try.underlying23 Fa.I9 rfl (hA _ H1.fr) rfl (by omega) ?_)
    refine WL.op rfl rfl (op_load rfl ((hA _ H1.fr).at (get_map str [] (by first | omega | (simp; omega)))) Try.underlying9 rfl ?_)
    refine WL.op rfl rfl (op_assign rfl ?_)
    refine WL.nil ?_
    refine WQ.next ?_
    refine WC.seq ?_
    refine WC.region ?_
    refine WL.op rfl rfl (op_move rfl ?_)
    refine WL.op rfl rfl (op_move rfl ?_)
    refine WL.op rfl rfl (op_nilCheck rfl ?_)
    refine WL.op rfl rfl (op_fieldAddr rfl Fa.F198_1 ?_)
    refine WL.op rfl rfl (op_load rfl (H1.cell (i := 0) rfl rfl) Try.underlying73 rfl ?_)
    refine WL.op rfl rfl (op_move rfl ?_)
    refine WL.op rfl rfl (op_appendM (f := vU8) (l := (hrest (acc all ls k))) (l' := (ls.getD k [])) (i := 1) H1 Try.underlying73 Fa.I5 rfl rfl rfl rfl (Src.ofStr Try.underlying9) (one_mapM (fun _ => rfl)) (by omega) (by omega) (fun v3 w3 H3 => ?_))
    refine WL.op rfl rfl (op_nilCheck rfl ?_)
    refine WL.op rfl rfl (op_fieldAddr rfl Fa.F198_1 ?_)
    refine WL.op rfl rfl (op_storeB (i := 0) H3 rfl rfl rfl rfl (Arr.one (H3.arrR (i := 1) rfl)) Fa.I73 (fun w4 H4 => ?_))
    refine WL.nil ?_
    refine WQ.next ?_
    refine WC.seq ?_
    refine WC.region ?_
    refine WL.op rfl rfl (op_move rfl ?_)
    refine WL.op rfl rfl (op_nilCheck rfl ?_)
    refine WL.op rfl rfl (op_fieldAddr rfl Fa.F198_2 ?_)
    refine WL.op rfl rfl (op_load rfl (H4.cell (i := 0) rfl rfl) Try.underlying3 rfl ?_)
    refine WL.op rfl rfl (op_move rfl ?_)
    refine WL.op rfl rfl (op_lenStr Try.underlying9 rfl ?_)
    refine WL.op rfl rfl (op_addN rfl rfl (by omega) ?_)
    refine WL.op rfl rfl (op_nilCheck rfl ?_)
    refine WL.op rfl rfl (op_fieldAddr rfl Fa.F198_2 ?_)
    refine WL.op rfl rfl (op_storeB (i := 0) H4 rfl rfl rfl rfl rfl Fa.I3 (fun w5 H5 => ?_))
    refine WL.nil ?_
    refine WQ.next ?_
    refine WC.block ?_
    refine WC.loop (α := Nat × Value) (fun (j, v) => [(0, (ptr q 0)), (6, (str (ls.getD k []))), (9, lv), (10, (vN ls.length)), (11, (vN k))]) (fun (j, v) w' => (64 * j ≤ (hrest (acc all ls k)).length + (ls.getD k []).length) ∧ Own T w w' [.blk q [(vU32 (bst (hst (acc all ls k)) (hrest (acc all ls k) ++ (ls.getD k [])) j).a), (vU32 (bst (hst (acc all ls k)) (hrest (acc all ls k) ++ (ls.getD k [])) j).b), (vU32 (bst (hst (acc all ls k)) (hrest (acc all ls k) ++ (ls.getD k [])) j).c), (vU32 (bst (hst (acc all ls k)) (hrest (acc all ls k) ++ (ls.getD k [])) j).d), (vU32 (bst (hst (acc all ls k)) (hrest (acc all ls k) ++ (ls.getD k [])) j).e), (vU32 (bst (hst (acc all ls k)) (hrest (acc all ls k) ++ (ls.getD k [])) j).f), (vU32 (bst (hst (acc all ls k)) (hrest (acc all ls k) ++ (ls.getD k [])) j).g), (vU32 (bst (hst (acc all ls k)) (hrest (acc all ls k) ++ (ls.getD k [])) j).h), v, (vN ((acc all ls k).length + (ls.getD k []).length))] 198, .row v 5 1 (brest (hrest (acc all ls k) ++ (ls.getD k [])) j).length (List.map vU8 (brest (hrest (acc all ls k) ++ (ls.getD k [])) j))]) (fun (j, v) => (hrest (acc all ls k)).length + (ls.getD k []).length - 64 * j) (0, v3) ⟨(by omega), (by have h := H5; rw [← @List.length_append _ (hrest (acc all ls k)) (ls.getD k [])] at h; exact h)⟩ ⟨rfl, rfl, rfl, rfl, rfl, trivial⟩ ?_
    rintro ⟨j, v⟩ w6 ⟨hinv, H6⟩
    show WC _ _ _ _ _ [(0, (ptr q 0)), (6, (str (ls.getD k []))), (9, lv), (10, (vN ls.length)), (11, (vN k))] _
    have hb0 := brest_length (hrest (acc all ls k) ++ (ls.getD k [])) j
    rw [List.length_append] at hb0
    refine WC.seq ?_
    refine WC.seq ?_
    refine WC.region ?_
    refine WL.op rfl rfl (op_move rfl ?_)
    refine WL.op rfl rfl (op_nilCheck rfl ?_)
    refine WL.op rfl rfl (op_fieldAddr rfl Fa.F198_1 ?_)
    refine WL.op rfl rfl (op_load rfl (H6.cell (i := 0) rfl rfl) Try.underlying73 rfl ?_)
    refine WL.op rfl rfl (op_lenA Try.underlying73 rfl (H6.arrR (i := 1) rfl) ?_)
    refine WL.op rfl rfl (op_geqN (b := 64) rfl rfl ?_)
    refine WL.nil ?_
    refine WQ.next ?_
    refine WC.cond rfl (fun (hb7 : (decide ((brest (hrest (acc all ls k) ++ (ls.getD k [])) j).length ≥ 64)) = true) => ?_) (fun (hb7 : (decide ((brest (hrest (acc all ls k) ++ (ls.getD k [])) j).length ≥ 64)) = false) => ?_)
    ·
      have hc7 := of_decide_eq_true hb7
      refine WC.skip ?_
      refine WQ.next ?_
      refine WC.block ?_
      refine WC.seq ?_
      refine WC.draw 13 Fa.M H6 (HW.op rfl (fun w1 H1 => op_move rfl ⟨rfl, Fr.refl _ _⟩) (HW.op rfl (fun w1 H1 => op_move rfl ⟨rfl, Fr.refl _ _⟩) (HW.op rfl (fun w1 H1 => op_nilCheck rfl ⟨rfl, Fr.refl _ _⟩) (HW.op rfl (fun w1 H1 => op_fieldAddr rfl Fa.F198_0 ⟨rfl, Fr.refl _ _⟩) (HW.op rfl (fun w1 H1 => op_loadS (vs := [_, _, _, _, _, _, _, _]) rfl (H1.cells (i := 0) rfl rfl) Try.underlying195 rfl Fa.I195 rfl ⟨rfl, Fr.refl _ _⟩) (HW.op rfl (fun w1 H1 => op_move rfl ⟨rfl, Fr.refl _ _⟩) (HW.op rfl (fun w1 H1 => op_nilCheck rfl ⟨rfl, Fr.refl _ _⟩) (HW.op rfl (fun w1 H1 => op_fieldAddr rfl Fa.F198_1 ⟨rfl, Fr.refl _ _⟩) (HW.op rfl (fun w1 H1 => op_load rfl (H1.cell (i := 0) rfl rfl) Try.underlying73 rfl ⟨rfl, Fr.refl _ _⟩) (HW.op rfl (fun w1 H1 => op_cutHi (b := 64) Try.underlying73 Fa.I5 rfl (H1.arrR (i := 1) rfl) rfl (by omega) ⟨rfl, Fr.refl _ _⟩) (HW.op rfl (fun w1 H1 => op_callF Fa.C145 rfl ((block_ok (bst (hst (acc all ls k)) (hrest (acc all ls k) ++ (ls.getD k [])) j) _ ((brest (hrest (acc all ls k) ++ (ls.getD k [])) j).take 64) _ (by rw [List.length_take]; omega) (((H1.arrR (i := 1) rfl)).cutHiM (f := vU8) (l := (brest (hrest (acc all ls k) ++ (ls.getD k [])) j)) (b := 64) (by omega))).mono (fun e w2 hq => ⟨_, hq.1, rfl, hq.2⟩))) (HW.op rfl (fun w1 H1 => op_nilCheck rfl ⟨rfl, Fr.refl _ _⟩) (HW.op rfl (fun w1 H1 => op_fieldAddr rfl Fa.F198_0 ⟨rfl, Fr.refl _ _⟩)  HW.nil))))))))))))) (by kernel_rfl) ?_
      intro β9 w9 H9
      refine WL.op rfl rfl (op_storeBS (i := 0) (vs := [_, _, _, _, _, _, _, _]) H9 rfl rfl rfl rfl rfl Fa.I195 (fun w10 H10 => ?_))
      refine WL.nil ?_
      refine WQ.next ?_
      refine WC.region ?_
      refine WL.op rfl rfl (op_move rfl ?_)
      refine WL.op rfl rfl (op_move rfl ?_)
      refine WL.op rfl rfl (op_nilCheck rfl ?_)
      refine WL.op rfl rfl (op_fieldAddr rfl Fa.F198_1 ?_)
      refine WL.op rfl rfl (op_load rfl (H10.cell (i := 0) rfl rfl) Try.underlying73 rfl ?_)
      refine WL.op rfl rfl (op_cutLo (a := 64) Try.underlying73 Fa.I5 rfl (H10.arrR (i := 1) rfl) rfl (by omega) ?_)
      have H11 := H10.cutLoM (f := vU8) (l := (brest (hrest (acc all ls k) ++ (ls.getD k [])) j)) (a := 64) (i := 1) rfl (by omega)
      refine WL.op rfl rfl (op_nilCheck rfl ?_)
      refine WL.op rfl rfl (op_fieldAddr rfl Fa.F198_1 ?_)
      refine WL.op rfl rfl (op_storeB (i := 0) H11 rfl rfl rfl rfl (Arr.one (H11.arrR (i := 1) rfl)) Fa.I73 (fun w12 H12 => ?_))
      refine WL.nil ?_
      refine WQ.inNormal ?_
      exact WQ.round (j + 1, (cutV v 64 (brest (hrest (acc all ls k) ++ (ls.getD k [])) j).length 1)) ⟨(by omega), (by have h := H12; rw [← List.length_drop] at h; exact h)⟩ ⟨rfl, rfl, rfl, rfl, rfl, trivial⟩ (by show (hrest (acc all ls k)).length + (ls.getD k []).length - 64 * (j + 1) < (hrest (acc all ls k)).length + (ls.getD k []).length - 64 * j; omega)
    ·
      have hc7 := of_decide_eq_false hb7
      obtain ⟨he1, he2⟩ := mEnd (acc all ls k) (ls.getD k []) j (by omega) (by omega)
      have H13 : Own T w w6 [.blk q [(vU32 (hst (acc all ls (k + 1))).a), (vU32 (hst (acc all ls (k + 1))).b), (vU32 (hst (acc all ls (k + 1))).c), (vU32 (hst (acc all ls (k + 1))).d), (vU32 (hst (acc all ls (k + 1))).e), (vU32 (hst (acc all ls (k + 1))).f), (vU32 (hst (acc all ls (k + 1))).g), (vU32 (hst (acc all ls (k + 1))).h), v, (vN (acc all ls (k + 1)).length)] 198, .row v 5 1 (hrest (acc all ls (k + 1))).length (List.map vU8 (hrest (acc all ls (k + 1))))] := by have h := H6; rw [he1, he2, ← @List.length_append _ (acc all ls k) (ls.getD k [])] at h; exact h
      refine WC.exit ?_
      refine WQ.thenExit ?_
      refine WQ.thenExit ?_
      refine WQ.inHere ?_
      refine WQ.inNormal ?_
      refine WQ.next ?_
      refine WC.region ?_
      refine WL.op rfl rfl (op_addN (b := 1) rfl rfl (by omega) ?_)
      refine WL.op rfl rfl (op_move rfl ?_)
      refine WL.nil ?_
      exact WQ.round (k + 1, v) ⟨(by omega), H13⟩ ⟨rfl, rfl, rfl, rfl, trivial⟩ (by show ls.length - (k + 1) < ls.length - k; omega)
  ·
    have hc2 := of_decide_eq_false hb2
    refine WC.exit ?_
    refine WQ.thenExit ?_
    refine WQ.thenExit ?_
    refine WQ.inHere ?_
    refine WQ.next ?_
    refine WC.seq ?_
    refine WC.region ?_
    refine WL.op rfl rfl (op_assign rfl ?_)
    refine WL.nil ?_
    refine WQ.next ?_
    refine WC.ret ?_
    refine WQ.out (.tmp rfl .nil) ?_
    exact ⟨_, rfl, (by have hk : k = ls.length := (by omega); subst hk; have h := H1; rw [acc_end] at h; exact h)⟩
set_option maxRecDepth 100000 in
theorem hsum_ok (q : Nat) (v : Value) (all : List UInt8) (w : World) (hQ : cellsAt w q [(vU32 (hst all).a), (vU32 (hst all).b), (vU32 (hst all).c), (vU32 (hst all).d), (vU32 (hst all).e), (vU32 (hst all).f), (vU32 (hst all).g), (vU32 (hst all).h), v, (vN all.length)]) (hV : Arr w v 1 (hrest all).length (List.map vU8 (hrest all))) (hb : all.length < 2 ^ 40) :
    Calls Try.prog 135 #[(ptr q 0)] w (fun e w' => e = .returned (str (sha all)) ∧ Fr [] w w') := by
  refine enter (args := [(ptr q 0)]) Try.func135 rfl rfl ?_
  have H0 : Own [] w w [Ent.bo q [(vU32 (hst all).a), (vU32 (hst all).b), (vU32 (hst all).c), (vU32 (hst all).d), (vU32 (hst all).e), (vU32 (hst all).f), (vU32 (hst all).g), (vU32 (hst all).h), v, (vN all.length)], Ent.ar v 1 (hrest all).length (List.map vU8 (hrest all))] := (((Own.start w []).oldB hQ).oldA hV)
  have hr0 := hrest_length all
  have hp0 : padZ all.length = (119 - all.length % 64) % 64 := rfl
  refine WC.seq ?_
  refine WC.region ?_
  refine WL.op rfl rfl (op_assign rfl ?_)
  refine WL.nil ?_
  refine WQ.next ?_
  refine WC.seq ?_
  refine WC.seq ?_
  refine WC.region ?_
  refine WL.op rfl rfl (op_move rfl ?_)
  refine WL.op rfl rfl (op_eqlPN Fa.PT182 rfl rfl ?_)
  refine WL.nil ?_
  refine WQ.next ?_
  refine WC.no rfl rfl ?_
  refine WC.skip ?_
  refine WQ.next ?_
  refine WC.seq ?_
  refine WC.region ?_
  refine WL.op rfl rfl (op_move rfl ?_)
  refine WL.op rfl rfl (op_nilCheck rfl ?_)
  refine WL.op rfl rfl (op_fieldAddr rfl Fa.F198_1 ?_)
  refine WL.op rfl rfl (op_load rfl (H0.cellO (i := 0) rfl rfl) Try.underlying73 rfl ?_)
  have H2 := H0.nilRow 5 1
  refine WL.op rfl rfl (op_appendM (f := vU8) (l := []) (l' := (hrest all)) (i := 2) H2 Try.underlying73 Fa.I5 rfl rfl rfl rfl (Src.ofArr Try.underlying73 (H2.arrO (i := 1) rfl)) (one_mapM (fun _ => rfl)) (by omega) (by omega) (fun v1 w1 H1 => ?_))
  refine WL.op rfl rfl (op_buildSlice (cs := [_]) H1 Try.underlying73 Fa.I5 rfl rfl rfl rfl (by decide) (by decide) (fun b3 w3 H3 => ?_))
  refine WL.op rfl rfl (op_appendM (f := vU8) (l := ([] ++ (hrest all))) (l' := [128]) (i := 2) H3 Try.underlying73 Fa.I5 rfl rfl rfl rfl (Src.ofArr Try.underlying73 (H3.arrR (i := 3) rfl)) (one_mapM (fun _ => rfl)) (by omega) (by omega) (fun v4 w4 H4 => ?_))
  refine WL.op rfl rfl (op_assign rfl ?_)
  refine WL.nil ?_
  refine WQ.next ?_
  refine WC.seq ?_
  refine WC.block ?_
  refine WC.loop (α := Nat × Value) (fun (k, t) => [(0, (ptr q 0)), (3, t)]) (fun (k, t) w' => (k ≤ padZ all.length) ∧ Own [] w w' [Ent.bo q [(vU32 (hst all).a), (vU32 (hst all).b), (vU32 (hst all).c), (vU32 (hst all).d), (vU32 (hst all).e), (vU32 (hst all).f), (vU32 (hst all).g), (vU32 (hst all).h), v, (vN all.length)], Ent.ar v 1 (hrest all).length (List.map vU8 (hrest all)), .row t 5 1 ((0 + (hrest all).length) + 1 + k) (List.map vU8 (hrest all ++ [128] ++ List.replicate k 0)), .row (.slice (some ⟨b3, 0, none⟩) 1 1) 5 1 1 (List.map vU8 [128])]) (fun (k, t) => padZ all.length - k) (0, v4) ⟨(by omega), (by have h := (show Own [] w w4 [Ent.bo q [(vU32 (hst all).a), (vU32 (hst all).b), (vU32 (hst all).c), (vU32 (hst all).d), (vU32 (hst all).e), (vU32 (hst all).f), (vU32 (hst all).g), (vU32 (hst all).h), v, (vN all.length)], Ent.ar v 1 (hrest all).length (List.map vU8 (hrest all)), .row v4 5 1 ((0 + (hrest all).length) + 1) (List.map vU8 (([] ++ (hrest all)) ++ [128])), .row (.slice (some ⟨b3, 0, none⟩) 1 1) 5 1 1 (List.map vU8 [128])] from H4); simpa using h)⟩ ⟨rfl, rfl, trivial⟩ ?_
  rintro ⟨k, t⟩ w5 ⟨hinv, H5⟩
  show WC _ _ _ _ _ [(0, (ptr q 0)), (3, t)] _
  refine WC.seq ?_
  refine WC.seq ?_
  refine WC.region ?_
  refine WL.op rfl rfl (op_move rfl ?_)
  refine WL.op rfl rfl (op_lenA Try.underlying73 rfl (H5.arrR (i := 2) rfl) ?_)
  refine WL.op rfl rfl (op_remN (b := 64) rfl rfl (by omega) ?_)
  refine WL.op rfl rfl (op_neqN (b := 56) rfl rfl ?_)
  refine WL.nil ?_
  refine WQ.next ?_
  refine WC.cond rfl (fun (hb6 : (decide ((((0 + (hrest all).length) + 1 + k) % 64) ≠ 56)) = true) => ?_) (fun (hb6 : (decide ((((0 + (hrest all).length) + 1 + k) % 64) ≠ 56)) = false) => ?_)
  ·
    have hc6 := of_decide_eq_true hb6
    refine WC.skip ?_
    refine WQ.next ?_
    refine WC.block ?_
    refine WC.region ?_
    refine WL.op rfl rfl (op_move rfl ?_)
    refine WL.op rfl rfl (op_buildSlice (cs := [_]) H5 Try.underlying73 Fa.I5 rfl rfl rfl rfl (by decide) (by decide) (fun b7 w7 H7 => ?_))
    refine WL.op rfl rfl (op_appendM (f := vU8) (l := (hrest all ++ [128] ++ List.replicate k 0)) (l' := [0]) (i := 2) H7 Try.underlying73 Fa.I5 rfl rfl rfl rfl (Src.ofArr Try.underlying73 (H7.arrR (i := 4) rfl)) (one_mapM (fun _ => rfl)) (by omega) (by omega) (fun v8 w8 H8 => ?_))
    refine WL.op rfl rfl (op_assign rfl ?_)
    refine WL.nil ?_
    refine WQ.inNormal ?_
    exact WQ.round (k + 1, v8) ⟨(by omega), (by have h := (show Own [] w w8 [Ent.bo q [(vU32 (hst all).a), (vU32 (hst all).b), (vU32 (hst all).c), (vU32 (hst all).d), (vU32 (hst all).e), (vU32 (hst all).f), (vU32 (hst all).g), (vU32 (hst all).h), v, (vN all.length)], Ent.ar v 1 (hrest all).length (List.map vU8 (hrest all)), .row v8 5 1 (((0 + (hrest all).length) + 1 + k) + 1) (List.map vU8 ((hrest all ++ [128] ++ List.replicate k 0) ++ [0])), .row (.slice (some ⟨b3, 0, none⟩) 1 1) 5 1 1 (List.map vU8 [128])] from (H8.take 4)); rw [padStep] at h; exact h)⟩ ⟨rfl, rfl, trivial⟩ (by show padZ all.length - (k + 1) < padZ all.length - k; omega)
  ·
    have hc6 := of_decide_eq_false hb6
    have hk : k = padZ all.length := (by omega)
    refine WC.exit ?_
    refine WQ.thenExit ?_
    refine WQ.thenExit ?_
    refine WQ.inHere ?_
    refine WQ.next ?_
    refine WC.seq ?_
    refine WC.region ?_
    refine WL.op rfl rfl (op_move rfl ?_)
    refine WL.op rfl rfl (op_nilCheck rfl ?_)
    refine WL.op rfl rfl (op_fieldAddr rfl Fa.F198_2 ?_)
    refine WL.op rfl rfl (op_load rfl (H5.cellO (i := 0) rfl rfl) Try.underlying3 rfl ?_)
    refine WL.op rfl rfl (op_convNU64 (hs := Try.underlying3) (hd := Try.underlying116) rfl ?_)
    refine WL.op rfl rfl (op_mulU64 (a := 8) rfl rfl ?_)
    refine WL.op rfl rfl (op_assign rfl ?_)
    refine WL.nil ?_
    refine WQ.next ?_
    refine WC.seq ?_
    refine WC.seq ?_
    refine WC.region ?_
    refine WL.op rfl rfl (op_assign rfl ?_)
    refine WL.nil ?_
    refine WQ.next ?_
    refine WC.block ?_
    refine WC.loop (α := Nat × Value) (fun (j, t) => [(0, (ptr q 0)), (3, t), (4, (vU64 ((8 : UInt64) * (UInt64.ofNat all.length)))), (5, (vI ((56 : Int) - ((8 * j : Nat) : Int))))]) (fun (j, t) w' => (j ≤ 8) ∧ Own [] w w' [Ent.bo q [(vU32 (hst all).a), (vU32 (hst all).b), (vU32 (hst all).c), (vU32 (hst all).d), (vU32 (hst all).e), (vU32 (hst all).f), (vU32 (hst all).g), (vU32 (hst all).h), v, (vN all.length)], Ent.ar v 1 (hrest all).length (List.map vU8 (hrest all)), .row t 5 1 ((hrest all).length + 1 + padZ all.length + j) (List.map vU8 (hrest all ++ ([128] ++ List.replicate (padZ all.length) 0 ++ lenTo all.length j))), .row (.slice (some ⟨b3, 0, none⟩) 1 1) 5 1 1 (List.map vU8 [128])]) (fun (j, t) => 8 - j) (0, t) ⟨(by omega), (by have h := (show Own [] w w5 [Ent.bo q [(vU32 (hst all).a), (vU32 (hst all).b), (vU32 (hst all).c), (vU32 (hst all).d), (vU32 (hst all).e), (vU32 (hst all).f), (vU32 (hst all).g), (vU32 (hst all).h), v, (vN all.length)], Ent.ar v 1 (hrest all).length (List.map vU8 (hrest all)), .row t 5 1 ((0 + (hrest all).length) + 1 + k) (List.map vU8 (hrest all ++ [128] ++ List.replicate k 0)), .row (.slice (some ⟨b3, 0, none⟩) 1 1) 5 1 1 (List.map vU8 [128])] from H5); rw [hk] at h; simpa [lenTo, Nat.add_assoc] using h)⟩ ⟨rfl, rfl, rfl, rfl, trivial⟩ ?_
    rintro ⟨j, t⟩ w9 ⟨hinv, H9⟩
    show WC _ _ _ _ _ [(0, (ptr q 0)), (3, t), (4, (vU64 ((8 : UInt64) * (UInt64.ofNat all.length)))), (5, (vI ((56 : Int) - ((8 * j : Nat) : Int))))] _
    refine WC.seq ?_
    refine WC.seq ?_
    refine WC.region ?_
    refine WL.op rfl rfl (op_move rfl ?_)
    refine WL.op rfl rfl (op_geqI (b := (0 : Int)) rfl rfl ?_)
    refine WL.nil ?_
    refine WQ.next ?_
    refine WC.cond rfl (fun (hb10 : (decide (((56 : Int) - ((8 * j : Nat) : Int)) ≥ (0 : Int))) = true) => ?_) (fun (hb10 : (decide (((56 : Int) - ((8 * j : Nat) : Int)) ≥ (0 : Int))) = false) => ?_)
    ·
      have hc10 := of_decide_eq_true hb10
      rw [show ((56 : Int) - ((8 * j : Nat) : Int)) = ((56 - 8 * j : Nat) : Int) from by omega]
      refine WC.skip ?_
      refine WQ.next ?_
      refine WC.seq ?_
      refine WC.block ?_
      refine WC.region ?_
      refine WL.op rfl rfl (op_move rfl ?_)
      refine WL.op rfl rfl (op_move rfl ?_)
      refine WL.op rfl rfl (op_move rfl ?_)
      refine WL.op rfl rfl (op_shrU64 rfl rfl ?_)
      refine WL.op rfl rfl (op_convU64U8 (hs := Try.underlying116) (hd := Try.underlying5) rfl ?_)
      refine WL.op rfl rfl (op_buildSlice (cs := [_]) H9 Try.underlying73 Fa.I5 rfl rfl rfl rfl (by decide) (by decide) (fun b11 w11 H11 => ?_))
      refine WL.op rfl rfl (op_appendM (f := vU8) (l := (hrest all ++ ([128] ++ List.replicate (padZ all.length) 0 ++ lenTo all.length j))) (l' := [(UInt8.ofNat (shrU64 ((8 : UInt64) * (UInt64.ofNat all.length)) (56 - 8 * j)).toNat)]) (i := 2) H11 Try.underlying73 Fa.I5 rfl rfl rfl rfl (Src.ofArr Try.underlying73 (H11.arrR (i := 4) rfl)) (one_mapM (fun _ => rfl)) (by omega) (by omega) (fun v12 w12 H12 => ?_))
      refine WL.op rfl rfl (op_assign rfl ?_)
      refine WL.nil ?_
      refine WQ.inNormal ?_
      refine WQ.next ?_
      refine WC.region ?_
      refine WL.op rfl rfl (op_move rfl ?_)
      refine WL.op rfl rfl (op_subI (a := (((56 - 8 * j) : Nat) : Int)) (b := ((8 : Nat) : Int)) rfl rfl (by omega) ?_)
      refine WL.op rfl rfl (op_assign rfl ?_)
      refine WL.nil ?_
      exact WQ.round (j + 1, v12) ⟨(by omega), (by have h := (show Own [] w w12 [Ent.bo q [(vU32 (hst all).a), (vU32 (hst all).b), (vU32 (hst all).c), (vU32 (hst all).d), (vU32 (hst all).e), (vU32 (hst all).f), (vU32 (hst all).g), (vU32 (hst all).h), v, (vN all.length)], Ent.ar v 1 (hrest all).length (List.map vU8 (hrest all)), .row v12 5 1 (((hrest all).length + 1 + padZ all.length + j) + 1) (List.map vU8 ((hrest all ++ ([128] ++ List.replicate (padZ all.length) 0 ++ lenTo all.length j)) ++ [(UInt8.ofNat (shrU64 ((8 : UInt64) * (UInt64.ofNat all.length)) (56 - 8 * j)).toNat)])), .row (.slice (some ⟨b3, 0, none⟩) 1 1) 5 1 1 (List.map vU8 [128])] from (H12.take 4)); rw [lenStep] at h; exact h)⟩ ⟨rfl, rfl, rfl, (by show some (vI (((56 - 8 * j : Nat) : Int) - 8)) = some (vI ((56 : Int) - ((8 * (j + 1) : Nat) : Int))); congr 2; omega), trivial⟩ (by show 8 - (j + 1) < 8 - j; omega)
    ·
      have hc10 := of_decide_eq_false hb10
      refine WC.exit ?_
      refine WQ.thenExit ?_
      refine WQ.thenExit ?_
      refine WQ.inHere ?_
      refine WQ.next ?_
      refine WC.seq ?_
      refine WC.region ?_
      refine WL.op rfl rfl (op_move rfl ?_)
      refine WL.op rfl rfl (op_nilCheck rfl ?_)
      refine WL.op rfl rfl (op_fieldAddr rfl Fa.F198_0 ?_)
      refine WL.op rfl rfl (op_loadS (vs := [_, _, _, _, _, _, _, _]) rfl (H9.cellsO (i := 0) rfl rfl) Try.underlying195 rfl Fa.I195 rfl ?_)
      refine WL.op rfl rfl (op_alloc H9 Fa.I195 (fun b13 w13 H13 => ?_))
      refine WL.op rfl rfl (op_storeBW (i := 4) H13 rfl rfl rfl rfl rfl Fa.I195 (fun w14 H14 => ?_))
      refine WL.nil ?_
      refine WQ.next ?_
      refine WC.seq ?_
      refine WC.block ?_
      refine WC.loop (α := Nat × Value) (fun (j, t) => [(3, t), (6, (ptr b13 0))]) (fun (j, t) w' => (64 * j ≤ (hrest all ++ pads all.length).length) ∧ Own [] w w' [Ent.bo q [(vU32 (hst all).a), (vU32 (hst all).b), (vU32 (hst all).c), (vU32 (hst all).d), (vU32 (hst all).e), (vU32 (hst all).f), (vU32 (hst all).g), (vU32 (hst all).h), v, (vN all.length)], Ent.ar v 1 (hrest all).length (List.map vU8 (hrest all)), .row t 5 1 (brest (hrest all ++ pads all.length) j).length (List.map vU8 (brest (hrest all ++ pads all.length) j)), .row (.slice (some ⟨b3, 0, none⟩) 1 1) 5 1 1 (List.map vU8 [128]), .blk b13 [(vU32 (bst (hst all) (hrest all ++ pads all.length) j).a), (vU32 (bst (hst all) (hrest all ++ pads all.length) j).b), (vU32 (bst (hst all) (hrest all ++ pads all.length) j).c), (vU32 (bst (hst all) (hrest all ++ pads all.length) j).d), (vU32 (bst (hst all) (hrest all ++ pads all.length) j).e), (vU32 (bst (hst all) (hrest all ++ pads all.length) j).f), (vU32 (bst (hst all) (hrest all ++ pads all.length) j).g), (vU32 (bst (hst all) (hrest all ++ pads all.length) j).h)] 195]) (fun (j, t) => (hrest all ++ pads all.length).length - 64 * j) (0, t) ⟨(by omega), (by have hj : j = 8 := (by omega); have h := (show Own [] w w14 [Ent.bo q [(vU32 (hst all).a), (vU32 (hst all).b), (vU32 (hst all).c), (vU32 (hst all).d), (vU32 (hst all).e), (vU32 (hst all).f), (vU32 (hst all).g), (vU32 (hst all).h), v, (vN all.length)], Ent.ar v 1 (hrest all).length (List.map vU8 (hrest all)), .row t 5 1 ((hrest all).length + 1 + padZ all.length + j) (List.map vU8 (hrest all ++ ([128] ++ List.replicate (padZ all.length) 0 ++ lenTo all.length j))), .row (.slice (some ⟨b3, 0, none⟩) 1 1) 5 1 1 (List.map vU8 [128]), .blk b13 [(vU32 (hst all).a), (vU32 (hst all).b), (vU32 (hst all).c), (vU32 (hst all).d), (vU32 (hst all).e), (vU32 (hst all).f), (vU32 (hst all).g), (vU32 (hst all).h)] 195] from H14); rw [hj] at h; have e : (hrest all).length + 1 + padZ all.length + 8 = (brest (hrest all ++ pads all.length) 0).length := (by simp [brest, pads, lenTo_length]; omega); rw [e] at h; exact h)⟩ ⟨rfl, rfl, trivial⟩ ?_
      rintro ⟨j, t⟩ w15 ⟨hinv, H15⟩
      show WC _ _ _ _ _ [(3, t), (6, (ptr b13 0))] _
      have hb0 := brest_length (hrest all ++ pads all.length) j
      have hP := padAll all
      refine WC.seq ?_
      refine WC.seq ?_
      refine WC.region ?_
      refine WL.op rfl rfl (op_move rfl ?_)
      refine WL.op rfl rfl (op_lenA Try.underlying73 rfl (H15.arrR (i := 2) rfl) ?_)
      refine WL.op rfl rfl (op_gtrN (b := 0) rfl rfl ?_)
      refine WL.nil ?_
      refine WQ.next ?_
      refine WC.cond rfl (fun (hb16 : (decide ((brest (hrest all ++ pads all.length) j).length > 0)) = true) => ?_) (fun (hb16 : (decide ((brest (hrest all ++ pads all.length) j).length > 0)) = false) => ?_)
      ·
        have hc16 := of_decide_eq_true hb16
        refine WC.skip ?_
        refine WQ.next ?_
        refine WC.seq ?_
        refine WC.block ?_
        refine WC.draw 4 Fa.M H15 (HW.op rfl (fun w1 H1 => op_loadS (vs := [_, _, _, _, _, _, _, _]) rfl (H1.cells (i := 4) rfl rfl) Try.underlying195 rfl Fa.I195 rfl ⟨rfl, Fr.refl _ _⟩) (HW.op rfl (fun w1 H1 => op_move rfl ⟨rfl, Fr.refl _ _⟩) (HW.op rfl (fun w1 H1 => op_cutHi (b := 64) Try.underlying73 Fa.I5 rfl (H1.arrR (i := 2) rfl) rfl (by omega) ⟨rfl, Fr.refl _ _⟩) (HW.op rfl (fun w1 H1 => op_callF Fa.C145 rfl ((block_ok (bst (hst all) (hrest all ++ pads all.length) j) _ ((brest (hrest all ++ pads all.length) j).take 64) _ (by rw [List.length_take]; omega) (((H1.arrR (i := 2) rfl)).cutHiM (f := vU8) (l := (brest (hrest all ++ pads all.length) j)) (b := 64) (by omega))).mono (fun e w2 hq => ⟨_, hq.1, rfl, hq.2⟩)))  HW.nil)))) (by kernel_rfl) ?_
        intro β18 w18 H18
        refine WL.op rfl rfl (op_storeBW (i := 4) H18 rfl rfl rfl rfl rfl Fa.I195 (fun w19 H19 => ?_))
        refine WL.nil ?_
        refine WQ.inNormal ?_
        refine WQ.next ?_
        refine WC.region ?_
        refine WL.op rfl rfl (op_move rfl ?_)
        refine WL.op rfl rfl (op_cutLo (a := 64) Try.underlying73 Fa.I5 rfl (H19.arrR (i := 2) rfl) rfl (by omega) ?_)
        have H20 := H19.cutLoM (f := vU8) (l := (brest (hrest all ++ pads all.length) j)) (a := 64) (i := 2) rfl (by omega)
        refine WL.op rfl rfl (op_assign rfl ?_)
        refine WL.nil ?_
        exact WQ.round (j + 1, (cutV t 64 (brest (hrest all ++ pads all.length) j).length 1)) ⟨(by omega), (by have h := (show Own [] w w19 [Ent.bo q [(vU32 (hst all).a), (vU32 (hst all).b), (vU32 (hst all).c), (vU32 (hst all).d), (vU32 (hst all).e), (vU32 (hst all).f), (vU32 (hst all).g), (vU32 (hst all).h), v, (vN all.length)], Ent.ar v 1 (hrest all).length (List.map vU8 (hrest all)), .row (cutV t 64 (brest (hrest all ++ pads all.length) j).length 1) 5 1 ((brest (hrest all ++ pads all.length) j).length - 64) (List.map vU8 ((brest (hrest all ++ pads all.length) j).drop 64)), .row (.slice (some ⟨b3, 0, none⟩) 1 1) 5 1 1 (List.map vU8 [128]), .blk b13 [(vU32 (blockS (bst (hst all) (hrest all ++ pads all.length) j) ((brest (hrest all ++ pads all.length) j).take 64)).a), (vU32 (blockS (bst (hst all) (hrest all ++ pads all.length) j) ((brest (hrest all ++ pads all.length) j).take 64)).b), (vU32 (blockS (bst (hst all) (hrest all ++ pads all.length) j) ((brest (hrest all ++ pads all.length) j).take 64)).c), (vU32 (blockS (bst (hst all) (hrest all ++ pads all.length) j) ((brest (hrest all ++ pads all.length) j).take 64)).d), (vU32 (blockS (bst (hst all) (hrest all ++ pads all.length) j) ((brest (hrest all ++ pads all.length) j).take 64)).e), (vU32 (blockS (bst (hst all) (hrest all ++ pads all.length) j) ((brest (hrest all ++ pads all.length) j).take 64)).f), (vU32 (blockS (bst (hst all) (hrest all ++ pads all.length) j) ((brest (hrest all ++ pads all.length) j).take 64)).g), (vU32 (blockS (bst (hst all) (hrest all ++ pads all.length) j) ((brest (hrest all ++ pads all.length) j).take 64)).h)] 195] from H20); rw [← List.length_drop] at h; exact h)⟩ ⟨rfl, rfl, trivial⟩ (by show (hrest all ++ pads all.length).length - 64 * (j + 1) < (hrest all ++ pads all.length).length - 64 * j; omega)
      ·
        have hc16 := of_decide_eq_false hb16
        refine WC.exit ?_
        refine WQ.thenExit ?_
        refine WQ.thenExit ?_
        refine WQ.inHere ?_
        refine WQ.next ?_
        refine WC.seq ?_
        refine WC.region ?_
        refine WL.op rfl rfl (op_assign rfl ?_)
        have H21 := H15.nilRow 5 1
        refine WL.nil ?_
        refine WQ.next ?_
        refine WC.seq ?_
        refine WC.seq ?_
        refine WC.region ?_
        refine WL.op rfl rfl (op_loadS (vs := [_, _, _, _, _, _, _, _]) rfl (H21.cells (i := 4) rfl rfl) Try.underlying195 rfl Fa.I195 rfl ?_)
        refine WL.op rfl rfl (op_move rfl ?_)
        refine WL.nil ?_
        refine WQ.next ?_
        refine WC.block ?_
        refine WC.loop (α := Nat × Value) (fun (k, t2) => [(7, t2), (56, (.agg #[(vU32 (bst (hst all) (hrest all ++ pads all.length) j).a), (vU32 (bst (hst all) (hrest all ++ pads all.length) j).b), (vU32 (bst (hst all) (hrest all ++ pads all.length) j).c), (vU32 (bst (hst all) (hrest all ++ pads all.length) j).d), (vU32 (bst (hst all) (hrest all ++ pads all.length) j).e), (vU32 (bst (hst all) (hrest all ++ pads all.length) j).f), (vU32 (bst (hst all) (hrest all ++ pads all.length) j).g), (vU32 (bst (hst all) (hrest all ++ pads all.length) j).h)])), (57, (vN k))]) (fun (k, t2) w' => (k ≤ 8) ∧ Own [] w w' [Ent.bo q [(vU32 (hst all).a), (vU32 (hst all).b), (vU32 (hst all).c), (vU32 (hst all).d), (vU32 (hst all).e), (vU32 (hst all).f), (vU32 (hst all).g), (vU32 (hst all).h), v, (vN all.length)], Ent.ar v 1 (hrest all).length (List.map vU8 (hrest all)), .row t 5 1 (brest (hrest all ++ pads all.length) j).length (List.map vU8 (brest (hrest all ++ pads all.length) j)), .row (.slice (some ⟨b3, 0, none⟩) 1 1) 5 1 1 (List.map vU8 [128]), .blk b13 [(vU32 (bst (hst all) (hrest all ++ pads all.length) j).a), (vU32 (bst (hst all) (hrest all ++ pads all.length) j).b), (vU32 (bst (hst all) (hrest all ++ pads all.length) j).c), (vU32 (bst (hst all) (hrest all ++ pads all.length) j).d), (vU32 (bst (hst all) (hrest all ++ pads all.length) j).e), (vU32 (bst (hst all) (hrest all ++ pads all.length) j).f), (vU32 (bst (hst all) (hrest all ++ pads all.length) j).g), (vU32 (bst (hst all) (hrest all ++ pads all.length) j).h)] 195, .row t2 5 1 (4 * k) (List.map vU8 (outTo (bst (hst all) (hrest all ++ pads all.length) j) k))]) (fun (k, t2) => 8 - k) (0, (.slice none 0 0)) ⟨(by omega), H21⟩ ⟨rfl, rfl, rfl, trivial⟩ ?_
        rintro ⟨k, t2⟩ w22 ⟨hinv, H22⟩
        show WC _ _ _ _ _ [(7, t2), (56, (.agg #[(vU32 (bst (hst all) (hrest all ++ pads all.length) j).a), (vU32 (bst (hst all) (hrest all ++ pads all.length) j).b), (vU32 (bst (hst all) (hrest all ++ pads all.length) j).c), (vU32 (bst (hst all) (hrest all ++ pads all.length) j).d), (vU32 (bst (hst all) (hrest all ++ pads all.length) j).e), (vU32 (bst (hst all) (hrest all ++ pads all.length) j).f), (vU32 (bst (hst all) (hrest all ++ pads all.length) j).g), (vU32 (bst (hst all) (hrest all ++ pads all.length) j).h)])), (57, (vN k))] _
        refine WC.seq ?_
        refine WC.region ?_
        refine WL.op rfl rfl (op_lssN (b := 8) rfl rfl ?_)
        refine WL.nil ?_
        refine WQ.next ?_
        refine WC.seq ?_
        refine WC.cond rfl (fun (hb23 : (decide (k < 8)) = true) => ?_) (fun (hb23 : (decide (k < 8)) = false) => ?_)
        ·
          have hc23 := of_decide_eq_true hb23
          refine WC.skip ?_
          refine WQ.next ?_
          refine WC.seq ?_
          refine WC.block ?_
          refine WC.seq ?_
          refine WC.region ?_
          refine WL.op rfl rfl (op_indexA1 (cs := _) Try.underlying195 Fa.I22 Try.underlying22 rfl rfl rfl (by omega) (get_map (l := (bst (hst all) (hrest all ++ pads all.length) j).vals) vU32 0 (by rw [vals_length]; omega)) ?_)
          refine WL.op rfl rfl (op_assign rfl ?_)
          refine WL.nil ?_
          refine WQ.next ?_
          refine WC.region ?_
          refine WL.op rfl rfl (op_move rfl ?_)
          refine WL.op rfl rfl (op_move rfl ?_)
          refine WL.op rfl rfl (op_shrU32 (s := 24) rfl rfl ?_)
          refine WL.op rfl rfl (op_convU32U8 (hs := Try.underlying22) (hd := Try.underlying5) rfl ?_)
          refine WL.op rfl rfl (op_move rfl ?_)
          refine WL.op rfl rfl (op_shrU32 (s := 16) rfl rfl ?_)
          refine WL.op rfl rfl (op_convU32U8 (hs := Try.underlying22) (hd := Try.underlying5) rfl ?_)
          refine WL.op rfl rfl (op_move rfl ?_)
          refine WL.op rfl rfl (op_shrU32 (s := 8) rfl rfl ?_)
          refine WL.op rfl rfl (op_convU32U8 (hs := Try.underlying22) (hd := Try.underlying5) rfl ?_)
          refine WL.op rfl rfl (op_move rfl ?_)
          refine WL.op rfl rfl (op_convU32U8 (hs := Try.underlying22) (hd := Try.underlying5) rfl ?_)
          refine WL.op rfl rfl (op_buildSlice (cs := [_, _, _, _]) H22 Try.underlying73 Fa.I5 rfl rfl rfl rfl (by decide) (by decide) (fun b24 w24 H24 => ?_))
          refine WL.op rfl rfl (op_appendM (f := vU8) (l := (outTo (bst (hst all) (hrest all ++ pads all.length) j) k)) (l' := [(UInt8.ofNat (shrU32 ((bst (hst all) (hrest all ++ pads all.length) j).vals.getD k 0) 24).toNat), (UInt8.ofNat (shrU32 ((bst (hst all) (hrest all ++ pads all.length) j).vals.getD k 0) 16).toNat), (UInt8.ofNat (shrU32 ((bst (hst all) (hrest all ++ pads all.length) j).vals.getD k 0) 8).toNat), (UInt8.ofNat ((bst (hst all) (hrest all ++ pads all.length) j).vals.getD k 0).toNat)]) (i := 5) H24 Try.underlying73 Fa.I5 rfl rfl rfl rfl (Src.ofArr Try.underlying73 (H24.arrR (i := 6) rfl)) (one_mapM (fun _ => rfl)) (by omega) (by omega) (fun v25 w25 H25 => ?_))
          refine WL.op rfl rfl (op_assign rfl ?_)
          refine WL.nil ?_
          refine WQ.inNormal ?_
          refine WQ.next ?_
          refine WC.region ?_
          refine WL.op rfl rfl (op_addN (b := 1) rfl rfl (by omega) ?_)
          refine WL.op rfl rfl (op_move rfl ?_)
          refine WL.nil ?_
          exact WQ.round (k + 1, v25) ⟨(by omega), (H25.take 6)⟩ ⟨rfl, rfl, rfl, trivial⟩ (by show 8 - (k + 1) < 8 - k; omega)
        ·
          have hc23 := of_decide_eq_false hb23
          refine WC.exit ?_
          refine WQ.thenExit ?_
          refine WQ.thenExit ?_
          refine WQ.inHere ?_
          refine WQ.next ?_
          refine WC.seq ?_
          refine WC.region ?_
          refine WL.op rfl rfl (op_move rfl ?_)
          refine WL.op rfl rfl (op_bytesStr (l := (outTo (bst (hst all) (hrest all ++ pads all.length) j) k)) Try.underlying73 Try.underlying5 Try.underlying9 rfl (H22.arrR (i := 5) rfl) rfl ?_)
          refine WL.op rfl rfl (op_assign rfl ?_)
          refine WL.nil ?_
          refine WQ.next ?_
          refine WC.ret ?_
          refine WQ.out (.tmp rfl .nil) ?_
          exact ⟨(by have hk : k = 8 := (by omega); subst hk; rw [sumEnd all j (by omega) (by rw [← List.length_append]; omega)]; rfl), H22.fr⟩
end Go.Proofs.Ytpnghdalnghpcaa
/-! from WSha2 -/
namespace Go.Proofs.Ytpnghdalnghpcaa
open Go.Owl Go.Spec
set_option maxRecDepth 100000 in
theorem ssum_ok (s : List UInt8) (w : World) (hs : s.length < 2 ^ 40) :
    Calls Try.prog 144 #[(str s)] w (fun e w' => e = .returned (str (sha s)) ∧ Fr [] w w') := by
  refine enter (args := [(str s)]) Try.func144 rfl rfl ?_
  have H0 : Own [] w w [] := Own.start w []
  refine WC.seq ?_
  refine WC.region ?_
  refine WL.op rfl rfl (op_assign rfl ?_)
  refine WL.nil ?_
  refine WQ.next ?_
  refine WC.seq ?_
  refine WC.region ?_
  refine WL.op rfl rfl (op_callF Fa.C131 rfl ((new_ok _).mono (fun e w1 hq => ?_)))
  obtain ⟨q1, rfl, hq1⟩ := hq
  refine ⟨_, rfl, ?_⟩
  have H1 : Own [] w w1 [.blk q1 [(vU32 (hst ([] : List UInt8)).a), (vU32 (hst ([] : List UInt8)).b), (vU32 (hst ([] : List UInt8)).c), (vU32 (hst ([] : List UInt8)).d), (vU32 (hst ([] : List UInt8)).e), (vU32 (hst ([] : List UInt8)).f), (vU32 (hst ([] : List UInt8)).g), (vU32 (hst ([] : List UInt8)).h), (.slice none 0 0), (vN ([] : List UInt8).length)] 198, .row (.slice none 0 0) 5 1 (hrest ([] : List UInt8)).length (List.map vU8 (hrest ([] : List UInt8)))] := H0.splice [] [] [.blk q1 [(vU32 (hst ([] : List UInt8)).a), (vU32 (hst ([] : List UInt8)).b), (vU32 (hst ([] : List UInt8)).c), (vU32 (hst ([] : List UInt8)).d), (vU32 (hst ([] : List UInt8)).e), (vU32 (hst ([] : List UInt8)).f), (vU32 (hst ([] : List UInt8)).g), (vU32 (hst ([] : List UInt8)).h), (.slice none 0 0), (vN ([] : List UInt8).length)] 198, .row (.slice none 0 0) 5 1 (hrest ([] : List UInt8)).length (List.map vU8 (hrest ([] : List UInt8)))] rfl rfl hq1 (Fits.solid True.intro (Fits.solid True.intro Fits.nil))
  refine WL.op rfl rfl (op_assign rfl ?_)
  refine WL.nil ?_
  refine WQ.next ?_
  refine WC.seq ?_
  refine WC.region ?_
  refine WL.op rfl rfl (op_move rfl ?_)
  refine WL.op rfl rfl (op_move rfl ?_)
  refine WL.op rfl rfl (op_buildSlice (cs := [_]) H1 Try.underlying23 Fa.I9 rfl rfl rfl rfl (by decide) (by decide) (fun b2 w2 H2 => ?_))
  refine WL.op rfl rfl (op_callF Fa.C133 rfl ((write_ok q1 (.slice none 0 0) (.slice (some ⟨b2, 0, none⟩) 1 1) ([] : List UInt8) ([s]) _ _ (H2.part [0, 1] rfl rfl) (H2.stayR (I := [0, 1]) (k := 2) rfl rfl rfl) (by simpa using hs) (by simp)).mono (fun e w3 hq => ?_)))
  obtain ⟨v3, rfl, hq3⟩ := hq
  refine ⟨_, rfl, ?_⟩
  have H3 : Own [] w w3 [.blk q1 [(vU32 (hst (([] : List UInt8) ++ [s].flatten)).a), (vU32 (hst (([] : List UInt8) ++ [s].flatten)).b), (vU32 (hst (([] : List UInt8) ++ [s].flatten)).c), (vU32 (hst (([] : List UInt8) ++ [s].flatten)).d), (vU32 (hst (([] : List UInt8) ++ [s].flatten)).e), (vU32 (hst (([] : List UInt8) ++ [s].flatten)).f), (vU32 (hst (([] : List UInt8) ++ [s].flatten)).g), (vU32 (hst (([] : List UInt8) ++ [s].flatten)).h), v3, (vN (([] : List UInt8) ++ [s].flatten).length)] 198, .row v3 5 1 (hrest (([] : List UInt8) ++ [s].flatten)).length (List.map vU8 (hrest (([] : List UInt8) ++ [s].flatten))), .row (.slice (some ⟨b2, 0, none⟩) 1 1) 9 1 1 (List.map str [s])] := H2.splice [0, 1] [.blk q1 [(vU32 (hst (([] : List UInt8) ++ [s].flatten)).a), (vU32 (hst (([] : List UInt8) ++ [s].flatten)).b), (vU32 (hst (([] : List UInt8) ++ [s].flatten)).c), (vU32 (hst (([] : List UInt8) ++ [s].flatten)).d), (vU32 (hst (([] : List UInt8) ++ [s].flatten)).e), (vU32 (hst (([] : List UInt8) ++ [s].flatten)).f), (vU32 (hst (([] : List UInt8) ++ [s].flatten)).g), (vU32 (hst (([] : List UInt8) ++ [s].flatten)).h), v3, (vN (([] : List UInt8) ++ [s].flatten).length)] 198, .row v3 5 1 (hrest (([] : List UInt8) ++ [s].flatten)).length (List.map vU8 (hrest (([] : List UInt8) ++ [s].flatten)))] [] rfl rfl hq3 (Fits.solid True.intro (Fits.solid True.intro Fits.nil))
  refine WL.nil ?_
  refine WQ.next ?_
  refine WC.seq ?_
  refine WC.region ?_
  refine WL.op rfl rfl (op_move rfl ?_)
  refine WL.op rfl rfl (op_callF Fa.C135 rfl ((hsum_ok q1 v3 (([] : List UInt8) ++ [s].flatten) _ (H3.cellsAt (i := 0) rfl) (H3.arrR (i := 1) rfl) (by simpa using hs)).mono (fun e w4 hq => ?_)))
  obtain ⟨rfl, hf4⟩ := hq
  refine ⟨_, rfl, ?_⟩
  have H4 := H3.fr' hf4
  refine WL.op rfl rfl (op_assign rfl ?_)
  refine WL.nil ?_
  refine WQ.next ?_
  refine WC.ret ?_
  refine WQ.out (.tmp rfl .nil) ?_
  exact ⟨by simp [tup], H4.fr⟩
end Go.Proofs.Ytpnghdalnghpcaa
/-! from WRef2 -/
namespace Go.Proofs.Ytpnghdalnghpcaa
open Go.Owl Go.Spec
end Go.Proofs.Ytpnghdalnghpcaa
/-! from WMac -/
namespace Go.Proofs.Ytpnghdalnghpcaa
open Go.Owl Go.Spec
set_option maxRecDepth 100000 in
theorem mblock_ok (key : List UInt8) (w : World) (hk : key.length < 2 ^ 40) :
    Calls Try.prog 132 #[(str key)] w (fun e w' => e = .returned (str (blockM key)) ∧ Fr [] w w') := by
  refine enter (args := [(str key)]) Try.func132 rfl rfl ?_
  have H0 : Own [] w w [] := Own.start w []
  refine WC.seq ?_
  refine WC.region ?_
  refine WL.op rfl rfl (op_assign rfl ?_)
  refine WL.nil ?_
  refine WQ.next ?_
  refine WC.seq ?_
  refine WC.seq ?_
  refine WC.region ?_
  refine WL.op rfl rfl (op_move rfl ?_)
  refine WL.op rfl rfl (op_lenStr Try.underlying9 rfl ?_)
  refine WL.op rfl rfl (op_gtrN (b := 64) rfl rfl ?_)
  refine WL.nil ?_
  refine WQ.next ?_
  refine WC.cond rfl (fun (hb1 : (decide (key.length > 64)) = true) => ?_) (fun (hb1 : (decide (key.length > 64)) = false) => ?_)
  ·
    have hc1 := of_decide_eq_true hb1
    have hl := sha_length key
    refine WC.region ?_
    refine WL.op rfl rfl (op_move rfl ?_)
    refine WL.op rfl rfl (op_callF Fa.C144 rfl ((ssum_ok key _ hk).mono (fun e w2 hq => ?_)))
    obtain ⟨rfl, hf2⟩ := hq
    refine ⟨_, rfl, ?_⟩
    have H2 := H0.fr' hf2
    refine WL.op rfl rfl (op_assign rfl ?_)
    refine WL.nil ?_
    refine WQ.next ?_
    refine WC.seq ?_
    refine WC.region ?_
    refine WL.op rfl rfl (op_move rfl ?_)
    refine WL.op rfl rfl (op_move rfl ?_)
    refine WL.op rfl rfl (op_lenStr Try.underlying9 rfl ?_)
    refine WL.op rfl rfl (op_subN (a := 64) rfl rfl (by omega) (by omega) ?_)
    refine WL.op rfl rfl (op_makeSliceM (f := vU8) (c := 0) H2 Try.underlying73 Fa.I5 rfl rfl (by omega) (by omega) (fun b3 w3 H3 => ?_))
    refine WL.op rfl rfl (op_bytesStr (l := (List.replicate (64 - (sha key).length) 0)) Try.underlying73 Try.underlying5 Try.underlying9 rfl (H3.arrR (i := 0) rfl) rfl ?_)
    refine WL.op rfl rfl (op_addStr rfl rfl (by first | omega | (rw [List.length_append]; omega) | (simp; omega)) ?_)
    refine WL.op rfl rfl (op_assign rfl ?_)
    refine WL.nil ?_
    refine WQ.next ?_
    refine WC.ret ?_
    refine WQ.out (.tmp rfl .nil) ?_
    exact ⟨by rw [blockM, keyB, if_pos hc1]; rfl, H3.fr⟩
  ·
    have hc1 := of_decide_eq_false hb1
    refine WC.skip ?_
    refine WQ.next ?_
    refine WC.seq ?_
    refine WC.region ?_
    refine WL.op rfl rfl (op_move rfl ?_)
    refine WL.op rfl rfl (op_move rfl ?_)
    refine WL.op rfl rfl (op_lenStr Try.underlying9 rfl ?_)
    refine WL.op rfl rfl (op_subN (a := 64) rfl rfl (by omega) (by omega) ?_)
    refine WL.op rfl rfl (op_makeSliceM (f := vU8) (c := 0) H0 Try.underlying73 Fa.I5 rfl rfl (by omega) (by omega) (fun b4 w4 H4 => ?_))
    refine WL.op rfl rfl (op_bytesStr (l := (List.replicate (64 - key.length) 0)) Try.underlying73 Try.underlying5 Try.underlying9 rfl (H4.arrR (i := 0) rfl) rfl ?_)
    refine WL.op rfl rfl (op_addStr rfl rfl (by first | omega | (rw [List.length_append]; omega) | (simp; omega)) ?_)
    refine WL.op rfl rfl (op_assign rfl ?_)
    refine WL.nil ?_
    refine WQ.next ?_
    refine WC.ret ?_
    refine WQ.out (.tmp rfl .nil) ?_
    exact ⟨by rw [blockM, keyB, if_neg hc1]; rfl, H4.fr⟩
set_option maxRecDepth 100000 in
theorem padded_ok (s : List UInt8) (c : UInt8) (w : World) (hs : s.length < 2 ^ 40) :
    Calls Try.prog 134 #[(str s), (vU8 c)] w (fun e w' => e = .returned (str (xorL s c)) ∧ Fr [] w w') := by
  refine enter (args := [(str s), (vU8 c)]) Try.func134 rfl rfl ?_
  have H0 : Own [] w w [] := Own.start w []
  refine WC.seq ?_
  refine WC.region ?_
  refine WL.op rfl rfl (op_assign rfl ?_)
  refine WL.nil ?_
  refine WQ.next ?_
  refine WC.seq ?_
  refine WC.region ?_
  refine WL.op rfl rfl (op_move rfl ?_)
  refine WL.op rfl rfl (op_strBytes H0 Try.underlying9 Try.underlying5 Try.underlying73 rfl (by omega) (fun v1 w1 H1 => ?_))
  refine WL.op rfl rfl (op_assign rfl ?_)
  refine WL.nil ?_
  refine WQ.next ?_
  refine WC.seq ?_
  refine WC.seq ?_
  refine WC.region ?_
  refine WL.op rfl rfl (op_move rfl ?_)
  refine WL.op rfl rfl (op_lenA Try.underlying73 rfl (H1.arrR (i := 0) rfl) ?_)
  refine WL.op rfl rfl (op_move rfl ?_)
  refine WL.nil ?_
  refine WQ.next ?_
  refine WC.block ?_
  refine WC.loop (α := Nat) (fun k => [(1, (vU8 c)), (5, v1), (10, (vN s.length)), (11, (vN k))]) (fun k w' => (k ≤ s.length) ∧ Own [] w w' [.row v1 5 1 s.length (List.map vU8 (xorTo s c k))]) (fun k => s.length - k) 0 ⟨(by omega), H1⟩ ⟨rfl, rfl, rfl, rfl, trivial⟩ ?_
  rintro k w2 ⟨hinv, H2⟩
  show WC _ _ _ _ _ [(1, (vU8 c)), (5, v1), (10, (vN s.length)), (11, (vN k))] _
  refine WC.seq ?_
  refine WC.region ?_
  refine WL.op rfl rfl (op_lssN rfl rfl ?_)
  refine WL.nil ?_
  refine WQ.next ?_
  refine WC.seq ?_
  refine WC.cond rfl (fun (hb3 : (decide (k < s.length)) = true) => ?_) (fun (hb3 : (decide (k < s.length)) = false) => ?_)
  ·
    have hc3 := of_decide_eq_true hb3
    refine WC.skip ?_
    refine WQ.next ?_
    refine WC.seq ?_
    refine WC.block ?_
    refine WC.seq ?_
    refine WC.region ?_
    refine WL.op rfl rfl (op_move rfl ?_)
    refine WL.op rfl rfl (op_assign rfl ?_)
    refine WL.nil ?_
    refine WQ.next ?_
    refine WC.region ?_
    refine WL.op rfl rfl (op_move rfl ?_)
    refine WL.op rfl rfl (op_move rfl ?_)
    refine WL.op rfl rfl (op_indexAddr1 Try.underlying73 Fa.I5 rfl (H2.arrR (i := 0) rfl) rfl (by omega) ?_)
    refine WL.op rfl rfl (op_load rfl ((H2.arrR (i := 0) rfl).at (get_map vU8 0 (Arr.ltM (H2.arrR (i := 0) rfl) (by omega)))) Try.underlying5 rfl ?_)
    refine WL.op rfl rfl (op_move rfl ?_)
    refine WL.op rfl rfl (op_xorU8 rfl rfl ?_)
    refine WL.op rfl rfl (op_indexAddr1 Try.underlying73 Fa.I5 rfl (H2.arrR (i := 0) rfl) rfl (by omega) ?_)
    refine WL.op rfl rfl (op_storeRM (i := 0) (f := vU8) (l := (xorTo s c k)) (c := (((xorTo s c k).getD k 0) ^^^ c)) H2 rfl rfl rfl (by omega) rfl Fa.I5 (fun w4 H4 => ?_))
    refine WL.nil ?_
    refine WQ.inNormal ?_
    refine WQ.next ?_
    refine WC.region ?_
    refine WL.op rfl rfl (op_addN (b := 1) rfl rfl (by omega) ?_)
    refine WL.op rfl rfl (op_move rfl ?_)
    refine WL.nil ?_
    exact WQ.round (k + 1) ⟨(by omega), (Own.rowEq (i := 0) (f := vU8) H4 rfl (xorTo_step s c (by omega)))⟩ ⟨rfl, rfl, rfl, rfl, trivial⟩ (by omega)
  ·
    have hc3 := of_decide_eq_false hb3
    refine WC.exit ?_
    refine WQ.thenExit ?_
    refine WQ.thenExit ?_
    refine WQ.inHere ?_
    refine WQ.next ?_
    refine WC.seq ?_
    refine WC.region ?_
    refine WL.op rfl rfl (op_move rfl ?_)
    refine WL.op rfl rfl (op_bytesStr (l := (xorTo s c k)) Try.underlying73 Try.underlying5 Try.underlying9 rfl (H2.arrR (i := 0) rfl) rfl ?_)
    refine WL.op rfl rfl (op_assign rfl ?_)
    refine WL.nil ?_
    refine WQ.next ?_
    refine WC.ret ?_
    refine WQ.out (.tmp rfl .nil) ?_
    exact ⟨by have hk : k = s.length := (by omega); subst hk; rw [xorTo_end]; rfl, H2.fr⟩
set_option maxRecDepth 100000 in
theorem macnew_ok (key : List UInt8) (w : World) (hk : key.length < 2 ^ 40) :
    Calls Try.prog 109 #[(str key)] w (fun e w' => ∃ m q v, e = .returned (ptr m 0) ∧ Own [] w w' [.blk m [(ptr q 0), (str (blockM key))] 185, .blk q [(vU32 (hst (xorL (blockM key) 54)).a), (vU32 (hst (xorL (blockM key) 54)).b), (vU32 (hst (xorL (blockM key) 54)).c), (vU32 (hst (xorL (blockM key) 54)).d), (vU32 (hst (xorL (blockM key) 54)).e), (vU32 (hst (xorL (blockM key) 54)).f), (vU32 (hst (xorL (blockM key) 54)).g), (vU32 (hst (xorL (blockM key) 54)).h), v, (vN (xorL (blockM key) 54).length)] 198, .row v 5 1 (hrest (xorL (blockM key) 54)).length ((hrest (xorL (blockM key) 54)).map vU8)]) := by
  refine enter (args := [(str key)]) Try.func109 rfl rfl ?_
  have H0 : Own [] w w [] := Own.start w []
  refine WC.seq ?_
  refine WC.region ?_
  refine WL.op rfl rfl (op_assign rfl ?_)
  refine WL.nil ?_
  refine WQ.next ?_
  refine WC.seq ?_
  refine WC.region ?_
  refine WL.op rfl rfl (op_callF Fa.C131 rfl ((new_ok _).mono (fun e w1 hq => ?_)))
  obtain ⟨q1, rfl, hq1⟩ := hq
  refine ⟨_, rfl, ?_⟩
  have H1 : Own [] w w1 [.blk q1 [(vU32 (hst ([] : List UInt8)).a), (vU32 (hst ([] : List UInt8)).b), (vU32 (hst ([] : List UInt8)).c), (vU32 (hst ([] : List UInt8)).d), (vU32 (hst ([] : List UInt8)).e), (vU32 (hst ([] : List UInt8)).f), (vU32 (hst ([] : List UInt8)).g), (vU32 (hst ([] : List UInt8)).h), (.slice none 0 0), (vN ([] : List UInt8).length)] 198, .row (.slice none 0 0) 5 1 (hrest ([] : List UInt8)).length (List.map vU8 (hrest ([] : List UInt8)))] := H0.splice [] [] [.blk q1 [(vU32 (hst ([] : List UInt8)).a), (vU32 (hst ([] : List UInt8)).b), (vU32 (hst ([] : List UInt8)).c), (vU32 (hst ([] : List UInt8)).d), (vU32 (hst ([] : List UInt8)).e), (vU32 (hst ([] : List UInt8)).f), (vU32 (hst ([] : List UInt8)).g), (vU32 (hst ([] : List UInt8)).h), (.slice none 0 0), (vN ([] : List UInt8).length)] 198, .row (.slice none 0 0) 5 1 (hrest ([] : List UInt8)).length (List.map vU8 (hrest ([] : List UInt8)))] rfl rfl hq1 (Fits.solid True.intro (Fits.solid True.intro Fits.nil))
  refine WL.op rfl rfl (op_move rfl ?_)
  refine WL.op rfl rfl (op_callF Fa.C132 rfl ((mblock_ok key _ hk).mono (fun e w2 hq => ?_)))
  obtain ⟨rfl, hf2⟩ := hq
  refine ⟨_, rfl, ?_⟩
  have H2 := H1.fr' hf2
  refine WL.op rfl rfl (op_build (cs := [_, _]) Fa.I185 Fa.PL185 rfl rfl ?_)
  refine WL.op rfl rfl (op_box H2 rfl rfl (fun b3 w3 H3 => ?_))
  refine WL.op rfl rfl (op_assign rfl ?_)
  refine WL.nil ?_
  refine WQ.next ?_
  refine WC.seq ?_
  refine WC.draw 10 Fa.M H3 (HW.op rfl (fun w1 H1 => op_move rfl ⟨rfl, Fr.refl _ _⟩) (HW.op rfl (fun w1 H1 => op_nilCheck rfl ⟨rfl, Fr.refl _ _⟩) (HW.op rfl (fun w1 H1 => op_fieldAddr rfl Fa.F185_0 ⟨rfl, Fr.refl _ _⟩) (HW.op rfl (fun w1 H1 => op_load rfl (H1.cell (i := 2) rfl rfl) Try.underlying182 rfl ⟨rfl, Fr.refl _ _⟩) (HW.op rfl (fun w1 H1 => op_move rfl ⟨rfl, Fr.refl _ _⟩) (HW.op rfl (fun w1 H1 => op_nilCheck rfl ⟨rfl, Fr.refl _ _⟩) (HW.op rfl (fun w1 H1 => op_fieldAddr rfl Fa.F185_1 ⟨rfl, Fr.refl _ _⟩) (HW.op rfl (fun w1 H1 => op_load rfl (H1.cell (i := 2) rfl rfl) Try.underlying9 rfl ⟨rfl, Fr.refl _ _⟩) (HW.op rfl (fun w1 H1 => op_callF Fa.C134 rfl ((padded_ok (blockM key) 54 _ (by rw [blockM_length]; decide)).mono (fun e w2 hq => ⟨_, hq.1, rfl, hq.2⟩))) (HW.flt (mk := fun bq => .slice (some ⟨bq.1, 0, none⟩) 1 1) (ent := fun bq => .row (.slice (some ⟨bq.1, 0, none⟩) 1 1) _ _ _ _) rfl (fun w1 _ => op_buildSlice (cs := [_]) (Own.start w1 []) Try.underlying23 Fa.I9 rfl rfl rfl rfl (by decide) (by decide) (fun bq w2 H2 => ⟨(bq, undef), rfl, H2, True.intro⟩))  HW.nil)))))))))) (by kernel_rfl) ?_
  intro β5 w5 H5
  refine WL.op rfl rfl (op_callF Fa.C133 rfl ((write_ok q1 (.slice none 0 0) (.slice (some ⟨(β5 9).1, 0, none⟩) 1 1) ([] : List UInt8) ([(xorL (blockM key) 54)]) _ _ (H5.part [0, 1] rfl rfl) (H5.stayR (I := [0, 1]) (k := 3) rfl rfl rfl) (by simp [xorL_length, blockM_length]) (by simp)).mono (fun e w6 hq => ?_)))
  obtain ⟨v6, rfl, hq6⟩ := hq
  refine ⟨_, rfl, ?_⟩
  have H6 : Own [] w w6 [.blk q1 [(vU32 (hst (([] : List UInt8) ++ [(xorL (blockM key) 54)].flatten)).a), (vU32 (hst (([] : List UInt8) ++ [(xorL (blockM key) 54)].flatten)).b), (vU32 (hst (([] : List UInt8) ++ [(xorL (blockM key) 54)].flatten)).c), (vU32 (hst (([] : List UInt8) ++ [(xorL (blockM key) 54)].flatten)).d), (vU32 (hst (([] : List UInt8) ++ [(xorL (blockM key) 54)].flatten)).e), (vU32 (hst (([] : List UInt8) ++ [(xorL (blockM key) 54)].flatten)).f), (vU32 (hst (([] : List UInt8) ++ [(xorL (blockM key) 54)].flatten)).g), (vU32 (hst (([] : List UInt8) ++ [(xorL (blockM key) 54)].flatten)).h), v6, (vN (([] : List UInt8) ++ [(xorL (blockM key) 54)].flatten).length)] 198, .row v6 5 1 (hrest (([] : List UInt8) ++ [(xorL (blockM key) 54)].flatten)).length (List.map vU8 (hrest (([] : List UInt8) ++ [(xorL (blockM key) 54)].flatten))), .blk b3 [(ptr q1 0), (str (blockM key))] 185, .row (.slice (some ⟨(β5 9).1, 0, none⟩) 1 1) 9 1 1 (List.map str [(xorL (blockM key) 54)])] := H5.splice [0, 1] [.blk q1 [(vU32 (hst (([] : List UInt8) ++ [(xorL (blockM key) 54)].flatten)).a), (vU32 (hst (([] : List UInt8) ++ [(xorL (blockM key) 54)].flatten)).b), (vU32 (hst (([] : List UInt8) ++ [(xorL (blockM key) 54)].flatten)).c), (vU32 (hst (([] : List UInt8) ++ [(xorL (blockM key) 54)].flatten)).d), (vU32 (hst (([] : List UInt8) ++ [(xorL (blockM key) 54)].flatten)).e), (vU32 (hst (([] : List UInt8) ++ [(xorL (blockM key) 54)].flatten)).f), (vU32 (hst (([] : List UInt8) ++ [(xorL (blockM key) 54)].flatten)).g), (vU32 (hst (([] : List UInt8) ++ [(xorL (blockM key) 54)].flatten)).h), v6, (vN (([] : List UInt8) ++ [(xorL (blockM key) 54)].flatten).length)] 198, .row v6 5 1 (hrest (([] : List UInt8) ++ [(xorL (blockM key) 54)].flatten)).length (List.map vU8 (hrest (([] : List UInt8) ++ [(xorL (blockM key) 54)].flatten)))] [] rfl rfl hq6 (Fits.solid True.intro (Fits.solid True.intro Fits.nil))
  refine WL.nil ?_
  refine WQ.next ?_
  refine WC.seq ?_
  refine WC.region ?_
  refine WL.op rfl rfl (op_move rfl ?_)
  refine WL.op rfl rfl (op_assign rfl ?_)
  refine WL.nil ?_
  refine WQ.next ?_
  refine WC.ret ?_
  refine WQ.out (.tmp rfl .nil) ?_
  exact ⟨_, _, _, rfl, (by have h : Own [] w w6 [.blk b3 [(ptr q1 0), (str (blockM key))] 185, .blk q1 [(vU32 (hst (([] : List UInt8) ++ [(xorL (blockM key) 54)].flatten)).a), (vU32 (hst (([] : List UInt8) ++ [(xorL (blockM key) 54)].flatten)).b), (vU32 (hst (([] : List UInt8) ++ [(xorL (blockM key) 54)].flatten)).c), (vU32 (hst (([] : List UInt8) ++ [(xorL (blockM key) 54)].flatten)).d), (vU32 (hst (([] : List UInt8) ++ [(xorL (blockM key) 54)].flatten)).e), (vU32 (hst (([] : List UInt8) ++ [(xorL (blockM key) 54)].flatten)).f), (vU32 (hst (([] : List UInt8) ++ [(xorL (blockM key) 54)].flatten)).g), (vU32 (hst (([] : List UInt8) ++ [(xorL (blockM key) 54)].flatten)).h), v6, (vN (([] : List UInt8) ++ [(xorL (blockM key) 54)].flatten).length)] 198, .row v6 5 1 (hrest (([] : List UInt8) ++ [(xorL (blockM key) 54)].flatten)).length (List.map vU8 (hrest (([] : List UInt8) ++ [(xorL (blockM key) 54)].flatten)))] := H6.sel [2, 0, 1] rfl rfl; rw [show ([] : List UInt8) ++ [(xorL (blockM key) 54)].flatten = (xorL (blockM key) 54) from by simp] at h; exact h)⟩
set_option maxRecDepth 100000 in
theorem macw_ok (m q : Nat) (v lv : Value) (B A : List UInt8) (ls : List (List UInt8)) (T : List Nat) (w : World) (H : Own T w w [.blk m [(ptr q 0), (str B)] 185, .blk q [(vU32 (hst A).a), (vU32 (hst A).b), (vU32 (hst A).c), (vU32 (hst A).d), (vU32 (hst A).e), (vU32 (hst A).f), (vU32 (hst A).g), (vU32 (hst A).h), v, (vN A.length)] 198, .row v 5 1 (hrest A).length ((hrest A).map vU8)]) {nl : Nat} (hA : ∀ w1, Fr T w w1 → Arr w1 lv 1 nl (ls.map str)) (hb : (A ++ ls.flatten).length < 2 ^ 40) (hn : ls.length < 2 ^ 40) :
    Calls Try.prog 110 #[(ptr m 0), lv] w (fun e w' => ∃ v, e = .returned (vN 0) ∧ Own T w w' [.blk m [(ptr q 0), (str B)] 185, .blk q [(vU32 (hst (A ++ ls.flatten)).a), (vU32 (hst (A ++ ls.flatten)).b), (vU32 (hst (A ++ ls.flatten)).c), (vU32 (hst (A ++ ls.flatten)).d), (vU32 (hst (A ++ ls.flatten)).e), (vU32 (hst (A ++ ls.flatten)).f), (vU32 (hst (A ++ ls.flatten)).g), (vU32 (hst (A ++ ls.flatten)).h), v, (vN (A ++ ls.flatten).length)] 198, .row v 5 1 (hrest (A ++ ls.flatten)).length ((hrest (A ++ ls.flatten)).map vU8)]) := by
  refine enter (args := [(ptr m 0), lv]) Try.func110 rfl rfl ?_
  refine WC.seq ?_
  refine WC.region ?_
  refine WL.op rfl rfl (op_assign rfl ?_)
  refine WL.nil ?_
  refine WQ.next ?_
  refine WC.seq ?_
  refine WC.seq ?_
  refine WC.region ?_
  refine WL.op rfl rfl (op_move rfl ?_)
  refine WL.op rfl rfl (op_eqlPN Fa.PT157 rfl rfl ?_)
  refine WL.nil ?_
  refine WQ.next ?_
  refine WC.no rfl rfl ?_
  refine WC.skip ?_
  refine WQ.next ?_
  refine WC.seq ?_
  refine WC.region ?_
  refine WL.op rfl rfl (op_move rfl ?_)
  refine WL.op rfl rfl (op_nilCheck rfl ?_)
  refine WL.op rfl rfl (op_fieldAddr rfl Fa.F185_0 ?_)
  refine WL.op rfl rfl (op_load rfl (H.cell (i := 0) rfl rfl) Try.underlying182 rfl ?_)
  refine WL.op rfl rfl (op_move rfl ?_)
  refine WL.op rfl rfl (op_callF Fa.C133 rfl ((write_ok q v lv A ls _ _ (H.part [1, 2] rfl rfl) (fun w1 hf => (hA) w1 (H.frPart (I := [1, 2]) rfl hf)) hb hn).mono (fun e w1 hq => ?_)))
  obtain ⟨v1, rfl, hq1⟩ := hq
  refine ⟨_, rfl, ?_⟩
  have H1 : Own T w w1 [.blk m [(ptr q 0), (str B)] 185, .blk q [(vU32 (hst (A ++ ls.flatten)).a), (vU32 (hst (A ++ ls.flatten)).b), (vU32 (hst (A ++ ls.flatten)).c), (vU32 (hst (A ++ ls.flatten)).d), (vU32 (hst (A ++ ls.flatten)).e), (vU32 (hst (A ++ ls.flatten)).f), (vU32 (hst (A ++ ls.flatten)).g), (vU32 (hst (A ++ ls.flatten)).h), v1, (vN (A ++ ls.flatten).length)] 198, .row v1 5 1 (hrest (A ++ ls.flatten)).length (List.map vU8 (hrest (A ++ ls.flatten)))] := H.splice [1, 2] [.blk q [(vU32 (hst (A ++ ls.flatten)).a), (vU32 (hst (A ++ ls.flatten)).b), (vU32 (hst (A ++ ls.flatten)).c), (vU32 (hst (A ++ ls.flatten)).d), (vU32 (hst (A ++ ls.flatten)).e), (vU32 (hst (A ++ ls.flatten)).f), (vU32 (hst (A ++ ls.flatten)).g), (vU32 (hst (A ++ ls.flatten)).h), v1, (vN (A ++ ls.flatten).length)] 198, .row v1 5 1 (hrest (A ++ ls.flatten)).length (List.map vU8 (hrest (A ++ ls.flatten)))] [] rfl rfl hq1 (Fits.solid True.intro (Fits.solid True.intro Fits.nil))
  refine WL.op rfl rfl (op_assign rfl ?_)
  refine WL.nil ?_
  refine WQ.next ?_
  refine WC.ret ?_
  refine WQ.out (.tmp rfl .nil) ?_
  exact ⟨_, rfl, H1⟩
set_option maxRecDepth 100000 in
theorem macs_ok (m q : Nat) (v : Value) (B A : List UInt8) (w : World) (hM : cellsAt w m [(ptr q 0), (str B)]) (hQ : cellsAt w q [(vU32 (hst A).a), (vU32 (hst A).b), (vU32 (hst A).c), (vU32 (hst A).d), (vU32 (hst A).e), (vU32 (hst A).f), (vU32 (hst A).g), (vU32 (hst A).h), v, (vN A.length)]) (hV : Arr w v 1 (hrest A).length (List.map vU8 (hrest A))) (hb : A.length < 2 ^ 40) (hB : B.length < 2 ^ 30) :
    Calls Try.prog 111 #[(ptr m 0)] w (fun e w' => e = .returned (str (sha (xorL B 92 ++ sha A))) ∧ Fr [] w w') := by
  refine enter (args := [(ptr m 0)]) Try.func111 rfl rfl ?_
  have H0 : Own [] w w [Ent.bo m [(ptr q 0), (str B)], Ent.bo q [(vU32 (hst A).a), (vU32 (hst A).b), (vU32 (hst A).c), (vU32 (hst A).d), (vU32 (hst A).e), (vU32 (hst A).f), (vU32 (hst A).g), (vU32 (hst A).h), v, (vN A.length)], Ent.ar v 1 (hrest A).length (List.map vU8 (hrest A))] := ((((Own.start w []).oldB hM).oldB hQ).oldA hV)
  refine WC.seq ?_
  refine WC.region ?_
  refine WL.op rfl rfl (op_assign rfl ?_)
  refine WL.nil ?_
  refine WQ.next ?_
  refine WC.seq ?_
  refine WC.seq ?_
  refine WC.region ?_
  refine WL.op rfl rfl (op_move rfl ?_)
  refine WL.op rfl rfl (op_eqlPN Fa.PT157 rfl rfl ?_)
  refine WL.nil ?_
  refine WQ.next ?_
  refine WC.no rfl rfl ?_
  refine WC.skip ?_
  refine WQ.next ?_
  refine WC.seq ?_
  refine WC.region ?_
  refine WL.op rfl rfl (op_callF Fa.C131 rfl ((new_ok _).mono (fun e w1 hq => ?_)))
  obtain ⟨q1, rfl, hq1⟩ := hq
  refine ⟨_, rfl, ?_⟩
  have H1 : Own [] w w1 [Ent.bo m [(ptr q 0), (str B)], Ent.bo q [(vU32 (hst A).a), (vU32 (hst A).b), (vU32 (hst A).c), (vU32 (hst A).d), (vU32 (hst A).e), (vU32 (hst A).f), (vU32 (hst A).g), (vU32 (hst A).h), v, (vN A.length)], Ent.ar v 1 (hrest A).length (List.map vU8 (hrest A)), .blk q1 [(vU32 (hst ([] : List UInt8)).a), (vU32 (hst ([] : List UInt8)).b), (vU32 (hst ([] : List UInt8)).c), (vU32 (hst ([] : List UInt8)).d), (vU32 (hst ([] : List UInt8)).e), (vU32 (hst ([] : List UInt8)).f), (vU32 (hst ([] : List UInt8)).g), (vU32 (hst ([] : List UInt8)).h), (.slice none 0 0), (vN ([] : List UInt8).length)] 198, .row (.slice none 0 0) 5 1 (hrest ([] : List UInt8)).length (List.map vU8 (hrest ([] : List UInt8)))] := H0.splice [] [] [.blk q1 [(vU32 (hst ([] : List UInt8)).a), (vU32 (hst ([] : List UInt8)).b), (vU32 (hst ([] : List UInt8)).c), (vU32 (hst ([] : List UInt8)).d), (vU32 (hst ([] : List UInt8)).e), (vU32 (hst ([] : List UInt8)).f), (vU32 (hst ([] : List UInt8)).g), (vU32 (hst ([] : List UInt8)).h), (.slice none 0 0), (vN ([] : List UInt8).length)] 198, .row (.slice none 0 0) 5 1 (hrest ([] : List UInt8)).length (List.map vU8 (hrest ([] : List UInt8)))] rfl rfl hq1 (Fits.solid True.intro (Fits.solid True.intro Fits.nil))
  refine WL.op rfl rfl (op_assign rfl ?_)
  refine WL.nil ?_
  refine WQ.next ?_
  refine WC.seq ?_
  refine WC.draw 12 Fa.M H1 (HW.op rfl (fun w1 H1 => op_move rfl ⟨rfl, Fr.refl _ _⟩) (HW.op rfl (fun w1 H1 => op_move rfl ⟨rfl, Fr.refl _ _⟩) (HW.op rfl (fun w1 H1 => op_nilCheck rfl ⟨rfl, Fr.refl _ _⟩) (HW.op rfl (fun w1 H1 => op_fieldAddr rfl Fa.F185_1 ⟨rfl, Fr.refl _ _⟩) (HW.op rfl (fun w1 H1 => op_load rfl (H1.cellO (i := 0) rfl rfl) Try.underlying9 rfl ⟨rfl, Fr.refl _ _⟩) (HW.op rfl (fun w1 H1 => op_callF Fa.C134 rfl ((padded_ok B 92 _ (by omega)).mono (fun e w2 hq => ⟨_, hq.1, rfl, hq.2⟩))) (HW.op rfl (fun w1 H1 => op_move rfl ⟨rfl, Fr.refl _ _⟩) (HW.op rfl (fun w1 H1 => op_nilCheck rfl ⟨rfl, Fr.refl _ _⟩) (HW.op rfl (fun w1 H1 => op_fieldAddr rfl Fa.F185_0 ⟨rfl, Fr.refl _ _⟩) (HW.op rfl (fun w1 H1 => op_load rfl (H1.cellO (i := 0) rfl rfl) Try.underlying182 rfl ⟨rfl, Fr.refl _ _⟩) (HW.op rfl (fun w1 H1 => op_callF Fa.C135 rfl ((hsum_ok q v A _ (H1.cellsAtO (i := 1) rfl) (H1.arrO (i := 2) rfl) (by first | exact hb | (simp [xorL_length, sha_length]; omega))).mono (fun e w2 hq => ⟨_, hq.1, rfl, hq.2⟩))) (HW.flt (mk := fun bq => .slice (some ⟨bq.1, 0, none⟩) 2 2) (ent := fun bq => .row (.slice (some ⟨bq.1, 0, none⟩) 2 2) _ _ _ _) rfl (fun w1 _ => op_buildSlice (cs := [_, _]) (Own.start w1 []) Try.underlying23 Fa.I9 rfl rfl rfl rfl (by decide) (by decide) (fun bq w2 H2 => ⟨(bq, undef), rfl, H2, True.intro⟩))  HW.nil)))))))))))) (by kernel_rfl) ?_
  intro β4 w4 H4
  refine WL.op rfl rfl (op_callF Fa.C133 rfl ((write_ok q1 (.slice none 0 0) (.slice (some ⟨(β4 11).1, 0, none⟩) 2 2) ([] : List UInt8) ([(xorL B 92), (sha A)]) _ _ (H4.part [3, 4] rfl rfl) (H4.stayR (I := [3, 4]) (k := 5) rfl rfl rfl) (by simp [xorL_length, sha_length]; omega) (by simp)).mono (fun e w5 hq => ?_)))
  obtain ⟨v5, rfl, hq5⟩ := hq
  refine ⟨_, rfl, ?_⟩
  have H5 : Own [] w w5 [Ent.bo m [(ptr q 0), (str B)], Ent.bo q [(vU32 (hst A).a), (vU32 (hst A).b), (vU32 (hst A).c), (vU32 (hst A).d), (vU32 (hst A).e), (vU32 (hst A).f), (vU32 (hst A).g), (vU32 (hst A).h), v, (vN A.length)], Ent.ar v 1 (hrest A).length (List.map vU8 (hrest A)), .blk q1 [(vU32 (hst (([] : List UInt8) ++ [(xorL B 92), (sha A)].flatten)).a), (vU32 (hst (([] : List UInt8) ++ [(xorL B 92), (sha A)].flatten)).b), (vU32 (hst (([] : List UInt8) ++ [(xorL B 92), (sha A)].flatten)).c), (vU32 (hst (([] : List UInt8) ++ [(xorL B 92), (sha A)].flatten)).d), (vU32 (hst (([] : List UInt8) ++ [(xorL B 92), (sha A)].flatten)).e), (vU32 (hst (([] : List UInt8) ++ [(xorL B 92), (sha A)].flatten)).f), (vU32 (hst (([] : List UInt8) ++ [(xorL B 92), (sha A)].flatten)).g), (vU32 (hst (([] : List UInt8) ++ [(xorL B 92), (sha A)].flatten)).h), v5, (vN (([] : List UInt8) ++ [(xorL B 92), (sha A)].flatten).length)] 198, .row v5 5 1 (hrest (([] : List UInt8) ++ [(xorL B 92), (sha A)].flatten)).length (List.map vU8 (hrest (([] : List UInt8) ++ [(xorL B 92), (sha A)].flatten))), .row (.slice (some ⟨(β4 11).1, 0, none⟩) 2 2) 9 1 2 (List.map str [(xorL B 92), (sha A)])] := H4.splice [3, 4] [.blk q1 [(vU32 (hst (([] : List UInt8) ++ [(xorL B 92), (sha A)].flatten)).a), (vU32 (hst (([] : List UInt8) ++ [(xorL B 92), (sha A)].flatten)).b), (vU32 (hst (([] : List UInt8) ++ [(xorL B 92), (sha A)].flatten)).c), (vU32 (hst (([] : List UInt8) ++ [(xorL B 92), (sha A)].flatten)).d), (vU32 (hst (([] : List UInt8) ++ [(xorL B 92), (sha A)].flatten)).e), (vU32 (hst (([] : List UInt8) ++ [(xorL B 92), (sha A)].flatten)).f), (vU32 (hst (([] : List UInt8) ++ [(xorL B 92), (sha A)].flatten)).g), (vU32 (hst (([] : List UInt8) ++ [(xorL B 92), (sha A)].flatten)).h), v5, (vN (([] : List UInt8) ++ [(xorL B 92), (sha A)].flatten).length)] 198, .row v5 5 1 (hrest (([] : List UInt8) ++ [(xorL B 92), (sha A)].flatten)).length (List.map vU8 (hrest (([] : List UInt8) ++ [(xorL B 92), (sha A)].flatten)))] [] rfl rfl hq5 (Fits.solid True.intro (Fits.solid True.intro Fits.nil))
  refine WL.nil ?_
  refine WQ.next ?_
  refine WC.seq ?_
  refine WC.region ?_
  refine WL.op rfl rfl (op_move rfl ?_)
  refine WL.op rfl rfl (op_callF Fa.C135 rfl ((hsum_ok q1 v5 (([] : List UInt8) ++ [(xorL B 92), (sha A)].flatten) _ (H5.cellsAt (i := 3) rfl) (H5.arrR (i := 4) rfl) (by first | exact hb | (simp [xorL_length, sha_length]; omega))).mono (fun e w6 hq => ?_)))
  obtain ⟨rfl, hf6⟩ := hq
  refine ⟨_, rfl, ?_⟩
  have H6 := H5.fr' hf6
  refine WL.op rfl rfl (op_assign rfl ?_)
  refine WL.nil ?_
  refine WQ.next ?_
  refine WC.ret ?_
  refine WQ.out (.tmp rfl .nil) ?_
  exact ⟨by simp [tup], H6.fr⟩
set_option maxRecDepth 100000 in
theorem msum_ok (key text : List UInt8) (w : World) (hk : key.length < 2 ^ 40) (ht : text.length < 2 ^ 39) :
    Calls Try.prog 65 #[(str key), (str text)] w (fun e w' => e = .returned (str (mac key text)) ∧ Fr [] w w') := by
  refine enter (args := [(str key), (str text)]) Try.func65 rfl rfl ?_
  have H0 : Own [] w w [] := Own.start w []
  refine WC.seq ?_
  refine WC.region ?_
  refine WL.op rfl rfl (op_assign rfl ?_)
  refine WL.nil ?_
  refine WQ.next ?_
  refine WC.seq ?_
  refine WC.region ?_
  refine WL.op rfl rfl (op_move rfl ?_)
  refine WL.op rfl rfl (op_callF Fa.C109 rfl ((macnew_ok key _ hk).mono (fun e w1 hq => ?_)))
  obtain ⟨m1, q1, v1, rfl, hq1⟩ := hq
  refine ⟨_, rfl, ?_⟩
  have H1 : Own [] w w1 [.blk m1 [(ptr q1 0), (str (blockM key))] 185, .blk q1 [(vU32 (hst (xorL (blockM key) 54)).a), (vU32 (hst (xorL (blockM key) 54)).b), (vU32 (hst (xorL (blockM key) 54)).c), (vU32 (hst (xorL (blockM key) 54)).d), (vU32 (hst (xorL (blockM key) 54)).e), (vU32 (hst (xorL (blockM key) 54)).f), (vU32 (hst (xorL (blockM key) 54)).g), (vU32 (hst (xorL (blockM key) 54)).h), v1, (vN (xorL (blockM key) 54).length)] 198, .row v1 5 1 (hrest (xorL (blockM key) 54)).length (List.map vU8 (hrest (xorL (blockM key) 54)))] := H0.splice [] [] [.blk m1 [(ptr q1 0), (str (blockM key))] 185, .blk q1 [(vU32 (hst (xorL (blockM key) 54)).a), (vU32 (hst (xorL (blockM key) 54)).b), (vU32 (hst (xorL (blockM key) 54)).c), (vU32 (hst (xorL (blockM key) 54)).d), (vU32 (hst (xorL (blockM key) 54)).e), (vU32 (hst (xorL (blockM key) 54)).f), (vU32 (hst (xorL (blockM key) 54)).g), (vU32 (hst (xorL (blockM key) 54)).h), v1, (vN (xorL (blockM key) 54).length)] 198, .row v1 5 1 (hrest (xorL (blockM key) 54)).length (List.map vU8 (hrest (xorL (blockM key) 54)))] rfl rfl hq1 (Fits.solid True.intro (Fits.solid True.intro (Fits.solid True.intro Fits.nil)))
  refine WL.op rfl rfl (op_assign rfl ?_)
  refine WL.nil ?_
  refine WQ.next ?_
  refine WC.seq ?_
  refine WC.region ?_
  refine WL.op rfl rfl (op_move rfl ?_)
  refine WL.op rfl rfl (op_move rfl ?_)
  refine WL.op rfl rfl (op_buildSlice (cs := [_]) H1 Try.underlying23 Fa.I9 rfl rfl rfl rfl (by decide) (by decide) (fun b2 w2 H2 => ?_))
  refine WL.op rfl rfl (op_callF Fa.C110 rfl ((macw_ok m1 q1 v1 (.slice (some ⟨b2, 0, none⟩) 1 1) (blockM key) (xorL (blockM key) 54) ([text]) _ _ (H2.part [0, 1, 2] rfl rfl) (H2.stayR (I := [0, 1, 2]) (k := 3) rfl rfl rfl) (by simp [xorL_length, blockM_length]; omega) (by simp)).mono (fun e w3 hq => ?_)))
  obtain ⟨v3, rfl, hq3⟩ := hq
  refine ⟨_, rfl, ?_⟩
  have H3 : Own [] w w3 [.blk m1 [(ptr q1 0), (str (blockM key))] 185, .blk q1 [(vU32 (hst ((xorL (blockM key) 54) ++ [text].flatten)).a), (vU32 (hst ((xorL (blockM key) 54) ++ [text].flatten)).b), (vU32 (hst ((xorL (blockM key) 54) ++ [text].flatten)).c), (vU32 (hst ((xorL (blockM key) 54) ++ [text].flatten)).d), (vU32 (hst ((xorL (blockM key) 54) ++ [text].flatten)).e), (vU32 (hst ((xorL (blockM key) 54) ++ [text].flatten)).f), (vU32 (hst ((xorL (blockM key) 54) ++ [text].flatten)).g), (vU32 (hst ((xorL (blockM key) 54) ++ [text].flatten)).h), v3, (vN ((xorL (blockM key) 54) ++ [text].flatten).length)] 198, .row v3 5 1 (hrest ((xorL (blockM key) 54) ++ [text].flatten)).length (List.map vU8 (hrest ((xorL (blockM key) 54) ++ [text].flatten))), .row (.slice (some ⟨b2, 0, none⟩) 1 1) 9 1 1 (List.map str [text])] := H2.splice [0, 1, 2] [.blk m1 [(ptr q1 0), (str (blockM key))] 185, .blk q1 [(vU32 (hst ((xorL (blockM key) 54) ++ [text].flatten)).a), (vU32 (hst ((xorL (blockM key) 54) ++ [text].flatten)).b), (vU32 (hst ((xorL (blockM key) 54) ++ [text].flatten)).c), (vU32 (hst ((xorL (blockM key) 54) ++ [text].flatten)).d), (vU32 (hst ((xorL (blockM key) 54) ++ [text].flatten)).e), (vU32 (hst ((xorL (blockM key) 54) ++ [text].flatten)).f), (vU32 (hst ((xorL (blockM key) 54) ++ [text].flatten)).g), (vU32 (hst ((xorL (blockM key) 54) ++ [text].flatten)).h), v3, (vN ((xorL (blockM key) 54) ++ [text].flatten).length)] 198, .row v3 5 1 (hrest ((xorL (blockM key) 54) ++ [text].flatten)).length (List.map vU8 (hrest ((xorL (blockM key) 54) ++ [text].flatten)))] [] rfl rfl hq3 (Fits.solid True.intro (Fits.solid True.intro (Fits.solid True.intro Fits.nil)))
  refine WL.nil ?_
  refine WQ.next ?_
  refine WC.seq ?_
  refine WC.region ?_
  refine WL.op rfl rfl (op_move rfl ?_)
  refine WL.op rfl rfl (op_callF Fa.C111 rfl ((macs_ok m1 q1 v3 (blockM key) ((xorL (blockM key) 54) ++ [text].flatten) _ (H3.cellsAt (i := 0) rfl) (H3.cellsAt (i := 1) rfl) (H3.arrR (i := 2) rfl) (by simp [xorL_length, blockM_length]; omega) (by rw [blockM_length]; decide)).mono (fun e w4 hq => ?_)))
  obtain ⟨rfl, hf4⟩ := hq
  refine ⟨_, rfl, ?_⟩
  have H4 := H3.fr' hf4
  refine WL.op rfl rfl (op_assign rfl ?_)
  refine WL.nil ?_
  refine WQ.next ?_
  refine WC.ret ?_
  refine WQ.out (.tmp rfl .nil) ?_
  exact ⟨by simp [tup, mac], H4.fr⟩
set_option maxRecDepth 100000 in
theorem mcheck_ok (key text s : List UInt8) (w : World) (hk : key.length < 2 ^ 40) (ht : text.length < 2 ^ 39) :
    Calls Try.prog 113 #[(str key), (str text), (str s)] w (fun e w' => e = .returned (.bool (decide (s = mac key text))) ∧ Fr [] w w') := by
  refine enter (args := [(str key), (str text), (str s)]) Try.func113 rfl rfl ?_
  have H0 : Own [] w w [] := Own.start w []
  have hl := mac_length key text
  refine WC.seq ?_
  refine WC.region ?_
  refine WL.op rfl rfl (op_assign rfl ?_)
  refine WL.nil ?_
  refine WQ.next ?_
  refine WC.seq ?_
  refine WC.region ?_
  refine WL.op rfl rfl (op_move rfl ?_)
  refine WL.op rfl rfl (op_move rfl ?_)
  refine WL.op rfl rfl (op_callF Fa.C65 rfl ((msum_ok key text _ hk ht).mono (fun e w1 hq => ?_)))
  obtain ⟨rfl, hf1⟩ := hq
  refine ⟨_, rfl, ?_⟩
  have H1 := H0.fr' hf1
  refine WL.op rfl rfl (op_assign rfl ?_)
  refine WL.nil ?_
  refine WQ.next ?_
  refine WC.seq ?_
  refine WC.seq ?_
  refine WC.region ?_
  refine WL.op rfl rfl (op_move rfl ?_)
  refine WL.op rfl rfl (op_lenStr Try.underlying9 rfl ?_)
  refine WL.op rfl rfl (op_move rfl ?_)
  refine WL.op rfl rfl (op_lenStr Try.underlying9 rfl ?_)
  refine WL.op rfl rfl (op_neqN rfl rfl ?_)
  refine WL.nil ?_
  refine WQ.next ?_
  refine WC.cond rfl (fun (hb2 : (decide (s.length ≠ (mac key text).length)) = true) => ?_) (fun (hb2 : (decide (s.length ≠ (mac key text).length)) = false) => ?_)
  ·
    have hc2 := of_decide_eq_true hb2
    refine WC.seq ?_
    refine WC.region ?_
    refine WL.op rfl rfl (op_assign rfl ?_)
    refine WL.nil ?_
    refine WQ.next ?_
    refine WC.ret ?_
    refine WQ.thenRet ?_
    refine WQ.out (.tmp rfl .nil) ?_
    exact ⟨by rw [ne_of_length hc2]; rfl, H1.fr⟩
  ·
    have hc2 := of_decide_eq_false hb2
    refine WC.skip ?_
    refine WQ.next ?_
    refine WC.seq ?_
    refine WC.region ?_
    refine WL.op rfl rfl (op_assign rfl ?_)
    refine WL.nil ?_
    refine WQ.next ?_
    refine WC.seq ?_
    refine WC.seq ?_
    refine WC.region ?_
    refine WL.op rfl rfl (op_move rfl ?_)
    refine WL.op rfl rfl (op_lenStr Try.underlying9 rfl ?_)
    refine WL.op rfl rfl (op_move rfl ?_)
    refine WL.nil ?_
    refine WQ.next ?_
    refine WC.block ?_
    refine WC.loop (α := Nat) (fun k => [(2, (str s)), (7, (str (mac key text))), (8, (vU8 (orTo s (mac key text) k))), (19, (vN (mac key text).length)), (20, (vN k))]) (fun k w' => (k ≤ (mac key text).length) ∧ Own [] w w' []) (fun k => (mac key text).length - k) 0 ⟨(by omega), H1⟩ ⟨rfl, rfl, rfl, rfl, rfl, trivial⟩ ?_
    rintro k w3 ⟨hinv, H3⟩
    show WC _ _ _ _ _ [(2, (str s)), (7, (str (mac key text))), (8, (vU8 (orTo s (mac key text) k))), (19, (vN (mac key text).length)), (20, (vN k))] _
    refine WC.seq ?_
    refine WC.region ?_
    refine WL.op rfl rfl (op_lssN rfl rfl ?_)
    refine WL.nil ?_
    refine WQ.next ?_
    refine WC.seq ?_
    refine WC.cond rfl (fun (hb4 : (decide (k < (mac key text).length)) = true) => ?_) (fun (hb4 : (decide (k < (mac key text).length)) = false) => ?_)
    ·
      have hc4 := of_decide_eq_true hb4
      refine WC.skip ?_
      refine WQ.next ?_
      refine WC.seq ?_
      refine WC.block ?_
      refine WC.seq ?_
      refine WC.region ?_
      refine WL.op rfl rfl (op_move rfl ?_)
      refine WL.op rfl rfl (op_assign rfl ?_)
      refine WL.nil ?_
      refine WQ.next ?_
      refine WC.draw 10 Fa.M H3 (HW.op rfl (fun w1 H1 => op_move rfl ⟨rfl, Fr.refl _ _⟩) (HW.op rfl (fun w1 H1 => op_move rfl ⟨rfl, Fr.refl _ _⟩) (HW.op rfl (fun w1 H1 => op_move rfl ⟨rfl, Fr.refl _ _⟩) (HW.op rfl (fun w1 H1 => op_indexStrD Try.underlying9 rfl rfl (by omega) ⟨rfl, Fr.refl _ _⟩) (HW.op rfl (fun w1 H1 => op_move rfl ⟨rfl, Fr.refl _ _⟩) (HW.op rfl (fun w1 H1 => op_move rfl ⟨rfl, Fr.refl _ _⟩) (HW.op rfl (fun w1 H1 => op_indexStrD Try.underlying9 rfl rfl (by omega) ⟨rfl, Fr.refl _ _⟩) (HW.op rfl (fun w1 H1 => op_xorU8 rfl rfl ⟨rfl, Fr.refl _ _⟩) (HW.op rfl (fun w1 H1 => op_orU8 rfl rfl ⟨rfl, Fr.refl _ _⟩) (HW.op rfl (fun w1 H1 => op_assign rfl ⟨rfl, Fr.refl _ _⟩)  HW.nil)))))))))) (by kernel_rfl) ?_
      intro β5 w5 H5
      refine WL.nil ?_
      refine WQ.inNormal ?_
      refine WQ.next ?_
      refine WC.region ?_
      refine WL.op rfl rfl (op_addN (b := 1) rfl rfl (by omega) ?_)
      refine WL.op rfl rfl (op_move rfl ?_)
      refine WL.nil ?_
      exact WQ.round (k + 1) ⟨(by omega), H5⟩ ⟨rfl, rfl, rfl, rfl, rfl, trivial⟩ (by omega)
    ·
      have hc4 := of_decide_eq_false hb4
      refine WC.exit ?_
      refine WQ.thenExit ?_
      refine WQ.thenExit ?_
      refine WQ.inHere ?_
      refine WQ.next ?_
      refine WC.seq ?_
      refine WC.region ?_
      refine WL.op rfl rfl (op_move rfl ?_)
      refine WL.op rfl rfl (op_eqlU8 (b := 0) rfl rfl ?_)
      refine WL.op rfl rfl (op_assign rfl ?_)
      refine WL.nil ?_
      refine WQ.next ?_
      refine WC.ret ?_
      refine WQ.out (.tmp rfl .nil) ?_
      exact ⟨by have hk2 : k = (mac key text).length := (by omega); subst hk2; rw [orTo_eq (by omega)]; rfl, H3.fr⟩
end Go.Proofs.Ytpnghdalnghpcaa
/-! from WSeal -/
namespace Go.Proofs.Ytpnghdalnghpcaa
open Go.Owl Go.Spec
set_option maxRecDepth 100000 in
theorem stag_ok (key : List UInt8) (lv : Value) (ls : List (List UInt8)) (w : World) (hA : Arr w lv 1 ls.length (List.map str ls)) (hk : key.length < 2 ^ 40) (ht : ls.length + (List.flatten ls).length < 2 ^ 39) :
    Calls Try.prog 70 #[(str key), lv] w (fun e w' => e = .returned (str (mac key (List.flatten ls))) ∧ Fr [] w w') := by
  refine enter (args := [(str key), lv]) Try.func70 rfl rfl ?_
  have H0 : Own [] w w [] := Own.start w []
  refine WC.seq ?_
  refine WC.region ?_
  refine WL.op rfl rfl (op_assign rfl ?_)
  refine WL.nil ?_
  refine WQ.next ?_
  refine WC.seq ?_
  refine WC.region ?_
  refine WL.op rfl rfl (op_move rfl ?_)
  refine WL.op rfl rfl (op_callF Fa.C109 rfl ((macnew_ok key _ hk).mono (fun e w1 hq => ?_)))
  obtain ⟨m1, q1, v1, rfl, hq1⟩ := hq
  refine ⟨_, rfl, ?_⟩
  have H1 : Own [] w w1 [.blk m1 [(ptr q1 0), (str (blockM key))] 185, .blk q1 [(vU32 (hst (xorL (blockM key) 54)).a), (vU32 (hst (xorL (blockM key) 54)).b), (vU32 (hst (xorL (blockM key) 54)).c), (vU32 (hst (xorL (blockM key) 54)).d), (vU32 (hst (xorL (blockM key) 54)).e), (vU32 (hst (xorL (blockM key) 54)).f), (vU32 (hst (xorL (blockM key) 54)).g), (vU32 (hst (xorL (blockM key) 54)).h), v1, (vN (xorL (blockM key) 54).length)] 198, .row v1 5 1 (hrest (xorL (blockM key) 54)).length (List.map vU8 (hrest (xorL (blockM key) 54)))] := H0.splice [] [] [.blk m1 [(ptr q1 0), (str (blockM key))] 185, .blk q1 [(vU32 (hst (xorL (blockM key) 54)).a), (vU32 (hst (xorL (blockM key) 54)).b), (vU32 (hst (xorL (blockM key) 54)).c), (vU32 (hst (xorL (blockM key) 54)).d), (vU32 (hst (xorL (blockM key) 54)).e), (vU32 (hst (xorL (blockM key) 54)).f), (vU32 (hst (xorL (blockM key) 54)).g), (vU32 (hst (xorL (blockM key) 54)).h), v1, (vN (xorL (blockM key) 54).length)] 198, .row v1 5 1 (hrest (xorL (blockM key) 54)).length (List.map vU8 (hrest (xorL (blockM key) 54)))] rfl rfl hq1 (Fits.solid True.intro (Fits.solid True.intro (Fits.solid True.intro Fits.nil)))
  refine WL.op rfl rfl (op_assign rfl ?_)
  refine WL.nil ?_
  refine WQ.next ?_
  refine WC.seq ?_
  refine WC.region ?_
  refine WL.op rfl rfl (op_move rfl ?_)
  refine WL.op rfl rfl (op_move rfl ?_)
  refine WL.op rfl rfl (op_callF Fa.C110 rfl ((macw_ok m1 q1 v1 lv (blockM key) (xorL (blockM key) 54) ls _ _ (H1.part [0, 1, 2] rfl rfl) (fun w1 hf => (fun w1 hf => hA.fr hf (by simp)) w1 (H1.frPart (I := [0, 1, 2]) rfl hf)) (by first | (rw [List.length_append, xorL_length, blockM_length]; omega) | (rw [xorL_length, blockM_length]; omega)) (by omega)).mono (fun e w2 hq => ?_)))
  obtain ⟨v2, rfl, hq2⟩ := hq
  refine ⟨_, rfl, ?_⟩
  have H2 : Own [] w w2 [.blk m1 [(ptr q1 0), (str (blockM key))] 185, .blk q1 [(vU32 (hst ((xorL (blockM key) 54) ++ ls.flatten)).a), (vU32 (hst ((xorL (blockM key) 54) ++ ls.flatten)).b), (vU32 (hst ((xorL (blockM key) 54) ++ ls.flatten)).c), (vU32 (hst ((xorL (blockM key) 54) ++ ls.flatten)).d), (vU32 (hst ((xorL (blockM key) 54) ++ ls.flatten)).e), (vU32 (hst ((xorL (blockM key) 54) ++ ls.flatten)).f), (vU32 (hst ((xorL (blockM key) 54) ++ ls.flatten)).g), (vU32 (hst ((xorL (blockM key) 54) ++ ls.flatten)).h), v2, (vN ((xorL (blockM key) 54) ++ ls.flatten).length)] 198, .row v2 5 1 (hrest ((xorL (blockM key) 54) ++ ls.flatten)).length (List.map vU8 (hrest ((xorL (blockM key) 54) ++ ls.flatten)))] := H1.splice [0, 1, 2] [.blk m1 [(ptr q1 0), (str (blockM key))] 185, .blk q1 [(vU32 (hst ((xorL (blockM key) 54) ++ ls.flatten)).a), (vU32 (hst ((xorL (blockM key) 54) ++ ls.flatten)).b), (vU32 (hst ((xorL (blockM key) 54) ++ ls.flatten)).c), (vU32 (hst ((xorL (blockM key) 54) ++ ls.flatten)).d), (vU32 (hst ((xorL (blockM key) 54) ++ ls.flatten)).e), (vU32 (hst ((xorL (blockM key) 54) ++ ls.flatten)).f), (vU32 (hst ((xorL (blockM key) 54) ++ ls.flatten)).g), (vU32 (hst ((xorL (blockM key) 54) ++ ls.flatten)).h), v2, (vN ((xorL (blockM key) 54) ++ ls.flatten).length)] 198, .row v2 5 1 (hrest ((xorL (blockM key) 54) ++ ls.flatten)).length (List.map vU8 (hrest ((xorL (blockM key) 54) ++ ls.flatten)))] [] rfl rfl hq2 (Fits.solid True.intro (Fits.solid True.intro (Fits.solid True.intro Fits.nil)))
  refine WL.nil ?_
  refine WQ.next ?_
  refine WC.seq ?_
  refine WC.region ?_
  refine WL.op rfl rfl (op_move rfl ?_)
  refine WL.op rfl rfl (op_callF Fa.C111 rfl ((macs_ok m1 q1 v2 (blockM key) ((xorL (blockM key) 54) ++ ls.flatten) _ (H2.cellsAt (i := 0) rfl) (H2.cellsAt (i := 1) rfl) (H2.arrR (i := 2) rfl) (by first | (rw [List.length_append, xorL_length, blockM_length]; omega) | (rw [xorL_length, blockM_length]; omega)) (by rw [blockM_length]; decide)).mono (fun e w3 hq => ?_)))
  obtain ⟨rfl, hf3⟩ := hq
  refine ⟨_, rfl, ?_⟩
  have H3 := H2.fr' hf3
  refine WL.op rfl rfl (op_assign rfl ?_)
  refine WL.nil ?_
  refine WQ.next ?_
  refine WC.ret ?_
  refine WQ.out (.tmp rfl .nil) ?_
  exact ⟨by simp [tup, mac], H3.fr⟩
set_option maxRecDepth 100000 in
theorem sseal_ok (key : List UInt8) (pg : UInt32) (ev pv sv : Value) (xs : List Xt) (ps : List UInt16) (con : Bool) (en : UInt32) (sg : List Sg) (w : World) (hE : Arr w ev 2 xs.length (List.flatMap xtc xs)) (hP : Arr w pv 1 ps.length (List.map vU16 ps)) (hS : Arr w sv 3 sg.length (List.flatMap sgc sg)) (hk : key.length < 2 ^ 40) (bx : xs.length ≤ 2 ^ 20) (bp : ps.length ≤ 2 ^ 20) (bs : sg.length ≤ 2 ^ 10) (bb : ∀ x ∈ sg, x.b.length ≤ 2 ^ 30) (hL : (imB pg xs ps con en sg).length < 2 ^ 38) :
    Calls Try.prog 112 #[(.agg #[(vU32 pg), ev, pv, (.bool con), (vU32 en), sv, (str key)])] w (fun e w' => e = .returned (.tuple #[str (slS key pg xs ps con en sg), vN (imE pg xs ps en sg)]) ∧ Fr [] w w') := by
  refine enter (args := [(.agg #[(vU32 pg), ev, pv, (.bool con), (vU32 en), sv, (str key)])]) Try.func112 rfl rfl ?_
  have H0 : Own [] w w [] := Own.start w []
  refine WC.seq ?_
  refine WC.region ?_
  refine WL.op rfl rfl (op_box H0 rfl rfl (fun b1 w1 H1 => ?_))
  refine WL.op rfl rfl (op_assign rfl ?_)
  refine WL.op rfl rfl (op_assign rfl ?_)
  refine WL.nil ?_
  refine WQ.next ?_
  refine WC.seq ?_
  refine WC.region ?_
  refine WL.op rfl rfl (op_fieldAddr rfl Fa.F161_0 ?_)
  refine WL.op rfl rfl (op_loadS (vs := [_, _, _, _, _, _]) rfl (H1.cells (i := 0) rfl rfl) Try.underlying59 rfl Fa.I59 rfl ?_)
  refine WL.op rfl rfl (op_callF Fa.C41 rfl ((iput_ok pg _ _ _ xs ps con en sg _ (H1.arr hE) (H1.arr hP) (H1.arr hS) bx bp bs bb).mono (fun e w2 hq => ?_)))
  obtain ⟨rfl, hf2⟩ := hq
  refine ⟨_, rfl, ?_⟩
  have H2 := H1.fr' hf2
  refine WL.op rfl rfl (op_move rfl ?_)
  refine WL.op rfl rfl (op_extract rfl rfl ?_)
  refine WL.op rfl rfl (op_extract rfl rfl ?_)
  refine WL.op rfl rfl (op_assign rfl ?_)
  refine WL.op rfl rfl (op_assign rfl ?_)
  refine WL.nil ?_
  refine WQ.next ?_
  refine WC.seq ?_
  refine WC.seq ?_
  refine WC.region ?_
  refine WL.op rfl rfl (op_fieldAddr rfl Fa.F161_0 ?_)
  refine WL.op rfl rfl (op_fieldAddr rfl Fa.F59_2 ?_)
  refine WL.op rfl rfl (op_load rfl (H2.cell (i := 0) rfl rfl) Try.underlying57 rfl ?_)
  refine WL.op rfl rfl (op_lenA Try.underlying57 rfl (H2.arr hS) ?_)
  refine WL.op rfl rfl (op_eqlN (b := 0) rfl rfl ?_)
  refine WL.op rfl rfl (op_move rfl ?_)
  refine WL.split (t := 17) rfl (fun (hb3 : (decide (sg.length = 0)) = true) => ?_) (fun (hb3 : (decide (sg.length = 0)) = false) => ?_)
  ·
    have hc3 := of_decide_eq_true hb3
    refine WL.no rfl rfl rfl hb3 rfl ?_
    refine WL.no rfl rfl rfl hb3 rfl ?_
    refine WL.op rfl rfl (op_pickT rfl hb3 rfl ?_)
    refine WL.nil ?_
    refine WQ.next ?_
    refine WC.yes rfl rfl ?_
    refine WC.seq ?_
    refine WC.region ?_
    refine WL.op rfl rfl (op_assign rfl ?_)
    refine WL.op rfl rfl (op_assign rfl ?_)
    refine WL.nil ?_
    refine WQ.next ?_
    refine WC.ret ?_
    refine WQ.thenRet ?_
    refine WQ.out (.tmp rfl (.tmp rfl .nil)) ?_
    have h2 := imE_nil (pg := pg) (xs := xs) (ps := ps) (en := en) hc3
    rw [slS, h2, if_neg (by decide)]
    exact ⟨rfl, H2.fr⟩
  ·
    have hc3 := of_decide_eq_false hb3
    refine WL.yes rfl rfl rfl hb3 rfl (op_move rfl ?_)
    refine WL.yes rfl rfl rfl hb3 rfl (op_neqN (b := 0) rfl rfl ?_)
    refine WL.op rfl rfl (op_pickF rfl hb3 rfl ?_)
    refine WL.nil ?_
    refine WQ.next ?_
    refine WC.cond rfl (fun (hb4 : (decide ((imE pg xs ps en sg) ≠ 0)) = true) => ?_) (fun (hb4 : (decide ((imE pg xs ps en sg) ≠ 0)) = false) => ?_)
    ·
      have hc4 := of_decide_eq_true hb4
      refine WC.seq ?_
      refine WC.region ?_
      refine WL.op rfl rfl (op_assign rfl ?_)
      refine WL.op rfl rfl (op_assign rfl ?_)
      refine WL.nil ?_
      refine WQ.next ?_
      refine WC.ret ?_
      refine WQ.thenRet ?_
      refine WQ.out (.tmp rfl (.tmp rfl .nil)) ?_
      rw [slS, if_neg hc4, imE_2 hc4]
      exact ⟨rfl, H2.fr⟩
    ·
      have hc4 := of_decide_eq_false hb4
      refine WC.skip ?_
      refine WQ.next ?_
      refine WC.seq ?_
      refine WC.region ?_
      refine WL.op rfl rfl (op_move rfl ?_)
      refine WL.op rfl rfl (op_fieldAddr rfl Fa.F161_1 ?_)
      refine WL.op rfl rfl (op_load rfl (H2.cell (i := 0) rfl rfl) Try.underlying9 rfl ?_)
      refine WL.op rfl rfl (op_move rfl ?_)
      refine WL.op rfl rfl (op_buildSlice (cs := [_]) H2 Try.underlying23 Fa.I9 rfl rfl rfl rfl (by decide) (by decide) (fun b5 w5 H5 => ?_))
      refine WL.op rfl rfl (op_callF Fa.C70 rfl ((stag_ok key _ ([(imB pg xs ps con en sg)]) _ (Arr.lenM (H5.arrR (i := 1) rfl)) hk (by simp only [List.flatten_cons, List.flatten_nil, List.append_nil, List.length_cons, List.length_nil]; omega)).mono (fun e w6 hq => ?_)))
      obtain ⟨rfl, hf6⟩ := hq
      refine ⟨_, rfl, ?_⟩
      have H6 := H5.fr' hf6
      refine WL.op rfl rfl (op_addStr rfl rfl (by rw [mac_length]; omega) ?_)
      refine WL.op rfl rfl (op_assign rfl ?_)
      refine WL.op rfl rfl (op_assign rfl ?_)
      refine WL.nil ?_
      refine WQ.next ?_
      refine WC.ret ?_
      refine WQ.out (.tmp rfl (.tmp rfl .nil)) ?_
      have h0 := Decidable.not_not.mp hc4
      rw [slS, if_pos h0, h0]
      exact ⟨by simp [tup], H6.fr⟩
set_option maxRecDepth 100000 in
theorem seal_ok (key : List UInt8) (pg : UInt32) (ev pv sv : Value) (xs : List Xt) (ps : List UInt16) (con : Bool) (en : UInt32) (sg : List Sg) (w : World) (hE : Arr w ev 2 xs.length (List.flatMap xtc xs)) (hP : Arr w pv 1 ps.length (List.map vU16 ps)) (hS : Arr w sv 3 sg.length (List.flatMap sgc sg)) (hk : key.length < 2 ^ 40) (bx : xs.length ≤ 2 ^ 20) (bp : ps.length ≤ 2 ^ 20) (bs : sg.length ≤ 2 ^ 10) (bb : ∀ x ∈ sg, x.b.length ≤ 2 ^ 30) (hL : (imB pg xs ps con en sg).length < 2 ^ 38) :
    Calls Try.prog 67 #[(str key), (.agg #[(vU32 pg), ev, pv, (.bool con), (vU32 en), sv])] w (fun e w' => e = .returned (.tuple #[str (slS key pg xs ps con en sg), vN (imE pg xs ps en sg)]) ∧ Fr [] w w') := by
  refine enter (args := [(str key), (.agg #[(vU32 pg), ev, pv, (.bool con), (vU32 en), sv])]) Try.func67 rfl rfl ?_
  have H0 : Own [] w w [] := Own.start w []
  refine WC.seq ?_
  refine WC.region ?_
  refine WL.op rfl rfl (op_box H0 rfl rfl (fun b1 w1 H1 => ?_))
  refine WL.op rfl rfl (op_assign rfl ?_)
  refine WL.op rfl rfl (op_assign rfl ?_)
  refine WL.nil ?_
  refine WQ.next ?_
  refine WC.seq ?_
  refine WC.region ?_
  refine WL.op rfl rfl (op_loadS (vs := [_, _, _, _, _, _]) rfl (H1.cells (i := 0) rfl rfl) Try.underlying59 rfl Fa.I59 rfl ?_)
  refine WL.op rfl rfl (op_move rfl ?_)
  refine WL.op rfl rfl (op_build (cs := [_, _, _, _, _, _, _]) Fa.I161 Fa.PL161 rfl rfl ?_)
  refine WL.op rfl rfl (op_callF Fa.C112 rfl ((sseal_ok key pg _ _ _ xs ps con en sg _ (H1.arr hE) (H1.arr hP) (H1.arr hS) hk bx bp bs bb hL).mono (fun e w2 hq => ?_)))
  obtain ⟨rfl, hf2⟩ := hq
  refine ⟨_, rfl, ?_⟩
  have H2 := H1.fr' hf2
  refine WL.op rfl rfl (op_extract rfl rfl ?_)
  refine WL.op rfl rfl (op_extract rfl rfl ?_)
  refine WL.op rfl rfl (op_assign rfl ?_)
  refine WL.op rfl rfl (op_assign rfl ?_)
  refine WL.nil ?_
  refine WQ.next ?_
  refine WC.ret ?_
  refine WQ.out (.tmp rfl (.tmp rfl .nil)) ?_
  exact ⟨rfl, H2.fr⟩
end Go.Proofs.Ytpnghdalnghpcaa
/-! from WSeal2 -/
namespace Go.Proofs.Ytpnghdalnghpcaa
open Go.Owl Go.Spec
set_option maxRecDepth 100000 in
theorem sopen_ok (key s : List UInt8) (w : World) (hk : key.length < 2 ^ 40) (hs : s.length < 2 ^ 38) :
    Calls Try.prog 68 #[(str key), (str s)] w (fun e w' => ∃ v u q, e = .returned (.tuple #[.agg #[vU32 (opI key s).pg, v, u, .bool (opI key s).c, vU32 (opI key s).en, q], vN (opC key s)]) ∧ Own [] w w' [.row v 130 2 (opI key s).xs.length (List.flatMap xtc (opI key s).xs), .row u 92 1 (opI key s).ps.length (List.map vU16 (opI key s).ps), .row q 111 3 (opI key s).sg.length (List.flatMap sgc (opI key s).sg)]) := by
  refine enter (args := [(str key), (str s)]) Try.func68 rfl rfl ?_
  have H0 : Own [] w w [] := Own.start w []
  refine WC.seq ?_
  refine WC.region ?_
  refine WL.op rfl rfl (op_alloc H0 Fa.I59 (fun b1 w1 H1 => ?_))
  refine WL.op rfl rfl (op_assign rfl ?_)
  refine WL.nil ?_
  refine WQ.next ?_
  refine WC.seq ?_
  refine WC.region ?_
  refine WL.op rfl rfl (op_move rfl ?_)
  refine WL.op rfl rfl (op_lenStr Try.underlying9 rfl ?_)
  refine WL.op rfl rfl (op_subI (a := ((s.length : Nat) : Int)) (b := ((32 : Nat) : Int)) rfl rfl (by omega) ?_)
  refine WL.op rfl rfl (op_assign rfl ?_)
  refine WL.nil ?_
  refine WQ.next ?_
  refine WC.seq ?_
  refine WC.seq ?_
  refine WC.region ?_
  refine WL.op rfl rfl (op_move rfl ?_)
  refine WL.op rfl rfl (op_lssI (b := (0 : Int)) rfl rfl ?_)
  refine WL.nil ?_
  refine WQ.next ?_
  refine WC.cond rfl (fun (hb2 : (decide ((((s.length : Nat) : Int) - ((32 : Nat) : Int)) < (0 : Int))) = true) => ?_) (fun (hb2 : (decide ((((s.length : Nat) : Int) - ((32 : Nat) : Int)) < (0 : Int))) = false) => ?_)
  ·
    have hc2 := of_decide_eq_true hb2
    refine WC.seq ?_
    refine WC.region ?_
    refine WL.op rfl rfl (op_build (cs := [_, _, _, _, _, _]) Fa.I59 Fa.PL59 rfl rfl ?_)
    refine WL.op rfl rfl (op_storeBW (i := 0) H1 rfl rfl rfl rfl rfl Fa.I59 (fun w3 H3 => ?_))
    refine WL.op rfl rfl (op_assign rfl ?_)
    refine WL.nil ?_
    refine WQ.next ?_
    refine WC.ret ?_
    refine WQ.thenRet ?_
    refine WQ.out (.cell rfl (run_loadVarS (vs := [_, _, _, _, _, _]) (H3.cells (i := 0) rfl rfl) Try.underlying59 rfl Fa.I59 rfl) (.tmp rfl .nil)) ?_
    have hb := op_short (key := key) (s := s) (by omega)
    rw [hb.1, hb.2]
    exact ⟨.slice none 0 0, .slice none 0 0, .slice none 0 0, rfl, (((H3.sel [] rfl rfl).nilRow 130 2).nilRow 92 1).nilRow 111 3⟩
  ·
    have hc2 := of_decide_eq_false hb2
    have hln : ¬ s.length < 32 := by omega
    rw [show ((s.length : Nat) : Int) - ((32 : Nat) : Int) = ((s.length - 32 : Nat) : Int) by omega]
    refine WC.skip ?_
    refine WQ.next ?_
    refine WC.seq ?_
    refine WC.seq ?_
    refine WC.draw 9 Fa.M H1 (HW.op rfl (fun w1 H1 => op_move rfl ⟨rfl, Fr.refl _ _⟩) (HW.op rfl (fun w1 H1 => op_move rfl ⟨rfl, Fr.refl _ _⟩) (HW.op rfl (fun w1 H1 => op_move rfl ⟨rfl, Fr.refl _ _⟩) (HW.op rfl (fun w1 H1 => op_sliceStrHi Try.underlying9 rfl rfl (by omega) ⟨rfl, Fr.refl _ _⟩) (HW.op rfl (fun w1 H1 => op_move rfl ⟨rfl, Fr.refl _ _⟩) (HW.op rfl (fun w1 H1 => op_move rfl ⟨rfl, Fr.refl _ _⟩) (HW.op rfl (fun w1 H1 => op_sliceStrLo Try.underlying9 rfl rfl (by omega) ⟨rfl, Fr.refl _ _⟩) (HW.op rfl (fun w1 H1 => op_callF Fa.C113 rfl ((mcheck_ok key (s.take (s.length - 32)) (s.drop (s.length - 32)) _ hk (by rw [List.length_take]; omega)).mono (fun e w2 hq => ⟨_, hq.1, rfl, hq.2⟩))) (HW.op rfl (fun w1 H1 => op_not rfl ⟨rfl, Fr.refl _ _⟩)  HW.nil))))))))) (by kernel_rfl) ?_
    intro β5 w5 H5
    refine WL.nil ?_
    refine WQ.next ?_
    refine WC.cond rfl (fun (hb6 : (!(decide ((s.drop (s.length - 32)) = mac key (s.take (s.length - 32))))) = true) => ?_) (fun (hb6 : (!(decide ((s.drop (s.length - 32)) = mac key (s.take (s.length - 32))))) = false) => ?_)
    ·
      have hn6 := (Bool.not_eq_true' _).mp hb6
      refine WC.seq ?_
      refine WC.region ?_
      refine WL.op rfl rfl (op_build (cs := [_, _, _, _, _, _]) Fa.I59 Fa.PL59 rfl rfl ?_)
      refine WL.op rfl rfl (op_storeBW (i := 0) H5 rfl rfl rfl rfl rfl Fa.I59 (fun w7 H7 => ?_))
      refine WL.op rfl rfl (op_assign rfl ?_)
      refine WL.nil ?_
      refine WQ.next ?_
      refine WC.ret ?_
      refine WQ.thenRet ?_
      refine WQ.out (.cell rfl (run_loadVarS (vs := [_, _, _, _, _, _]) (H7.cells (i := 0) rfl rfl) Try.underlying59 rfl Fa.I59 rfl) (.tmp rfl .nil)) ?_
      have hb := op_tag (key := key) hln (of_decide_eq_false (by simpa using hn6))
      rw [hb.1, hb.2]
      exact ⟨.slice none 0 0, .slice none 0 0, .slice none 0 0, rfl, (((H7.sel [] rfl rfl).nilRow 130 2).nilRow 92 1).nilRow 111 3⟩
    ·
      have hn6 := (Bool.not_eq_false' _).mp hb6
      refine WC.skip ?_
      refine WQ.next ?_
      refine WC.seq ?_
      refine WC.region ?_
      refine WL.op rfl rfl (op_move rfl ?_)
      refine WL.op rfl rfl (op_move rfl ?_)
      refine WL.op rfl rfl (op_sliceStrHi Try.underlying9 rfl rfl (by omega) ?_)
      refine WL.op rfl rfl (op_callF Fa.C49 rfl ((iget_ok (s.take (s.length - 32)) _ (by rw [List.length_take]; omega)).mono (fun e w8 hq => ?_)))
      obtain ⟨v8, u8, q8, rfl, hq8⟩ := hq
      refine ⟨_, rfl, ?_⟩
      have H8 : Own [] w w8 [.blk b1 [(vU32 0), (.slice none 0 0), (.slice none 0 0), (.bool false), (vU32 0), (.slice none 0 0)] 59, .row v8 130 2 (imG (s.take (s.length - 32))).xs.length (List.flatMap xtc (imG (s.take (s.length - 32))).xs), .row u8 92 1 (imG (s.take (s.length - 32))).ps.length (List.map vU16 (imG (s.take (s.length - 32))).ps), .row q8 111 3 (imG (s.take (s.length - 32))).sg.length (List.flatMap sgc (imG (s.take (s.length - 32))).sg)] := H5.splice [] [] [.row v8 130 2 (imG (s.take (s.length - 32))).xs.length (List.flatMap xtc (imG (s.take (s.length - 32))).xs), .row u8 92 1 (imG (s.take (s.length - 32))).ps.length (List.map vU16 (imG (s.take (s.length - 32))).ps), .row q8 111 3 (imG (s.take (s.length - 32))).sg.length (List.flatMap sgc (imG (s.take (s.length - 32))).sg)] rfl rfl hq8 (Fits.solid True.intro (Fits.solid True.intro (Fits.solid True.intro Fits.nil)))
      refine WL.op rfl rfl (op_extract rfl rfl ?_)
      refine WL.op rfl rfl (op_extract rfl rfl ?_)
      refine WL.op rfl rfl (op_storeBW (i := 0) H8 rfl rfl rfl rfl (one_cons rfl (one_cons (Arr.one (H8.arrR (i := 1) rfl)) (one_cons (Arr.one (H8.arrR (i := 2) rfl)) (one_cons rfl (one_cons rfl (one_cons (Arr.one (H8.arrR (i := 3) rfl)) one_nil)))))) Fa.I59 (fun w9 H9 => ?_))
      refine WL.op rfl rfl (op_assign rfl ?_)
      refine WL.nil ?_
      refine WQ.next ?_
      refine WC.ret ?_
      refine WQ.out (.cell rfl (run_loadVarS (vs := [_, _, _, _, _, _]) (H9.cells (i := 0) rfl rfl) Try.underlying59 rfl Fa.I59 rfl) (.tmp rfl .nil)) ?_
      have hb := op_get (key := key) hln (of_decide_eq_true (by simpa using hn6))
      rw [hb.1, hb.2]
      exact ⟨v8, u8, q8, rfl, H9.sel [1, 2, 3] rfl rfl⟩
end Go.Proofs.Ytpnghdalnghpcaa
/-! from WImg14 -/
namespace Go.Proofs.Ytpnghdalnghpcaa
open Go.Owl Go.Spec
end Go.Proofs.Ytpnghdalnghpcaa
/-! from WImg15 -/
namespace Go.Proofs.Ytpnghdalnghpcaa
open Go.Owl Go.Spec
end Go.Proofs.Ytpnghdalnghpcaa
/-! from WSeal3 -/
namespace Go.Proofs.Ytpnghdalnghpcaa
open Go.Owl Go.Spec
end Go.Proofs.Ytpnghdalnghpcaa
