/- General lemmas and walks: WSha, WSha2, WRef2. No condition but what each theorem names. -/
import Derived.Test.YtpnghdalnghpcaaQ2f0be20b
import Derived.Test.YtpnghdalnghpcaaQcf708baf
import Derived.Test.YtpnghdalnghpcaaQ8b1839b4
import Derived.Test.YtpnghdalnghpcaaQ3677b7f3
/-! from WSha -/
namespace Go.Proofs.Ytpnghdalnghpcaa
open Go.Owl Go.Spec
set_option maxRecDepth 100000 in
theorem turn_ok (x : UInt32) (n : Nat) (hn : n ≤ 32) (w : World) :
    Calls Try.prog 152 #[(vU32 x), (vN n)] w (fun e w' => e = .returned (vU32 (rot x n)) ∧ Fr [] w w') := by
  refine enter (args := [(vU32 x), (vN n)]) Try.func152 rfl rfl ?_
  have H0 : Own [] w w [] := Own.start w []
  refine WC.seq ?_
  refine WC.region ?_
  refine WL.op rfl rfl (op_assign rfl ?_)
  refine WL.nil ?_
  refine WQ.next ?_
  refine WC.seq ?_
  refine WC.draw 9 Fa.M H0 (HW.op rfl (fun w1 H1 => op_move rfl ⟨rfl, Fr.refl _ _⟩) (HW.op rfl (fun w1 H1 => op_move rfl ⟨rfl, Fr.refl _ _⟩) (HW.op rfl (fun w1 H1 => op_shrU32 rfl rfl ⟨rfl, Fr.refl _ _⟩) (HW.op rfl (fun w1 H1 => op_move rfl ⟨rfl, Fr.refl _ _⟩) (HW.op rfl (fun w1 H1 => op_move rfl ⟨rfl, Fr.refl _ _⟩) (HW.op rfl (fun w1 H1 => op_subN (a := 32) rfl rfl (by omega) (by omega) ⟨rfl, Fr.refl _ _⟩) (HW.op rfl (fun w1 H1 => op_shlU32 rfl rfl ⟨rfl, Fr.refl _ _⟩) (HW.op rfl (fun w1 H1 => op_orU32 rfl rfl ⟨rfl, Fr.refl _ _⟩) (HW.op rfl (fun w1 H1 => op_assign rfl ⟨rfl, Fr.refl _ _⟩)  HW.nil))))))))) (by kernel_rfl) ?_
  intro β1 w1 H1
  refine WL.nil ?_
  refine WQ.next ?_
  refine WC.ret ?_
  refine WQ.out (.tmp rfl .nil) ?_
  exact ⟨rfl, H1.fr⟩
set_option maxRecDepth 100000 in
theorem first_ok  (w : World) :
    Calls Try.prog 143 #[] w (fun e w' => e = .returned (.agg #[vU32 firstS.a, vU32 firstS.b, vU32 firstS.c, vU32 firstS.d, vU32 firstS.e, vU32 firstS.f, vU32 firstS.g, vU32 firstS.h]) ∧ Fr [] w w') := by
  refine enter (args := []) Try.func143 rfl rfl ?_
  have H0 : Own [] w w [] := Own.start w []
  refine WC.seq ?_
  refine WC.region ?_
  refine WL.op rfl rfl (op_alloc H0 Fa.I195 (fun b1 w1 H1 => ?_))
  refine WL.nil ?_
  refine WQ.next ?_
  refine WC.seq ?_
  refine WC.region ?_
  refine WL.op rfl rfl (op_buildA (cs := [_, _, _, _, _, _, _, _]) Fa.I195 Try.underlying195 Fa.I22 rfl rfl ?_)
  refine WL.op rfl rfl (op_storeBW (i := 0) H1 rfl rfl rfl rfl rfl Fa.I195 (fun w2 H2 => ?_))
  refine WL.nil ?_
  refine WQ.next ?_
  refine WC.ret ?_
  refine WQ.out (.cell rfl (run_loadVarS (vs := [_, _, _, _, _, _, _, _]) (H2.cells (i := 0) rfl rfl) Try.underlying195 rfl Fa.I195 rfl) .nil) ?_
  exact ⟨rfl, H2.fr⟩
set_option maxRecDepth 100000 in
theorem keys_ok  (w : World) :
    Calls Try.prog 151 #[] w (fun e w' => e = .returned (.agg (keyL.map vU32).toArray) ∧ Fr [] w w') := by
  refine enter (args := []) Try.func151 rfl rfl ?_
  have H0 : Own [] w w [] := Own.start w []
  refine WC.seq ?_
  refine WC.region ?_
  refine WL.op rfl rfl (op_alloc H0 Fa.I204 (fun b1 w1 H1 => ?_))
  refine WL.nil ?_
  refine WQ.next ?_
  refine WC.seq ?_
  refine WC.region ?_
  refine WL.op rfl rfl (op_buildA (cs := keyL.map vU32) Fa.I204 Try.underlying204 Fa.I22 rfl (by kernel_rfl) ?_)
  refine WL.op rfl rfl (op_storeBV (i := 0) H1 rfl rfl rfl (by kernel_rfl) (one_U32 _) (by kernel_rfl) Fa.I204 (fun w2 H2 => ?_))
  refine WL.nil ?_
  refine WQ.next ?_
  refine WC.ret ?_
  refine WQ.out (.cell rfl (run_loadVarS (H2.cellsW (i := 0) rfl) Try.underlying204 rfl Fa.I204 (by kernel_rfl)) .nil) ?_
  exact ⟨rfl, H2.fr⟩
set_option maxRecDepth 100000 in
theorem words_ok (v : Value) (b : List UInt8) (w : World) (hl : b.length = 64) (hA : Arr w v 1 64 (b.map vU8)) :
    Calls Try.prog 150 #[v] w (fun e w' => e = .returned (.agg ((wl b 64).map vU32).toArray) ∧ Fr [] w w') := by
  refine enter (args := [v]) Try.func150 rfl rfl ?_
  have H0 : Own [] w w [] := Own.start w []
  refine WC.seq ?_
  refine WC.region ?_
  refine WL.op rfl rfl (op_alloc H0 Fa.I204 (fun b1 w1 H1 => ?_))
  refine WL.nil ?_
  refine WQ.next ?_
  refine WC.seq ?_
  refine WC.seq ?_
  refine WC.region ?_
  refine WL.op rfl rfl (op_move rfl ?_)
  refine WL.nil ?_
  refine WQ.next ?_
  refine WC.block ?_
  refine WC.loop (α := Nat) (fun k => [(0, v), (2, (ptr b1 0)), (7, (vN k))]) (fun k w' => (k ≤ 16) ∧ Own [] w w' [.blk b1 (wC b k) 204]) (fun k => 16 - k) 0 ⟨(by omega), H1⟩ ⟨rfl, rfl, rfl, trivial⟩ ?_
  rintro k w2 ⟨hinv, H2⟩
  show WC _ _ _ _ _ [(0, v), (2, (ptr b1 0)), (7, (vN k))] _
  refine WC.seq ?_
  refine WC.region ?_
  refine WL.op rfl rfl (op_lssN (b := 16) rfl rfl ?_)
  refine WL.nil ?_
  refine WQ.next ?_
  refine WC.seq ?_
  refine WC.cond rfl (fun (hb3 : (decide (k < 16)) = true) => ?_) (fun (hb3 : (decide (k < 16)) = false) => ?_)
  ·
    have hc3 := of_decide_eq_true hb3
    refine WC.skip ?_
    refine WQ.next ?_
    refine WC.seq ?_
    refine WC.block ?_
    refine WC.seq ?_
    refine WC.region ?_
    refine WL.op rfl rfl (op_move rfl ?_)
    refine WL.op rfl rfl (op_assign rfl ?_)
    refine WL.nil ?_
    refine WQ.next ?_
    refine WC.draw 35 Fa.M H2 (HW.op rfl (fun w1 H1 => op_move rfl ⟨rfl, Fr.refl _ _⟩) (HW.op rfl (fun w1 H1 => op_move rfl ⟨rfl, Fr.refl _ _⟩) (HW.op rfl (fun w1 H1 => op_move rfl ⟨rfl, Fr.refl _ _⟩) (HW.op rfl (fun w1 H1 => op_mulN (a := 4) rfl rfl (by omega) ⟨rfl, Fr.refl _ _⟩) (HW.op rfl (fun w1 H1 => op_indexAddr1 Try.underlying73 Fa.I5 rfl (H1.arr hA) rfl (by omega) ⟨rfl, Fr.refl _ _⟩) (HW.op rfl (fun w1 H1 => op_load rfl ((H1.arr hA).at (get_map vU8 0 (by omega))) Try.underlying5 rfl ⟨rfl, Fr.refl _ _⟩) (HW.op rfl (fun w1 H1 => op_convU8U32 (hs := Try.underlying5) (hd := Try.underlying22) rfl ⟨rfl, Fr.refl _ _⟩) (HW.op rfl (fun w1 H1 => op_shlU32 (s := 24) rfl rfl ⟨rfl, Fr.refl _ _⟩) (HW.op rfl (fun w1 H1 => op_move rfl ⟨rfl, Fr.refl _ _⟩) (HW.op rfl (fun w1 H1 => op_move rfl ⟨rfl, Fr.refl _ _⟩) (HW.op rfl (fun w1 H1 => op_mulN (a := 4) rfl rfl (by omega) ⟨rfl, Fr.refl _ _⟩) (HW.op rfl (fun w1 H1 => op_addN (b := 1) rfl rfl (by omega) ⟨rfl, Fr.refl _ _⟩) (HW.op rfl (fun w1 H1 => op_indexAddr1 Try.underlying73 Fa.I5 rfl (H1.arr hA) rfl (by omega) ⟨rfl, Fr.refl _ _⟩) (HW.op rfl (fun w1 H1 => op_load rfl ((H1.arr hA).at (get_map vU8 0 (by omega))) Try.underlying5 rfl ⟨rfl, Fr.refl _ _⟩) (HW.op rfl (fun w1 H1 => op_convU8U32 (hs := Try.underlying5) (hd := Try.underlying22) rfl ⟨rfl, Fr.refl _ _⟩) (HW.op rfl (fun w1 H1 => op_shlU32 (s := 16) rfl rfl ⟨rfl, Fr.refl _ _⟩) (HW.op rfl (fun w1 H1 => op_orU32 rfl rfl ⟨rfl, Fr.refl _ _⟩) (HW.op rfl (fun w1 H1 => op_move rfl ⟨rfl, Fr.refl _ _⟩) (HW.op rfl (fun w1 H1 => op_move rfl ⟨rfl, Fr.refl _ _⟩) (HW.op rfl (fun w1 H1 => op_mulN (a := 4) rfl rfl (by omega) ⟨rfl, Fr.refl _ _⟩) (HW.op rfl (fun w1 H1 => op_addN (b := 2) rfl rfl (by omega) ⟨rfl, Fr.refl _ _⟩) (HW.op rfl (fun w1 H1 => op_indexAddr1 Try.underlying73 Fa.I5 rfl (H1.arr hA) rfl (by omega) ⟨rfl, Fr.refl _ _⟩) (HW.op rfl (fun w1 H1 => op_load rfl ((H1.arr hA).at (get_map vU8 0 (by omega))) Try.underlying5 rfl ⟨rfl, Fr.refl _ _⟩) (HW.op rfl (fun w1 H1 => op_convU8U32 (hs := Try.underlying5) (hd := Try.underlying22) rfl ⟨rfl, Fr.refl _ _⟩) (HW.op rfl (fun w1 H1 => op_shlU32 (s := 8) rfl rfl ⟨rfl, Fr.refl _ _⟩) (HW.op rfl (fun w1 H1 => op_orU32 rfl rfl ⟨rfl, Fr.refl _ _⟩) (HW.op rfl (fun w1 H1 => op_move rfl ⟨rfl, Fr.refl _ _⟩) (HW.op rfl (fun w1 H1 => op_move rfl ⟨rfl, Fr.refl _ _⟩) (HW.op rfl (fun w1 H1 => op_mulN (a := 4) rfl rfl (by omega) ⟨rfl, Fr.refl _ _⟩) (HW.op rfl (fun w1 H1 => op_addN (b := 3) rfl rfl (by omega) ⟨rfl, Fr.refl _ _⟩) (HW.op rfl (fun w1 H1 => op_indexAddr1 Try.underlying73 Fa.I5 rfl (H1.arr hA) rfl (by omega) ⟨rfl, Fr.refl _ _⟩) (HW.op rfl (fun w1 H1 => op_load rfl ((H1.arr hA).at (get_map vU8 0 (by omega))) Try.underlying5 rfl ⟨rfl, Fr.refl _ _⟩) (HW.op rfl (fun w1 H1 => op_convU8U32 (hs := Try.underlying5) (hd := Try.underlying22) rfl ⟨rfl, Fr.refl _ _⟩) (HW.op rfl (fun w1 H1 => op_orU32 rfl rfl ⟨rfl, Fr.refl _ _⟩) (HW.op rfl (fun w1 H1 => op_indexAddrA1 Try.underlying204 Fa.I22 rfl rfl (by omega) ⟨rfl, Fr.refl _ _⟩)  HW.nil))))))))))))))))))))))))))))))))))) (by kernel_rfl) ?_
    intro β4 w4 H4
    refine WL.op rfl rfl (op_storeB (i := 0) H4 rfl rfl rfl (by rw [Nat.blt_eq, wC_length _ _ (by omega)]; omega) rfl Fa.I22 (fun w5 H5 => ?_))
    refine WL.nil ?_
    refine WQ.inNormal ?_
    refine WQ.next ?_
    refine WC.region ?_
    refine WL.op rfl rfl (op_addN (b := 1) rfl rfl (by omega) ?_)
    refine WL.op rfl rfl (op_move rfl ?_)
    refine WL.nil ?_
    exact WQ.round (k + 1) ⟨(by omega), (by rw [wC_set b (k := k) (by omega), if_pos (by omega)]; exact H5)⟩ ⟨rfl, rfl, rfl, trivial⟩ (by omega)
  ·
    have hc3 := of_decide_eq_false hb3
    refine WC.exit ?_
    refine WQ.thenExit ?_
    refine WQ.thenExit ?_
    refine WQ.inHere ?_
    refine WQ.next ?_
    refine WC.seq ?_
    refine WC.seq ?_
    refine WC.region ?_
    refine WL.op rfl rfl (op_assign rfl ?_)
    refine WL.nil ?_
    refine WQ.next ?_
    refine WC.block ?_
    refine WC.loop (α := Nat) (fun k => [(0, v), (2, (ptr b1 0)), (4, (vN k))]) (fun k w' => ((16 ≤ k ∧ k ≤ 64)) ∧ Own [] w w' [.blk b1 (wC b k) 204]) (fun k => 64 - k) 16 ⟨(by omega), (by have hk : k = 16 := (by omega); subst hk; exact H2)⟩ ⟨rfl, rfl, rfl, trivial⟩ ?_
    rintro k w6 ⟨hinv, H6⟩
    show WC _ _ _ _ _ [(0, v), (2, (ptr b1 0)), (4, (vN k))] _
    refine WC.seq ?_
    refine WC.seq ?_
    refine WC.region ?_
    refine WL.op rfl rfl (op_move rfl ?_)
    refine WL.op rfl rfl (op_lssN (b := 64) rfl rfl ?_)
    refine WL.nil ?_
    refine WQ.next ?_
    refine WC.cond rfl (fun (hb7 : (decide (k < 64)) = true) => ?_) (fun (hb7 : (decide (k < 64)) = false) => ?_)
    ·
      have hc7 := of_decide_eq_true hb7
      refine WC.skip ?_
      refine WQ.next ?_
      refine WC.seq ?_
      refine WC.block ?_
      refine WC.seq ?_
      refine WC.draw 10 Fa.M H6 (HW.op rfl (fun w1 H1 => op_move rfl ⟨rfl, Fr.refl _ _⟩) (HW.op rfl (fun w1 H1 => op_subN (b := 15) rfl rfl (by omega) (by omega) ⟨rfl, Fr.refl _ _⟩) (HW.op rfl (fun w1 H1 => op_indexAddrA1 Try.underlying204 Fa.I22 rfl rfl (by omega) ⟨rfl, Fr.refl _ _⟩) (HW.op rfl (fun w1 H1 => op_load rfl (H1.cell (i := 0) rfl (wC_get b (by omega))) Try.underlying22 rfl ⟨rfl, Fr.refl _ _⟩) (HW.op rfl (fun w1 H1 => op_move rfl ⟨rfl, Fr.refl _ _⟩) (HW.op rfl (fun w1 H1 => op_subN (b := 2) rfl rfl (by omega) (by omega) ⟨rfl, Fr.refl _ _⟩) (HW.op rfl (fun w1 H1 => op_indexAddrA1 Try.underlying204 Fa.I22 rfl rfl (by omega) ⟨rfl, Fr.refl _ _⟩) (HW.op rfl (fun w1 H1 => op_load rfl (H1.cell (i := 0) rfl (wC_get b (by omega))) Try.underlying22 rfl ⟨rfl, Fr.refl _ _⟩) (HW.op rfl (fun w1 H1 => op_assign rfl ⟨rfl, Fr.refl _ _⟩) (HW.op rfl (fun w1 H1 => op_assign rfl ⟨rfl, Fr.refl _ _⟩)  HW.nil)))))))))) (by kernel_rfl) ?_
      intro β8 w8 H8
      refine WL.nil ?_
      refine WQ.next ?_
      refine WC.draw 29 Fa.M H8 (HW.op rfl (fun w1 H1 => op_move rfl ⟨rfl, Fr.refl _ _⟩) (HW.op rfl (fun w1 H1 => op_move rfl ⟨rfl, Fr.refl _ _⟩) (HW.op rfl (fun w1 H1 => op_subN (b := 16) rfl rfl (by omega) (by omega) ⟨rfl, Fr.refl _ _⟩) (HW.op rfl (fun w1 H1 => op_indexAddrA1 Try.underlying204 Fa.I22 rfl rfl (by omega) ⟨rfl, Fr.refl _ _⟩) (HW.op rfl (fun w1 H1 => op_load rfl (H1.cell (i := 0) rfl (wC_get b (by omega))) Try.underlying22 rfl ⟨rfl, Fr.refl _ _⟩) (HW.op rfl (fun w1 H1 => op_move rfl ⟨rfl, Fr.refl _ _⟩) (HW.op rfl (fun w1 H1 => op_callF Fa.C152 rfl ((turn_ok ((wl b k).getD (k - 15) 0) 7 (by decide) _).mono (fun e w2 hq => ⟨_, hq.1, rfl, hq.2⟩))) (HW.op rfl (fun w1 H1 => op_move rfl ⟨rfl, Fr.refl _ _⟩) (HW.op rfl (fun w1 H1 => op_callF Fa.C152 rfl ((turn_ok ((wl b k).getD (k - 15) 0) 18 (by decide) _).mono (fun e w2 hq => ⟨_, hq.1, rfl, hq.2⟩))) (HW.op rfl (fun w1 H1 => op_xorU32 rfl rfl ⟨rfl, Fr.refl _ _⟩) (HW.op rfl (fun w1 H1 => op_move rfl ⟨rfl, Fr.refl _ _⟩) (HW.op rfl (fun w1 H1 => op_shrU32 (s := 3) rfl rfl ⟨rfl, Fr.refl _ _⟩) (HW.op rfl (fun w1 H1 => op_xorU32 rfl rfl ⟨rfl, Fr.refl _ _⟩) (HW.op rfl (fun w1 H1 => op_addU32 rfl rfl ⟨rfl, Fr.refl _ _⟩) (HW.op rfl (fun w1 H1 => op_move rfl ⟨rfl, Fr.refl _ _⟩) (HW.op rfl (fun w1 H1 => op_subN (b := 7) rfl rfl (by omega) (by omega) ⟨rfl, Fr.refl _ _⟩) (HW.op rfl (fun w1 H1 => op_indexAddrA1 Try.underlying204 Fa.I22 rfl rfl (by omega) ⟨rfl, Fr.refl _ _⟩) (HW.op rfl (fun w1 H1 => op_load rfl (H1.cell (i := 0) rfl (wC_get b (by omega))) Try.underlying22 rfl ⟨rfl, Fr.refl _ _⟩) (HW.op rfl (fun w1 H1 => op_addU32 rfl rfl ⟨rfl, Fr.refl _ _⟩) (HW.op rfl (fun w1 H1 => op_move rfl ⟨rfl, Fr.refl _ _⟩) (HW.op rfl (fun w1 H1 => op_callF Fa.C152 rfl ((turn_ok ((wl b k).getD (k - 2) 0) 17 (by decide) _).mono (fun e w2 hq => ⟨_, hq.1, rfl, hq.2⟩))) (HW.op rfl (fun w1 H1 => op_move rfl ⟨rfl, Fr.refl _ _⟩) (HW.op rfl (fun w1 H1 => op_callF Fa.C152 rfl ((turn_ok ((wl b k).getD (k - 2) 0) 19 (by decide) _).mono (fun e w2 hq => ⟨_, hq.1, rfl, hq.2⟩))) (HW.op rfl (fun w1 H1 => op_xorU32 rfl rfl ⟨rfl, Fr.refl _ _⟩) (HW.op rfl (fun w1 H1 => op_move rfl ⟨rfl, Fr.refl _ _⟩) (HW.op rfl (fun w1 H1 => op_shrU32 (s := 10) rfl rfl ⟨rfl, Fr.refl _ _⟩) (HW.op rfl (fun w1 H1 => op_xorU32 rfl rfl ⟨rfl, Fr.refl _ _⟩) (HW.op rfl (fun w1 H1 => op_addU32 rfl rfl ⟨rfl, Fr.refl _ _⟩) (HW.op rfl (fun w1 H1 => op_indexAddrA1 Try.underlying204 Fa.I22 rfl rfl (by omega) ⟨rfl, Fr.refl _ _⟩)  HW.nil))))))))))))))))))))))))))))) (by kernel_rfl) ?_
      intro β13 w13 H13
      refine WL.op rfl rfl (op_storeB (i := 0) H13 rfl rfl rfl (by rw [Nat.blt_eq, wC_length _ _ (by omega)]; omega) rfl Fa.I22 (fun w14 H14 => ?_))
      refine WL.nil ?_
      refine WQ.inNormal ?_
      refine WQ.next ?_
      refine WC.region ?_
      refine WL.op rfl rfl (op_move rfl ?_)
      refine WL.op rfl rfl (op_addN (b := 1) rfl rfl (by omega) ?_)
      refine WL.op rfl rfl (op_assign rfl ?_)
      refine WL.nil ?_
      exact WQ.round (k + 1) ⟨(by omega), (by rw [wC_set b (k := k) (by omega), if_neg (by omega)]; exact H14)⟩ ⟨rfl, rfl, rfl, trivial⟩ (by omega)
    ·
      have hc7 := of_decide_eq_false hb7
      refine WC.exit ?_
      refine WQ.thenExit ?_
      refine WQ.thenExit ?_
      refine WQ.inHere ?_
      refine WQ.next ?_
      refine WC.seq ?_
      refine WC.region ?_
      refine WL.op rfl rfl (op_loadS rfl (H6.cellsW (i := 0) rfl) Try.underlying204 rfl Fa.I204 (wC_length _ _ (by omega)) ?_)
      refine WL.op rfl rfl (op_storeBV (i := 0) H6 rfl rfl rfl (by rw [wC_length _ _ (by omega)]; exact Nat.beq_refl 64) (by have hk : k = 64 := (by omega); subst hk; rw [wC_end]; exact one_U32 _) (wC_length _ _ (by omega)) Fa.I204 (fun w15 H15 => ?_))
      refine WL.nil ?_
      refine WQ.next ?_
      refine WC.ret ?_
      refine WQ.out (.cell rfl (run_loadVarS (H15.cellsW (i := 0) rfl) Try.underlying204 rfl Fa.I204 (wC_length _ _ (by omega))) .nil) ?_
      exact ⟨by have hk : k = 64 := (by omega); subst hk; rw [← wC_end]; rfl, H15.fr⟩
set_option maxRecDepth 100000 in
theorem block_ok (h : St) (v : Value) (b : List UInt8) (w : World) (hl : b.length = 64) (hA : Arr w v 1 64 (b.map vU8)) :
    Calls Try.prog 145 #[(.agg #[(vU32 h.a), (vU32 h.b), (vU32 h.c), (vU32 h.d), (vU32 h.e), (vU32 h.f), (vU32 h.g), (vU32 h.h)]), v] w (fun e w' => e = .returned (.agg #[vU32 (blockS h b).a, vU32 (blockS h b).b, vU32 (blockS h b).c, vU32 (blockS h b).d, vU32 (blockS h b).e, vU32 (blockS h b).f, vU32 (blockS h b).g, vU32 (blockS h b).h]) ∧ Fr [] w w') := by
  refine enter (args := [(.agg #[(vU32 h.a), (vU32 h.b), (vU32 h.c), (vU32 h.d), (vU32 h.e), (vU32 h.f), (vU32 h.g), (vU32 h.h)]), v]) Try.func145 rfl rfl ?_
  have H0 : Own [] w w [] := Own.start w []
  refine WC.seq ?_
  refine WC.region ?_
  refine WL.op rfl rfl (op_box H0 rfl rfl (fun b1 w1 H1 => ?_))
  refine WL.op rfl rfl (op_alloc H1 Fa.I195 (fun b2 w2 H2 => ?_))
  refine WL.nil ?_
  refine WQ.next ?_
  refine WC.seq ?_
  refine WC.draw 7 Fa.M H2 (HW.op rfl (fun w1 H1 => op_loadS (vs := [_, _, _, _, _, _, _, _]) rfl (H1.cells (i := 0) rfl rfl) Try.underlying195 rfl Fa.I195 rfl ⟨rfl, Fr.refl _ _⟩) (HW.op rfl (fun w1 H1 => op_move rfl ⟨rfl, Fr.refl _ _⟩) (HW.op rfl (fun w1 H1 => op_callF Fa.C150 rfl ((words_ok _ _ _ hl (H1.arr hA)).mono (fun e w2 hq => ⟨_, hq.1, rfl, hq.2⟩))) (HW.op rfl (fun w1 H1 => op_callF Fa.C151 rfl ((keys_ok _).mono (fun e w2 hq => ⟨_, hq.1, rfl, hq.2⟩))) (HW.flt (mk := fun bq => ptr bq.1 0) (ent := fun bq => .blk bq.1 _ _) rfl (fun w1 _ => op_alloc (Own.start w1 []) Fa.I195 (fun bq w2 H2 => ⟨(bq, undef), rfl, H2, True.intro⟩)) (HW.flt (mk := fun bq => ptr bq.1 0) (ent := fun bq => .blk bq.1 _ _) rfl (fun w1 _ => op_alloc (Own.start w1 []) Fa.I204 (fun bq w2 H2 => ⟨(bq, undef), rfl, H2, True.intro⟩)) (HW.flt (mk := fun bq => ptr bq.1 0) (ent := fun bq => .blk bq.1 _ _) rfl (fun w1 _ => op_alloc (Own.start w1 []) Fa.I204 (fun bq w2 H2 => ⟨(bq, undef), rfl, H2, True.intro⟩))  HW.nil))))))) (by kernel_rfl) ?_
  intro β5 w5 H5
  refine WL.op rfl rfl (op_storeBW (i := 2) H5 rfl rfl rfl rfl rfl Fa.I195 (fun w6 H6 => ?_))
  refine WL.op rfl rfl (op_storeBV (i := 3) H6 rfl rfl rfl (by rw [List.length_map, wl_length, List.length_replicate]; rfl) (one_U32 _) (by rw [List.length_map, wl_length]) Fa.I204 (fun w7 H7 => ?_))
  refine WL.op rfl rfl (op_storeBV (i := 4) H7 rfl rfl rfl (by kernel_rfl) (one_U32 _) (by kernel_rfl) Fa.I204 (fun w8 H8 => ?_))
  refine WL.nil ?_
  refine WQ.next ?_
  refine WC.seq ?_
  refine WC.seq ?_
  refine WC.region ?_
  refine WL.op rfl rfl (op_move rfl ?_)
  refine WL.nil ?_
  refine WQ.next ?_
  refine WC.block ?_
  refine WC.loop (α := Nat) (fun t => [(2, (ptr b1 0)), (4, (ptr b2 0)), (5, (ptr (β5 4).1 0)), (6, (ptr (β5 5).1 0)), (7, (ptr (β5 6).1 0)), (16, (vN t))]) (fun t w' => (t ≤ 64) ∧ Own [] w w' [.blk b1 [(vU32 h.a), (vU32 h.b), (vU32 h.c), (vU32 h.d), (vU32 h.e), (vU32 h.f), (vU32 h.g), (vU32 h.h)] 195, .blk b2 [(vU32 0), (vU32 0), (vU32 0), (vU32 0), (vU32 0), (vU32 0), (vU32 0), (vU32 0)] 195, .blk (β5 4).1 [(vU32 (rounds h (wl b 64) t).a), (vU32 (rounds h (wl b 64) t).b), (vU32 (rounds h (wl b 64) t).c), (vU32 (rounds h (wl b 64) t).d), (vU32 (rounds h (wl b 64) t).e), (vU32 (rounds h (wl b 64) t).f), (vU32 (rounds h (wl b 64) t).g), (vU32 (rounds h (wl b 64) t).h)] 195, .blk (β5 5).1 ((wl b 64).map vU32) 204, .blk (β5 6).1 (keyL.map vU32) 204]) (fun t => 64 - t) 0 ⟨(by omega), H8⟩ ⟨rfl, rfl, rfl, rfl, rfl, rfl, trivial⟩ ?_
  rintro t w9 ⟨hinv, H9⟩
  show WC _ _ _ _ _ [(2, (ptr b1 0)), (4, (ptr b2 0)), (5, (ptr (β5 4).1 0)), (6, (ptr (β5 5).1 0)), (7, (ptr (β5 6).1 0)), (16, (vN t))] _
  refine WC.seq ?_
  refine WC.region ?_
  refine WL.op rfl rfl (op_lssN (b := 64) rfl rfl ?_)
  refine WL.nil ?_
  refine WQ.next ?_
  refine WC.seq ?_
  refine WC.cond rfl (fun (hb10 : (decide (t < 64)) = true) => ?_) (fun (hb10 : (decide (t < 64)) = false) => ?_)
  ·
    have hc10 := of_decide_eq_true hb10
    refine WC.skip ?_
    refine WQ.next ?_
    refine WC.seq ?_
    refine WC.block ?_
    refine WC.seq ?_
    refine WC.region ?_
    refine WL.op rfl rfl (op_move rfl ?_)
    refine WL.op rfl rfl (op_assign rfl ?_)
    refine WL.nil ?_
    refine WQ.next ?_
    refine WC.seq ?_
    refine WC.draw 35 Fa.M H9 (HW.op rfl (fun w1 H1 => op_indexAddrA1 (m := 7) Try.underlying195 Fa.I22 rfl rfl (by omega) ⟨rfl, Fr.refl _ _⟩) (HW.op rfl (fun w1 H1 => op_load rfl (H1.cell (i := 2) rfl rfl) Try.underlying22 rfl ⟨rfl, Fr.refl _ _⟩) (HW.op rfl (fun w1 H1 => op_indexAddrA1 (m := 4) Try.underlying195 Fa.I22 rfl rfl (by omega) ⟨rfl, Fr.refl _ _⟩) (HW.op rfl (fun w1 H1 => op_load rfl (H1.cell (i := 2) rfl rfl) Try.underlying22 rfl ⟨rfl, Fr.refl _ _⟩) (HW.op rfl (fun w1 H1 => op_callF Fa.C152 rfl ((turn_ok ((rounds h (wl b 64) t).e) 6 (by decide) _).mono (fun e w2 hq => ⟨_, hq.1, rfl, hq.2⟩))) (HW.op rfl (fun w1 H1 => op_indexAddrA1 (m := 4) Try.underlying195 Fa.I22 rfl rfl (by omega) ⟨rfl, Fr.refl _ _⟩) (HW.op rfl (fun w1 H1 => op_load rfl (H1.cell (i := 2) rfl rfl) Try.underlying22 rfl ⟨rfl, Fr.refl _ _⟩) (HW.op rfl (fun w1 H1 => op_callF Fa.C152 rfl ((turn_ok ((rounds h (wl b 64) t).e) 11 (by decide) _).mono (fun e w2 hq => ⟨_, hq.1, rfl, hq.2⟩))) (HW.op rfl (fun w1 H1 => op_xorU32 rfl rfl ⟨rfl, Fr.refl _ _⟩) (HW.op rfl (fun w1 H1 => op_indexAddrA1 (m := 4) Try.underlying195 Fa.I22 rfl rfl (by omega) ⟨rfl, Fr.refl _ _⟩) (HW.op rfl (fun w1 H1 => op_load rfl (H1.cell (i := 2) rfl rfl) Try.underlying22 rfl ⟨rfl, Fr.refl _ _⟩) (HW.op rfl (fun w1 H1 => op_callF Fa.C152 rfl ((turn_ok ((rounds h (wl b 64) t).e) 25 (by decide) _).mono (fun e w2 hq => ⟨_, hq.1, rfl, hq.2⟩))) (HW.op rfl (fun w1 H1 => op_xorU32 rfl rfl ⟨rfl, Fr.refl _ _⟩) (HW.op rfl (fun w1 H1 => op_addU32 rfl rfl ⟨rfl, Fr.refl _ _⟩) (HW.op rfl (fun w1 H1 => op_indexAddrA1 (m := 4) Try.underlying195 Fa.I22 rfl rfl (by omega) ⟨rfl, Fr.refl _ _⟩) (HW.op rfl (fun w1 H1 => op_load rfl (H1.cell (i := 2) rfl rfl) Try.underlying22 rfl ⟨rfl, Fr.refl _ _⟩) (HW.op rfl (fun w1 H1 => op_indexAddrA1 (m := 5) Try.underlying195 Fa.I22 rfl rfl (by omega) ⟨rfl, Fr.refl _ _⟩) (HW.op rfl (fun w1 H1 => op_load rfl (H1.cell (i := 2) rfl rfl) Try.underlying22 rfl ⟨rfl, Fr.refl _ _⟩) (HW.op rfl (fun w1 H1 => op_andU32 rfl rfl ⟨rfl, Fr.refl _ _⟩) (HW.op rfl (fun w1 H1 => op_indexAddrA1 (m := 6) Try.underlying195 Fa.I22 rfl rfl (by omega) ⟨rfl, Fr.refl _ _⟩) (HW.op rfl (fun w1 H1 => op_load rfl (H1.cell (i := 2) rfl rfl) Try.underlying22 rfl ⟨rfl, Fr.refl _ _⟩) (HW.op rfl (fun w1 H1 => op_indexAddrA1 (m := 4) Try.underlying195 Fa.I22 rfl rfl (by omega) ⟨rfl, Fr.refl _ _⟩) (HW.op rfl (fun w1 H1 => op_load rfl (H1.cell (i := 2) rfl rfl) Try.underlying22 rfl ⟨rfl, Fr.refl _ _⟩) (HW.op rfl (fun w1 H1 => op_andNotU32 rfl rfl ⟨rfl, Fr.refl _ _⟩) (HW.op rfl (fun w1 H1 => op_xorU32 rfl rfl ⟨rfl, Fr.refl _ _⟩) (HW.op rfl (fun w1 H1 => op_addU32 rfl rfl ⟨rfl, Fr.refl _ _⟩) (HW.op rfl (fun w1 H1 => op_move rfl ⟨rfl, Fr.refl _ _⟩) (HW.op rfl (fun w1 H1 => op_indexAddrA1 Try.underlying204 Fa.I22 rfl rfl (by omega) ⟨rfl, Fr.refl _ _⟩) (HW.op rfl (fun w1 H1 => op_load rfl (H1.cell (i := 4) rfl (get_map0 vU32 0 (by rw [keyL_length]; omega))) Try.underlying22 rfl ⟨rfl, Fr.refl _ _⟩) (HW.op rfl (fun w1 H1 => op_addU32 rfl rfl ⟨rfl, Fr.refl _ _⟩) (HW.op rfl (fun w1 H1 => op_move rfl ⟨rfl, Fr.refl _ _⟩) (HW.op rfl (fun w1 H1 => op_indexAddrA1 Try.underlying204 Fa.I22 rfl rfl (by omega) ⟨rfl, Fr.refl _ _⟩) (HW.op rfl (fun w1 H1 => op_load rfl (H1.cell (i := 3) rfl (get_map0 vU32 0 (by rw [wl_length]; omega))) Try.underlying22 rfl ⟨rfl, Fr.refl _ _⟩) (HW.op rfl (fun w1 H1 => op_addU32 rfl rfl ⟨rfl, Fr.refl _ _⟩) (HW.op rfl (fun w1 H1 => op_assign rfl ⟨rfl, Fr.refl _ _⟩)  HW.nil))))))))))))))))))))))))))))))))))) (by kernel_rfl) ?_
    intro β14 w14 H14
    refine WL.nil ?_
    refine WQ.next ?_
    refine WC.seq ?_
    refine WC.draw 30 Fa.M H14 (HW.op rfl (fun w1 H1 => op_indexAddrA1 (m := 0) Try.underlying195 Fa.I22 rfl rfl (by omega) ⟨rfl, Fr.refl _ _⟩) (HW.op rfl (fun w1 H1 => op_load rfl (H1.cell (i := 2) rfl rfl) Try.underlying22 rfl ⟨rfl, Fr.refl _ _⟩) (HW.op rfl (fun w1 H1 => op_callF Fa.C152 rfl ((turn_ok ((rounds h (wl b 64) t).a) 2 (by decide) _).mono (fun e w2 hq => ⟨_, hq.1, rfl, hq.2⟩))) (HW.op rfl (fun w1 H1 => op_indexAddrA1 (m := 0) Try.underlying195 Fa.I22 rfl rfl (by omega) ⟨rfl, Fr.refl _ _⟩) (HW.op rfl (fun w1 H1 => op_load rfl (H1.cell (i := 2) rfl rfl) Try.underlying22 rfl ⟨rfl, Fr.refl _ _⟩) (HW.op rfl (fun w1 H1 => op_callF Fa.C152 rfl ((turn_ok ((rounds h (wl b 64) t).a) 13 (by decide) _).mono (fun e w2 hq => ⟨_, hq.1, rfl, hq.2⟩))) (HW.op rfl (fun w1 H1 => op_xorU32 rfl rfl ⟨rfl, Fr.refl _ _⟩) (HW.op rfl (fun w1 H1 => op_indexAddrA1 (m := 0) Try.underlying195 Fa.I22 rfl rfl (by omega) ⟨rfl, Fr.refl _ _⟩) (HW.op rfl (fun w1 H1 => op_load rfl (H1.cell (i := 2) rfl rfl) Try.underlying22 rfl ⟨rfl, Fr.refl _ _⟩) (HW.op rfl (fun w1 H1 => op_callF Fa.C152 rfl ((turn_ok ((rounds h (wl b 64) t).a) 22 (by decide) _).mono (fun e w2 hq => ⟨_, hq.1, rfl, hq.2⟩))) (HW.op rfl (fun w1 H1 => op_xorU32 rfl rfl ⟨rfl, Fr.refl _ _⟩) (HW.op rfl (fun w1 H1 => op_indexAddrA1 (m := 0) Try.underlying195 Fa.I22 rfl rfl (by omega) ⟨rfl, Fr.refl _ _⟩) (HW.op rfl (fun w1 H1 => op_load rfl (H1.cell (i := 2) rfl rfl) Try.underlying22 rfl ⟨rfl, Fr.refl _ _⟩) (HW.op rfl (fun w1 H1 => op_indexAddrA1 (m := 1) Try.underlying195 Fa.I22 rfl rfl (by omega) ⟨rfl, Fr.refl _ _⟩) (HW.op rfl (fun w1 H1 => op_load rfl (H1.cell (i := 2) rfl rfl) Try.underlying22 rfl ⟨rfl, Fr.refl _ _⟩) (HW.op rfl (fun w1 H1 => op_andU32 rfl rfl ⟨rfl, Fr.refl _ _⟩) (HW.op rfl (fun w1 H1 => op_indexAddrA1 (m := 0) Try.underlying195 Fa.I22 rfl rfl (by omega) ⟨rfl, Fr.refl _ _⟩) (HW.op rfl (fun w1 H1 => op_load rfl (H1.cell (i := 2) rfl rfl) Try.underlying22 rfl ⟨rfl, Fr.refl _ _⟩) (HW.op rfl (fun w1 H1 => op_indexAddrA1 (m := 2) Try.underlying195 Fa.I22 rfl rfl (by omega) ⟨rfl, Fr.refl _ _⟩) (HW.op rfl (fun w1 H1 => op_load rfl (H1.cell (i := 2) rfl rfl) Try.underlying22 rfl ⟨rfl, Fr.refl _ _⟩) (HW.op rfl (fun w1 H1 => op_andU32 rfl rfl ⟨rfl, Fr.refl _ _⟩) (HW.op rfl (fun w1 H1 => op_xorU32 rfl rfl ⟨rfl, Fr.refl _ _⟩) (HW.op rfl (fun w1 H1 => op_indexAddrA1 (m := 1) Try.underlying195 Fa.I22 rfl rfl (by omega) ⟨rfl, Fr.refl _ _⟩) (HW.op rfl (fun w1 H1 => op_load rfl (H1.cell (i := 2) rfl rfl) Try.underlying22 rfl ⟨rfl, Fr.refl _ _⟩) (HW.op rfl (fun w1 H1 => op_indexAddrA1 (m := 2) Try.underlying195 Fa.I22 rfl rfl (by omega) ⟨rfl, Fr.refl _ _⟩) (HW.op rfl (fun w1 H1 => op_load rfl (H1.cell (i := 2) rfl rfl) Try.underlying22 rfl ⟨rfl, Fr.refl _ _⟩) (HW.op rfl (fun w1 H1 => op_andU32 rfl rfl ⟨rfl, Fr.refl _ _⟩) (HW.op rfl (fun w1 H1 => op_xorU32 rfl rfl ⟨rfl, Fr.refl _ _⟩) (HW.op rfl (fun w1 H1 => op_addU32 rfl rfl ⟨rfl, Fr.refl _ _⟩) (HW.op rfl (fun w1 H1 => op_assign rfl ⟨rfl, Fr.refl _ _⟩)  HW.nil)))))))))))))))))))))))))))))) (by kernel_rfl) ?_
    intro β18 w18 H18
    refine WL.nil ?_
    refine WQ.next ?_
    refine WC.region ?_
    refine WL.op rfl rfl (op_move rfl ?_)
    refine WL.op rfl rfl (op_move rfl ?_)
    refine WL.op rfl rfl (op_addU32 rfl rfl ?_)
    refine WL.op rfl rfl (op_indexAddrA1 (m := 0) Try.underlying195 Fa.I22 rfl rfl (by omega) ?_)
    refine WL.op rfl rfl (op_load rfl (H18.cell (i := 2) rfl rfl) Try.underlying22 rfl ?_)
    refine WL.op rfl rfl (op_indexAddrA1 (m := 1) Try.underlying195 Fa.I22 rfl rfl (by omega) ?_)
    refine WL.op rfl rfl (op_load rfl (H18.cell (i := 2) rfl rfl) Try.underlying22 rfl ?_)
    refine WL.op rfl rfl (op_indexAddrA1 (m := 2) Try.underlying195 Fa.I22 rfl rfl (by omega) ?_)
    refine WL.op rfl rfl (op_load rfl (H18.cell (i := 2) rfl rfl) Try.underlying22 rfl ?_)
    refine WL.op rfl rfl (op_indexAddrA1 (m := 3) Try.underlying195 Fa.I22 rfl rfl (by omega) ?_)
    refine WL.op rfl rfl (op_load rfl (H18.cell (i := 2) rfl rfl) Try.underlying22 rfl ?_)
    refine WL.op rfl rfl (op_move rfl ?_)
    refine WL.op rfl rfl (op_addU32 rfl rfl ?_)
    refine WL.op rfl rfl (op_indexAddrA1 (m := 4) Try.underlying195 Fa.I22 rfl rfl (by omega) ?_)
    refine WL.op rfl rfl (op_load rfl (H18.cell (i := 2) rfl rfl) Try.underlying22 rfl ?_)
    refine WL.op rfl rfl (op_indexAddrA1 (m := 5) Try.underlying195 Fa.I22 rfl rfl (by omega) ?_)
    refine WL.op rfl rfl (op_load rfl (H18.cell (i := 2) rfl rfl) Try.underlying22 rfl ?_)
    refine WL.op rfl rfl (op_indexAddrA1 (m := 6) Try.underlying195 Fa.I22 rfl rfl (by omega) ?_)
    refine WL.op rfl rfl (op_load rfl (H18.cell (i := 2) rfl rfl) Try.underlying22 rfl ?_)
    refine WL.op rfl rfl (op_buildA (cs := [_, _, _, _, _, _, _, _]) Fa.I195 Try.underlying195 Fa.I22 rfl rfl ?_)
    refine WL.op rfl rfl (op_storeBW (i := 2) H18 rfl rfl rfl rfl rfl Fa.I195 (fun w19 H19 => ?_))
    refine WL.nil ?_
    refine WQ.inNormal ?_
    refine WQ.next ?_
    refine WC.region ?_
    refine WL.op rfl rfl (op_addN (b := 1) rfl rfl (by omega) ?_)
    refine WL.op rfl rfl (op_move rfl ?_)
    refine WL.nil ?_
    exact WQ.round (t + 1) ⟨(by omega), (by exact H19)⟩ ⟨rfl, rfl, rfl, rfl, rfl, rfl, trivial⟩ (by omega)
  ·
    have hc10 := of_decide_eq_false hb10
    refine WC.exit ?_
    refine WQ.thenExit ?_
    refine WQ.thenExit ?_
    refine WQ.inHere ?_
    refine WQ.next ?_
    refine WC.seq ?_
    refine WC.seq ?_
    refine WC.region ?_
    refine WL.op rfl rfl (op_move rfl ?_)
    refine WL.nil ?_
    refine WQ.next ?_
    refine WC.block ?_
    refine WC.loop (α := Nat) (fun k => [(2, (ptr b1 0)), (4, (ptr b2 0)), (5, (ptr (β5 4).1 0)), (103, (vN k))]) (fun k w' => (k ≤ 8) ∧ Own [] w w' [.blk b1 (h.vals.map vU32) 195, .blk b2 [(vU32 0), (vU32 0), (vU32 0), (vU32 0), (vU32 0), (vU32 0), (vU32 0), (vU32 0)] 195, .blk (β5 4).1 ((addTo (rounds h (wl b 64) 64) h k).map vU32) 195, .blk (β5 5).1 ((wl b 64).map vU32) 204, .blk (β5 6).1 (keyL.map vU32) 204]) (fun k => 8 - k) 0 ⟨(by omega), (by have ht : t = 64 := (by omega); subst ht; exact H9)⟩ ⟨rfl, rfl, rfl, rfl, trivial⟩ ?_
    rintro k w20 ⟨hinv, H20⟩
    show WC _ _ _ _ _ [(2, (ptr b1 0)), (4, (ptr b2 0)), (5, (ptr (β5 4).1 0)), (103, (vN k))] _
    refine WC.seq ?_
    refine WC.region ?_
    refine WL.op rfl rfl (op_lssN (b := 8) rfl rfl ?_)
    refine WL.nil ?_
    refine WQ.next ?_
    refine WC.seq ?_
    refine WC.cond rfl (fun (hb21 : (decide (k < 8)) = true) => ?_) (fun (hb21 : (decide (k < 8)) = false) => ?_)
    ·
      have hc21 := of_decide_eq_true hb21
      refine WC.skip ?_
      refine WQ.next ?_
      refine WC.seq ?_
      refine WC.block ?_
      refine WC.seq ?_
      refine WC.region ?_
      refine WL.op rfl rfl (op_move rfl ?_)
      refine WL.op rfl rfl (op_assign rfl ?_)
      refine WL.nil ?_
      refine WQ.next ?_
      refine WC.draw 8 Fa.M H20 (HW.op rfl (fun w1 H1 => op_move rfl ⟨rfl, Fr.refl _ _⟩) (HW.op rfl (fun w1 H1 => op_indexAddrA1 Try.underlying195 Fa.I22 rfl rfl (by omega) ⟨rfl, Fr.refl _ _⟩) (HW.op rfl (fun w1 H1 => op_load rfl (H1.cell (i := 2) rfl (get_map0 vU32 0 (by rw [addTo_length _ _ _ (by omega)]; omega))) Try.underlying22 rfl ⟨rfl, Fr.refl _ _⟩) (HW.op rfl (fun w1 H1 => op_move rfl ⟨rfl, Fr.refl _ _⟩) (HW.op rfl (fun w1 H1 => op_indexAddrA1 Try.underlying195 Fa.I22 rfl rfl (by omega) ⟨rfl, Fr.refl _ _⟩) (HW.op rfl (fun w1 H1 => op_load rfl (H1.cell (i := 0) rfl (get_map0 vU32 0 (by rw [vals_length]; omega))) Try.underlying22 rfl ⟨rfl, Fr.refl _ _⟩) (HW.op rfl (fun w1 H1 => op_addU32 rfl rfl ⟨rfl, Fr.refl _ _⟩) (HW.op rfl (fun w1 H1 => op_indexAddrA1 Try.underlying195 Fa.I22 rfl rfl (by omega) ⟨rfl, Fr.refl _ _⟩)  HW.nil)))))))) (by kernel_rfl) ?_
      intro β22 w22 H22
      refine WL.op rfl rfl (op_storeB (i := 2) H22 rfl rfl rfl (by rw [Nat.blt_eq, List.length_map, addTo_length _ _ _ (by omega)]; omega) rfl Fa.I22 (fun w23 H23 => ?_))
      refine WL.nil ?_
      refine WQ.inNormal ?_
      refine WQ.next ?_
      refine WC.region ?_
      refine WL.op rfl rfl (op_addN (b := 1) rfl rfl (by omega) ?_)
      refine WL.op rfl rfl (op_move rfl ?_)
      refine WL.nil ?_
      exact WQ.round (k + 1) ⟨(by omega), (by rw [addTo_map _ _ (by omega)]; exact H23)⟩ ⟨rfl, rfl, rfl, rfl, trivial⟩ (by omega)
    ·
      have hc21 := of_decide_eq_false hb21
      refine WC.exit ?_
      refine WQ.thenExit ?_
      refine WQ.thenExit ?_
      refine WQ.inHere ?_
      refine WQ.next ?_
      refine WC.seq ?_
      refine WC.region ?_
      refine WL.op rfl rfl (op_loadS rfl (H20.cellsW (i := 2) rfl) Try.underlying195 rfl Fa.I195 (by rw [List.length_map, addTo_length _ _ _ (by omega)]) ?_)
      refine WL.op rfl rfl (op_storeBV (i := 1) H20 rfl rfl rfl (by rw [List.length_map, addTo_length _ _ _ (by omega)]; rfl) (one_U32 _) (by rw [List.length_map, addTo_length _ _ _ (by omega)]) Fa.I195 (fun w24 H24 => ?_))
      refine WL.nil ?_
      refine WQ.next ?_
      refine WC.ret ?_
      refine WQ.out (.cell rfl (run_loadVarS (H24.cellsW (i := 1) rfl) Try.underlying195 rfl Fa.I195 (by rw [List.length_map, addTo_length _ _ _ (by omega)])) .nil) ?_
      exact ⟨by have hk : k = 8 := (by omega); subst hk; rw [addTo_end]; rfl, H24.fr⟩
set_option maxRecDepth 100000 in
theorem new_ok  (w : World) :
    Calls Try.prog 131 #[] w (fun e w' => ∃ q, e = .returned (ptr q 0) ∧ Own [] w w' [.blk q [(vU32 (hst ([] : List UInt8)).a), (vU32 (hst ([] : List UInt8)).b), (vU32 (hst ([] : List UInt8)).c), (vU32 (hst ([] : List UInt8)).d), (vU32 (hst ([] : List UInt8)).e), (vU32 (hst ([] : List UInt8)).f), (vU32 (hst ([] : List UInt8)).g), (vU32 (hst ([] : List UInt8)).h), (.slice none 0 0), (vN ([] : List UInt8).length)] 198, .row (.slice none 0 0) 5 1 (hrest ([] : List UInt8)).length ((hrest ([] : List UInt8)).map vU8)]) := by
  refine enter (args := []) Try.func131 rfl rfl ?_
  have H0 : Own [] w w [] := Own.start w []
  refine WC.seq ?_
  refine WC.region ?_
  refine WL.op rfl rfl (op_assign rfl ?_)
  refine WL.nil ?_
  refine WQ.next ?_
  refine WC.seq ?_
  refine WC.region ?_
  refine WL.op rfl rfl (op_callF Fa.C143 rfl ((first_ok _).mono (fun e w1 hq => ?_)))
  obtain ⟨rfl, hf1⟩ := hq
  refine ⟨_, rfl, ?_⟩
  have H1 := H0.fr' hf1
  refine WL.op rfl rfl (op_build (cs := [_, _, _, _, _, _, _, _, _, _]) Fa.I198 Fa.PL198 rfl rfl ?_)
  refine WL.op rfl rfl (op_box H1 rfl rfl (fun b2 w2 H2 => ?_))
  refine WL.op rfl rfl (op_assign rfl ?_)
  refine WL.nil ?_
  refine WQ.next ?_
  refine WC.ret ?_
  refine WQ.out (.tmp rfl .nil) ?_
  exact ⟨b2, rfl, H2.nilRow _ _⟩
set_option maxRecDepth 100000 in
theorem write_ok (q : Nat) (v lv : Value) (all : List UInt8) (ls : List (List UInt8)) (T : List Nat) (w : World) (H : Own T w w [.blk q [(vU32 (hst all).a), (vU32 (hst all).b), (vU32 (hst all).c), (vU32 (hst all).d), (vU32 (hst all).e), (vU32 (hst all).f), (vU32 (hst all).g), (vU32 (hst all).h), v, (vN all.length)] 198, .row v 5 1 (hrest all).length ((hrest all).map vU8)]) {nl : Nat} (hA : ∀ w1, Fr T w w1 → Arr w1 lv 1 nl (ls.map str)) (hb : (all ++ ls.flatten).length < 2 ^ 40) (hn : ls.length < 2 ^ 40) :
    Calls Try.prog 133 #[(ptr q 0), lv] w (fun e w' => ∃ v, e = .returned (vN 0) ∧ Own T w w' [.blk q [(vU32 (hst (all ++ ls.flatten)).a), (vU32 (hst (all ++ ls.flatten)).b), (vU32 (hst (all ++ ls.flatten)).c), (vU32 (hst (all ++ ls.flatten)).d), (vU32 (hst (all ++ ls.flatten)).e), (vU32 (hst (all ++ ls.flatten)).f), (vU32 (hst (all ++ ls.flatten)).g), (vU32 (hst (all ++ ls.flatten)).h), v, (vN (all ++ ls.flatten).length)] 198, .row v 5 1 (hrest (all ++ ls.flatten)).length ((hrest (all ++ ls.flatten)).map vU8)]) := by
  refine enter (args := [(ptr q 0), lv]) Try.func133 rfl rfl ?_
  obtain rfl := (hA w (Fr.refl _ _)).mapLen
  refine WC.seq ?_
  refine WC.region ?_
  refine WL.op rfl rfl (op_assign rfl ?_)
  refine WL.nil ?_
  refine WQ.next ?_
  refine WC.seq ?_
  refine WC.seq ?_
  refine WC.region ?_
  refine WL.op rfl rfl (op_move rfl ?_)
  refine WL.op rfl rfl (op_eqlPN Fa.PT182 rfl rfl ?_)
  refine WL.nil ?_
  refine WQ.next ?_
  refine WC.no rfl rfl ?_
  refine WC.skip ?_
  refine WQ.next ?_
  refine WC.seq ?_
  refine WC.seq ?_
  refine WC.region ?_
  refine WL.op rfl rfl (op_move rfl ?_)
  refine WL.op rfl rfl (op_lenA Try.underlying23 rfl (hA _ H.fr) ?_)
  refine WL.op rfl rfl (op_move rfl ?_)
  refine WL.nil ?_
  refine WQ.next ?_
  refine WC.block ?_
  refine WC.loop (α := Nat × Value) (fun (k, v) => [(0, (ptr q 0)), (9, lv), (10, (vN ls.length)), (11, (vN k))]) (fun (k, v) w' => (k ≤ ls.length) ∧ Own T w w' [.blk q [(vU32 (hst (acc all ls k)).a), (vU32 (hst (acc all ls k)).b), (vU32 (hst (acc all ls k)).c), (vU32 (hst (acc all ls k)).d), (vU32 (hst (acc all ls k)).e), (vU32 (hst (acc all ls k)).f), (vU32 (hst (acc all ls k)).g), (vU32 (hst (acc all ls k)).h), v, (vN (acc all ls k).length)] 198, .row v 5 1 (hrest (acc all ls k)).length (List.map vU8 (hrest (acc all ls k)))]) (fun (k, v) => ls.length - k) (0, v) ⟨(by omega), H⟩ ⟨rfl, rfl, rfl, rfl, trivial⟩ ?_
  rintro ⟨k, v⟩ w1 ⟨hinv, H1⟩
  show WC _ _ _ _ _ [(0, (ptr q 0)), (9, lv), (10, (vN ls.length)), (11, (vN k))] _
  have hl0 := acc_len all ls k (by omega)
  have hr0 := hrest_length (acc all ls k)
  refine WC.seq ?_
  refine WC.region ?_
  refine WL.op rfl rfl (op_lssN rfl rfl ?_)
  refine WL.nil ?_
  refine WQ.next ?_
  refine WC.seq ?_
  refine WC.cond rfl (fun (hb2 : (decide (k < ls.length)) = true) => ?_) (fun (hb2 : (decide (k < ls.length)) = false) => ?_)
  ·
    have hc2 := of_decide_eq_true hb2
    have hl1 := acc_len1 all ls k hc2
    refine WC.skip ?_
    refine WQ.next ?_
    refine WC.seq ?_
    refine WC.block ?_
    refine WC.seq ?_
    refine WC.region ?_
    refine WL.op rfl rfl (op_indexAddr1 Try.underlying23 Fa.I9 rfl (hA _ H1.fr) rfl (by omega) ?_)
    refine WL.op rfl rfl (op_load rfl ((hA _ H1.fr).at (get_map str [] (by first | omega | (simp; omega)))) Try.underlying9 rfl ?_)
    refine WL.op rfl rfl (op_assign rfl ?_)
    refine WL.nil ?_
    refine WQ.next ?_
    refine WC.seq ?_
    refine WC.region ?_
    refine WL.op rfl rfl (op_move rfl ?_)
    refine WL.op rfl rfl (op_move rfl ?_)
    refine WL.op rfl rfl (op_nilCheck rfl ?_)
    refine WL.op rfl rfl (op_fieldAddr rfl Fa.F198_1 ?_)
    refine WL.op rfl rfl (op_load rfl (H1.cell (i := 0) rfl rfl) Try.underlying73 rfl ?_)
    refine WL.op rfl rfl (op_move rfl ?_)
    refine WL.op rfl rfl (op_appendM (f := vU8) (l := (hrest (acc all ls k))) (l' := (ls.getD k [])) (i := 1) H1 Try.underlying73 Fa.I5 rfl rfl rfl rfl (Src.ofStr Try.underlying9) (one_mapM (fun _ => rfl)) (by omega) (by omega) (fun v3 w3 H3 => ?_))
    refine WL.op rfl rfl (op_nilCheck rfl ?_)
    refine WL.op rfl rfl (op_fieldAddr rfl Fa.F198_1 ?_)
    refine WL.op rfl rfl (op_storeB (i := 0) H3 rfl rfl rfl rfl (Arr.one (H3.arrR (i := 1) rfl)) Fa.I73 (fun w4 H4 => ?_))
    refine WL.nil ?_
    refine WQ.next ?_
    refine WC.seq ?_
    refine WC.region ?_
    refine WL.op rfl rfl (op_move rfl ?_)
    refine WL.op rfl rfl (op_nilCheck rfl ?_)
    refine WL.op rfl rfl (op_fieldAddr rfl Fa.F198_2 ?_)
    refine WL.op rfl rfl (op_load rfl (H4.cell (i := 0) rfl rfl) Try.underlying3 rfl ?_)
    refine WL.op rfl rfl (op_move rfl ?_)
    refine WL.op rfl rfl (op_lenStr Try.underlying9 rfl ?_)
    refine WL.op rfl rfl (op_addN rfl rfl (by omega) ?_)
    refine WL.op rfl rfl (op_nilCheck rfl ?_)
    refine WL.op rfl rfl (op_fieldAddr rfl Fa.F198_2 ?_)
    refine WL.op rfl rfl (op_storeB (i := 0) H4 rfl rfl rfl rfl rfl Fa.I3 (fun w5 H5 => ?_))
    refine WL.nil ?_
    refine WQ.next ?_
    refine WC.block ?_
    refine WC.loop (α := Nat × Value) (fun (j, v) => [(0, (ptr q 0)), (6, (str (ls.getD k []))), (9, lv), (10, (vN ls.length)), (11, (vN k))]) (fun (j, v) w' => (64 * j ≤ (hrest (acc all ls k)).length + (ls.getD k []).length) ∧ Own T w w' [.blk q [(vU32 (bst (hst (acc all ls k)) (hrest (acc all ls k) ++ (ls.getD k [])) j).a), (vU32 (bst (hst (acc all ls k)) (hrest (acc all ls k) ++ (ls.getD k [])) j).b), (vU32 (bst (hst (acc all ls k)) (hrest (acc all ls k) ++ (ls.getD k [])) j).c), (vU32 (bst (hst (acc all ls k)) (hrest (acc all ls k) ++ (ls.getD k [])) j).d), (vU32 (bst (hst (acc all ls k)) (hrest (acc all ls k) ++ (ls.getD k [])) j).e), (vU32 (bst (hst (acc all ls k)) (hrest (acc all ls k) ++ (ls.getD k [])) j).f), (vU32 (bst (hst (acc all ls k)) (hrest (acc all ls k) ++ (ls.getD k [])) j).g), (vU32 (bst (hst (acc all ls k)) (hrest (acc all ls k) ++ (ls.getD k [])) j).h), v, (vN ((acc all ls k).length + (ls.getD k []).length))] 198, .row v 5 1 (brest (hrest (acc all ls k) ++ (ls.getD k [])) j).length (List.map vU8 (brest (hrest (acc all ls k) ++ (ls.getD k [])) j))]) (fun (j, v) => (hrest (acc all ls k)).length + (ls.getD k []).length - 64 * j) (0, v3) ⟨(by omega), (by have h := H5; rw [← @List.length_append _ (hrest (acc all ls k)) (ls.getD k [])] at h; exact h)⟩ ⟨rfl, rfl, rfl, rfl, rfl, trivial⟩ ?_
    rintro ⟨j, v⟩ w6 ⟨hinv, H6⟩
    show WC _ _ _ _ _ [(0, (ptr q 0)), (6, (str (ls.getD k []))), (9, lv), (10, (vN ls.length)), (11, (vN k))] _
    have hb0 := brest_length (hrest (acc all ls k) ++ (ls.getD k [])) j
    rw [List.length_append] at hb0
    refine WC.seq ?_
    refine WC.seq ?_
    refine WC.region ?_
    refine WL.op rfl rfl (op_move rfl ?_)
    refine WL.op rfl rfl (op_nilCheck rfl ?_)
    refine WL.op rfl rfl (op_fieldAddr rfl Fa.F198_1 ?_)
    refine WL.op rfl rfl (op_load rfl (H6.cell (i := 0) rfl rfl) Try.underlying73 rfl ?_)
    refine WL.op rfl rfl (op_lenA Try.underlying73 rfl (H6.arrR (i := 1) rfl) ?_)
    refine WL.op rfl rfl (op_geqN (b := 64) rfl rfl ?_)
    refine WL.nil ?_
    refine WQ.next ?_
    refine WC.cond rfl (fun (hb7 : (decide ((brest (hrest (acc all ls k) ++ (ls.getD k [])) j).length ≥ 64)) = true) => ?_) (fun (hb7 : (decide ((brest (hrest (acc all ls k) ++ (ls.getD k [])) j).length ≥ 64)) = false) => ?_)
    ·
      have hc7 := of_decide_eq_true hb7
      refine WC.skip ?_
      refine WQ.next ?_
      refine WC.block ?_
      refine WC.seq ?_
      refine WC.draw 13 Fa.M H6 (HW.op rfl (fun w1 H1 => op_move rfl ⟨rfl, Fr.refl _ _⟩) (HW.op rfl (fun w1 H1 => op_move rfl ⟨rfl, Fr.refl _ _⟩) (HW.op rfl (fun w1 H1 => op_nilCheck rfl ⟨rfl, Fr.refl _ _⟩) (HW.op rfl (fun w1 H1 => op_fieldAddr rfl Fa.F198_0 ⟨rfl, Fr.refl _ _⟩) (HW.op rfl (fun w1 H1 => op_loadS (vs := [_, _, _, _, _, _, _, _]) rfl (H1.cells (i := 0) rfl rfl) Try.underlying195 rfl Fa.I195 rfl ⟨rfl, Fr.refl _ _⟩) (HW.op rfl (fun w1 H1 => op_move rfl ⟨rfl, Fr.refl _ _⟩) (HW.op rfl (fun w1 H1 => op_nilCheck rfl ⟨rfl, Fr.refl _ _⟩) (HW.op rfl (fun w1 H1 => op_fieldAddr rfl Fa.F198_1 ⟨rfl, Fr.refl _ _⟩) (HW.op rfl (fun w1 H1 => op_load rfl (H1.cell (i := 0) rfl rfl) Try.underlying73 rfl ⟨rfl, Fr.refl _ _⟩) (HW.op rfl (fun w1 H1 => op_cutHi (b := 64) Try.underlying73 Fa.I5 rfl (H1.arrR (i := 1) rfl) rfl (by omega) ⟨rfl, Fr.refl _ _⟩) (HW.op rfl (fun w1 H1 => op_callF Fa.C145 rfl ((block_ok (bst (hst (acc all ls k)) (hrest (acc all ls k) ++ (ls.getD k [])) j) _ ((brest (hrest (acc all ls k) ++ (ls.getD k [])) j).take 64) _ (by rw [List.length_take]; omega) (((H1.arrR (i := 1) rfl)).cutHiM (f := vU8) (l := (brest (hrest (acc all ls k) ++ (ls.getD k [])) j)) (b := 64) (by omega))).mono (fun e w2 hq => ⟨_, hq.1, rfl, hq.2⟩))) (HW.op rfl (fun w1 H1 => op_nilCheck rfl ⟨rfl, Fr.refl _ _⟩) (HW.op rfl (fun w1 H1 => op_fieldAddr rfl Fa.F198_0 ⟨rfl, Fr.refl _ _⟩)  HW.nil))))))))))))) (by kernel_rfl) ?_
      intro β9 w9 H9
      refine WL.op rfl rfl (op_storeBS (i := 0) (vs := [_, _, _, _, _, _, _, _]) H9 rfl rfl rfl rfl rfl Fa.I195 (fun w10 H10 => ?_))
      refine WL.nil ?_
      refine WQ.next ?_
      refine WC.region ?_
      refine WL.op rfl rfl (op_move rfl ?_)
      refine WL.op rfl rfl (op_move rfl ?_)
      refine WL.op rfl rfl (op_nilCheck rfl ?_)
      refine WL.op rfl rfl (op_fieldAddr rfl Fa.F198_1 ?_)
      refine WL.op rfl rfl (op_load rfl (H10.cell (i := 0) rfl rfl) Try.underlying73 rfl ?_)
      refine WL.op rfl rfl (op_cutLo (a := 64) Try.underlying73 Fa.I5 rfl (H10.arrR (i := 1) rfl) rfl (by omega) ?_)
      have H11 := H10.cutLoM (f := vU8) (l := (brest (hrest (acc all ls k) ++ (ls.getD k [])) j)) (a := 64) (i := 1) rfl (by omega)
      refine WL.op rfl rfl (op_nilCheck rfl ?_)
      refine WL.op rfl rfl (op_fieldAddr rfl Fa.F198_1 ?_)
      refine WL.op rfl rfl (op_storeB (i := 0) H11 rfl rfl rfl rfl (Arr.one (H11.arrR (i := 1) rfl)) Fa.I73 (fun w12 H12 => ?_))
      refine WL.nil ?_
      refine WQ.inNormal ?_
      exact WQ.round (j + 1, (cutV v 64 (brest (hrest (acc all ls k) ++ (ls.getD k [])) j).length 1)) ⟨(by omega), (by have h := H12; rw [← List.length_drop] at h; exact h)⟩ ⟨rfl, rfl, rfl, rfl, rfl, trivial⟩ (by show (hrest (acc all ls k)).length + (ls.getD k []).length - 64 * (j + 1) < (hrest (acc all ls k)).length + (ls.getD k []).length - 64 * j; omega)
    ·
      have hc7 := of_decide_eq_false hb7
      obtain ⟨he1, he2⟩ := mEnd (acc all ls k) (ls.getD k []) j (by omega) (by omega)
      have H13 : Own T w w6 [.blk q [(vU32 (hst (acc all ls (k + 1))).a), (vU32 (hst (acc all ls (k + 1))).b), (vU32 (hst (acc all ls (k + 1))).c), (vU32 (hst (acc all ls (k + 1))).d), (vU32 (hst (acc all ls (k + 1))).e), (vU32 (hst (acc all ls (k + 1))).f), (vU32 (hst (acc all ls (k + 1))).g), (vU32 (hst (acc all ls (k + 1))).h), v, (vN (acc all ls (k + 1)).length)] 198, .row v 5 1 (hrest (acc all ls (k + 1))).length (List.map vU8 (hrest (acc all ls (k + 1))))] := by have h := H6; rw [he1, he2, ← @List.length_append _ (acc all ls k) (ls.getD k [])] at h; exact h
      refine WC.exit ?_
      refine WQ.thenExit ?_
      refine WQ.thenExit ?_
      refine WQ.inHere ?_
      refine WQ.inNormal ?_
      refine WQ.next ?_
      refine WC.region ?_
      refine WL.op rfl rfl (op_addN (b := 1) rfl rfl (by omega) ?_)
      refine WL.op rfl rfl (op_move rfl ?_)
      refine WL.nil ?_
      exact WQ.round (k + 1, v) ⟨(by omega), H13⟩ ⟨rfl, rfl, rfl, rfl, trivial⟩ (by show ls.length - (k + 1) < ls.length - k; omega)
  ·
    have hc2 := of_decide_eq_false hb2
    refine WC.exit ?_
    refine WQ.thenExit ?_
    refine WQ.thenExit ?_
    refine WQ.inHere ?_
    refine WQ.next ?_
    refine WC.seq ?_
    refine WC.region ?_
    refine WL.op rfl rfl (op_assign rfl ?_)
    refine WL.nil ?_
    refine WQ.next ?_
    refine WC.ret ?_
    refine WQ.out (.tmp rfl .nil) ?_
    exact ⟨_, rfl, (by have hk : k = ls.length := (by omega); subst hk; have h := H1; rw [acc_end] at h; exact h)⟩
set_option maxRecDepth 100000 in
theorem hsum_ok (q : Nat) (v : Value) (all : List UInt8) (w : World) (hQ : cellsAt w q [(vU32 (hst all).a), (vU32 (hst all).b), (vU32 (hst all).c), (vU32 (hst all).d), (vU32 (hst all).e), (vU32 (hst all).f), (vU32 (hst all).g), (vU32 (hst all).h), v, (vN all.length)]) (hV : Arr w v 1 (hrest all).length (List.map vU8 (hrest all))) (hb : all.length < 2 ^ 40) :
    Calls Try.prog 135 #[(ptr q 0)] w (fun e w' => e = .returned (str (sha all)) ∧ Fr [] w w') := by
  refine enter (args := [(ptr q 0)]) Try.func135 rfl rfl ?_
  have H0 : Own [] w w [Ent.bo q [(vU32 (hst all).a), (vU32 (hst all).b), (vU32 (hst all).c), (vU32 (hst all).d), (vU32 (hst all).e), (vU32 (hst all).f), (vU32 (hst all).g), (vU32 (hst all).h), v, (vN all.length)], Ent.ar v 1 (hrest all).length (List.map vU8 (hrest all))] := (((Own.start w []).oldB hQ).oldA hV)
  have hr0 := hrest_length all
  have hp0 : padZ all.length = (119 - all.length % 64) % 64 := rfl
  refine WC.seq ?_
  refine WC.region ?_
  refine WL.op rfl rfl (op_assign rfl ?_)
  refine WL.nil ?_
  refine WQ.next ?_
  refine WC.seq ?_
  refine WC.seq ?_
  refine WC.region ?_
  refine WL.op rfl rfl (op_move rfl ?_)
  refine WL.op rfl rfl (op_eqlPN Fa.PT182 rfl rfl ?_)
  refine WL.nil ?_
  refine WQ.next ?_
  refine WC.no rfl rfl ?_
  refine WC.skip ?_
  refine WQ.next ?_
  refine WC.seq ?_
  refine WC.region ?_
  refine WL.op rfl rfl (op_move rfl ?_)
  refine WL.op rfl rfl (op_nilCheck rfl ?_)
  refine WL.op rfl rfl (op_fieldAddr rfl Fa.F198_1 ?_)
  refine WL.op rfl rfl (op_load rfl (H0.cellO (i := 0) rfl rfl) Try.underlying73 rfl ?_)
  have H2 := H0.nilRow 5 1
  refine WL.op rfl rfl (op_appendM (f := vU8) (l := []) (l' := (hrest all)) (i := 2) H2 Try.underlying73 Fa.I5 rfl rfl rfl rfl (Src.ofArr Try.underlying73 (H2.arrO (i := 1) rfl)) (one_mapM (fun _ => rfl)) (by omega) (by omega) (fun v1 w1 H1 => ?_))
  refine WL.op rfl rfl (op_buildSlice (cs := [_]) H1 Try.underlying73 Fa.I5 rfl rfl rfl rfl (by decide) (by decide) (fun b3 w3 H3 => ?_))
  refine WL.op rfl rfl (op_appendM (f := vU8) (l := ([] ++ (hrest all))) (l' := [128]) (i := 2) H3 Try.underlying73 Fa.I5 rfl rfl rfl rfl (Src.ofArr Try.underlying73 (H3.arrR (i := 3) rfl)) (one_mapM (fun _ => rfl)) (by omega) (by omega) (fun v4 w4 H4 => ?_))
  refine WL.op rfl rfl (op_assign rfl ?_)
  refine WL.nil ?_
  refine WQ.next ?_
  refine WC.seq ?_
  refine WC.block ?_
  refine WC.loop (α := Nat × Value) (fun (k, t) => [(0, (ptr q 0)), (3, t)]) (fun (k, t) w' => (k ≤ padZ all.length) ∧ Own [] w w' [Ent.bo q [(vU32 (hst all).a), (vU32 (hst all).b), (vU32 (hst all).c), (vU32 (hst all).d), (vU32 (hst all).e), (vU32 (hst all).f), (vU32 (hst all).g), (vU32 (hst all).h), v, (vN all.length)], Ent.ar v 1 (hrest all).length (List.map vU8 (hrest all)), .row t 5 1 ((0 + (hrest all).length) + 1 + k) (List.map vU8 (hrest all ++ [128] ++ List.replicate k 0)), .row (.slice (some ⟨b3, 0, none⟩) 1 1) 5 1 1 (List.map vU8 [128])]) (fun (k, t) => padZ all.length - k) (0, v4) ⟨(by omega), (by have h := (show Own [] w w4 [Ent.bo q [(vU32 (hst all).a), (vU32 (hst all).b), (vU32 (hst all).c), (vU32 (hst all).d), (vU32 (hst all).e), (vU32 (hst all).f), (vU32 (hst all).g), (vU32 (hst all).h), v, (vN all.length)], Ent.ar v 1 (hrest all).length (List.map vU8 (hrest all)), .row v4 5 1 ((0 + (hrest all).length) + 1) (List.map vU8 (([] ++ (hrest all)) ++ [128])), .row (.slice (some ⟨b3, 0, none⟩) 1 1) 5 1 1 (List.map vU8 [128])] from H4); simpa using h)⟩ ⟨rfl, rfl, trivial⟩ ?_
  rintro ⟨k, t⟩ w5 ⟨hinv, H5⟩
  show WC _ _ _ _ _ [(0, (ptr q 0)), (3, t)] _
  refine WC.seq ?_
  refine WC.seq ?_
  refine WC.region ?_
  refine WL.op rfl rfl (op_move rfl ?_)
  refine WL.op rfl rfl (op_lenA Try.underlying73 rfl (H5.arrR (i := 2) rfl) ?_)
  refine WL.op rfl rfl (op_remN (b := 64) rfl rfl (by omega) ?_)
  refine WL.op rfl rfl (op_neqN (b := 56) rfl rfl ?_)
  refine WL.nil ?_
  refine WQ.next ?_
  refine WC.cond rfl (fun (hb6 : (decide ((((0 + (hrest all).length) + 1 + k) % 64) ≠ 56)) = true) => ?_) (fun (hb6 : (decide ((((0 + (hrest all).length) + 1 + k) % 64) ≠ 56)) = false) => ?_)
  ·
    have hc6 := of_decide_eq_true hb6
    refine WC.skip ?_
    refine WQ.next ?_
    refine WC.block ?_
    refine WC.region ?_
    refine WL.op rfl rfl (op_move rfl ?_)
    refine WL.op rfl rfl (op_buildSlice (cs := [_]) H5 Try.underlying73 Fa.I5 rfl rfl rfl rfl (by decide) (by decide) (fun b7 w7 H7 => ?_))
    refine WL.op rfl rfl (op_appendM (f := vU8) (l := (hrest all ++ [128] ++ List.replicate k 0)) (l' := [0]) (i := 2) H7 Try.underlying73 Fa.I5 rfl rfl rfl rfl (Src.ofArr Try.underlying73 (H7.arrR (i := 4) rfl)) (one_mapM (fun _ => rfl)) (by omega) (by omega) (fun v8 w8 H8 => ?_))
    refine WL.op rfl rfl (op_assign rfl ?_)
    refine WL.nil ?_
    refine WQ.inNormal ?_
    exact WQ.round (k + 1, v8) ⟨(by omega), (by have h := (show Own [] w w8 [Ent.bo q [(vU32 (hst all).a), (vU32 (hst all).b), (vU32 (hst all).c), (vU32 (hst all).d), (vU32 (hst all).e), (vU32 (hst all).f), (vU32 (hst all).g), (vU32 (hst all).h), v, (vN all.length)], Ent.ar v 1 (hrest all).length (List.map vU8 (hrest all)), .row v8 5 1 (((0 + (hrest all).length) + 1 + k) + 1) (List.map vU8 ((hrest all ++ [128] ++ List.replicate k 0) ++ [0])), .row (.slice (some ⟨b3, 0, none⟩) 1 1) 5 1 1 (List.map vU8 [128])] from (H8.take 4)); rw [padStep] at h; exact h)⟩ ⟨rfl, rfl, trivial⟩ (by show padZ all.length - (k + 1) < padZ all.length - k; omega)
  ·
    have hc6 := of_decide_eq_false hb6
    have hk : k = padZ all.length := (by omega)
    refine WC.exit ?_
    refine WQ.thenExit ?_
    refine WQ.thenExit ?_
    refine WQ.inHere ?_
    refine WQ.next ?_
    refine WC.seq ?_
    refine WC.region ?_
    refine WL.op rfl rfl (op_move rfl ?_)
    refine WL.op rfl rfl (op_nilCheck rfl ?_)
    refine WL.op rfl rfl (op_fieldAddr rfl Fa.F198_2 ?_)
    refine WL.op rfl rfl (op_load rfl (H5.cellO (i := 0) rfl rfl) Try.underlying3 rfl ?_)
    refine WL.op rfl rfl (op_convNU64 (hs := Try.underlying3) (hd := Try.underlying116) rfl ?_)
    refine WL.op rfl rfl (op_mulU64 (a := 8) rfl rfl ?_)
    refine WL.op rfl rfl (op_assign rfl ?_)
    refine WL.nil ?_
    refine WQ.next ?_
    refine WC.seq ?_
    refine WC.seq ?_
    refine WC.region ?_
    refine WL.op rfl rfl (op_assign rfl ?_)
    refine WL.nil ?_
    refine WQ.next ?_
    refine WC.block ?_
    refine WC.loop (α := Nat × Value) (fun (j, t) => [(0, (ptr q 0)), (3, t), (4, (vU64 ((8 : UInt64) * (UInt64.ofNat all.length)))), (5, (vI ((56 : Int) - ((8 * j : Nat) : Int))))]) (fun (j, t) w' => (j ≤ 8) ∧ Own [] w w' [Ent.bo q [(vU32 (hst all).a), (vU32 (hst all).b), (vU32 (hst all).c), (vU32 (hst all).d), (vU32 (hst all).e), (vU32 (hst all).f), (vU32 (hst all).g), (vU32 (hst all).h), v, (vN all.length)], Ent.ar v 1 (hrest all).length (List.map vU8 (hrest all)), .row t 5 1 ((hrest all).length + 1 + padZ all.length + j) (List.map vU8 (hrest all ++ ([128] ++ List.replicate (padZ all.length) 0 ++ lenTo all.length j))), .row (.slice (some ⟨b3, 0, none⟩) 1 1) 5 1 1 (List.map vU8 [128])]) (fun (j, t) => 8 - j) (0, t) ⟨(by omega), (by have h := (show Own [] w w5 [Ent.bo q [(vU32 (hst all).a), (vU32 (hst all).b), (vU32 (hst all).c), (vU32 (hst all).d), (vU32 (hst all).e), (vU32 (hst all).f), (vU32 (hst all).g), (vU32 (hst all).h), v, (vN all.length)], Ent.ar v 1 (hrest all).length (List.map vU8 (hrest all)), .row t 5 1 ((0 + (hrest all).length) + 1 + k) (List.map vU8 (hrest all ++ [128] ++ List.replicate k 0)), .row (.slice (some ⟨b3, 0, none⟩) 1 1) 5 1 1 (List.map vU8 [128])] from H5); rw [hk] at h; simpa [lenTo, Nat.add_assoc] using h)⟩ ⟨rfl, rfl, rfl, rfl, trivial⟩ ?_
    rintro ⟨j, t⟩ w9 ⟨hinv, H9⟩
    show WC _ _ _ _ _ [(0, (ptr q 0)), (3, t), (4, (vU64 ((8 : UInt64) * (UInt64.ofNat all.length)))), (5, (vI ((56 : Int) - ((8 * j : Nat) : Int))))] _
    refine WC.seq ?_
    refine WC.seq ?_
    refine WC.region ?_
    refine WL.op rfl rfl (op_move rfl ?_)
    refine WL.op rfl rfl (op_geqI (b := (0 : Int)) rfl rfl ?_)
    refine WL.nil ?_
    refine WQ.next ?_
    refine WC.cond rfl (fun (hb10 : (decide (((56 : Int) - ((8 * j : Nat) : Int)) ≥ (0 : Int))) = true) => ?_) (fun (hb10 : (decide (((56 : Int) - ((8 * j : Nat) : Int)) ≥ (0 : Int))) = false) => ?_)
    ·
      have hc10 := of_decide_eq_true hb10
      rw [show ((56 : Int) - ((8 * j : Nat) : Int)) = ((56 - 8 * j : Nat) : Int) from by omega]
      refine WC.skip ?_
      refine WQ.next ?_
      refine WC.seq ?_
      refine WC.block ?_
      refine WC.region ?_
      refine WL.op rfl rfl (op_move rfl ?_)
      refine WL.op rfl rfl (op_move rfl ?_)
      refine WL.op rfl rfl (op_move rfl ?_)
      refine WL.op rfl rfl (op_shrU64 rfl rfl ?_)
      refine WL.op rfl rfl (op_convU64U8 (hs := Try.underlying116) (hd := Try.underlying5) rfl ?_)
      refine WL.op rfl rfl (op_buildSlice (cs := [_]) H9 Try.underlying73 Fa.I5 rfl rfl rfl rfl (by decide) (by decide) (fun b11 w11 H11 => ?_))
      refine WL.op rfl rfl (op_appendM (f := vU8) (l := (hrest all ++ ([128] ++ List.replicate (padZ all.length) 0 ++ lenTo all.length j))) (l' := [(UInt8.ofNat (shrU64 ((8 : UInt64) * (UInt64.ofNat all.length)) (56 - 8 * j)).toNat)]) (i := 2) H11 Try.underlying73 Fa.I5 rfl rfl rfl rfl (Src.ofArr Try.underlying73 (H11.arrR (i := 4) rfl)) (one_mapM (fun _ => rfl)) (by omega) (by omega) (fun v12 w12 H12 => ?_))
      refine WL.op rfl rfl (op_assign rfl ?_)
      refine WL.nil ?_
      refine WQ.inNormal ?_
      refine WQ.next ?_
      refine WC.region ?_
      refine WL.op rfl rfl (op_move rfl ?_)
      refine WL.op rfl rfl (op_subI (a := (((56 - 8 * j) : Nat) : Int)) (b := ((8 : Nat) : Int)) rfl rfl (by omega) ?_)
      refine WL.op rfl rfl (op_assign rfl ?_)
      refine WL.nil ?_
      exact WQ.round (j + 1, v12) ⟨(by omega), (by have h := (show Own [] w w12 [Ent.bo q [(vU32 (hst all).a), (vU32 (hst all).b), (vU32 (hst all).c), (vU32 (hst all).d), (vU32 (hst all).e), (vU32 (hst all).f), (vU32 (hst all).g), (vU32 (hst all).h), v, (vN all.length)], Ent.ar v 1 (hrest all).length (List.map vU8 (hrest all)), .row v12 5 1 (((hrest all).length + 1 + padZ all.length + j) + 1) (List.map vU8 ((hrest all ++ ([128] ++ List.replicate (padZ all.length) 0 ++ lenTo all.length j)) ++ [(UInt8.ofNat (shrU64 ((8 : UInt64) * (UInt64.ofNat all.length)) (56 - 8 * j)).toNat)])), .row (.slice (some ⟨b3, 0, none⟩) 1 1) 5 1 1 (List.map vU8 [128])] from (H12.take 4)); rw [lenStep] at h; exact h)⟩ ⟨rfl, rfl, rfl, (by show some (vI (((56 - 8 * j : Nat) : Int) - 8)) = some (vI ((56 : Int) - ((8 * (j + 1) : Nat) : Int))); congr 2; omega), trivial⟩ (by show 8 - (j + 1) < 8 - j; omega)
    ·
      have hc10 := of_decide_eq_false hb10
      refine WC.exit ?_
      refine WQ.thenExit ?_
      refine WQ.thenExit ?_
      refine WQ.inHere ?_
      refine WQ.next ?_
      refine WC.seq ?_
      refine WC.region ?_
      refine WL.op rfl rfl (op_move rfl ?_)
      refine WL.op rfl rfl (op_nilCheck rfl ?_)
      refine WL.op rfl rfl (op_fieldAddr rfl Fa.F198_0 ?_)
      refine WL.op rfl rfl (op_loadS (vs := [_, _, _, _, _, _, _, _]) rfl (H9.cellsO (i := 0) rfl rfl) Try.underlying195 rfl Fa.I195 rfl ?_)
      refine WL.op rfl rfl (op_alloc H9 Fa.I195 (fun b13 w13 H13 => ?_))
      refine WL.op rfl rfl (op_storeBW (i := 4) H13 rfl rfl rfl rfl rfl Fa.I195 (fun w14 H14 => ?_))
      refine WL.nil ?_
      refine WQ.next ?_
      refine WC.seq ?_
      refine WC.block ?_
      refine WC.loop (α := Nat × Value) (fun (j, t) => [(3, t), (6, (ptr b13 0))]) (fun (j, t) w' => (64 * j ≤ (hrest all ++ pads all.length).length) ∧ Own [] w w' [Ent.bo q [(vU32 (hst all).a), (vU32 (hst all).b), (vU32 (hst all).c), (vU32 (hst all).d), (vU32 (hst all).e), (vU32 (hst all).f), (vU32 (hst all).g), (vU32 (hst all).h), v, (vN all.length)], Ent.ar v 1 (hrest all).length (List.map vU8 (hrest all)), .row t 5 1 (brest (hrest all ++ pads all.length) j).length (List.map vU8 (brest (hrest all ++ pads all.length) j)), .row (.slice (some ⟨b3, 0, none⟩) 1 1) 5 1 1 (List.map vU8 [128]), .blk b13 [(vU32 (bst (hst all) (hrest all ++ pads all.length) j).a), (vU32 (bst (hst all) (hrest all ++ pads all.length) j).b), (vU32 (bst (hst all) (hrest all ++ pads all.length) j).c), (vU32 (bst (hst all) (hrest all ++ pads all.length) j).d), (vU32 (bst (hst all) (hrest all ++ pads all.length) j).e), (vU32 (bst (hst all) (hrest all ++ pads all.length) j).f), (vU32 (bst (hst all) (hrest all ++ pads all.length) j).g), (vU32 (bst (hst all) (hrest all ++ pads all.length) j).h)] 195]) (fun (j, t) => (hrest all ++ pads all.length).length - 64 * j) (0, t) ⟨(by omega), (by have hj : j = 8 := (by omega); have h := (show Own [] w w14 [Ent.bo q [(vU32 (hst all).a), (vU32 (hst all).b), (vU32 (hst all).c), (vU32 (hst all).d), (vU32 (hst all).e), (vU32 (hst all).f), (vU32 (hst all).g), (vU32 (hst all).h), v, (vN all.length)], Ent.ar v 1 (hrest all).length (List.map vU8 (hrest all)), .row t 5 1 ((hrest all).length + 1 + padZ all.length + j) (List.map vU8 (hrest all ++ ([128] ++ List.replicate (padZ all.length) 0 ++ lenTo all.length j))), .row (.slice (some ⟨b3, 0, none⟩) 1 1) 5 1 1 (List.map vU8 [128]), .blk b13 [(vU32 (hst all).a), (vU32 (hst all).b), (vU32 (hst all).c), (vU32 (hst all).d), (vU32 (hst all).e), (vU32 (hst all).f), (vU32 (hst all).g), (vU32 (hst all).h)] 195] from H14); rw [hj] at h; have e : (hrest all).length + 1 + padZ all.length + 8 = (brest (hrest all ++ pads all.length) 0).length := (by simp [brest, pads, lenTo_length]; omega); rw [e] at h; exact h)⟩ ⟨rfl, rfl, trivial⟩ ?_
      rintro ⟨j, t⟩ w15 ⟨hinv, H15⟩
      show WC _ _ _ _ _ [(3, t), (6, (ptr b13 0))] _
      have hb0 := brest_length (hrest all ++ pads all.length) j
      have hP := padAll all
      refine WC.seq ?_
      refine WC.seq ?_
      refine WC.region ?_
      refine WL.op rfl rfl (op_move rfl ?_)
      refine WL.op rfl rfl (op_lenA Try.underlying73 rfl (H15.arrR (i := 2) rfl) ?_)
      refine WL.op rfl rfl (op_gtrN (b := 0) rfl rfl ?_)
      refine WL.nil ?_
      refine WQ.next ?_
      refine WC.cond rfl (fun (hb16 : (decide ((brest (hrest all ++ pads all.length) j).length > 0)) = true) => ?_) (fun (hb16 : (decide ((brest (hrest all ++ pads all.length) j).length > 0)) = false) => ?_)
      ·
        have hc16 := of_decide_eq_true hb16
        refine WC.skip ?_
        refine WQ.next ?_
        refine WC.seq ?_
        refine WC.block ?_
        refine WC.draw 4 Fa.M H15 (HW.op rfl (fun w1 H1 => op_loadS (vs := [_, _, _, _, _, _, _, _]) rfl (H1.cells (i := 4) rfl rfl) Try.underlying195 rfl Fa.I195 rfl ⟨rfl, Fr.refl _ _⟩) (HW.op rfl (fun w1 H1 => op_move rfl ⟨rfl, Fr.refl _ _⟩) (HW.op rfl (fun w1 H1 => op_cutHi (b := 64) Try.underlying73 Fa.I5 rfl (H1.arrR (i := 2) rfl) rfl (by omega) ⟨rfl, Fr.refl _ _⟩) (HW.op rfl (fun w1 H1 => op_callF Fa.C145 rfl ((block_ok (bst (hst all) (hrest all ++ pads all.length) j) _ ((brest (hrest all ++ pads all.length) j).take 64) _ (by rw [List.length_take]; omega) (((H1.arrR (i := 2) rfl)).cutHiM (f := vU8) (l := (brest (hrest all ++ pads all.length) j)) (b := 64) (by omega))).mono (fun e w2 hq => ⟨_, hq.1, rfl, hq.2⟩)))  HW.nil)))) (by kernel_rfl) ?_
        intro β18 w18 H18
        refine WL.op rfl rfl (op_storeBW (i := 4) H18 rfl rfl rfl rfl rfl Fa.I195 (fun w19 H19 => ?_))
        refine WL.nil ?_
        refine WQ.inNormal ?_
        refine WQ.next ?_
        refine WC.region ?_
        refine WL.op rfl rfl (op_move rfl ?_)
        refine WL.op rfl rfl (op_cutLo (a := 64) Try.underlying73 Fa.I5 rfl (H19.arrR (i := 2) rfl) rfl (by omega) ?_)
        have H20 := H19.cutLoM (f := vU8) (l := (brest (hrest all ++ pads all.length) j)) (a := 64) (i := 2) rfl (by omega)
        refine WL.op rfl rfl (op_assign rfl ?_)
        refine WL.nil ?_
        exact WQ.round (j + 1, (cutV t 64 (brest (hrest all ++ pads all.length) j).length 1)) ⟨(by omega), (by have h := (show Own [] w w19 [Ent.bo q [(vU32 (hst all).a), (vU32 (hst all).b), (vU32 (hst all).c), (vU32 (hst all).d), (vU32 (hst all).e), (vU32 (hst all).f), (vU32 (hst all).g), (vU32 (hst all).h), v, (vN all.length)], Ent.ar v 1 (hrest all).length (List.map vU8 (hrest all)), .row (cutV t 64 (brest (hrest all ++ pads all.length) j).length 1) 5 1 ((brest (hrest all ++ pads all.length) j).length - 64) (List.map vU8 ((brest (hrest all ++ pads all.length) j).drop 64)), .row (.slice (some ⟨b3, 0, none⟩) 1 1) 5 1 1 (List.map vU8 [128]), .blk b13 [(vU32 (blockS (bst (hst all) (hrest all ++ pads all.length) j) ((brest (hrest all ++ pads all.length) j).take 64)).a), (vU32 (blockS (bst (hst all) (hrest all ++ pads all.length) j) ((brest (hrest all ++ pads all.length) j).take 64)).b), (vU32 (blockS (bst (hst all) (hrest all ++ pads all.length) j) ((brest (hrest all ++ pads all.length) j).take 64)).c), (vU32 (blockS (bst (hst all) (hrest all ++ pads all.length) j) ((brest (hrest all ++ pads all.length) j).take 64)).d), (vU32 (blockS (bst (hst all) (hrest all ++ pads all.length) j) ((brest (hrest all ++ pads all.length) j).take 64)).e), (vU32 (blockS (bst (hst all) (hrest all ++ pads all.length) j) ((brest (hrest all ++ pads all.length) j).take 64)).f), (vU32 (blockS (bst (hst all) (hrest all ++ pads all.length) j) ((brest (hrest all ++ pads all.length) j).take 64)).g), (vU32 (blockS (bst (hst all) (hrest all ++ pads all.length) j) ((brest (hrest all ++ pads all.length) j).take 64)).h)] 195] from H20); rw [← List.length_drop] at h; exact h)⟩ ⟨rfl, rfl, trivial⟩ (by show (hrest all ++ pads all.length).length - 64 * (j + 1) < (hrest all ++ pads all.length).length - 64 * j; omega)
      ·
        have hc16 := of_decide_eq_false hb16
        refine WC.exit ?_
        refine WQ.thenExit ?_
        refine WQ.thenExit ?_
        refine WQ.inHere ?_
        refine WQ.next ?_
        refine WC.seq ?_
        refine WC.region ?_
        refine WL.op rfl rfl (op_assign rfl ?_)
        have H21 := H15.nilRow 5 1
        refine WL.nil ?_
        refine WQ.next ?_
        refine WC.seq ?_
        refine WC.seq ?_
        refine WC.region ?_
        refine WL.op rfl rfl (op_loadS (vs := [_, _, _, _, _, _, _, _]) rfl (H21.cells (i := 4) rfl rfl) Try.underlying195 rfl Fa.I195 rfl ?_)
        refine WL.op rfl rfl (op_move rfl ?_)
        refine WL.nil ?_
        refine WQ.next ?_
        refine WC.block ?_
        refine WC.loop (α := Nat × Value) (fun (k, t2) => [(7, t2), (56, (.agg #[(vU32 (bst (hst all) (hrest all ++ pads all.length) j).a), (vU32 (bst (hst all) (hrest all ++ pads all.length) j).b), (vU32 (bst (hst all) (hrest all ++ pads all.length) j).c), (vU32 (bst (hst all) (hrest all ++ pads all.length) j).d), (vU32 (bst (hst all) (hrest all ++ pads all.length) j).e), (vU32 (bst (hst all) (hrest all ++ pads all.length) j).f), (vU32 (bst (hst all) (hrest all ++ pads all.length) j).g), (vU32 (bst (hst all) (hrest all ++ pads all.length) j).h)])), (57, (vN k))]) (fun (k, t2) w' => (k ≤ 8) ∧ Own [] w w' [Ent.bo q [(vU32 (hst all).a), (vU32 (hst all).b), (vU32 (hst all).c), (vU32 (hst all).d), (vU32 (hst all).e), (vU32 (hst all).f), (vU32 (hst all).g), (vU32 (hst all).h), v, (vN all.length)], Ent.ar v 1 (hrest all).length (List.map vU8 (hrest all)), .row t 5 1 (brest (hrest all ++ pads all.length) j).length (List.map vU8 (brest (hrest all ++ pads all.length) j)), .row (.slice (some ⟨b3, 0, none⟩) 1 1) 5 1 1 (List.map vU8 [128]), .blk b13 [(vU32 (bst (hst all) (hrest all ++ pads all.length) j).a), (vU32 (bst (hst all) (hrest all ++ pads all.length) j).b), (vU32 (bst (hst all) (hrest all ++ pads all.length) j).c), (vU32 (bst (hst all) (hrest all ++ pads all.length) j).d), (vU32 (bst (hst all) (hrest all ++ pads all.length) j).e), (vU32 (bst (hst all) (hrest all ++ pads all.length) j).f), (vU32 (bst (hst all) (hrest all ++ pads all.length) j).g), (vU32 (bst (hst all) (hrest all ++ pads all.length) j).h)] 195, .row t2 5 1 (4 * k) (List.map vU8 (outTo (bst (hst all) (hrest all ++ pads all.length) j) k))]) (fun (k, t2) => 8 - k) (0, (.slice none 0 0)) ⟨(by omega), H21⟩ ⟨rfl, rfl, rfl, trivial⟩ ?_
        rintro ⟨k, t2⟩ w22 ⟨hinv, H22⟩
        show WC _ _ _ _ _ [(7, t2), (56, (.agg #[(vU32 (bst (hst all) (hrest all ++ pads all.length) j).a), (vU32 (bst (hst all) (hrest all ++ pads all.length) j).b), (vU32 (bst (hst all) (hrest all ++ pads all.length) j).c), (vU32 (bst (hst all) (hrest all ++ pads all.length) j).d), (vU32 (bst (hst all) (hrest all ++ pads all.length) j).e), (vU32 (bst (hst all) (hrest all ++ pads all.length) j).f), (vU32 (bst (hst all) (hrest all ++ pads all.length) j).g), (vU32 (bst (hst all) (hrest all ++ pads all.length) j).h)])), (57, (vN k))] _
        refine WC.seq ?_
        refine WC.region ?_
        refine WL.op rfl rfl (op_lssN (b := 8) rfl rfl ?_)
        refine WL.nil ?_
        refine WQ.next ?_
        refine WC.seq ?_
        refine WC.cond rfl (fun (hb23 : (decide (k < 8)) = true) => ?_) (fun (hb23 : (decide (k < 8)) = false) => ?_)
        ·
          have hc23 := of_decide_eq_true hb23
          refine WC.skip ?_
          refine WQ.next ?_
          refine WC.seq ?_
          refine WC.block ?_
          refine WC.seq ?_
          refine WC.region ?_
          refine WL.op rfl rfl (op_indexA1 (cs := _) Try.underlying195 Fa.I22 Try.underlying22 rfl rfl rfl (by omega) (get_map (l := (bst (hst all) (hrest all ++ pads all.length) j).vals) vU32 0 (by rw [vals_length]; omega)) ?_)
          refine WL.op rfl rfl (op_assign rfl ?_)
          refine WL.nil ?_
          refine WQ.next ?_
          refine WC.region ?_
          refine WL.op rfl rfl (op_move rfl ?_)
          refine WL.op rfl rfl (op_move rfl ?_)
          refine WL.op rfl rfl (op_shrU32 (s := 24) rfl rfl ?_)
          refine WL.op rfl rfl (op_convU32U8 (hs := Try.underlying22) (hd := Try.underlying5) rfl ?_)
          refine WL.op rfl rfl (op_move rfl ?_)
          refine WL.op rfl rfl (op_shrU32 (s := 16) rfl rfl ?_)
          refine WL.op rfl rfl (op_convU32U8 (hs := Try.underlying22) (hd := Try.underlying5) rfl ?_)
          refine WL.op rfl rfl (op_move rfl ?_)
          refine WL.op rfl rfl (op_shrU32 (s := 8) rfl rfl ?_)
          refine WL.op rfl rfl (op_convU32U8 (hs := Try.underlying22) (hd := Try.underlying5) rfl ?_)
          refine WL.op rfl rfl (op_move rfl ?_)
          refine WL.op rfl rfl (op_convU32U8 (hs := Try.underlying22) (hd := Try.underlying5) rfl ?_)
          refine WL.op rfl rfl (op_buildSlice (cs := [_, _, _, _]) H22 Try.underlying73 Fa.I5 rfl rfl rfl rfl (by decide) (by decide) (fun b24 w24 H24 => ?_))
          refine WL.op rfl rfl (op_appendM (f := vU8) (l := (outTo (bst (hst all) (hrest all ++ pads all.length) j) k)) (l' := [(UInt8.ofNat (shrU32 ((bst (hst all) (hrest all ++ pads all.length) j).vals.getD k 0) 24).toNat), (UInt8.ofNat (shrU32 ((bst (hst all) (hrest all ++ pads all.length) j).vals.getD k 0) 16).toNat), (UInt8.ofNat (shrU32 ((bst (hst all) (hrest all ++ pads all.length) j).vals.getD k 0) 8).toNat), (UInt8.ofNat ((bst (hst all) (hrest all ++ pads all.length) j).vals.getD k 0).toNat)]) (i := 5) H24 Try.underlying73 Fa.I5 rfl rfl rfl rfl (Src.ofArr Try.underlying73 (H24.arrR (i := 6) rfl)) (one_mapM (fun _ => rfl)) (by omega) (by omega) (fun v25 w25 H25 => ?_))
          refine WL.op rfl rfl (op_assign rfl ?_)
          refine WL.nil ?_
          refine WQ.inNormal ?_
          refine WQ.next ?_
          refine WC.region ?_
          refine WL.op rfl rfl (op_addN (b := 1) rfl rfl (by omega) ?_)
          refine WL.op rfl rfl (op_move rfl ?_)
          refine WL.nil ?_
          exact WQ.round (k + 1, v25) ⟨(by omega), (H25.take 6)⟩ ⟨rfl, rfl, rfl, trivial⟩ (by show 8 - (k + 1) < 8 - k; omega)
        ·
          have hc23 := of_decide_eq_false hb23
          refine WC.exit ?_
          refine WQ.thenExit ?_
          refine WQ.thenExit ?_
          refine WQ.inHere ?_
          refine WQ.next ?_
          refine WC.seq ?_
          refine WC.region ?_
          refine WL.op rfl rfl (op_move rfl ?_)
          refine WL.op rfl rfl (op_bytesStr (l := (outTo (bst (hst all) (hrest all ++ pads all.length) j) k)) Try.underlying73 Try.underlying5 Try.underlying9 rfl (H22.arrR (i := 5) rfl) rfl ?_)
          refine WL.op rfl rfl (op_assign rfl ?_)
          refine WL.nil ?_
          refine WQ.next ?_
          refine WC.ret ?_
          refine WQ.out (.tmp rfl .nil) ?_
          exact ⟨(by have hk : k = 8 := (by omega); subst hk; rw [sumEnd all j (by omega) (by rw [← List.length_append]; omega)]; rfl), H22.fr⟩
end Go.Proofs.Ytpnghdalnghpcaa
/-! from WSha2 -/
namespace Go.Proofs.Ytpnghdalnghpcaa
open Go.Owl Go.Spec
set_option maxRecDepth 100000 in
theorem ssum_ok (s : List UInt8) (w : World) (hs : s.length < 2 ^ 40) :
    Calls Try.prog 144 #[(str s)] w (fun e w' => e = .returned (str (sha s)) ∧ Fr [] w w') := by
  refine enter (args := [(str s)]) Try.func144 rfl rfl ?_
  have H0 : Own [] w w [] := Own.start w []
  refine WC.seq ?_
  refine WC.region ?_
  refine WL.op rfl rfl (op_assign rfl ?_)
  refine WL.nil ?_
  refine WQ.next ?_
  refine WC.seq ?_
  refine WC.region ?_
  refine WL.op rfl rfl (op_callF Fa.C131 rfl ((new_ok _).mono (fun e w1 hq => ?_)))
  obtain ⟨q1, rfl, hq1⟩ := hq
  refine ⟨_, rfl, ?_⟩
  have H1 : Own [] w w1 [.blk q1 [(vU32 (hst ([] : List UInt8)).a), (vU32 (hst ([] : List UInt8)).b), (vU32 (hst ([] : List UInt8)).c), (vU32 (hst ([] : List UInt8)).d), (vU32 (hst ([] : List UInt8)).e), (vU32 (hst ([] : List UInt8)).f), (vU32 (hst ([] : List UInt8)).g), (vU32 (hst ([] : List UInt8)).h), (.slice none 0 0), (vN ([] : List UInt8).length)] 198, .row (.slice none 0 0) 5 1 (hrest ([] : List UInt8)).length (List.map vU8 (hrest ([] : List UInt8)))] := H0.splice [] [] [.blk q1 [(vU32 (hst ([] : List UInt8)).a), (vU32 (hst ([] : List UInt8)).b), (vU32 (hst ([] : List UInt8)).c), (vU32 (hst ([] : List UInt8)).d), (vU32 (hst ([] : List UInt8)).e), (vU32 (hst ([] : List UInt8)).f), (vU32 (hst ([] : List UInt8)).g), (vU32 (hst ([] : List UInt8)).h), (.slice none 0 0), (vN ([] : List UInt8).length)] 198, .row (.slice none 0 0) 5 1 (hrest ([] : List UInt8)).length (List.map vU8 (hrest ([] : List UInt8)))] rfl rfl hq1 (Fits.solid True.intro (Fits.solid True.intro Fits.nil))
  refine WL.op rfl rfl (op_assign rfl ?_)
  refine WL.nil ?_
  refine WQ.next ?_
  refine WC.seq ?_
  refine WC.region ?_
  refine WL.op rfl rfl (op_move rfl ?_)
  refine WL.op rfl rfl (op_move rfl ?_)
  refine WL.op rfl rfl (op_buildSlice (cs := [_]) H1 Try.underlying23 Fa.I9 rfl rfl rfl rfl (by decide) (by decide) (fun b2 w2 H2 => ?_))
  refine WL.op rfl rfl (op_callF Fa.C133 rfl ((write_ok q1 (.slice none 0 0) (.slice (some ⟨b2, 0, none⟩) 1 1) ([] : List UInt8) ([s]) _ _ (H2.part [0, 1] rfl rfl) (H2.stayR (I := [0, 1]) (k := 2) rfl rfl rfl) (by simpa using hs) (by simp)).mono (fun e w3 hq => ?_)))
  obtain ⟨v3, rfl, hq3⟩ := hq
  refine ⟨_, rfl, ?_⟩
  have H3 : Own [] w w3 [.blk q1 [(vU32 (hst (([] : List UInt8) ++ [s].flatten)).a), (vU32 (hst (([] : List UInt8) ++ [s].flatten)).b), (vU32 (hst (([] : List UInt8) ++ [s].flatten)).c), (vU32 (hst (([] : List UInt8) ++ [s].flatten)).d), (vU32 (hst (([] : List UInt8) ++ [s].flatten)).e), (vU32 (hst (([] : List UInt8) ++ [s].flatten)).f), (vU32 (hst (([] : List UInt8) ++ [s].flatten)).g), (vU32 (hst (([] : List UInt8) ++ [s].flatten)).h), v3, (vN (([] : List UInt8) ++ [s].flatten).length)] 198, .row v3 5 1 (hrest (([] : List UInt8) ++ [s].flatten)).length (List.map vU8 (hrest (([] : List UInt8) ++ [s].flatten))), .row (.slice (some ⟨b2, 0, none⟩) 1 1) 9 1 1 (List.map str [s])] := H2.splice [0, 1] [.blk q1 [(vU32 (hst (([] : List UInt8) ++ [s].flatten)).a), (vU32 (hst (([] : List UInt8) ++ [s].flatten)).b), (vU32 (hst (([] : List UInt8) ++ [s].flatten)).c), (vU32 (hst (([] : List UInt8) ++ [s].flatten)).d), (vU32 (hst (([] : List UInt8) ++ [s].flatten)).e), (vU32 (hst (([] : List UInt8) ++ [s].flatten)).f), (vU32 (hst (([] : List UInt8) ++ [s].flatten)).g), (vU32 (hst (([] : List UInt8) ++ [s].flatten)).h), v3, (vN (([] : List UInt8) ++ [s].flatten).length)] 198, .row v3 5 1 (hrest (([] : List UInt8) ++ [s].flatten)).length (List.map vU8 (hrest (([] : List UInt8) ++ [s].flatten)))] [] rfl rfl hq3 (Fits.solid True.intro (Fits.solid True.intro Fits.nil))
  refine WL.nil ?_
  refine WQ.next ?_
  refine WC.seq ?_
  refine WC.region ?_
  refine WL.op rfl rfl (op_move rfl ?_)
  refine WL.op rfl rfl (op_callF Fa.C135 rfl ((hsum_ok q1 v3 (([] : List UInt8) ++ [s].flatten) _ (H3.cellsAt (i := 0) rfl) (H3.arrR (i := 1) rfl) (by simpa using hs)).mono (fun e w4 hq => ?_)))
  obtain ⟨rfl, hf4⟩ := hq
  refine ⟨_, rfl, ?_⟩
  have H4 := H3.fr' hf4
  refine WL.op rfl rfl (op_assign rfl ?_)
  refine WL.nil ?_
  refine WQ.next ?_
  refine WC.ret ?_
  refine WQ.out (.tmp rfl .nil) ?_
  exact ⟨by simp [tup], H4.fr⟩
end Go.Proofs.Ytpnghdalnghpcaa
/-! from WRef2 -/
namespace Go.Proofs.Ytpnghdalnghpcaa
open Go.Owl Go.Spec
set_option maxRecDepth 100000 in
theorem mul_ok (va vb : Value) (a b : List UInt32) (na nb : Nat) (w : World) (hVA : Arr w va 1 na (List.map vU32 a)) (hVB : Arr w vb 1 nb (List.map vU32 b)) (hs : na + nb ≤ 1000) :
    Calls Try.prog 153 #[va, vb] w (fun e w' => ∃ v, e = .returned v ∧ Own [] w w' [.row v 22 1 (na + nb) (List.map vU32 (mulL a b))]) := by
  refine enter (args := [va, vb]) Try.func153 rfl rfl ?_
  have H0 : Own [] w w [] := Own.start w []
  obtain rfl := hVA.mapLen
  obtain rfl := hVB.mapLen
  refine WC.seq ?_
  refine WC.region ?_
  refine WL.op rfl rfl (op_assign rfl ?_)
  refine WL.nil ?_
  refine WQ.next ?_
  refine WC.seq ?_
  refine WC.region ?_
  refine WL.op rfl rfl (op_move rfl ?_)
  refine WL.op rfl rfl (op_lenA Try.underlying64 rfl (H0.arr hVA) ?_)
  refine WL.op rfl rfl (op_move rfl ?_)
  refine WL.op rfl rfl (op_lenA Try.underlying64 rfl (H0.arr hVB) ?_)
  refine WL.op rfl rfl (op_addN rfl rfl (by omega) ?_)
  refine WL.op rfl rfl (op_makeSliceM (f := vU32) (c := 0) H0 Try.underlying64 Fa.I22 rfl rfl (by omega) (by omega) (fun b1 w1 H1 => ?_))
  refine WL.op rfl rfl (op_assign rfl ?_)
  refine WL.nil ?_
  refine WQ.next ?_
  refine WC.seq ?_
  refine WC.seq ?_
  refine WC.region ?_
  refine WL.op rfl rfl (op_assign rfl ?_)
  refine WL.nil ?_
  refine WQ.next ?_
  refine WC.block ?_
  refine WC.loop (α := Nat) (fun i => [(0, va), (1, vb), (5, (.slice (some ⟨b1, 0, none⟩) (a.length + b.length) (a.length + b.length))), (6, (vN i))]) (fun i w' => (i ≤ a.length) ∧ Own [] w w' [.row (.slice (some ⟨b1, 0, none⟩) (a.length + b.length) (a.length + b.length)) 22 1 (a.length + b.length) (List.map vU32 (mulOut a b i))]) (fun i => a.length - i) 0 ⟨(by omega), H1⟩ ⟨rfl, rfl, rfl, rfl, trivial⟩ ?_
  rintro i w2 ⟨hinv, H2⟩
  show WC _ _ _ _ _ [(0, va), (1, vb), (5, (.slice (some ⟨b1, 0, none⟩) (a.length + b.length) (a.length + b.length))), (6, (vN i))] _
  have hl1 := mulOut_length a b i
  refine WC.seq ?_
  refine WC.seq ?_
  refine WC.region ?_
  refine WL.op rfl rfl (op_move rfl ?_)
  refine WL.op rfl rfl (op_move rfl ?_)
  refine WL.op rfl rfl (op_lenA Try.underlying64 rfl (H2.arr hVA) ?_)
  refine WL.op rfl rfl (op_lssN rfl rfl ?_)
  refine WL.nil ?_
  refine WQ.next ?_
  refine WC.cond rfl (fun (hb3 : (decide (i < a.length)) = true) => ?_) (fun (hb3 : (decide (i < a.length)) = false) => ?_)
  ·
    have hc3 := of_decide_eq_true hb3
    refine WC.skip ?_
    refine WQ.next ?_
    refine WC.seq ?_
    refine WC.block ?_
    refine WC.seq ?_
    refine WC.region ?_
    refine WL.op rfl rfl (op_assign rfl ?_)
    refine WL.nil ?_
    refine WQ.next ?_
    refine WC.seq ?_
    refine WC.seq ?_
    refine WC.region ?_
    refine WL.op rfl rfl (op_assign rfl ?_)
    refine WL.nil ?_
    refine WQ.next ?_
    refine WC.block ?_
    refine WC.loop (α := Nat) (fun j => [(0, va), (1, vb), (5, (.slice (some ⟨b1, 0, none⟩) (a.length + b.length) (a.length + b.length))), (6, (vN i)), (7, (vU64 (mulIn (a.getD i 0) b i (mulOut a b i) j).2)), (8, (vN j))]) (fun j w' => (j ≤ b.length) ∧ Own [] w w' [.row (.slice (some ⟨b1, 0, none⟩) (a.length + b.length) (a.length + b.length)) 22 1 (a.length + b.length) (List.map vU32 (mulIn (a.getD i 0) b i (mulOut a b i) j).1)]) (fun j => b.length - j) 0 ⟨(by omega), H2⟩ ⟨rfl, rfl, rfl, rfl, rfl, rfl, trivial⟩ ?_
    rintro j w4 ⟨hinv, H4⟩
    show WC _ _ _ _ _ [(0, va), (1, vb), (5, (.slice (some ⟨b1, 0, none⟩) (a.length + b.length) (a.length + b.length))), (6, (vN i)), (7, (vU64 (mulIn (a.getD i 0) b i (mulOut a b i) j).2)), (8, (vN j))] _
    refine WC.seq ?_
    refine WC.seq ?_
    refine WC.region ?_
    refine WL.op rfl rfl (op_move rfl ?_)
    refine WL.op rfl rfl (op_move rfl ?_)
    refine WL.op rfl rfl (op_lenA Try.underlying64 rfl (H4.arr hVB) ?_)
    refine WL.op rfl rfl (op_lssN rfl rfl ?_)
    refine WL.nil ?_
    refine WQ.next ?_
    refine WC.cond rfl (fun (hb5 : (decide (j < b.length)) = true) => ?_) (fun (hb5 : (decide (j < b.length)) = false) => ?_)
    ·
      have hc5 := of_decide_eq_true hb5
      refine WC.skip ?_
      refine WQ.next ?_
      refine WC.seq ?_
      refine WC.block ?_
      refine WC.seq ?_
      refine WC.draw 22 Fa.M H4 (HW.op rfl (fun w1 H1 => op_move rfl ⟨rfl, Fr.refl _ _⟩) (HW.op rfl (fun w1 H1 => op_move rfl ⟨rfl, Fr.refl _ _⟩) (HW.op rfl (fun w1 H1 => op_indexAddr1 Try.underlying64 Fa.I22 rfl (H1.arr hVA) rfl (by omega) ⟨rfl, Fr.refl _ _⟩) (HW.op rfl (fun w1 H1 => op_load rfl ((H1.arr hVA).at (get_map vU32 0 (Arr.ltM (H1.arr hVA) (by omega)))) Try.underlying22 rfl ⟨rfl, Fr.refl _ _⟩) (HW.op rfl (fun w1 H1 => op_convU32U64 (hs := Try.underlying22) (hd := Try.underlying116) rfl ⟨rfl, Fr.refl _ _⟩) (HW.op rfl (fun w1 H1 => op_move rfl ⟨rfl, Fr.refl _ _⟩) (HW.op rfl (fun w1 H1 => op_move rfl ⟨rfl, Fr.refl _ _⟩) (HW.op rfl (fun w1 H1 => op_indexAddr1 Try.underlying64 Fa.I22 rfl (H1.arr hVB) rfl (by omega) ⟨rfl, Fr.refl _ _⟩) (HW.op rfl (fun w1 H1 => op_load rfl ((H1.arr hVB).at (get_map vU32 0 (Arr.ltM (H1.arr hVB) (by omega)))) Try.underlying22 rfl ⟨rfl, Fr.refl _ _⟩) (HW.op rfl (fun w1 H1 => op_convU32U64 (hs := Try.underlying22) (hd := Try.underlying116) rfl ⟨rfl, Fr.refl _ _⟩) (HW.op rfl (fun w1 H1 => op_mulU64 rfl rfl ⟨rfl, Fr.refl _ _⟩) (HW.op rfl (fun w1 H1 => op_move rfl ⟨rfl, Fr.refl _ _⟩) (HW.op rfl (fun w1 H1 => op_move rfl ⟨rfl, Fr.refl _ _⟩) (HW.op rfl (fun w1 H1 => op_move rfl ⟨rfl, Fr.refl _ _⟩) (HW.op rfl (fun w1 H1 => op_addN rfl rfl (by omega) ⟨rfl, Fr.refl _ _⟩) (HW.op rfl (fun w1 H1 => op_indexAddr1 Try.underlying64 Fa.I22 rfl (H1.arrR (i := 0) rfl) rfl (by omega) ⟨rfl, Fr.refl _ _⟩) (HW.op rfl (fun w1 H1 => op_load rfl ((H1.arrR (i := 0) rfl).at (get_map vU32 0 (Arr.ltM (H1.arrR (i := 0) rfl) (by omega)))) Try.underlying22 rfl ⟨rfl, Fr.refl _ _⟩) (HW.op rfl (fun w1 H1 => op_convU32U64 (hs := Try.underlying22) (hd := Try.underlying116) rfl ⟨rfl, Fr.refl _ _⟩) (HW.op rfl (fun w1 H1 => op_addU64 rfl rfl ⟨rfl, Fr.refl _ _⟩) (HW.op rfl (fun w1 H1 => op_move rfl ⟨rfl, Fr.refl _ _⟩) (HW.op rfl (fun w1 H1 => op_addU64 rfl rfl ⟨rfl, Fr.refl _ _⟩) (HW.op rfl (fun w1 H1 => op_assign rfl ⟨rfl, Fr.refl _ _⟩)  HW.nil)))))))))))))))))))))) (by kernel_rfl) ?_
      intro β6 w6 H6
      refine WL.nil ?_
      refine WQ.next ?_
      refine WC.seq ?_
      refine WC.region ?_
      refine WL.op rfl rfl (op_move rfl ?_)
      refine WL.op rfl rfl (op_move rfl ?_)
      refine WL.op rfl rfl (op_move rfl ?_)
      refine WL.op rfl rfl (op_addN rfl rfl (by omega) ?_)
      refine WL.op rfl rfl (op_move rfl ?_)
      refine WL.op rfl rfl (op_remU64 (b := 4294967296) rfl rfl (by decide) ?_)
      refine WL.op rfl rfl (op_convU64U32 (hs := Try.underlying116) (hd := Try.underlying22) rfl ?_)
      refine WL.op rfl rfl (op_indexAddr1 Try.underlying64 Fa.I22 rfl (H6.arrR (i := 0) rfl) rfl (by omega) ?_)
      refine WL.op rfl rfl (op_storeRM (i := 0) (f := vU32) (l := (mulIn (a.getD i 0) b i (mulOut a b i) j).1) (c := (UInt32.ofNat (((((UInt64.ofNat (a.getD i 0).toNat) * (UInt64.ofNat (b.getD j 0).toNat)) + (UInt64.ofNat ((mulIn (a.getD i 0) b i (mulOut a b i) j).1.getD (i + j) 0).toNat)) + (mulIn (a.getD i 0) b i (mulOut a b i) j).2) % (4294967296 : UInt64)).toNat)) H6 rfl rfl rfl (by omega) rfl Fa.I22 (fun w7 H7 => ?_))
      refine WL.nil ?_
      refine WQ.next ?_
      refine WC.region ?_
      refine WL.op rfl rfl (op_move rfl ?_)
      refine WL.op rfl rfl (op_shrU64 (s := 32) rfl rfl ?_)
      refine WL.op rfl rfl (op_assign rfl ?_)
      refine WL.nil ?_
      refine WQ.inNormal ?_
      refine WQ.next ?_
      refine WC.region ?_
      refine WL.op rfl rfl (op_move rfl ?_)
      refine WL.op rfl rfl (op_addN (b := 1) rfl rfl (by omega) ?_)
      refine WL.op rfl rfl (op_assign rfl ?_)
      refine WL.nil ?_
      exact WQ.round (j + 1) ⟨(by omega), H7⟩ ⟨rfl, rfl, rfl, rfl, rfl, rfl, trivial⟩ (by omega)
    ·
      have hc5 := of_decide_eq_false hb5
      have hj : j = b.length := (by omega)
      subst hj
      refine WC.exit ?_
      refine WQ.thenExit ?_
      refine WQ.thenExit ?_
      refine WQ.inHere ?_
      refine WQ.next ?_
      refine WC.region ?_
      refine WL.op rfl rfl (op_move rfl ?_)
      refine WL.op rfl rfl (op_move rfl ?_)
      refine WL.op rfl rfl (op_move rfl ?_)
      refine WL.op rfl rfl (op_lenA Try.underlying64 rfl (H4.arr hVB) ?_)
      refine WL.op rfl rfl (op_addN rfl rfl (by omega) ?_)
      refine WL.op rfl rfl (op_move rfl ?_)
      refine WL.op rfl rfl (op_convU64U32 (hs := Try.underlying116) (hd := Try.underlying22) rfl ?_)
      refine WL.op rfl rfl (op_indexAddr1 Try.underlying64 Fa.I22 rfl (H4.arrR (i := 0) rfl) rfl (by omega) ?_)
      refine WL.op rfl rfl (op_storeRM (i := 0) (f := vU32) (l := (mulIn (a.getD i 0) b i (mulOut a b i) b.length).1) (c := (UInt32.ofNat (mulIn (a.getD i 0) b i (mulOut a b i) b.length).2.toNat)) H4 rfl rfl rfl (by omega) rfl Fa.I22 (fun w8 H8 => ?_))
      refine WL.nil ?_
      refine WQ.inNormal ?_
      refine WQ.next ?_
      refine WC.region ?_
      refine WL.op rfl rfl (op_move rfl ?_)
      refine WL.op rfl rfl (op_addN (b := 1) rfl rfl (by omega) ?_)
      refine WL.op rfl rfl (op_assign rfl ?_)
      refine WL.nil ?_
      exact WQ.round (i + 1) ⟨(by omega), H8⟩ ⟨rfl, rfl, rfl, rfl, trivial⟩ (by omega)
  ·
    have hc3 := of_decide_eq_false hb3
    refine WC.exit ?_
    refine WQ.thenExit ?_
    refine WQ.thenExit ?_
    refine WQ.inHere ?_
    refine WQ.next ?_
    refine WC.seq ?_
    refine WC.region ?_
    refine WL.op rfl rfl (op_move rfl ?_)
    refine WL.op rfl rfl (op_assign rfl ?_)
    refine WL.nil ?_
    refine WQ.next ?_
    refine WC.ret ?_
    refine WQ.out (.tmp rfl .nil) ?_
    exact ⟨_, rfl, (by have hi : i = a.length := (by omega); subst hi; exact H2)⟩
set_option maxRecDepth 100000 in
theorem above_ok (va : Value) (a : List UInt32) (p : UInt32) (na n : Nat) (w : World) (hVA : Arr w va 1 na (List.map vU32 a)) (hl : n < na) (hs : na ≤ 1000) :
    Calls Try.prog 154 #[va, (vU32 p), (vN n)] w (fun e w' => e = .returned (.bool (aboveB a p n)) ∧ Fr [] w w') := by
  refine enter (args := [va, (vU32 p), (vN n)]) Try.func154 rfl rfl ?_
  have H0 : Own [] w w [] := Own.start w []
  obtain rfl := hVA.mapLen
  refine WC.seq ?_
  refine WC.region ?_
  refine WL.op rfl rfl (op_assign rfl ?_)
  refine WL.nil ?_
  refine WQ.next ?_
  refine WC.seq ?_
  refine WC.seq ?_
  refine WC.region ?_
  refine WL.op rfl rfl (op_move rfl ?_)
  refine WL.op rfl rfl (op_lenA Try.underlying64 rfl (H0.arr hVA) ?_)
  refine WL.op rfl rfl (op_subN (b := 1) rfl rfl (by omega) (by omega) ?_)
  refine WL.op rfl rfl (op_assign rfl ?_)
  refine WL.nil ?_
  refine WQ.next ?_
  refine WC.block ?_
  refine WC.loop (α := Nat) (fun i => [(0, va), (1, (vU32 p)), (2, (vN n)), (7, (vN i))]) (fun i w' => (n ≤ i ∧ i < a.length ∧ ∀ q, i < q → q < a.length → a.getD q 0 = 0) ∧ Own [] w w' []) (fun i => i) (a.length - 1) ⟨⟨by omega, by omega, fun q h1 h2 => by omega⟩, H0⟩ ⟨rfl, rfl, rfl, rfl, trivial⟩ ?_
  rintro i w1 ⟨⟨hi1, hi2, hi3⟩, H1⟩
  show WC _ _ _ _ _ [(0, va), (1, (vU32 p)), (2, (vN n)), (7, (vN i))] _
  refine WC.seq ?_
  refine WC.seq ?_
  refine WC.region ?_
  refine WL.op rfl rfl (op_move rfl ?_)
  refine WL.op rfl rfl (op_move rfl ?_)
  refine WL.op rfl rfl (op_gtrN rfl rfl ?_)
  refine WL.nil ?_
  refine WQ.next ?_
  refine WC.cond rfl (fun (hb2 : (decide (i > n)) = true) => ?_) (fun (hb2 : (decide (i > n)) = false) => ?_)
  ·
    have hc2 := of_decide_eq_true hb2
    refine WC.skip ?_
    refine WQ.next ?_
    refine WC.seq ?_
    refine WC.block ?_
    refine WC.seq ?_
    refine WC.region ?_
    refine WL.op rfl rfl (op_move rfl ?_)
    refine WL.op rfl rfl (op_move rfl ?_)
    refine WL.op rfl rfl (op_indexAddr1 Try.underlying64 Fa.I22 rfl (H1.arr hVA) rfl (by omega) ?_)
    refine WL.op rfl rfl (op_load rfl ((H1.arr hVA).at (get_map vU32 0 (Arr.ltM (H1.arr hVA) (by omega)))) Try.underlying22 rfl ?_)
    refine WL.op rfl rfl (op_neqU32 (b := 0) rfl rfl ?_)
    refine WL.nil ?_
    refine WQ.next ?_
    refine WC.cond rfl (fun (hb3 : (decide ((a.getD i 0) ≠ (0 : UInt32))) = true) => ?_) (fun (hb3 : (decide ((a.getD i 0) ≠ (0 : UInt32))) = false) => ?_)
    ·
      have hc3 := of_decide_eq_true hb3
      refine WC.seq ?_
      refine WC.region ?_
      refine WL.op rfl rfl (op_assign rfl ?_)
      refine WL.nil ?_
      refine WQ.next ?_
      refine WC.ret ?_
      refine WQ.inRet ?_
      refine WQ.thenRet ?_
      refine WQ.thenRet ?_
      refine WQ.inRet ?_
      refine WQ.thenRet ?_
      refine WQ.out (.tmp rfl .nil) ?_
      exact ⟨by rw [aboveB_1 (i := i) (by omega) (by omega) hc3]; rfl, H1.fr⟩
    ·
      have hc3 := of_decide_eq_false hb3
      refine WC.skip ?_
      refine WQ.inNormal ?_
      refine WQ.next ?_
      refine WC.region ?_
      refine WL.op rfl rfl (op_move rfl ?_)
      refine WL.op rfl rfl (op_subN (b := 1) rfl rfl (by omega) (by omega) ?_)
      refine WL.op rfl rfl (op_assign rfl ?_)
      refine WL.nil ?_
      exact WQ.round (i - 1) ⟨⟨by omega, by omega, fun q h1 h2 => (by rcases Nat.lt_or_ge i q with h | h; exact hi3 q h h2; rw [show q = i by omega]; exact Decidable.not_not.mp hc3)⟩, H1⟩ ⟨rfl, rfl, rfl, rfl, trivial⟩ (by omega)
  ·
    have hc2 := of_decide_eq_false hb2
    have hz := anyN_no a (n + 1) (a.length - (n + 1)) (fun q h1 h2 h3 => hi3 q (by omega) h3)
    refine WC.exit ?_
    refine WQ.thenExit ?_
    refine WQ.thenExit ?_
    refine WQ.inHere ?_
    refine WQ.next ?_
    refine WC.seq ?_
    refine WC.seq ?_
    refine WC.region ?_
    refine WL.op rfl rfl (op_move rfl ?_)
    refine WL.op rfl rfl (op_lenA Try.underlying64 rfl (H1.arr hVA) ?_)
    refine WL.op rfl rfl (op_move rfl ?_)
    refine WL.op rfl rfl (op_leqN rfl rfl ?_)
    refine WL.op rfl rfl (op_move rfl ?_)
    refine WL.yes rfl rfl rfl (decide_eq_false (by omega)) rfl (op_move rfl ?_)
    refine WL.yes rfl rfl rfl (decide_eq_false (by omega)) rfl (op_move rfl ?_)
    refine WL.yes rfl rfl rfl (decide_eq_false (by omega)) rfl (op_indexAddr1 Try.underlying64 Fa.I22 rfl (H1.arr hVA) rfl (by omega) ?_)
    refine WL.yes rfl rfl rfl (decide_eq_false (by omega)) rfl (op_load rfl ((H1.arr hVA).at (get_map vU32 0 (Arr.ltM (H1.arr hVA) (by omega)))) Try.underlying22 rfl ?_)
    refine WL.yes rfl rfl rfl (decide_eq_false (by omega)) rfl (op_move rfl ?_)
    refine WL.yes rfl rfl rfl (decide_eq_false (by omega)) rfl (op_neqU32 rfl rfl ?_)
    refine WL.op rfl rfl (op_pickF rfl (decide_eq_false (by omega)) rfl ?_)
    refine WL.nil ?_
    refine WQ.next ?_
    refine WC.cond rfl (fun (hb4 : (decide ((a.getD n 0) ≠ p)) = true) => ?_) (fun (hb4 : (decide ((a.getD n 0) ≠ p)) = false) => ?_)
    ·
      have hc4 := of_decide_eq_true hb4
      refine WC.seq ?_
      refine WC.region ?_
      refine WL.op rfl rfl (op_move rfl ?_)
      refine WL.op rfl rfl (op_lenA Try.underlying64 rfl (H1.arr hVA) ?_)
      refine WL.op rfl rfl (op_move rfl ?_)
      refine WL.op rfl rfl (op_gtrN rfl rfl ?_)
      refine WL.op rfl rfl (op_move rfl ?_)
      refine WL.yes rfl rfl rfl (decide_eq_true (by omega)) rfl (op_move rfl ?_)
      refine WL.yes rfl rfl rfl (decide_eq_true (by omega)) rfl (op_move rfl ?_)
      refine WL.yes rfl rfl rfl (decide_eq_true (by omega)) rfl (op_indexAddr1 Try.underlying64 Fa.I22 rfl (H1.arr hVA) rfl (by omega) ?_)
      refine WL.yes rfl rfl rfl (decide_eq_true (by omega)) rfl (op_load rfl ((H1.arr hVA).at (get_map vU32 0 (Arr.ltM (H1.arr hVA) (by omega)))) Try.underlying22 rfl ?_)
      refine WL.yes rfl rfl rfl (decide_eq_true (by omega)) rfl (op_move rfl ?_)
      refine WL.yes rfl rfl rfl (decide_eq_true (by omega)) rfl (op_gtrU32 rfl rfl ?_)
      refine WL.op rfl rfl (op_pickT rfl (decide_eq_true (by omega)) rfl ?_)
      refine WL.op rfl rfl (op_assign rfl ?_)
      refine WL.nil ?_
      refine WQ.next ?_
      refine WC.ret ?_
      refine WQ.thenRet ?_
      refine WQ.out (.tmp rfl .nil) ?_
      exact ⟨by rw [aboveB_2 hz (by omega) hc4]; rfl, H1.fr⟩
    ·
      have hc4 := of_decide_eq_false hb4
      have hn0 := Decidable.not_not.mp hc4
      refine WC.skip ?_
      refine WQ.next ?_
      refine WC.seq ?_
      refine WC.seq ?_
      refine WC.region ?_
      refine WL.op rfl rfl (op_assign rfl ?_)
      refine WL.nil ?_
      refine WQ.next ?_
      refine WC.block ?_
      refine WC.loop (α := Nat) (fun k => [(0, va), (2, (vN n)), (8, (vN k))]) (fun k w' => (k ≤ n ∧ ∀ q, q < k → a.getD q 0 = 0) ∧ Own [] w w' []) (fun k => n - k) 0 ⟨⟨Nat.zero_le _, fun q h => by omega⟩, H1⟩ ⟨rfl, rfl, rfl, trivial⟩ ?_
      rintro k w5 ⟨⟨hk1, hk2⟩, H5⟩
      show WC _ _ _ _ _ [(0, va), (2, (vN n)), (8, (vN k))] _
      refine WC.seq ?_
      refine WC.seq ?_
      refine WC.region ?_
      refine WL.op rfl rfl (op_move rfl ?_)
      refine WL.op rfl rfl (op_move rfl ?_)
      refine WL.op rfl rfl (op_lssN rfl rfl ?_)
      refine WL.nil ?_
      refine WQ.next ?_
      refine WC.cond rfl (fun (hb6 : (decide (k < n)) = true) => ?_) (fun (hb6 : (decide (k < n)) = false) => ?_)
      ·
        have hc6 := of_decide_eq_true hb6
        refine WC.skip ?_
        refine WQ.next ?_
        refine WC.seq ?_
        refine WC.block ?_
        refine WC.seq ?_
        refine WC.region ?_
        refine WL.op rfl rfl (op_move rfl ?_)
        refine WL.op rfl rfl (op_move rfl ?_)
        refine WL.op rfl rfl (op_indexAddr1 Try.underlying64 Fa.I22 rfl (H5.arr hVA) rfl (by omega) ?_)
        refine WL.op rfl rfl (op_load rfl ((H5.arr hVA).at (get_map vU32 0 (Arr.ltM (H5.arr hVA) (by omega)))) Try.underlying22 rfl ?_)
        refine WL.op rfl rfl (op_neqU32 (b := 0) rfl rfl ?_)
        refine WL.nil ?_
        refine WQ.next ?_
        refine WC.cond rfl (fun (hb7 : (decide ((a.getD k 0) ≠ (0 : UInt32))) = true) => ?_) (fun (hb7 : (decide ((a.getD k 0) ≠ (0 : UInt32))) = false) => ?_)
        ·
          have hc7 := of_decide_eq_true hb7
          refine WC.seq ?_
          refine WC.region ?_
          refine WL.op rfl rfl (op_assign rfl ?_)
          refine WL.nil ?_
          refine WQ.next ?_
          refine WC.ret ?_
          refine WQ.inRet ?_
          refine WQ.thenRet ?_
          refine WQ.thenRet ?_
          refine WQ.inRet ?_
          refine WQ.thenRet ?_
          refine WQ.out (.tmp rfl .nil) ?_
          exact ⟨by rw [aboveB_3 hz (by omega) hn0, anyN_out a 0 n k (by omega) (by omega) (by omega) hc7]; rfl, H5.fr⟩
        ·
          have hc7 := of_decide_eq_false hb7
          refine WC.skip ?_
          refine WQ.inNormal ?_
          refine WQ.next ?_
          refine WC.region ?_
          refine WL.op rfl rfl (op_move rfl ?_)
          refine WL.op rfl rfl (op_addN (b := 1) rfl rfl (by omega) ?_)
          refine WL.op rfl rfl (op_assign rfl ?_)
          refine WL.nil ?_
          exact WQ.round (k + 1) ⟨⟨by omega, fun q h1 => (by rcases Nat.lt_or_ge q k with h | h; exact hk2 q h; rw [show q = k by omega]; exact Decidable.not_not.mp hc7)⟩, H5⟩ ⟨rfl, rfl, rfl, trivial⟩ (by omega)
      ·
        have hc6 := of_decide_eq_false hb6
        refine WC.exit ?_
        refine WQ.thenExit ?_
        refine WQ.thenExit ?_
        refine WQ.inHere ?_
        refine WQ.next ?_
        refine WC.seq ?_
        refine WC.region ?_
        refine WL.op rfl rfl (op_assign rfl ?_)
        refine WL.nil ?_
        refine WQ.next ?_
        refine WC.ret ?_
        refine WQ.out (.tmp rfl .nil) ?_
        exact ⟨by rw [aboveB_3 hz (by omega) hn0, anyN_no a 0 n (fun q _ h1 _ => hk2 q (by omega))]; rfl, H5.fr⟩
set_option maxRecDepth 100000 in
theorem root_ok (p : UInt32) (n : Nat) (w : World) (hn : 2 ≤ n ∧ n ≤ 3) :
    Calls Try.prog 147 #[(vU32 p), (vN n)] w (fun e w' => e = .returned (vU32 (rootV p n)) ∧ Fr [] w w') := by
  refine enter (args := [(vU32 p), (vN n)]) Try.func147 rfl rfl ?_
  have H0 : Own [] w w [] := Own.start w []
  refine WC.seq ?_
  refine WC.region ?_
  refine WL.op rfl rfl (op_assign rfl ?_)
  refine WL.nil ?_
  refine WQ.next ?_
  refine WC.seq ?_
  refine WC.region ?_
  refine WL.op rfl rfl (op_assign rfl ?_)
  refine WL.nil ?_
  refine WQ.next ?_
  refine WC.seq ?_
  refine WC.seq ?_
  refine WC.region ?_
  refine WL.op rfl rfl (op_assign rfl ?_)
  refine WL.nil ?_
  refine WQ.next ?_
  refine WC.block ?_
  refine WC.loop (α := Nat) (fun j => [(0, (vU32 p)), (1, (vN n)), (5, (vU64 (rootTo p n j))), (6, (vI ((36 : Int) - (j : Int))))]) (fun j w' => (j ≤ 37) ∧ Own [] w w' []) (fun j => 37 - j) 0 ⟨(by omega), H0⟩ ⟨rfl, rfl, rfl, rfl, trivial⟩ ?_
  rintro j w1 ⟨hinv, H1⟩
  show WC _ _ _ _ _ [(0, (vU32 p)), (1, (vN n)), (5, (vU64 (rootTo p n j))), (6, (vI ((36 : Int) - (j : Int))))] _
  refine WC.seq ?_
  refine WC.seq ?_
  refine WC.region ?_
  refine WL.op rfl rfl (op_move rfl ?_)
  refine WL.op rfl rfl (op_geqI (b := (0 : Int)) rfl rfl ?_)
  refine WL.nil ?_
  refine WQ.next ?_
  refine WC.cond rfl (fun (hb2 : (decide (((36 : Int) - (j : Int)) ≥ (0 : Int))) = true) => ?_) (fun (hb2 : (decide (((36 : Int) - (j : Int)) ≥ (0 : Int))) = false) => ?_)
  ·
    have hc2 := of_decide_eq_true hb2
    rw [show ((36 : Int) - (j : Int)) = ((36 - j : Nat) : Int) from by omega]
    refine WC.skip ?_
    refine WQ.next ?_
    refine WC.seq ?_
    refine WC.block ?_
    refine WC.seq ?_
    refine WC.region ?_
    refine WL.op rfl rfl (op_move rfl ?_)
    refine WL.op rfl rfl (op_move rfl ?_)
    refine WL.op rfl rfl (op_convNU64 (hs := Try.underlying3) (hd := Try.underlying165) rfl ?_)
    refine WL.op rfl rfl (op_shlU64 (a := 1) rfl rfl ?_)
    refine WL.op rfl rfl (op_addU64 rfl rfl ?_)
    refine WL.op rfl rfl (op_assign rfl ?_)
    refine WL.nil ?_
    refine WQ.next ?_
    refine WC.seq ?_
    refine WC.region ?_
    refine WL.op rfl rfl (op_move rfl ?_)
    refine WL.op rfl rfl (op_remU64 (b := 4294967296) rfl rfl (by decide) ?_)
    refine WL.op rfl rfl (op_convU64U32 (hs := Try.underlying116) (hd := Try.underlying22) rfl ?_)
    refine WL.op rfl rfl (op_move rfl ?_)
    refine WL.op rfl rfl (op_shrU64 (s := 32) rfl rfl ?_)
    refine WL.op rfl rfl (op_convU64U32 (hs := Try.underlying116) (hd := Try.underlying22) rfl ?_)
    refine WL.op rfl rfl (op_buildSlice (cs := [_, _]) H1 Try.underlying64 Fa.I22 rfl rfl rfl rfl (by decide) (by decide) (fun b3 w3 H3 => ?_))
    refine WL.op rfl rfl (op_assign rfl ?_)
    refine WL.nil ?_
    refine WQ.next ?_
    refine WC.seq ?_
    refine WC.region ?_
    refine WL.op rfl rfl (op_move rfl ?_)
    refine WL.op rfl rfl (op_assign rfl ?_)
    refine WL.nil ?_
    refine WQ.next ?_
    refine WC.seq ?_
    refine WC.seq ?_
    refine WC.region ?_
    refine WL.op rfl rfl (op_assign rfl ?_)
    refine WL.nil ?_
    refine WQ.next ?_
    refine WC.block ?_
    have H4 : Own [] w w3 [Ent.ar (.slice (some ⟨b3, 0, none⟩) 2 2) 1 2 (List.map vU32 [(UInt32.ofNat (((rootTo p n j) + (shlU64 1 (UInt64.ofNat (36 - j)).toNat)) % (4294967296 : UInt64)).toNat), (UInt32.ofNat (shrU64 ((rootTo p n j) + (shlU64 1 (UInt64.ofNat (36 - j)).toNat)) 32).toNat)])] := H3.freeze (i := 0) rfl
    have H5 : Own [] w w3 [Ent.ar (.slice (some ⟨b3, 0, none⟩) 2 2) 1 2 (List.map vU32 [(UInt32.ofNat (((rootTo p n j) + (shlU64 1 (UInt64.ofNat (36 - j)).toNat)) % (4294967296 : UInt64)).toNat), (UInt32.ofNat (shrU64 ((rootTo p n j) + (shlU64 1 (UInt64.ofNat (36 - j)).toNat)) 32).toNat)]), Ent.ar (.slice (some ⟨b3, 0, none⟩) 2 2) 1 2 (List.map vU32 [(UInt32.ofNat (((rootTo p n j) + (shlU64 1 (UInt64.ofNat (36 - j)).toNat)) % (4294967296 : UInt64)).toNat), (UInt32.ofNat (shrU64 ((rootTo p n j) + (shlU64 1 (UInt64.ofNat (36 - j)).toNat)) 32).toNat)])] := H4.dup (i := 0) rfl
    refine WC.loop (α := Nat × Value) (fun (k, v) => [(0, (vU32 p)), (1, (vN n)), (5, (vU64 (rootTo p n j))), (6, (vN (36 - j))), (7, (vU64 ((rootTo p n j) + (shlU64 1 (UInt64.ofNat (36 - j)).toNat)))), (8, (.slice (some ⟨b3, 0, none⟩) 2 2)), (9, v), (10, (vN (k + 1)))]) (fun (k, v) w' => (k + 1 ≤ n) ∧ Own [] w w' [Ent.ar (.slice (some ⟨b3, 0, none⟩) 2 2) 1 2 (List.map vU32 [(UInt32.ofNat (((rootTo p n j) + (shlU64 1 (UInt64.ofNat (36 - j)).toNat)) % (4294967296 : UInt64)).toNat), (UInt32.ofNat (shrU64 ((rootTo p n j) + (shlU64 1 (UInt64.ofNat (36 - j)).toNat)) 32).toNat)]), Ent.ar v 1 (2 * (k + 1)) (List.map vU32 (powTo (oneOf (rootY (rootTo p n j) j)) k))]) (fun (k, v) => n - k) (0, (.slice (some ⟨b3, 0, none⟩) 2 2)) ⟨(by omega), H5⟩ ⟨rfl, rfl, rfl, rfl, rfl, rfl, rfl, rfl, trivial⟩ ?_
    rintro ⟨k, v⟩ w6 ⟨hinv, H6⟩
    show WC _ _ _ _ _ [(0, (vU32 p)), (1, (vN n)), (5, (vU64 (rootTo p n j))), (6, (vN (36 - j))), (7, (vU64 ((rootTo p n j) + (shlU64 1 (UInt64.ofNat (36 - j)).toNat)))), (8, (.slice (some ⟨b3, 0, none⟩) 2 2)), (9, v), (10, (vN (k + 1)))] _
    refine WC.seq ?_
    refine WC.seq ?_
    refine WC.region ?_
    refine WL.op rfl rfl (op_move rfl ?_)
    refine WL.op rfl rfl (op_move rfl ?_)
    refine WL.op rfl rfl (op_lssN rfl rfl ?_)
    refine WL.nil ?_
    refine WQ.next ?_
    refine WC.cond rfl (fun (hb7 : (decide ((k + 1) < n)) = true) => ?_) (fun (hb7 : (decide ((k + 1) < n)) = false) => ?_)
    ·
      have hc7 := of_decide_eq_true hb7
      refine WC.skip ?_
      refine WQ.next ?_
      refine WC.seq ?_
      refine WC.block ?_
      refine WC.region ?_
      refine WL.op rfl rfl (op_move rfl ?_)
      refine WL.op rfl rfl (op_move rfl ?_)
      refine WL.op rfl rfl (op_callF Fa.C153 rfl ((mul_ok _ _ (powTo (oneOf (rootY (rootTo p n j) j)) k) ([(UInt32.ofNat (((rootTo p n j) + (shlU64 1 (UInt64.ofNat (36 - j)).toNat)) % (4294967296 : UInt64)).toNat), (UInt32.ofNat (shrU64 ((rootTo p n j) + (shlU64 1 (UInt64.ofNat (36 - j)).toNat)) 32).toNat)]) _ _ _ (H6.arrO (i := 1) rfl) (H6.arrO (i := 0) rfl) (by omega)).mono (fun e w8 hq => ?_)))
      obtain ⟨v8, rfl, hq8⟩ := hq
      refine ⟨_, rfl, ?_⟩
      have H8 : Own [] w w8 [Ent.ar (.slice (some ⟨b3, 0, none⟩) 2 2) 1 2 (List.map vU32 [(UInt32.ofNat (((rootTo p n j) + (shlU64 1 (UInt64.ofNat (36 - j)).toNat)) % (4294967296 : UInt64)).toNat), (UInt32.ofNat (shrU64 ((rootTo p n j) + (shlU64 1 (UInt64.ofNat (36 - j)).toNat)) 32).toNat)]), Ent.ar v 1 (2 * (k + 1)) (List.map vU32 (powTo (oneOf (rootY (rootTo p n j) j)) k)), .row v8 22 1 ((2 * (k + 1)) + 2) (List.map vU32 (mulL (powTo (oneOf (rootY (rootTo p n j) j)) k) [(UInt32.ofNat (((rootTo p n j) + (shlU64 1 (UInt64.ofNat (36 - j)).toNat)) % (4294967296 : UInt64)).toNat), (UInt32.ofNat (shrU64 ((rootTo p n j) + (shlU64 1 (UInt64.ofNat (36 - j)).toNat)) 32).toNat)]))] := H6.splice [] [] [.row v8 22 1 ((2 * (k + 1)) + 2) (List.map vU32 (mulL (powTo (oneOf (rootY (rootTo p n j) j)) k) [(UInt32.ofNat (((rootTo p n j) + (shlU64 1 (UInt64.ofNat (36 - j)).toNat)) % (4294967296 : UInt64)).toNat), (UInt32.ofNat (shrU64 ((rootTo p n j) + (shlU64 1 (UInt64.ofNat (36 - j)).toNat)) 32).toNat)]))] rfl rfl hq8 (Fits.solid True.intro Fits.nil)
      refine WL.op rfl rfl (op_assign rfl ?_)
      refine WL.nil ?_
      refine WQ.inNormal ?_
      refine WQ.next ?_
      refine WC.region ?_
      refine WL.op rfl rfl (op_move rfl ?_)
      refine WL.op rfl rfl (op_addN (b := 1) rfl rfl (by omega) ?_)
      refine WL.op rfl rfl (op_assign rfl ?_)
      refine WL.nil ?_
      have H9 : Own [] w w8 [Ent.ar (.slice (some ⟨b3, 0, none⟩) 2 2) 1 2 (List.map vU32 [(UInt32.ofNat (((rootTo p n j) + (shlU64 1 (UInt64.ofNat (36 - j)).toNat)) % (4294967296 : UInt64)).toNat), (UInt32.ofNat (shrU64 ((rootTo p n j) + (shlU64 1 (UInt64.ofNat (36 - j)).toNat)) 32).toNat)]), Ent.ar v 1 (2 * (k + 1)) (List.map vU32 (powTo (oneOf (rootY (rootTo p n j) j)) k)), Ent.ar v8 1 ((2 * (k + 1)) + 2) (List.map vU32 (mulL (powTo (oneOf (rootY (rootTo p n j) j)) k) [(UInt32.ofNat (((rootTo p n j) + (shlU64 1 (UInt64.ofNat (36 - j)).toNat)) % (4294967296 : UInt64)).toNat), (UInt32.ofNat (shrU64 ((rootTo p n j) + (shlU64 1 (UInt64.ofNat (36 - j)).toNat)) 32).toNat)]))] := H8.freeze (i := 2) rfl
      exact WQ.round (k + 1, v8) ⟨(by omega), (H9.sel [0, 2] rfl rfl)⟩ ⟨rfl, rfl, rfl, rfl, rfl, rfl, rfl, rfl, trivial⟩ (by show n - (k + 1) < n - k; omega)
    ·
      have hc7 := of_decide_eq_false hb7
      have hk : k = n - 1 := (by omega)
      subst hk
      refine WC.exit ?_
      refine WQ.thenExit ?_
      refine WQ.thenExit ?_
      refine WQ.inHere ?_
      refine WQ.next ?_
      refine WC.seq ?_
      refine WC.region ?_
      refine WL.op rfl rfl (op_move rfl ?_)
      refine WL.op rfl rfl (op_move rfl ?_)
      refine WL.op rfl rfl (op_move rfl ?_)
      refine WL.op rfl rfl (op_callF Fa.C154 rfl ((above_ok _ (powTo (oneOf (rootY (rootTo p n j) j)) (n - 1)) p _ n _ (H6.arrO (i := 1) rfl) (by omega) (by omega)).mono (fun e w10 hq => ?_)))
      obtain ⟨rfl, hf10⟩ := hq
      refine ⟨_, rfl, ?_⟩
      have H10 := H6.fr' hf10
      refine WL.op rfl rfl (op_not rfl ?_)
      refine WL.nil ?_
      refine WQ.next ?_
      refine WC.cond rfl (fun (hb11 : (!(aboveB (powTo (oneOf (rootY (rootTo p n j) j)) (n - 1)) p n)) = true) => ?_) (fun (hb11 : (!(aboveB (powTo (oneOf (rootY (rootTo p n j) j)) (n - 1)) p n)) = false) => ?_)
      ·
        have hn11 := (Bool.not_eq_true' _).mp hb11
        refine WC.region ?_
        refine WL.op rfl rfl (op_move rfl ?_)
        refine WL.op rfl rfl (op_assign rfl ?_)
        refine WL.nil ?_
        refine WQ.inNormal ?_
        refine WQ.next ?_
        refine WC.region ?_
        refine WL.op rfl rfl (op_move rfl ?_)
        refine WL.op rfl rfl (op_subI (a := (((36 - j) : Nat) : Int)) (b := ((1 : Nat) : Int)) rfl rfl (by omega) ?_)
        refine WL.op rfl rfl (op_assign rfl ?_)
        refine WL.nil ?_
        exact WQ.round (j + 1) ⟨(by omega), (H10.take 0)⟩ ⟨rfl, rfl, (by show some (vU64 (rootY (rootTo p n j) j)) = some (vU64 (rootTo p n (j + 1))); rw [rootTo, if_pos hb11]), (by show some (vI (((36 - j : Nat) : Int) - 1)) = some (vI ((36 : Int) - ((j + 1 : Nat) : Int))); congr 2; omega), trivial⟩ (by omega)
      ·
        have hn11 := (Bool.not_eq_false' _).mp hb11
        refine WC.skip ?_
        refine WQ.inNormal ?_
        refine WQ.next ?_
        refine WC.region ?_
        refine WL.op rfl rfl (op_move rfl ?_)
        refine WL.op rfl rfl (op_subI (a := (((36 - j) : Nat) : Int)) (b := ((1 : Nat) : Int)) rfl rfl (by omega) ?_)
        refine WL.op rfl rfl (op_assign rfl ?_)
        refine WL.nil ?_
        exact WQ.round (j + 1) ⟨(by omega), (H10.take 0)⟩ ⟨rfl, rfl, (by show some (vU64 (rootTo p n j)) = some (vU64 (rootTo p n (j + 1))); rw [rootTo, if_neg (by rw [hb11]; decide)]), (by show some (vI (((36 - j : Nat) : Int) - 1)) = some (vI ((36 : Int) - ((j + 1 : Nat) : Int))); congr 2; omega), trivial⟩ (by omega)
  ·
    have hc2 := of_decide_eq_false hb2
    refine WC.exit ?_
    refine WQ.thenExit ?_
    refine WQ.thenExit ?_
    refine WQ.inHere ?_
    refine WQ.next ?_
    refine WC.seq ?_
    refine WC.region ?_
    refine WL.op rfl rfl (op_move rfl ?_)
    refine WL.op rfl rfl (op_remU64 (b := 4294967296) rfl rfl (by decide) ?_)
    refine WL.op rfl rfl (op_convU64U32 (hs := Try.underlying116) (hd := Try.underlying22) rfl ?_)
    refine WL.op rfl rfl (op_assign rfl ?_)
    refine WL.nil ?_
    refine WQ.next ?_
    refine WC.ret ?_
    refine WQ.out (.tmp rfl .nil) ?_
    exact ⟨by have hj : j = 37 := (by omega); subst hj; rfl, H1.fr⟩
set_option maxRecDepth 100000 in
theorem primes_ok (n : Nat) (w : World) (hn : n ≤ 64) :
    Calls Try.prog 146 #[(vN n)] w (fun e w' => ∃ v, e = .returned v ∧ Own [] w w' [.row v 22 1 n (List.map vU32 (prs n))]) := by
  refine enter (args := [(vN n)]) Try.func146 rfl rfl ?_
  have H0 : Own [] w w [] := Own.start w []
  refine WC.seq ?_
  refine WC.region ?_
  refine WL.op rfl rfl (op_assign rfl ?_)
  refine WL.nil ?_
  refine WQ.next ?_
  refine WC.seq ?_
  refine WC.region ?_
  refine WL.op rfl rfl (op_assign rfl ?_)
  have H1 := H0.nilRow 22 1
  refine WL.nil ?_
  refine WQ.next ?_
  refine WC.seq ?_
  refine WC.seq ?_
  refine WC.region ?_
  refine WL.op rfl rfl (op_assign rfl ?_)
  refine WL.nil ?_
  refine WQ.next ?_
  refine WC.block ?_
  refine WC.loop (α := Nat × Value) (fun (j, v) => [(0, (vN n)), (3, v), (4, (vU32 (2 + UInt32.ofNat j)))]) (fun (j, v) w' => (j ≤ 310 ∧ (prL j).length ≤ n) ∧ Own [] w w' [.row v 22 1 (prL j).length (List.map vU32 (prL j))]) (fun (j, v) => 310 - j) (0, (.slice none 0 0)) ⟨⟨by omega, Nat.zero_le _⟩, H1⟩ ⟨rfl, rfl, rfl, trivial⟩ ?_
  rintro ⟨j, v⟩ w2 ⟨⟨hj1, hj2⟩, H2⟩
  show WC _ _ _ _ _ [(0, (vN n)), (3, v), (4, (vU32 (2 + UInt32.ofNat j)))] _
  refine WC.seq ?_
  refine WC.seq ?_
  refine WC.region ?_
  refine WL.op rfl rfl (op_move rfl ?_)
  refine WL.op rfl rfl (op_lenA Try.underlying64 rfl (H2.arrR (i := 0) rfl) ?_)
  refine WL.op rfl rfl (op_move rfl ?_)
  refine WL.op rfl rfl (op_lssN rfl rfl ?_)
  refine WL.nil ?_
  refine WQ.next ?_
  refine WC.cond rfl (fun (hb3 : (decide ((prL j).length < n)) = true) => ?_) (fun (hb3 : (decide ((prL j).length < n)) = false) => ?_)
  ·
    have hc3 := of_decide_eq_true hb3
    have hlt := prL_lt j (by omega)
    refine WC.skip ?_
    refine WQ.next ?_
    refine WC.seq ?_
    refine WC.block ?_
    refine WC.seq ?_
    refine WC.region ?_
    refine WL.op rfl rfl (op_assign rfl ?_)
    refine WL.nil ?_
    refine WQ.next ?_
    refine WC.seq ?_
    refine WC.seq ?_
    refine WC.region ?_
    refine WL.op rfl rfl (op_assign rfl ?_)
    refine WL.nil ?_
    refine WQ.next ?_
    refine WC.block ?_
    refine WC.loop (α := Nat) (fun k => [(0, (vN n)), (3, v), (4, (vU32 (2 + UInt32.ofNat j))), (5, (.bool (isPr (prL j) (2 + UInt32.ofNat j) k))), (6, (vN k))]) (fun k w' => (k ≤ (prL j).length) ∧ Own [] w w' [.row v 22 1 (prL j).length (List.map vU32 (prL j))]) (fun k => (prL j).length - k) 0 ⟨(by omega), H2⟩ ⟨rfl, rfl, rfl, rfl, rfl, trivial⟩ ?_
    rintro k w4 ⟨hinv, H4⟩
    show WC _ _ _ _ _ [(0, (vN n)), (3, v), (4, (vU32 (2 + UInt32.ofNat j))), (5, (.bool (isPr (prL j) (2 + UInt32.ofNat j) k))), (6, (vN k))] _
    refine WC.seq ?_
    refine WC.seq ?_
    refine WC.region ?_
    refine WL.op rfl rfl (op_move rfl ?_)
    refine WL.op rfl rfl (op_move rfl ?_)
    refine WL.op rfl rfl (op_lenA Try.underlying64 rfl (H4.arrR (i := 0) rfl) ?_)
    refine WL.op rfl rfl (op_lssN rfl rfl ?_)
    refine WL.nil ?_
    refine WQ.next ?_
    refine WC.cond rfl (fun (hb5 : (decide (k < (prL j).length)) = true) => ?_) (fun (hb5 : (decide (k < (prL j).length)) = false) => ?_)
    ·
      have hc5 := of_decide_eq_true hb5
      refine WC.skip ?_
      refine WQ.next ?_
      refine WC.seq ?_
      refine WC.block ?_
      refine WC.region ?_
      refine WL.op rfl rfl (op_move rfl ?_)
      refine WL.op rfl rfl (op_move rfl ?_)
      refine WL.split (t := 20) rfl (fun (hb6 : (isPr (prL j) (2 + UInt32.ofNat j) k) = true) => ?_) (fun (hb6 : (isPr (prL j) (2 + UInt32.ofNat j) k) = false) => ?_)
      ·
        refine WL.yes rfl rfl rfl hb6 rfl (op_move rfl ?_)
        refine WL.yes rfl rfl rfl hb6 rfl (op_move rfl ?_)
        refine WL.yes rfl rfl rfl hb6 rfl (op_move rfl ?_)
        refine WL.yes rfl rfl rfl hb6 rfl (op_indexAddr1 Try.underlying64 Fa.I22 rfl (H4.arrR (i := 0) rfl) rfl (by omega) ?_)
        refine WL.yes rfl rfl rfl hb6 rfl (op_load rfl ((H4.arrR (i := 0) rfl).at (get_map vU32 0 (Arr.ltM (H4.arrR (i := 0) rfl) (by omega)))) Try.underlying22 rfl ?_)
        refine WL.yes rfl rfl rfl hb6 rfl (op_remU32 rfl rfl (prL_gnz j (by omega) (by omega)) ?_)
        refine WL.yes rfl rfl rfl hb6 rfl (op_neqU32 (b := 0) rfl rfl ?_)
        refine WL.op rfl rfl (op_pickT rfl hb6 rfl ?_)
        refine WL.op rfl rfl (op_assign rfl ?_)
        refine WL.nil ?_
        refine WQ.inNormal ?_
        refine WQ.next ?_
        refine WC.region ?_
        refine WL.op rfl rfl (op_move rfl ?_)
        refine WL.op rfl rfl (op_addN (b := 1) rfl rfl (by omega) ?_)
        refine WL.op rfl rfl (op_assign rfl ?_)
        refine WL.nil ?_
        exact WQ.round (k + 1) ⟨(by omega), H4⟩ ⟨rfl, rfl, rfl, (by rw [isPr, hb6]; rfl), rfl, trivial⟩ (by omega)
      ·
        refine WL.no rfl rfl rfl hb6 rfl ?_
        refine WL.no rfl rfl rfl hb6 rfl ?_
        refine WL.no rfl rfl rfl hb6 rfl ?_
        refine WL.no rfl rfl rfl hb6 rfl ?_
        refine WL.no rfl rfl rfl hb6 rfl ?_
        refine WL.no rfl rfl rfl hb6 rfl ?_
        refine WL.no rfl rfl rfl hb6 rfl ?_
        refine WL.op rfl rfl (op_pickF rfl hb6 rfl ?_)
        refine WL.op rfl rfl (op_assign rfl ?_)
        refine WL.nil ?_
        refine WQ.inNormal ?_
        refine WQ.next ?_
        refine WC.region ?_
        refine WL.op rfl rfl (op_move rfl ?_)
        refine WL.op rfl rfl (op_addN (b := 1) rfl rfl (by omega) ?_)
        refine WL.op rfl rfl (op_assign rfl ?_)
        refine WL.nil ?_
        exact WQ.round (k + 1) ⟨(by omega), H4⟩ ⟨rfl, rfl, rfl, (by rw [isPr, hb6]; rfl), rfl, trivial⟩ (by omega)
    ·
      have hc5 := of_decide_eq_false hb5
      have hk : k = (prL j).length := (by omega)
      subst hk
      refine WC.exit ?_
      refine WQ.thenExit ?_
      refine WQ.thenExit ?_
      refine WQ.inHere ?_
      refine WQ.next ?_
      refine WC.seq ?_
      refine WC.region ?_
      refine WL.op rfl rfl (op_move rfl ?_)
      refine WL.nil ?_
      refine WQ.next ?_
      refine WC.cond rfl (fun (hb7 : (isPr (prL j) (2 + UInt32.ofNat j) (prL j).length) = true) => ?_) (fun (hb7 : (isPr (prL j) (2 + UInt32.ofNat j) (prL j).length) = false) => ?_)
      ·
        refine WC.region ?_
        refine WL.op rfl rfl (op_move rfl ?_)
        refine WL.op rfl rfl (op_move rfl ?_)
        refine WL.op rfl rfl (op_buildSlice (cs := [_]) H4 Try.underlying64 Fa.I22 rfl rfl rfl rfl (by decide) (by decide) (fun b8 w8 H8 => ?_))
        refine WL.op rfl rfl (op_appendM (f := vU32) (l := (prL j)) (l' := [(2 + UInt32.ofNat j)]) (i := 0) H8 Try.underlying64 Fa.I22 rfl rfl rfl rfl (Src.ofArr Try.underlying64 (H8.arrR (i := 1) rfl)) (one_mapM (fun _ => rfl)) (by omega) (by omega) (fun v9 w9 H9 => ?_))
        refine WL.op rfl rfl (op_assign rfl ?_)
        refine WL.nil ?_
        refine WQ.inNormal ?_
        refine WQ.next ?_
        refine WC.region ?_
        refine WL.op rfl rfl (op_move rfl ?_)
        refine WL.op rfl rfl (op_addU32 (b := 1) rfl rfl ?_)
        refine WL.op rfl rfl (op_assign rfl ?_)
        refine WL.nil ?_
        exact WQ.round (j + 1, v9) ⟨⟨by omega, by have := prL_le1 j; omega⟩, (Own.rowEqN (i := 0) (f := vU32) (l' := prL (j + 1)) (m' := (prL (j + 1)).length) (H9.take 1) rfl (by rw [prL, if_pos hb7]) (by rw [prL, if_pos hb7, List.length_append]; rfl))⟩ ⟨rfl, rfl, (congrArg (fun x => some (vU32 x)) (u32_next j)), trivial⟩ (by show 310 - (j + 1) < 310 - j; omega)
      ·
        refine WC.skip ?_
        refine WQ.inNormal ?_
        refine WQ.next ?_
        refine WC.region ?_
        refine WL.op rfl rfl (op_move rfl ?_)
        refine WL.op rfl rfl (op_addU32 (b := 1) rfl rfl ?_)
        refine WL.op rfl rfl (op_assign rfl ?_)
        refine WL.nil ?_
        exact WQ.round (j + 1, v) ⟨⟨by omega, by have := prL_le1 j; omega⟩, (Own.rowEqN (i := 0) (f := vU32) (l' := prL (j + 1)) (m' := (prL (j + 1)).length) H4 rfl (by rw [prL, if_neg (by rw [hb7]; decide)]) (by rw [prL, if_neg (by rw [hb7]; decide)]))⟩ ⟨rfl, rfl, (congrArg (fun x => some (vU32 x)) (u32_next j)), trivial⟩ (by show 310 - (j + 1) < 310 - j; omega)
  ·
    have hc3 := of_decide_eq_false hb3
    refine WC.exit ?_
    refine WQ.thenExit ?_
    refine WQ.thenExit ?_
    refine WQ.inHere ?_
    refine WQ.next ?_
    refine WC.seq ?_
    refine WC.region ?_
    refine WL.op rfl rfl (op_move rfl ?_)
    refine WL.op rfl rfl (op_assign rfl ?_)
    refine WL.nil ?_
    refine WQ.next ?_
    refine WC.ret ?_
    refine WQ.out (.tmp rfl .nil) ?_
    exact ⟨_, rfl, Own.rowEqN (i := 0) (f := vU32) H2 rfl (prL_end j hj1 (by omega)) (by omega)⟩
set_option maxRecDepth 100000 in
theorem roots_ok (m n : Nat) (w : World) (hm : m ≤ 64) (hn : 2 ≤ n ∧ n ≤ 3) :
    Calls Try.prog 136 #[(vN m), (vN n)] w (fun e w' => ∃ v, e = .returned v ∧ Own [] w w' [.row v 22 1 m (List.map vU32 (rootsTo m n m))]) := by
  refine enter (args := [(vN m), (vN n)]) Try.func136 rfl rfl ?_
  have H0 : Own [] w w [] := Own.start w []
  refine WC.seq ?_
  refine WC.region ?_
  refine WL.op rfl rfl (op_assign rfl ?_)
  refine WL.nil ?_
  refine WQ.next ?_
  refine WC.seq ?_
  refine WC.region ?_
  refine WL.op rfl rfl (op_move rfl ?_)
  refine WL.op rfl rfl (op_callF Fa.C146 rfl ((primes_ok m _ (by omega)).mono (fun e w1 hq => ?_)))
  obtain ⟨v1, rfl, hq1⟩ := hq
  refine ⟨_, rfl, ?_⟩
  have H1 : Own [] w w1 [.row v1 22 1 m (List.map vU32 (prs m))] := H0.splice [] [] [.row v1 22 1 m (List.map vU32 (prs m))] rfl rfl hq1 (Fits.solid True.intro Fits.nil)
  refine WL.op rfl rfl (op_assign rfl ?_)
  refine WL.nil ?_
  refine WQ.next ?_
  refine WC.seq ?_
  refine WC.region ?_
  refine WL.op rfl rfl (op_assign rfl ?_)
  have H2 := H1.nilRow 22 1
  refine WL.nil ?_
  refine WQ.next ?_
  refine WC.seq ?_
  refine WC.seq ?_
  refine WC.region ?_
  refine WL.op rfl rfl (op_assign rfl ?_)
  refine WL.nil ?_
  refine WQ.next ?_
  refine WC.block ?_
  refine WC.loop (α := Nat × Value) (fun (k, v) => [(0, (vN m)), (1, (vN n)), (5, v1), (6, v), (7, (vN k))]) (fun (k, v) w' => (k ≤ m) ∧ Own [] w w' [.row v1 22 1 m (List.map vU32 (prs m)), .row v 22 1 k (List.map vU32 (rootsTo m n k))]) (fun (k, v) => m - k) (0, (.slice none 0 0)) ⟨(by omega), H2⟩ ⟨rfl, rfl, rfl, rfl, rfl, trivial⟩ ?_
  rintro ⟨k, v⟩ w3 ⟨hinv, H3⟩
  show WC _ _ _ _ _ [(0, (vN m)), (1, (vN n)), (5, v1), (6, v), (7, (vN k))] _
  refine WC.seq ?_
  refine WC.seq ?_
  refine WC.region ?_
  refine WL.op rfl rfl (op_move rfl ?_)
  refine WL.op rfl rfl (op_move rfl ?_)
  refine WL.op rfl rfl (op_lssN rfl rfl ?_)
  refine WL.nil ?_
  refine WQ.next ?_
  refine WC.cond rfl (fun (hb4 : (decide (k < m)) = true) => ?_) (fun (hb4 : (decide (k < m)) = false) => ?_)
  ·
    have hc4 := of_decide_eq_true hb4
    refine WC.skip ?_
    refine WQ.next ?_
    refine WC.seq ?_
    refine WC.block ?_
    refine WC.region ?_
    refine WL.op rfl rfl (op_move rfl ?_)
    refine WL.op rfl rfl (op_move rfl ?_)
    refine WL.op rfl rfl (op_move rfl ?_)
    refine WL.op rfl rfl (op_indexAddr1 Try.underlying64 Fa.I22 rfl (H3.arrR (i := 0) rfl) rfl (by omega) ?_)
    refine WL.op rfl rfl (op_load rfl ((H3.arrR (i := 0) rfl).at (get_map vU32 0 (Arr.ltM (H3.arrR (i := 0) rfl) (by omega)))) Try.underlying22 rfl ?_)
    refine WL.op rfl rfl (op_move rfl ?_)
    refine WL.op rfl rfl (op_callF Fa.C147 rfl ((root_ok ((prs m).getD k 0) n _ (by omega)).mono (fun e w5 hq => ?_)))
    obtain ⟨rfl, hf5⟩ := hq
    refine ⟨_, rfl, ?_⟩
    have H5 := H3.fr' hf5
    refine WL.op rfl rfl (op_buildSlice (cs := [_]) H5 Try.underlying64 Fa.I22 rfl rfl rfl rfl (by decide) (by decide) (fun b6 w6 H6 => ?_))
    refine WL.op rfl rfl (op_appendM (f := vU32) (l := (rootsTo m n k)) (l' := [(rootV ((prs m).getD k 0) n)]) (i := 1) H6 Try.underlying64 Fa.I22 rfl rfl rfl rfl (Src.ofArr Try.underlying64 (H6.arrR (i := 2) rfl)) (one_mapM (fun _ => rfl)) (by omega) (by omega) (fun v7 w7 H7 => ?_))
    refine WL.op rfl rfl (op_assign rfl ?_)
    refine WL.nil ?_
    refine WQ.inNormal ?_
    refine WQ.next ?_
    refine WC.region ?_
    refine WL.op rfl rfl (op_move rfl ?_)
    refine WL.op rfl rfl (op_addN (b := 1) rfl rfl (by omega) ?_)
    refine WL.op rfl rfl (op_assign rfl ?_)
    refine WL.nil ?_
    exact WQ.round (k + 1, v7) ⟨(by omega), (H7.take 2)⟩ ⟨rfl, rfl, rfl, rfl, rfl, trivial⟩ (by show m - (k + 1) < m - k; omega)
  ·
    have hc4 := of_decide_eq_false hb4
    refine WC.exit ?_
    refine WQ.thenExit ?_
    refine WQ.thenExit ?_
    refine WQ.inHere ?_
    refine WQ.next ?_
    refine WC.seq ?_
    refine WC.region ?_
    refine WL.op rfl rfl (op_move rfl ?_)
    refine WL.op rfl rfl (op_assign rfl ?_)
    refine WL.nil ?_
    refine WQ.next ?_
    refine WC.ret ?_
    refine WQ.out (.tmp rfl .nil) ?_
    exact ⟨_, rfl, (by have hk : k = m := (by omega); subst hk; exact H3.sel [1] rfl rfl)⟩
theorem roots8_ok (w : World) : Calls Try.prog 136 #[vN 8, vN 2] w (fun e w' => ∃ v, e = .returned v ∧ Own [] w w' [.row v 22 1 8 (List.map vU32 firstS.vals)]) :=
  (roots_ok 8 2 w (by decide) (by decide)).mono fun e w' ⟨v, h1, h2⟩ => ⟨v, h1, by rw [← roots8]; exact h2⟩
theorem roots64_ok (w : World) : Calls Try.prog 136 #[vN 64, vN 3] w (fun e w' => ∃ v, e = .returned v ∧ Own [] w w' [.row v 22 1 64 (List.map vU32 keyL)]) :=
  (roots_ok 64 3 w (by decide) (by decide)).mono fun e w' ⟨v, h1, h2⟩ => ⟨v, h1, by rw [← roots64]; exact h2⟩
set_option maxRecDepth 100000 in
theorem rturn_ok (x : UInt32) (m : Nat) (hm : m ≤ 32) (w : World) :
    Calls Try.prog 149 #[(vU32 x), (vU64 (UInt64.ofNat m))] w (fun e w' => e = .returned (vU32 (rot x m)) ∧ Fr [] w w') := by
  refine enter (args := [(vU32 x), (vU64 (UInt64.ofNat m))]) Try.func149 rfl rfl ?_
  have H0 : Own [] w w [] := Own.start w []
  refine WC.seq ?_
  refine WC.region ?_
  refine WL.op rfl rfl (op_assign rfl ?_)
  refine WL.nil ?_
  refine WQ.next ?_
  refine WC.seq ?_
  refine WC.region ?_
  refine WL.op rfl rfl (op_move rfl ?_)
  refine WL.op rfl rfl (op_move rfl ?_)
  refine WL.op rfl rfl (op_shrU32 rfl rfl ?_)
  refine WL.op rfl rfl (op_move rfl ?_)
  refine WL.op rfl rfl (op_move rfl ?_)
  refine WL.op rfl rfl (op_subU64 (a := 32) rfl rfl ?_)
  refine WL.op rfl rfl (op_shlU32 rfl rfl ?_)
  refine WL.op rfl rfl (op_orU32 rfl rfl ?_)
  refine WL.op rfl rfl (op_assign rfl ?_)
  refine WL.nil ?_
  refine WQ.next ?_
  refine WC.ret ?_
  refine WQ.out (.tmp rfl .nil) ?_
  exact ⟨by rw [u64_32 hm, u64_nat (by omega)]; rfl, H0.fr⟩
set_option maxRecDepth 100000 in
theorem filled_ok (s : List UInt8) (w : World) (hs : s.length < 2 ^ 40) :
    Calls Try.prog 137 #[(str s)] w (fun e w' => ∃ v, e = .returned v ∧ Own [] w w' [.row v 5 1 (s ++ pads s.length).length (List.map vU8 (s ++ pads s.length))]) := by
  refine enter (args := [(str s)]) Try.func137 rfl rfl ?_
  have H0 : Own [] w w [] := Own.start w []
  have hp0 : padZ s.length = (119 - s.length % 64) % 64 := rfl
  refine WC.seq ?_
  refine WC.region ?_
  refine WL.op rfl rfl (op_assign rfl ?_)
  refine WL.nil ?_
  refine WQ.next ?_
  refine WC.seq ?_
  refine WC.region ?_
  refine WL.op rfl rfl (op_move rfl ?_)
  refine WL.op rfl rfl (op_strBytes H0 Try.underlying9 Try.underlying5 Try.underlying73 rfl (by omega) (fun v1 w1 H1 => ?_))
  refine WL.op rfl rfl (op_buildSlice (cs := [_]) H1 Try.underlying73 Fa.I5 rfl rfl rfl rfl (by decide) (by decide) (fun b2 w2 H2 => ?_))
  refine WL.op rfl rfl (op_appendM (f := vU8) (l := s) (l' := [128]) (i := 0) H2 Try.underlying73 Fa.I5 rfl rfl rfl rfl (Src.ofArr Try.underlying73 (H2.arrR (i := 1) rfl)) (one_mapM (fun _ => rfl)) (by omega) (by omega) (fun v3 w3 H3 => ?_))
  refine WL.op rfl rfl (op_assign rfl ?_)
  refine WL.nil ?_
  refine WQ.next ?_
  refine WC.seq ?_
  refine WC.block ?_
  refine WC.loop (α := Nat × Value) (fun (k, v) => [(0, (str s)), (3, v)]) (fun (k, v) w' => (k ≤ padZ s.length) ∧ Own [] w w' [.row v 5 1 (s.length + 1 + k) (List.map vU8 (s ++ [128] ++ List.replicate k 0)), .row (.slice (some ⟨b2, 0, none⟩) 1 1) 5 1 1 (List.map vU8 [128])]) (fun (k, v) => padZ s.length - k) (0, v3) ⟨(by omega), (Own.rowEq (i := 0) (f := vU8) H3 rfl (by simp))⟩ ⟨rfl, rfl, trivial⟩ ?_
  rintro ⟨k, v⟩ w4 ⟨hinv, H4⟩
  show WC _ _ _ _ _ [(0, (str s)), (3, v)] _
  refine WC.seq ?_
  refine WC.seq ?_
  refine WC.region ?_
  refine WL.op rfl rfl (op_move rfl ?_)
  refine WL.op rfl rfl (op_lenA Try.underlying73 rfl (H4.arrR (i := 0) rfl) ?_)
  refine WL.op rfl rfl (op_remN (b := 64) rfl rfl (by omega) ?_)
  refine WL.op rfl rfl (op_neqN (b := 56) rfl rfl ?_)
  refine WL.nil ?_
  refine WQ.next ?_
  refine WC.cond rfl (fun (hb5 : (decide (((s.length + 1 + k) % 64) ≠ 56)) = true) => ?_) (fun (hb5 : (decide (((s.length + 1 + k) % 64) ≠ 56)) = false) => ?_)
  ·
    have hc5 := of_decide_eq_true hb5
    refine WC.skip ?_
    refine WQ.next ?_
    refine WC.block ?_
    refine WC.region ?_
    refine WL.op rfl rfl (op_move rfl ?_)
    refine WL.op rfl rfl (op_buildSlice (cs := [_]) H4 Try.underlying73 Fa.I5 rfl rfl rfl rfl (by decide) (by decide) (fun b6 w6 H6 => ?_))
    refine WL.op rfl rfl (op_appendM (f := vU8) (l := (s ++ [128] ++ List.replicate k 0)) (l' := [0]) (i := 0) H6 Try.underlying73 Fa.I5 rfl rfl rfl rfl (Src.ofArr Try.underlying73 (H6.arrR (i := 2) rfl)) (one_mapM (fun _ => rfl)) (by omega) (by omega) (fun v7 w7 H7 => ?_))
    refine WL.op rfl rfl (op_assign rfl ?_)
    refine WL.nil ?_
    refine WQ.inNormal ?_
    exact WQ.round (k + 1, v7) ⟨(by omega), (Own.rowEq (i := 0) (f := vU8) (H7.take 2) rfl (fillStep s k))⟩ ⟨rfl, rfl, trivial⟩ (by show padZ s.length - (k + 1) < padZ s.length - k; omega)
  ·
    have hc5 := of_decide_eq_false hb5
    have hk : k = padZ s.length := (by omega)
    refine WC.exit ?_
    refine WQ.thenExit ?_
    refine WQ.thenExit ?_
    refine WQ.inHere ?_
    refine WQ.next ?_
    refine WC.seq ?_
    refine WC.region ?_
    refine WL.op rfl rfl (op_move rfl ?_)
    refine WL.op rfl rfl (op_lenStr Try.underlying9 rfl ?_)
    refine WL.op rfl rfl (op_convNU64 (hs := Try.underlying3) (hd := Try.underlying116) rfl ?_)
    refine WL.op rfl rfl (op_mulU64 (a := 8) rfl rfl ?_)
    refine WL.op rfl rfl (op_assign rfl ?_)
    refine WL.nil ?_
    refine WQ.next ?_
    refine WC.seq ?_
    refine WC.seq ?_
    refine WC.region ?_
    refine WL.op rfl rfl (op_assign rfl ?_)
    refine WL.nil ?_
    refine WQ.next ?_
    refine WC.block ?_
    refine WC.loop (α := Nat × Value) (fun (j, v) => [(0, (str s)), (3, v), (4, (vU64 ((8 : UInt64) * (UInt64.ofNat s.length)))), (5, (vI ((56 : Int) - ((8 * j : Nat) : Int))))]) (fun (j, v) w' => (j ≤ 8) ∧ Own [] w w' [.row v 5 1 (s.length + 1 + padZ s.length + j) (List.map vU8 (s ++ ([128] ++ List.replicate (padZ s.length) 0 ++ lenTo s.length j))), .row (.slice (some ⟨b2, 0, none⟩) 1 1) 5 1 1 (List.map vU8 [128])]) (fun (j, v) => 8 - j) (0, v) ⟨(by omega), (Own.rowEqN (i := 0) (f := vU8) H4 rfl (by rw [hk]; simp [lenTo]) (by omega))⟩ ⟨rfl, rfl, rfl, rfl, trivial⟩ ?_
    rintro ⟨j, v⟩ w8 ⟨hinv, H8⟩
    show WC _ _ _ _ _ [(0, (str s)), (3, v), (4, (vU64 ((8 : UInt64) * (UInt64.ofNat s.length)))), (5, (vI ((56 : Int) - ((8 * j : Nat) : Int))))] _
    refine WC.seq ?_
    refine WC.seq ?_
    refine WC.region ?_
    refine WL.op rfl rfl (op_move rfl ?_)
    refine WL.op rfl rfl (op_geqI (b := (0 : Int)) rfl rfl ?_)
    refine WL.nil ?_
    refine WQ.next ?_
    refine WC.cond rfl (fun (hb9 : (decide (((56 : Int) - ((8 * j : Nat) : Int)) ≥ (0 : Int))) = true) => ?_) (fun (hb9 : (decide (((56 : Int) - ((8 * j : Nat) : Int)) ≥ (0 : Int))) = false) => ?_)
    ·
      have hc9 := of_decide_eq_true hb9
      rw [show ((56 : Int) - ((8 * j : Nat) : Int)) = ((56 - 8 * j : Nat) : Int) from by omega]
      refine WC.skip ?_
      refine WQ.next ?_
      refine WC.seq ?_
      refine WC.block ?_
      refine WC.region ?_
      refine WL.op rfl rfl (op_move rfl ?_)
      refine WL.op rfl rfl (op_move rfl ?_)
      refine WL.op rfl rfl (op_move rfl ?_)
      refine WL.op rfl rfl (op_convNU64 (hs := Try.underlying3) (hd := Try.underlying165) rfl ?_)
      refine WL.op rfl rfl (op_shrU64 rfl rfl ?_)
      refine WL.op rfl rfl (op_convU64U8 (hs := Try.underlying116) (hd := Try.underlying5) rfl ?_)
      refine WL.op rfl rfl (op_buildSlice (cs := [_]) H8 Try.underlying73 Fa.I5 rfl rfl rfl rfl (by decide) (by decide) (fun b10 w10 H10 => ?_))
      refine WL.op rfl rfl (op_appendM (f := vU8) (l := (s ++ ([128] ++ List.replicate (padZ s.length) 0 ++ lenTo s.length j))) (l' := [(UInt8.ofNat (shrU64 ((8 : UInt64) * (UInt64.ofNat s.length)) (UInt64.ofNat (56 - 8 * j)).toNat).toNat)]) (i := 0) H10 Try.underlying73 Fa.I5 rfl rfl rfl rfl (Src.ofArr Try.underlying73 (H10.arrR (i := 2) rfl)) (one_mapM (fun _ => rfl)) (by omega) (by omega) (fun v11 w11 H11 => ?_))
      refine WL.op rfl rfl (op_assign rfl ?_)
      refine WL.nil ?_
      refine WQ.inNormal ?_
      refine WQ.next ?_
      refine WC.region ?_
      refine WL.op rfl rfl (op_move rfl ?_)
      refine WL.op rfl rfl (op_subI (a := (((56 - 8 * j) : Nat) : Int)) (b := ((8 : Nat) : Int)) rfl rfl (by omega) ?_)
      refine WL.op rfl rfl (op_assign rfl ?_)
      refine WL.nil ?_
      exact WQ.round (j + 1, v11) ⟨(by omega), (Own.rowEq (i := 0) (f := vU8) (H11.take 2) rfl (lenStepW s _ s.length j (by omega)))⟩ ⟨rfl, rfl, rfl, (by show some (vI (((56 - 8 * j : Nat) : Int) - 8)) = some (vI ((56 : Int) - ((8 * (j + 1) : Nat) : Int))); congr 2; omega), trivial⟩ (by show 8 - (j + 1) < 8 - j; omega)
    ·
      have hc9 := of_decide_eq_false hb9
      refine WC.exit ?_
      refine WQ.thenExit ?_
      refine WQ.thenExit ?_
      refine WQ.inHere ?_
      refine WQ.next ?_
      refine WC.seq ?_
      refine WC.region ?_
      refine WL.op rfl rfl (op_move rfl ?_)
      refine WL.op rfl rfl (op_assign rfl ?_)
      refine WL.nil ?_
      refine WQ.next ?_
      refine WC.ret ?_
      refine WQ.out (.tmp rfl .nil) ?_
      exact ⟨_, rfl, Own.rowEqN (i := 0) (f := vU8) (H8.sel [0] rfl rfl) rfl (by have hj : j = 8 := (by omega); subst hj; rfl) (by simp [pads, lenTo_length]; omega)⟩
set_option maxRecDepth 100000 in
theorem rwords_ok (v : Value) (b : List UInt8) (w : World) (hl : b.length = 64) (hA : Arr w v 1 64 (b.map vU8)) :
    Calls Try.prog 148 #[v] w (fun e w' => ∃ v, e = .returned v ∧ Own [] w w' [.row v 22 1 64 (List.map vU32 (wl b 64))]) := by
  refine enter (args := [v]) Try.func148 rfl rfl ?_
  have H0 : Own [] w w [] := Own.start w []
  refine WC.seq ?_
  refine WC.region ?_
  refine WL.op rfl rfl (op_assign rfl ?_)
  refine WL.nil ?_
  refine WQ.next ?_
  refine WC.seq ?_
  refine WC.region ?_
  refine WL.op rfl rfl (op_assign rfl ?_)
  have H1 := H0.nilRow 22 1
  refine WL.nil ?_
  refine WQ.next ?_
  refine WC.seq ?_
  refine WC.seq ?_
  refine WC.region ?_
  refine WL.op rfl rfl (op_assign rfl ?_)
  refine WL.nil ?_
  refine WQ.next ?_
  refine WC.block ?_
  refine WC.loop (α := Nat × Value) (fun (j, q) => [(0, v), (3, q), (4, (vN (4 * j)))]) (fun (j, q) w' => (j ≤ 16) ∧ Own [] w w' [.row q 22 1 j (List.map vU32 (wl b j))]) (fun (j, q) => 16 - j) (0, (.slice none 0 0)) ⟨(by omega), H1⟩ ⟨rfl, rfl, rfl, trivial⟩ ?_
  rintro ⟨j, q⟩ w2 ⟨hinv, H2⟩
  show WC _ _ _ _ _ [(0, v), (3, q), (4, (vN (4 * j)))] _
  refine WC.seq ?_
  refine WC.seq ?_
  refine WC.region ?_
  refine WL.op rfl rfl (op_move rfl ?_)
  refine WL.op rfl rfl (op_lssN (b := 64) rfl rfl ?_)
  refine WL.nil ?_
  refine WQ.next ?_
  refine WC.cond rfl (fun (hb3 : (decide ((4 * j) < 64)) = true) => ?_) (fun (hb3 : (decide ((4 * j) < 64)) = false) => ?_)
  ·
    have hc3 := of_decide_eq_true hb3
    refine WC.skip ?_
    refine WQ.next ?_
    refine WC.seq ?_
    refine WC.block ?_
    refine WC.draw 31 Fa.M H2 (HW.op rfl (fun w1 H1 => op_move rfl ⟨rfl, Fr.refl _ _⟩) (HW.op rfl (fun w1 H1 => op_move rfl ⟨rfl, Fr.refl _ _⟩) (HW.op rfl (fun w1 H1 => op_move rfl ⟨rfl, Fr.refl _ _⟩) (HW.op rfl (fun w1 H1 => op_indexAddr1 Try.underlying73 Fa.I5 rfl (H1.arr hA) rfl (by omega) ⟨rfl, Fr.refl _ _⟩) (HW.op rfl (fun w1 H1 => op_load rfl ((H1.arr hA).at (get_map vU8 0 (Arr.ltM (H1.arr hA) (by omega)))) Try.underlying5 rfl ⟨rfl, Fr.refl _ _⟩) (HW.op rfl (fun w1 H1 => op_convU8U32 (hs := Try.underlying5) (hd := Try.underlying22) rfl ⟨rfl, Fr.refl _ _⟩) (HW.op rfl (fun w1 H1 => op_shlU32 (s := 24) rfl rfl ⟨rfl, Fr.refl _ _⟩) (HW.op rfl (fun w1 H1 => op_move rfl ⟨rfl, Fr.refl _ _⟩) (HW.op rfl (fun w1 H1 => op_move rfl ⟨rfl, Fr.refl _ _⟩) (HW.op rfl (fun w1 H1 => op_addN (b := 1) rfl rfl (by omega) ⟨rfl, Fr.refl _ _⟩) (HW.op rfl (fun w1 H1 => op_indexAddr1 Try.underlying73 Fa.I5 rfl (H1.arr hA) rfl (by omega) ⟨rfl, Fr.refl _ _⟩) (HW.op rfl (fun w1 H1 => op_load rfl ((H1.arr hA).at (get_map vU8 0 (Arr.ltM (H1.arr hA) (by omega)))) Try.underlying5 rfl ⟨rfl, Fr.refl _ _⟩) (HW.op rfl (fun w1 H1 => op_convU8U32 (hs := Try.underlying5) (hd := Try.underlying22) rfl ⟨rfl, Fr.refl _ _⟩) (HW.op rfl (fun w1 H1 => op_shlU32 (s := 16) rfl rfl ⟨rfl, Fr.refl _ _⟩) (HW.op rfl (fun w1 H1 => op_orU32 rfl rfl ⟨rfl, Fr.refl _ _⟩) (HW.op rfl (fun w1 H1 => op_move rfl ⟨rfl, Fr.refl _ _⟩) (HW.op rfl (fun w1 H1 => op_move rfl ⟨rfl, Fr.refl _ _⟩) (HW.op rfl (fun w1 H1 => op_addN (b := 2) rfl rfl (by omega) ⟨rfl, Fr.refl _ _⟩) (HW.op rfl (fun w1 H1 => op_indexAddr1 Try.underlying73 Fa.I5 rfl (H1.arr hA) rfl (by omega) ⟨rfl, Fr.refl _ _⟩) (HW.op rfl (fun w1 H1 => op_load rfl ((H1.arr hA).at (get_map vU8 0 (Arr.ltM (H1.arr hA) (by omega)))) Try.underlying5 rfl ⟨rfl, Fr.refl _ _⟩) (HW.op rfl (fun w1 H1 => op_convU8U32 (hs := Try.underlying5) (hd := Try.underlying22) rfl ⟨rfl, Fr.refl _ _⟩) (HW.op rfl (fun w1 H1 => op_shlU32 (s := 8) rfl rfl ⟨rfl, Fr.refl _ _⟩) (HW.op rfl (fun w1 H1 => op_orU32 rfl rfl ⟨rfl, Fr.refl _ _⟩) (HW.op rfl (fun w1 H1 => op_move rfl ⟨rfl, Fr.refl _ _⟩) (HW.op rfl (fun w1 H1 => op_move rfl ⟨rfl, Fr.refl _ _⟩) (HW.op rfl (fun w1 H1 => op_addN (b := 3) rfl rfl (by omega) ⟨rfl, Fr.refl _ _⟩) (HW.op rfl (fun w1 H1 => op_indexAddr1 Try.underlying73 Fa.I5 rfl (H1.arr hA) rfl (by omega) ⟨rfl, Fr.refl _ _⟩) (HW.op rfl (fun w1 H1 => op_load rfl ((H1.arr hA).at (get_map vU8 0 (Arr.ltM (H1.arr hA) (by omega)))) Try.underlying5 rfl ⟨rfl, Fr.refl _ _⟩) (HW.op rfl (fun w1 H1 => op_convU8U32 (hs := Try.underlying5) (hd := Try.underlying22) rfl ⟨rfl, Fr.refl _ _⟩) (HW.op rfl (fun w1 H1 => op_orU32 rfl rfl ⟨rfl, Fr.refl _ _⟩) (HW.flt (mk := fun bq => .slice (some ⟨bq.1, 0, none⟩) 1 1) (ent := fun bq => .row (.slice (some ⟨bq.1, 0, none⟩) 1 1) _ _ _ _) rfl (fun w1 _ => op_buildSlice (cs := [_]) (Own.start w1 []) Try.underlying64 Fa.I22 rfl rfl rfl rfl (by decide) (by decide) (fun bq w2 H2 => ⟨(bq, undef), rfl, H2, True.intro⟩))  HW.nil))))))))))))))))))))))))))))))) (by kernel_rfl) ?_
    intro β4 w4 H4
    refine WL.op rfl rfl (op_appendM (f := vU32) (l := (wl b j)) (l' := [((((shlU32 (UInt32.ofNat (b.getD (4 * j) 0).toNat) 24) ||| (shlU32 (UInt32.ofNat (b.getD ((4 * j) + 1) 0).toNat) 16)) ||| (shlU32 (UInt32.ofNat (b.getD ((4 * j) + 2) 0).toNat) 8)) ||| (UInt32.ofNat (b.getD ((4 * j) + 3) 0).toNat))]) (i := 0) H4 Try.underlying64 Fa.I22 rfl rfl rfl rfl (Src.ofArr Try.underlying64 (H4.arrR (i := 1) rfl)) (one_mapM (fun _ => rfl)) (by omega) (by omega) (fun v5 w5 H5 => ?_))
    refine WL.op rfl rfl (op_assign rfl ?_)
    refine WL.nil ?_
    refine WQ.inNormal ?_
    refine WQ.next ?_
    refine WC.region ?_
    refine WL.op rfl rfl (op_move rfl ?_)
    refine WL.op rfl rfl (op_addN (b := 4) rfl rfl (by omega) ?_)
    refine WL.op rfl rfl (op_assign rfl ?_)
    refine WL.nil ?_
    exact WQ.round (j + 1, v5) ⟨(by omega), (Own.rowEq (i := 0) (f := vU32) (H5.take 1) rfl (wl_lo b (by omega)))⟩ ⟨rfl, rfl, rfl, trivial⟩ (by show 16 - (j + 1) < 16 - j; omega)
  ·
    have hc3 := of_decide_eq_false hb3
    refine WC.exit ?_
    refine WQ.thenExit ?_
    refine WQ.thenExit ?_
    refine WQ.inHere ?_
    refine WQ.next ?_
    refine WC.seq ?_
    refine WC.seq ?_
    refine WC.region ?_
    refine WL.op rfl rfl (op_assign rfl ?_)
    refine WL.nil ?_
    refine WQ.next ?_
    refine WC.block ?_
    refine WC.loop (α := Nat × Value) (fun (t, q) => [(3, q), (5, (vN t))]) (fun (t, q) w' => (16 ≤ t ∧ t ≤ 64) ∧ Own [] w w' [.row q 22 1 t (List.map vU32 (wl b t))]) (fun (t, q) => 64 - t) (16, q) ⟨(by omega), (by have hj : j = 16 := (by omega); subst hj; exact H2)⟩ ⟨rfl, rfl, trivial⟩ ?_
    rintro ⟨t, q⟩ w6 ⟨hinv, H6⟩
    show WC _ _ _ _ _ [(3, q), (5, (vN t))] _
    refine WC.seq ?_
    refine WC.seq ?_
    refine WC.region ?_
    refine WL.op rfl rfl (op_move rfl ?_)
    refine WL.op rfl rfl (op_lssN (b := 64) rfl rfl ?_)
    refine WL.nil ?_
    refine WQ.next ?_
    refine WC.cond rfl (fun (hb7 : (decide (t < 64)) = true) => ?_) (fun (hb7 : (decide (t < 64)) = false) => ?_)
    ·
      have hc7 := of_decide_eq_true hb7
      refine WC.skip ?_
      refine WQ.next ?_
      refine WC.seq ?_
      refine WC.block ?_
      refine WC.seq ?_
      refine WC.draw 12 Fa.M H6 (HW.op rfl (fun w1 H1 => op_move rfl ⟨rfl, Fr.refl _ _⟩) (HW.op rfl (fun w1 H1 => op_move rfl ⟨rfl, Fr.refl _ _⟩) (HW.op rfl (fun w1 H1 => op_subN (b := 15) rfl rfl (by omega) (by omega) ⟨rfl, Fr.refl _ _⟩) (HW.op rfl (fun w1 H1 => op_indexAddr1 Try.underlying64 Fa.I22 rfl (H1.arrR (i := 0) rfl) rfl (by omega) ⟨rfl, Fr.refl _ _⟩) (HW.op rfl (fun w1 H1 => op_load rfl ((H1.arrR (i := 0) rfl).at (get_map vU32 0 (Arr.ltM (H1.arrR (i := 0) rfl) (by omega)))) Try.underlying22 rfl ⟨rfl, Fr.refl _ _⟩) (HW.op rfl (fun w1 H1 => op_move rfl ⟨rfl, Fr.refl _ _⟩) (HW.op rfl (fun w1 H1 => op_move rfl ⟨rfl, Fr.refl _ _⟩) (HW.op rfl (fun w1 H1 => op_subN (b := 2) rfl rfl (by omega) (by omega) ⟨rfl, Fr.refl _ _⟩) (HW.op rfl (fun w1 H1 => op_indexAddr1 Try.underlying64 Fa.I22 rfl (H1.arrR (i := 0) rfl) rfl (by omega) ⟨rfl, Fr.refl _ _⟩) (HW.op rfl (fun w1 H1 => op_load rfl ((H1.arrR (i := 0) rfl).at (get_map vU32 0 (Arr.ltM (H1.arrR (i := 0) rfl) (by omega)))) Try.underlying22 rfl ⟨rfl, Fr.refl _ _⟩) (HW.op rfl (fun w1 H1 => op_assign rfl ⟨rfl, Fr.refl _ _⟩) (HW.op rfl (fun w1 H1 => op_assign rfl ⟨rfl, Fr.refl _ _⟩)  HW.nil)))))))))))) (by kernel_rfl) ?_
      intro β8 w8 H8
      refine WL.nil ?_
      refine WQ.next ?_
      refine WC.draw 31 Fa.M H8 (HW.op rfl (fun w1 H1 => op_move rfl ⟨rfl, Fr.refl _ _⟩) (HW.op rfl (fun w1 H1 => op_move rfl ⟨rfl, Fr.refl _ _⟩) (HW.op rfl (fun w1 H1 => op_move rfl ⟨rfl, Fr.refl _ _⟩) (HW.op rfl (fun w1 H1 => op_subN (b := 16) rfl rfl (by omega) (by omega) ⟨rfl, Fr.refl _ _⟩) (HW.op rfl (fun w1 H1 => op_indexAddr1 Try.underlying64 Fa.I22 rfl (H1.arrR (i := 0) rfl) rfl (by omega) ⟨rfl, Fr.refl _ _⟩) (HW.op rfl (fun w1 H1 => op_load rfl ((H1.arrR (i := 0) rfl).at (get_map vU32 0 (Arr.ltM (H1.arrR (i := 0) rfl) (by omega)))) Try.underlying22 rfl ⟨rfl, Fr.refl _ _⟩) (HW.op rfl (fun w1 H1 => op_move rfl ⟨rfl, Fr.refl _ _⟩) (HW.op rfl (fun w1 H1 => op_callF Fa.C149 rfl ((rturn_ok ((wl b t).getD (t - 15) 0) 7 (by decide) _).mono (fun e w2 hq => ⟨_, hq.1, rfl, hq.2⟩))) (HW.op rfl (fun w1 H1 => op_move rfl ⟨rfl, Fr.refl _ _⟩) (HW.op rfl (fun w1 H1 => op_callF Fa.C149 rfl ((rturn_ok ((wl b t).getD (t - 15) 0) 18 (by decide) _).mono (fun e w2 hq => ⟨_, hq.1, rfl, hq.2⟩))) (HW.op rfl (fun w1 H1 => op_xorU32 rfl rfl ⟨rfl, Fr.refl _ _⟩) (HW.op rfl (fun w1 H1 => op_move rfl ⟨rfl, Fr.refl _ _⟩) (HW.op rfl (fun w1 H1 => op_shrU32 (s := 3) rfl rfl ⟨rfl, Fr.refl _ _⟩) (HW.op rfl (fun w1 H1 => op_xorU32 rfl rfl ⟨rfl, Fr.refl _ _⟩) (HW.op rfl (fun w1 H1 => op_addU32 rfl rfl ⟨rfl, Fr.refl _ _⟩) (HW.op rfl (fun w1 H1 => op_move rfl ⟨rfl, Fr.refl _ _⟩) (HW.op rfl (fun w1 H1 => op_move rfl ⟨rfl, Fr.refl _ _⟩) (HW.op rfl (fun w1 H1 => op_subN (b := 7) rfl rfl (by omega) (by omega) ⟨rfl, Fr.refl _ _⟩) (HW.op rfl (fun w1 H1 => op_indexAddr1 Try.underlying64 Fa.I22 rfl (H1.arrR (i := 0) rfl) rfl (by omega) ⟨rfl, Fr.refl _ _⟩) (HW.op rfl (fun w1 H1 => op_load rfl ((H1.arrR (i := 0) rfl).at (get_map vU32 0 (Arr.ltM (H1.arrR (i := 0) rfl) (by omega)))) Try.underlying22 rfl ⟨rfl, Fr.refl _ _⟩) (HW.op rfl (fun w1 H1 => op_addU32 rfl rfl ⟨rfl, Fr.refl _ _⟩) (HW.op rfl (fun w1 H1 => op_move rfl ⟨rfl, Fr.refl _ _⟩) (HW.op rfl (fun w1 H1 => op_callF Fa.C149 rfl ((rturn_ok ((wl b t).getD (t - 2) 0) 17 (by decide) _).mono (fun e w2 hq => ⟨_, hq.1, rfl, hq.2⟩))) (HW.op rfl (fun w1 H1 => op_move rfl ⟨rfl, Fr.refl _ _⟩) (HW.op rfl (fun w1 H1 => op_callF Fa.C149 rfl ((rturn_ok ((wl b t).getD (t - 2) 0) 19 (by decide) _).mono (fun e w2 hq => ⟨_, hq.1, rfl, hq.2⟩))) (HW.op rfl (fun w1 H1 => op_xorU32 rfl rfl ⟨rfl, Fr.refl _ _⟩) (HW.op rfl (fun w1 H1 => op_move rfl ⟨rfl, Fr.refl _ _⟩) (HW.op rfl (fun w1 H1 => op_shrU32 (s := 10) rfl rfl ⟨rfl, Fr.refl _ _⟩) (HW.op rfl (fun w1 H1 => op_xorU32 rfl rfl ⟨rfl, Fr.refl _ _⟩) (HW.op rfl (fun w1 H1 => op_addU32 rfl rfl ⟨rfl, Fr.refl _ _⟩) (HW.flt (mk := fun bq => .slice (some ⟨bq.1, 0, none⟩) 1 1) (ent := fun bq => .row (.slice (some ⟨bq.1, 0, none⟩) 1 1) _ _ _ _) rfl (fun w1 _ => op_buildSlice (cs := [_]) (Own.start w1 []) Try.underlying64 Fa.I22 rfl rfl rfl rfl (by decide) (by decide) (fun bq w2 H2 => ⟨(bq, undef), rfl, H2, True.intro⟩))  HW.nil))))))))))))))))))))))))))))))) (by kernel_rfl) ?_
      intro β13 w13 H13
      refine WL.op rfl rfl (op_appendM (f := vU32) (l := (wl b t)) (l' := [(((((wl b t).getD (t - 16) 0) + (((rot ((wl b t).getD (t - 15) 0) 7) ^^^ (rot ((wl b t).getD (t - 15) 0) 18)) ^^^ (shrU32 ((wl b t).getD (t - 15) 0) 3))) + ((wl b t).getD (t - 7) 0)) + (((rot ((wl b t).getD (t - 2) 0) 17) ^^^ (rot ((wl b t).getD (t - 2) 0) 19)) ^^^ (shrU32 ((wl b t).getD (t - 2) 0) 10)))]) (i := 0) H13 Try.underlying64 Fa.I22 rfl rfl rfl rfl (Src.ofArr Try.underlying64 (H13.arrR (i := 1) rfl)) (one_mapM (fun _ => rfl)) (by omega) (by omega) (fun v14 w14 H14 => ?_))
      refine WL.op rfl rfl (op_assign rfl ?_)
      refine WL.nil ?_
      refine WQ.inNormal ?_
      refine WQ.next ?_
      refine WC.region ?_
      refine WL.op rfl rfl (op_move rfl ?_)
      refine WL.op rfl rfl (op_addN (b := 1) rfl rfl (by omega) ?_)
      refine WL.op rfl rfl (op_assign rfl ?_)
      refine WL.nil ?_
      exact WQ.round (t + 1, v14) ⟨(by omega), (Own.rowEq (i := 0) (f := vU32) (H14.take 1) rfl (wl_hi b (by omega)))⟩ ⟨rfl, rfl, trivial⟩ (by show 64 - (t + 1) < 64 - t; omega)
    ·
      have hc7 := of_decide_eq_false hb7
      refine WC.exit ?_
      refine WQ.thenExit ?_
      refine WQ.thenExit ?_
      refine WQ.inHere ?_
      refine WQ.next ?_
      refine WC.seq ?_
      refine WC.region ?_
      refine WL.op rfl rfl (op_move rfl ?_)
      refine WL.op rfl rfl (op_assign rfl ?_)
      refine WL.nil ?_
      refine WQ.next ?_
      refine WC.ret ?_
      refine WQ.out (.tmp rfl .nil) ?_
      exact ⟨_, rfl, (by have ht : t = 64 := (by omega); subst ht; exact H6)⟩
set_option maxRecDepth 100000 in
theorem rblock_ok (h : St) (vh vk v : Value) (b : List UInt8) (w : World) (hl : b.length = 64) (hH : Arr w vh 1 8 (List.map vU32 h.vals)) (hK : Arr w vk 1 64 (List.map vU32 keyL)) (hA : Arr w v 1 64 (b.map vU8)) :
    Calls Try.prog 138 #[vh, vk, v] w (fun e w' => ∃ v, e = .returned v ∧ Own [] w w' [.row v 22 1 8 (List.map vU32 (blockS h b).vals)]) := by
  refine enter (args := [vh, vk, v]) Try.func138 rfl rfl ?_
  have H0 : Own [] w w [] := Own.start w []
  refine WC.seq ?_
  refine WC.region ?_
  refine WL.op rfl rfl (op_assign rfl ?_)
  refine WL.nil ?_
  refine WQ.next ?_
  refine WC.seq ?_
  refine WC.region ?_
  refine WL.op rfl rfl (op_move rfl ?_)
  refine WL.op rfl rfl (op_callF Fa.C148 rfl ((rwords_ok _ _ _ hl (H0.arr hA)).mono (fun e w1 hq => ?_)))
  obtain ⟨v1, rfl, hq1⟩ := hq
  refine ⟨_, rfl, ?_⟩
  have H1 : Own [] w w1 [.row v1 22 1 64 (List.map vU32 (wl b 64))] := H0.splice [] [] [.row v1 22 1 64 (List.map vU32 (wl b 64))] rfl rfl hq1 (Fits.solid True.intro Fits.nil)
  refine WL.op rfl rfl (op_assign rfl ?_)
  refine WL.nil ?_
  refine WQ.next ?_
  refine WC.seq ?_
  refine WC.region ?_
  refine WL.op rfl rfl (op_move rfl ?_)
  have H3 := H1.nilRow 22 1
  refine WL.op rfl rfl (op_appendM (f := vU32) (l := []) (l' := h.vals) (i := 1) H3 Try.underlying64 Fa.I22 rfl rfl rfl rfl (Src.ofArr Try.underlying64 (H3.arr hH)) (one_mapM (fun _ => rfl)) (by omega) (by omega) (fun v2 w2 H2 => ?_))
  refine WL.op rfl rfl (op_assign rfl ?_)
  refine WL.nil ?_
  refine WQ.next ?_
  refine WC.seq ?_
  refine WC.seq ?_
  refine WC.region ?_
  refine WL.op rfl rfl (op_assign rfl ?_)
  refine WL.nil ?_
  refine WQ.next ?_
  refine WC.block ?_
  refine WC.loop (α := Nat × Value) (fun (t, q) => [(0, vh), (1, vk), (7, v1), (8, q), (9, (vN t))]) (fun (t, q) w' => (t ≤ 64) ∧ Own [] w w' [.row v1 22 1 64 (List.map vU32 (wl b 64)), .row q 22 1 8 (List.map vU32 (rounds h (wl b 64) t).vals)]) (fun (t, q) => 64 - t) (0, v2) ⟨(by omega), H2⟩ ⟨rfl, rfl, rfl, rfl, rfl, trivial⟩ ?_
  rintro ⟨t, q⟩ w4 ⟨hinv, H4⟩
  show WC _ _ _ _ _ [(0, vh), (1, vk), (7, v1), (8, q), (9, (vN t))] _
  refine WC.seq ?_
  refine WC.seq ?_
  refine WC.region ?_
  refine WL.op rfl rfl (op_move rfl ?_)
  refine WL.op rfl rfl (op_lssN (b := 64) rfl rfl ?_)
  refine WL.nil ?_
  refine WQ.next ?_
  refine WC.cond rfl (fun (hb5 : (decide (t < 64)) = true) => ?_) (fun (hb5 : (decide (t < 64)) = false) => ?_)
  ·
    have hc5 := of_decide_eq_true hb5
    refine WC.skip ?_
    refine WQ.next ?_
    refine WC.seq ?_
    refine WC.block ?_
    refine WC.seq ?_
    refine WC.draw 15 Fa.M H4 (HW.op rfl (fun w1 H1 => op_move rfl ⟨rfl, Fr.refl _ _⟩) (HW.op rfl (fun w1 H1 => op_indexAddr1 (m := 4) Try.underlying64 Fa.I22 rfl (H1.arrR (i := 1) rfl) rfl (by omega) ⟨rfl, Fr.refl _ _⟩) (HW.op rfl (fun w1 H1 => op_load rfl ((H1.arrR (i := 1) rfl).at (get_map vU32 0 (Arr.ltM (H1.arrR (i := 1) rfl) (by omega)))) Try.underlying22 rfl ⟨rfl, Fr.refl _ _⟩) (HW.op rfl (fun w1 H1 => op_callF Fa.C149 rfl ((rturn_ok ((rounds h (wl b 64) t).vals.getD 4 0) 6 (by decide) _).mono (fun e w2 hq => ⟨_, hq.1, rfl, hq.2⟩))) (HW.op rfl (fun w1 H1 => op_move rfl ⟨rfl, Fr.refl _ _⟩) (HW.op rfl (fun w1 H1 => op_indexAddr1 (m := 4) Try.underlying64 Fa.I22 rfl (H1.arrR (i := 1) rfl) rfl (by omega) ⟨rfl, Fr.refl _ _⟩) (HW.op rfl (fun w1 H1 => op_load rfl ((H1.arrR (i := 1) rfl).at (get_map vU32 0 (Arr.ltM (H1.arrR (i := 1) rfl) (by omega)))) Try.underlying22 rfl ⟨rfl, Fr.refl _ _⟩) (HW.op rfl (fun w1 H1 => op_callF Fa.C149 rfl ((rturn_ok ((rounds h (wl b 64) t).vals.getD 4 0) 11 (by decide) _).mono (fun e w2 hq => ⟨_, hq.1, rfl, hq.2⟩))) (HW.op rfl (fun w1 H1 => op_xorU32 rfl rfl ⟨rfl, Fr.refl _ _⟩) (HW.op rfl (fun w1 H1 => op_move rfl ⟨rfl, Fr.refl _ _⟩) (HW.op rfl (fun w1 H1 => op_indexAddr1 (m := 4) Try.underlying64 Fa.I22 rfl (H1.arrR (i := 1) rfl) rfl (by omega) ⟨rfl, Fr.refl _ _⟩) (HW.op rfl (fun w1 H1 => op_load rfl ((H1.arrR (i := 1) rfl).at (get_map vU32 0 (Arr.ltM (H1.arrR (i := 1) rfl) (by omega)))) Try.underlying22 rfl ⟨rfl, Fr.refl _ _⟩) (HW.op rfl (fun w1 H1 => op_callF Fa.C149 rfl ((rturn_ok ((rounds h (wl b 64) t).vals.getD 4 0) 25 (by decide) _).mono (fun e w2 hq => ⟨_, hq.1, rfl, hq.2⟩))) (HW.op rfl (fun w1 H1 => op_xorU32 rfl rfl ⟨rfl, Fr.refl _ _⟩) (HW.op rfl (fun w1 H1 => op_assign rfl ⟨rfl, Fr.refl _ _⟩)  HW.nil))))))))))))))) (by kernel_rfl) ?_
    intro β9 w9 H9
    refine WL.nil ?_
    refine WQ.next ?_
    refine WC.seq ?_
    refine WC.draw 17 Fa.M H9 (HW.op rfl (fun w1 H1 => op_move rfl ⟨rfl, Fr.refl _ _⟩) (HW.op rfl (fun w1 H1 => op_indexAddr1 (m := 4) Try.underlying64 Fa.I22 rfl (H1.arrR (i := 1) rfl) rfl (by omega) ⟨rfl, Fr.refl _ _⟩) (HW.op rfl (fun w1 H1 => op_load rfl ((H1.arrR (i := 1) rfl).at (get_map vU32 0 (Arr.ltM (H1.arrR (i := 1) rfl) (by omega)))) Try.underlying22 rfl ⟨rfl, Fr.refl _ _⟩) (HW.op rfl (fun w1 H1 => op_move rfl ⟨rfl, Fr.refl _ _⟩) (HW.op rfl (fun w1 H1 => op_indexAddr1 (m := 5) Try.underlying64 Fa.I22 rfl (H1.arrR (i := 1) rfl) rfl (by omega) ⟨rfl, Fr.refl _ _⟩) (HW.op rfl (fun w1 H1 => op_load rfl ((H1.arrR (i := 1) rfl).at (get_map vU32 0 (Arr.ltM (H1.arrR (i := 1) rfl) (by omega)))) Try.underlying22 rfl ⟨rfl, Fr.refl _ _⟩) (HW.op rfl (fun w1 H1 => op_andU32 rfl rfl ⟨rfl, Fr.refl _ _⟩) (HW.op rfl (fun w1 H1 => op_move rfl ⟨rfl, Fr.refl _ _⟩) (HW.op rfl (fun w1 H1 => op_indexAddr1 (m := 4) Try.underlying64 Fa.I22 rfl (H1.arrR (i := 1) rfl) rfl (by omega) ⟨rfl, Fr.refl _ _⟩) (HW.op rfl (fun w1 H1 => op_load rfl ((H1.arrR (i := 1) rfl).at (get_map vU32 0 (Arr.ltM (H1.arrR (i := 1) rfl) (by omega)))) Try.underlying22 rfl ⟨rfl, Fr.refl _ _⟩) (HW.op rfl (fun w1 H1 => op_complU32 rfl ⟨rfl, Fr.refl _ _⟩) (HW.op rfl (fun w1 H1 => op_move rfl ⟨rfl, Fr.refl _ _⟩) (HW.op rfl (fun w1 H1 => op_indexAddr1 (m := 6) Try.underlying64 Fa.I22 rfl (H1.arrR (i := 1) rfl) rfl (by omega) ⟨rfl, Fr.refl _ _⟩) (HW.op rfl (fun w1 H1 => op_load rfl ((H1.arrR (i := 1) rfl).at (get_map vU32 0 (Arr.ltM (H1.arrR (i := 1) rfl) (by omega)))) Try.underlying22 rfl ⟨rfl, Fr.refl _ _⟩) (HW.op rfl (fun w1 H1 => op_andU32 rfl rfl ⟨rfl, Fr.refl _ _⟩) (HW.op rfl (fun w1 H1 => op_xorU32 rfl rfl ⟨rfl, Fr.refl _ _⟩) (HW.op rfl (fun w1 H1 => op_assign rfl ⟨rfl, Fr.refl _ _⟩)  HW.nil))))))))))))))))) (by kernel_rfl) ?_
    intro β10 w10 H10
    refine WL.nil ?_
    refine WQ.next ?_
    refine WC.seq ?_
    refine WC.draw 18 Fa.M H10 (HW.op rfl (fun w1 H1 => op_move rfl ⟨rfl, Fr.refl _ _⟩) (HW.op rfl (fun w1 H1 => op_indexAddr1 (m := 7) Try.underlying64 Fa.I22 rfl (H1.arrR (i := 1) rfl) rfl (by omega) ⟨rfl, Fr.refl _ _⟩) (HW.op rfl (fun w1 H1 => op_load rfl ((H1.arrR (i := 1) rfl).at (get_map vU32 0 (Arr.ltM (H1.arrR (i := 1) rfl) (by omega)))) Try.underlying22 rfl ⟨rfl, Fr.refl _ _⟩) (HW.op rfl (fun w1 H1 => op_move rfl ⟨rfl, Fr.refl _ _⟩) (HW.op rfl (fun w1 H1 => op_addU32 rfl rfl ⟨rfl, Fr.refl _ _⟩) (HW.op rfl (fun w1 H1 => op_move rfl ⟨rfl, Fr.refl _ _⟩) (HW.op rfl (fun w1 H1 => op_addU32 rfl rfl ⟨rfl, Fr.refl _ _⟩) (HW.op rfl (fun w1 H1 => op_move rfl ⟨rfl, Fr.refl _ _⟩) (HW.op rfl (fun w1 H1 => op_move rfl ⟨rfl, Fr.refl _ _⟩) (HW.op rfl (fun w1 H1 => op_indexAddr1 Try.underlying64 Fa.I22 rfl (H1.arr hK) rfl (by omega) ⟨rfl, Fr.refl _ _⟩) (HW.op rfl (fun w1 H1 => op_load rfl ((H1.arr hK).at (get_map vU32 0 (Arr.ltM (H1.arr hK) (by omega)))) Try.underlying22 rfl ⟨rfl, Fr.refl _ _⟩) (HW.op rfl (fun w1 H1 => op_addU32 rfl rfl ⟨rfl, Fr.refl _ _⟩) (HW.op rfl (fun w1 H1 => op_move rfl ⟨rfl, Fr.refl _ _⟩) (HW.op rfl (fun w1 H1 => op_move rfl ⟨rfl, Fr.refl _ _⟩) (HW.op rfl (fun w1 H1 => op_indexAddr1 Try.underlying64 Fa.I22 rfl (H1.arrR (i := 0) rfl) rfl (by omega) ⟨rfl, Fr.refl _ _⟩) (HW.op rfl (fun w1 H1 => op_load rfl ((H1.arrR (i := 0) rfl).at (get_map vU32 0 (Arr.ltM (H1.arrR (i := 0) rfl) (by omega)))) Try.underlying22 rfl ⟨rfl, Fr.refl _ _⟩) (HW.op rfl (fun w1 H1 => op_addU32 rfl rfl ⟨rfl, Fr.refl _ _⟩) (HW.op rfl (fun w1 H1 => op_assign rfl ⟨rfl, Fr.refl _ _⟩)  HW.nil)))))))))))))))))) (by kernel_rfl) ?_
    intro β11 w11 H11
    refine WL.nil ?_
    refine WQ.next ?_
    refine WC.seq ?_
    refine WC.draw 15 Fa.M H11 (HW.op rfl (fun w1 H1 => op_move rfl ⟨rfl, Fr.refl _ _⟩) (HW.op rfl (fun w1 H1 => op_indexAddr1 (m := 0) Try.underlying64 Fa.I22 rfl (H1.arrR (i := 1) rfl) rfl (by omega) ⟨rfl, Fr.refl _ _⟩) (HW.op rfl (fun w1 H1 => op_load rfl ((H1.arrR (i := 1) rfl).at (get_map vU32 0 (Arr.ltM (H1.arrR (i := 1) rfl) (by omega)))) Try.underlying22 rfl ⟨rfl, Fr.refl _ _⟩) (HW.op rfl (fun w1 H1 => op_callF Fa.C149 rfl ((rturn_ok ((rounds h (wl b 64) t).vals.getD 0 0) 2 (by decide) _).mono (fun e w2 hq => ⟨_, hq.1, rfl, hq.2⟩))) (HW.op rfl (fun w1 H1 => op_move rfl ⟨rfl, Fr.refl _ _⟩) (HW.op rfl (fun w1 H1 => op_indexAddr1 (m := 0) Try.underlying64 Fa.I22 rfl (H1.arrR (i := 1) rfl) rfl (by omega) ⟨rfl, Fr.refl _ _⟩) (HW.op rfl (fun w1 H1 => op_load rfl ((H1.arrR (i := 1) rfl).at (get_map vU32 0 (Arr.ltM (H1.arrR (i := 1) rfl) (by omega)))) Try.underlying22 rfl ⟨rfl, Fr.refl _ _⟩) (HW.op rfl (fun w1 H1 => op_callF Fa.C149 rfl ((rturn_ok ((rounds h (wl b 64) t).vals.getD 0 0) 13 (by decide) _).mono (fun e w2 hq => ⟨_, hq.1, rfl, hq.2⟩))) (HW.op rfl (fun w1 H1 => op_xorU32 rfl rfl ⟨rfl, Fr.refl _ _⟩) (HW.op rfl (fun w1 H1 => op_move rfl ⟨rfl, Fr.refl _ _⟩) (HW.op rfl (fun w1 H1 => op_indexAddr1 (m := 0) Try.underlying64 Fa.I22 rfl (H1.arrR (i := 1) rfl) rfl (by omega) ⟨rfl, Fr.refl _ _⟩) (HW.op rfl (fun w1 H1 => op_load rfl ((H1.arrR (i := 1) rfl).at (get_map vU32 0 (Arr.ltM (H1.arrR (i := 1) rfl) (by omega)))) Try.underlying22 rfl ⟨rfl, Fr.refl _ _⟩) (HW.op rfl (fun w1 H1 => op_callF Fa.C149 rfl ((rturn_ok ((rounds h (wl b 64) t).vals.getD 0 0) 22 (by decide) _).mono (fun e w2 hq => ⟨_, hq.1, rfl, hq.2⟩))) (HW.op rfl (fun w1 H1 => op_xorU32 rfl rfl ⟨rfl, Fr.refl _ _⟩) (HW.op rfl (fun w1 H1 => op_assign rfl ⟨rfl, Fr.refl _ _⟩)  HW.nil))))))))))))))) (by kernel_rfl) ?_
    intro β15 w15 H15
    refine WL.nil ?_
    refine WQ.next ?_
    refine WC.seq ?_
    refine WC.draw 24 Fa.M H15 (HW.op rfl (fun w1 H1 => op_move rfl ⟨rfl, Fr.refl _ _⟩) (HW.op rfl (fun w1 H1 => op_indexAddr1 (m := 0) Try.underlying64 Fa.I22 rfl (H1.arrR (i := 1) rfl) rfl (by omega) ⟨rfl, Fr.refl _ _⟩) (HW.op rfl (fun w1 H1 => op_load rfl ((H1.arrR (i := 1) rfl).at (get_map vU32 0 (Arr.ltM (H1.arrR (i := 1) rfl) (by omega)))) Try.underlying22 rfl ⟨rfl, Fr.refl _ _⟩) (HW.op rfl (fun w1 H1 => op_move rfl ⟨rfl, Fr.refl _ _⟩) (HW.op rfl (fun w1 H1 => op_indexAddr1 (m := 1) Try.underlying64 Fa.I22 rfl (H1.arrR (i := 1) rfl) rfl (by omega) ⟨rfl, Fr.refl _ _⟩) (HW.op rfl (fun w1 H1 => op_load rfl ((H1.arrR (i := 1) rfl).at (get_map vU32 0 (Arr.ltM (H1.arrR (i := 1) rfl) (by omega)))) Try.underlying22 rfl ⟨rfl, Fr.refl _ _⟩) (HW.op rfl (fun w1 H1 => op_andU32 rfl rfl ⟨rfl, Fr.refl _ _⟩) (HW.op rfl (fun w1 H1 => op_move rfl ⟨rfl, Fr.refl _ _⟩) (HW.op rfl (fun w1 H1 => op_indexAddr1 (m := 0) Try.underlying64 Fa.I22 rfl (H1.arrR (i := 1) rfl) rfl (by omega) ⟨rfl, Fr.refl _ _⟩) (HW.op rfl (fun w1 H1 => op_load rfl ((H1.arrR (i := 1) rfl).at (get_map vU32 0 (Arr.ltM (H1.arrR (i := 1) rfl) (by omega)))) Try.underlying22 rfl ⟨rfl, Fr.refl _ _⟩) (HW.op rfl (fun w1 H1 => op_move rfl ⟨rfl, Fr.refl _ _⟩) (HW.op rfl (fun w1 H1 => op_indexAddr1 (m := 2) Try.underlying64 Fa.I22 rfl (H1.arrR (i := 1) rfl) rfl (by omega) ⟨rfl, Fr.refl _ _⟩) (HW.op rfl (fun w1 H1 => op_load rfl ((H1.arrR (i := 1) rfl).at (get_map vU32 0 (Arr.ltM (H1.arrR (i := 1) rfl) (by omega)))) Try.underlying22 rfl ⟨rfl, Fr.refl _ _⟩) (HW.op rfl (fun w1 H1 => op_andU32 rfl rfl ⟨rfl, Fr.refl _ _⟩) (HW.op rfl (fun w1 H1 => op_xorU32 rfl rfl ⟨rfl, Fr.refl _ _⟩) (HW.op rfl (fun w1 H1 => op_move rfl ⟨rfl, Fr.refl _ _⟩) (HW.op rfl (fun w1 H1 => op_indexAddr1 (m := 1) Try.underlying64 Fa.I22 rfl (H1.arrR (i := 1) rfl) rfl (by omega) ⟨rfl, Fr.refl _ _⟩) (HW.op rfl (fun w1 H1 => op_load rfl ((H1.arrR (i := 1) rfl).at (get_map vU32 0 (Arr.ltM (H1.arrR (i := 1) rfl) (by omega)))) Try.underlying22 rfl ⟨rfl, Fr.refl _ _⟩) (HW.op rfl (fun w1 H1 => op_move rfl ⟨rfl, Fr.refl _ _⟩) (HW.op rfl (fun w1 H1 => op_indexAddr1 (m := 2) Try.underlying64 Fa.I22 rfl (H1.arrR (i := 1) rfl) rfl (by omega) ⟨rfl, Fr.refl _ _⟩) (HW.op rfl (fun w1 H1 => op_load rfl ((H1.arrR (i := 1) rfl).at (get_map vU32 0 (Arr.ltM (H1.arrR (i := 1) rfl) (by omega)))) Try.underlying22 rfl ⟨rfl, Fr.refl _ _⟩) (HW.op rfl (fun w1 H1 => op_andU32 rfl rfl ⟨rfl, Fr.refl _ _⟩) (HW.op rfl (fun w1 H1 => op_xorU32 rfl rfl ⟨rfl, Fr.refl _ _⟩) (HW.op rfl (fun w1 H1 => op_assign rfl ⟨rfl, Fr.refl _ _⟩)  HW.nil)))))))))))))))))))))))) (by kernel_rfl) ?_
    intro β16 w16 H16
    refine WL.nil ?_
    refine WQ.next ?_
    refine WC.seq ?_
    refine WC.region ?_
    refine WL.op rfl rfl (op_move rfl ?_)
    refine WL.op rfl rfl (op_move rfl ?_)
    refine WL.op rfl rfl (op_addU32 rfl rfl ?_)
    refine WL.op rfl rfl (op_assign rfl ?_)
    refine WL.nil ?_
    refine WQ.next ?_
    refine WC.draw 27 Fa.M H16 (HW.op rfl (fun w1 H1 => op_move rfl ⟨rfl, Fr.refl _ _⟩) (HW.op rfl (fun w1 H1 => op_move rfl ⟨rfl, Fr.refl _ _⟩) (HW.op rfl (fun w1 H1 => op_addU32 rfl rfl ⟨rfl, Fr.refl _ _⟩) (HW.op rfl (fun w1 H1 => op_move rfl ⟨rfl, Fr.refl _ _⟩) (HW.op rfl (fun w1 H1 => op_indexAddr1 (m := 0) Try.underlying64 Fa.I22 rfl (H1.arrR (i := 1) rfl) rfl (by omega) ⟨rfl, Fr.refl _ _⟩) (HW.op rfl (fun w1 H1 => op_load rfl ((H1.arrR (i := 1) rfl).at (get_map vU32 0 (Arr.ltM (H1.arrR (i := 1) rfl) (by omega)))) Try.underlying22 rfl ⟨rfl, Fr.refl _ _⟩) (HW.op rfl (fun w1 H1 => op_move rfl ⟨rfl, Fr.refl _ _⟩) (HW.op rfl (fun w1 H1 => op_indexAddr1 (m := 1) Try.underlying64 Fa.I22 rfl (H1.arrR (i := 1) rfl) rfl (by omega) ⟨rfl, Fr.refl _ _⟩) (HW.op rfl (fun w1 H1 => op_load rfl ((H1.arrR (i := 1) rfl).at (get_map vU32 0 (Arr.ltM (H1.arrR (i := 1) rfl) (by omega)))) Try.underlying22 rfl ⟨rfl, Fr.refl _ _⟩) (HW.op rfl (fun w1 H1 => op_move rfl ⟨rfl, Fr.refl _ _⟩) (HW.op rfl (fun w1 H1 => op_indexAddr1 (m := 2) Try.underlying64 Fa.I22 rfl (H1.arrR (i := 1) rfl) rfl (by omega) ⟨rfl, Fr.refl _ _⟩) (HW.op rfl (fun w1 H1 => op_load rfl ((H1.arrR (i := 1) rfl).at (get_map vU32 0 (Arr.ltM (H1.arrR (i := 1) rfl) (by omega)))) Try.underlying22 rfl ⟨rfl, Fr.refl _ _⟩) (HW.op rfl (fun w1 H1 => op_move rfl ⟨rfl, Fr.refl _ _⟩) (HW.op rfl (fun w1 H1 => op_indexAddr1 (m := 3) Try.underlying64 Fa.I22 rfl (H1.arrR (i := 1) rfl) rfl (by omega) ⟨rfl, Fr.refl _ _⟩) (HW.op rfl (fun w1 H1 => op_load rfl ((H1.arrR (i := 1) rfl).at (get_map vU32 0 (Arr.ltM (H1.arrR (i := 1) rfl) (by omega)))) Try.underlying22 rfl ⟨rfl, Fr.refl _ _⟩) (HW.op rfl (fun w1 H1 => op_move rfl ⟨rfl, Fr.refl _ _⟩) (HW.op rfl (fun w1 H1 => op_addU32 rfl rfl ⟨rfl, Fr.refl _ _⟩) (HW.op rfl (fun w1 H1 => op_move rfl ⟨rfl, Fr.refl _ _⟩) (HW.op rfl (fun w1 H1 => op_indexAddr1 (m := 4) Try.underlying64 Fa.I22 rfl (H1.arrR (i := 1) rfl) rfl (by omega) ⟨rfl, Fr.refl _ _⟩) (HW.op rfl (fun w1 H1 => op_load rfl ((H1.arrR (i := 1) rfl).at (get_map vU32 0 (Arr.ltM (H1.arrR (i := 1) rfl) (by omega)))) Try.underlying22 rfl ⟨rfl, Fr.refl _ _⟩) (HW.op rfl (fun w1 H1 => op_move rfl ⟨rfl, Fr.refl _ _⟩) (HW.op rfl (fun w1 H1 => op_indexAddr1 (m := 5) Try.underlying64 Fa.I22 rfl (H1.arrR (i := 1) rfl) rfl (by omega) ⟨rfl, Fr.refl _ _⟩) (HW.op rfl (fun w1 H1 => op_load rfl ((H1.arrR (i := 1) rfl).at (get_map vU32 0 (Arr.ltM (H1.arrR (i := 1) rfl) (by omega)))) Try.underlying22 rfl ⟨rfl, Fr.refl _ _⟩) (HW.op rfl (fun w1 H1 => op_move rfl ⟨rfl, Fr.refl _ _⟩) (HW.op rfl (fun w1 H1 => op_indexAddr1 (m := 6) Try.underlying64 Fa.I22 rfl (H1.arrR (i := 1) rfl) rfl (by omega) ⟨rfl, Fr.refl _ _⟩) (HW.op rfl (fun w1 H1 => op_load rfl ((H1.arrR (i := 1) rfl).at (get_map vU32 0 (Arr.ltM (H1.arrR (i := 1) rfl) (by omega)))) Try.underlying22 rfl ⟨rfl, Fr.refl _ _⟩) (HW.flt (mk := fun bq => .slice (some ⟨bq.1, 0, none⟩) 8 8) (ent := fun bq => .row (.slice (some ⟨bq.1, 0, none⟩) 8 8) _ _ _ _) rfl (fun w1 _ => op_buildSlice (cs := [_, _, _, _, _, _, _, _]) (Own.start w1 []) Try.underlying64 Fa.I22 rfl rfl rfl rfl (by decide) (by decide) (fun bq w2 H2 => ⟨(bq, undef), rfl, H2, True.intro⟩))  HW.nil))))))))))))))))))))))))))) (by kernel_rfl) ?_
    intro β17 w17 H17
    refine WL.op rfl rfl (op_assign rfl ?_)
    refine WL.nil ?_
    refine WQ.inNormal ?_
    refine WQ.next ?_
    refine WC.region ?_
    refine WL.op rfl rfl (op_move rfl ?_)
    refine WL.op rfl rfl (op_addN (b := 1) rfl rfl (by omega) ?_)
    refine WL.op rfl rfl (op_assign rfl ?_)
    refine WL.nil ?_
    exact WQ.round (t + 1, (.slice (some ⟨(β17 26).1, 0, none⟩) 8 8)) ⟨(by omega), (Own.rowEq (i := 1) (f := vU32) (H17.sel [0, 2] rfl rfl) rfl (refStep (rounds h (wl b 64) t) (keyL.getD t 0) ((wl b 64).getD t 0)))⟩ ⟨rfl, rfl, rfl, rfl, rfl, trivial⟩ (by show 64 - (t + 1) < 64 - t; omega)
  ·
    have hc5 := of_decide_eq_false hb5
    refine WC.exit ?_
    refine WQ.thenExit ?_
    refine WQ.thenExit ?_
    refine WQ.inHere ?_
    refine WQ.next ?_
    refine WC.seq ?_
    refine WC.seq ?_
    refine WC.region ?_
    refine WL.op rfl rfl (op_assign rfl ?_)
    refine WL.nil ?_
    refine WQ.next ?_
    refine WC.block ?_
    refine WC.loop (α := Nat) (fun k => [(0, vh), (8, q), (16, (vN k))]) (fun k w' => (k ≤ 8) ∧ Own [] w w' [.row v1 22 1 64 (List.map vU32 (wl b 64)), .row q 22 1 8 (List.map vU32 (addTo (rounds h (wl b 64) 64) h k))]) (fun k => 8 - k) 0 ⟨(by omega), (by have ht : t = 64 := (by omega); subst ht; exact H4)⟩ ⟨rfl, rfl, rfl, trivial⟩ ?_
    rintro k w18 ⟨hinv, H18⟩
    show WC _ _ _ _ _ [(0, vh), (8, q), (16, (vN k))] _
    refine WC.seq ?_
    refine WC.seq ?_
    refine WC.region ?_
    refine WL.op rfl rfl (op_move rfl ?_)
    refine WL.op rfl rfl (op_lssN (b := 8) rfl rfl ?_)
    refine WL.nil ?_
    refine WQ.next ?_
    refine WC.cond rfl (fun (hb19 : (decide (k < 8)) = true) => ?_) (fun (hb19 : (decide (k < 8)) = false) => ?_)
    ·
      have hc19 := of_decide_eq_true hb19
      refine WC.skip ?_
      refine WQ.next ?_
      refine WC.seq ?_
      refine WC.block ?_
      refine WC.draw 12 Fa.M H18 (HW.op rfl (fun w1 H1 => op_move rfl ⟨rfl, Fr.refl _ _⟩) (HW.op rfl (fun w1 H1 => op_move rfl ⟨rfl, Fr.refl _ _⟩) (HW.op rfl (fun w1 H1 => op_move rfl ⟨rfl, Fr.refl _ _⟩) (HW.op rfl (fun w1 H1 => op_move rfl ⟨rfl, Fr.refl _ _⟩) (HW.op rfl (fun w1 H1 => op_indexAddr1 Try.underlying64 Fa.I22 rfl (H1.arrR (i := 1) rfl) rfl (by omega) ⟨rfl, Fr.refl _ _⟩) (HW.op rfl (fun w1 H1 => op_load rfl ((H1.arrR (i := 1) rfl).at (get_map vU32 0 (Arr.ltM (H1.arrR (i := 1) rfl) (by omega)))) Try.underlying22 rfl ⟨rfl, Fr.refl _ _⟩) (HW.op rfl (fun w1 H1 => op_move rfl ⟨rfl, Fr.refl _ _⟩) (HW.op rfl (fun w1 H1 => op_move rfl ⟨rfl, Fr.refl _ _⟩) (HW.op rfl (fun w1 H1 => op_indexAddr1 Try.underlying64 Fa.I22 rfl (H1.arr hH) rfl (by omega) ⟨rfl, Fr.refl _ _⟩) (HW.op rfl (fun w1 H1 => op_load rfl ((H1.arr hH).at (get_map vU32 0 (Arr.ltM (H1.arr hH) (by omega)))) Try.underlying22 rfl ⟨rfl, Fr.refl _ _⟩) (HW.op rfl (fun w1 H1 => op_addU32 rfl rfl ⟨rfl, Fr.refl _ _⟩) (HW.op rfl (fun w1 H1 => op_indexAddr1 Try.underlying64 Fa.I22 rfl (H1.arrR (i := 1) rfl) rfl (by omega) ⟨rfl, Fr.refl _ _⟩)  HW.nil)))))))))))) (by kernel_rfl) ?_
      intro β20 w20 H20
      refine WL.op rfl rfl (op_storeRM (i := 1) (f := vU32) (l := (addTo (rounds h (wl b 64) 64) h k)) (c := (((addTo (rounds h (wl b 64) 64) h k).getD k 0) + (h.vals.getD k 0))) H20 rfl rfl rfl (by omega) rfl Fa.I22 (fun w21 H21 => ?_))
      refine WL.nil ?_
      refine WQ.inNormal ?_
      refine WQ.next ?_
      refine WC.region ?_
      refine WL.op rfl rfl (op_move rfl ?_)
      refine WL.op rfl rfl (op_addN (b := 1) rfl rfl (by omega) ?_)
      refine WL.op rfl rfl (op_assign rfl ?_)
      refine WL.nil ?_
      exact WQ.round (k + 1) ⟨(by omega), (Own.rowEq (i := 1) (f := vU32) H21 rfl (addTo_set (rounds h (wl b 64) 64) h k (by omega)).symm)⟩ ⟨rfl, rfl, rfl, trivial⟩ (by omega)
    ·
      have hc19 := of_decide_eq_false hb19
      refine WC.exit ?_
      refine WQ.thenExit ?_
      refine WQ.thenExit ?_
      refine WQ.inHere ?_
      refine WQ.next ?_
      refine WC.seq ?_
      refine WC.region ?_
      refine WL.op rfl rfl (op_move rfl ?_)
      refine WL.op rfl rfl (op_assign rfl ?_)
      refine WL.nil ?_
      refine WQ.next ?_
      refine WC.ret ?_
      refine WQ.out (.tmp rfl .nil) ?_
      exact ⟨_, rfl, (by have hk : k = 8 := (by omega); subst hk; exact H18.sel [1] rfl rfl)⟩
set_option maxRecDepth 100000 in
theorem rsum_ok (s : List UInt8) (w : World) (hs : s.length < 2 ^ 40) :
    Calls Try.prog 115 #[(str s)] w (fun e w' => e = .returned (str (sha s)) ∧ Fr [] w w') := by
  refine enter (args := [(str s)]) Try.func115 rfl rfl ?_
  have H0 : Own [] w w [] := Own.start w []
  refine WC.seq ?_
  refine WC.region ?_
  refine WL.op rfl rfl (op_assign rfl ?_)
  refine WL.nil ?_
  refine WQ.next ?_
  refine WC.seq ?_
  refine WC.region ?_
  refine WL.op rfl rfl (op_callF Fa.C136 rfl ((roots8_ok _).mono (fun e w1 hq => ?_)))
  obtain ⟨v1, rfl, hq1⟩ := hq
  refine ⟨_, rfl, ?_⟩
  have H1 : Own [] w w1 [.row v1 22 1 8 (List.map vU32 firstS.vals)] := H0.splice [] [] [.row v1 22 1 8 (List.map vU32 firstS.vals)] rfl rfl hq1 (Fits.solid True.intro Fits.nil)
  refine WL.op rfl rfl (op_callF Fa.C136 rfl ((roots64_ok _).mono (fun e w2 hq => ?_)))
  obtain ⟨v2, rfl, hq2⟩ := hq
  refine ⟨_, rfl, ?_⟩
  have H2 : Own [] w w2 [.row v1 22 1 8 (List.map vU32 firstS.vals), .row v2 22 1 64 (List.map vU32 keyL)] := H1.splice [] [] [.row v2 22 1 64 (List.map vU32 keyL)] rfl rfl hq2 (Fits.solid True.intro Fits.nil)
  refine WL.op rfl rfl (op_assign rfl ?_)
  refine WL.op rfl rfl (op_assign rfl ?_)
  refine WL.nil ?_
  refine WQ.next ?_
  refine WC.seq ?_
  refine WC.region ?_
  refine WL.op rfl rfl (op_move rfl ?_)
  refine WL.op rfl rfl (op_callF Fa.C137 rfl ((filled_ok s _ hs).mono (fun e w3 hq => ?_)))
  obtain ⟨v3, rfl, hq3⟩ := hq
  refine ⟨_, rfl, ?_⟩
  have H3 : Own [] w w3 [.row v1 22 1 8 (List.map vU32 firstS.vals), .row v2 22 1 64 (List.map vU32 keyL), .row v3 5 1 (s ++ pads s.length).length (List.map vU8 (s ++ pads s.length))] := H2.splice [] [] [.row v3 5 1 (s ++ pads s.length).length (List.map vU8 (s ++ pads s.length))] rfl rfl hq3 (Fits.solid True.intro Fits.nil)
  refine WL.op rfl rfl (op_assign rfl ?_)
  refine WL.nil ?_
  refine WQ.next ?_
  refine WC.seq ?_
  refine WC.block ?_
  refine WC.loop (α := Nat × Value × Value) (fun (j, qh, qb) => [(3, qh), (4, v2), (5, qb)]) (fun (j, qh, qb) w' => (64 * j ≤ (s ++ pads s.length).length) ∧ Own [] w w' [.row qh 22 1 8 (List.map vU32 (bst firstS (s ++ pads s.length) j).vals), .row v2 22 1 64 (List.map vU32 keyL), .row qb 5 1 (brest (s ++ pads s.length) j).length (List.map vU8 (brest (s ++ pads s.length) j))]) (fun (j, qh, qb) => (s ++ pads s.length).length - 64 * j) (0, v1, v3) ⟨(by omega), H3⟩ ⟨rfl, rfl, rfl, trivial⟩ ?_
  rintro ⟨j, qh, qb⟩ w4 ⟨hinv, H4⟩
  show WC _ _ _ _ _ [(3, qh), (4, v2), (5, qb)] _
  have hb0 := brest_length (s ++ pads s.length) j
  have hP : (s ++ pads s.length).length % 64 = 0 := (by have := pads_length s.length; rw [List.length_append]; omega)
  refine WC.seq ?_
  refine WC.seq ?_
  refine WC.region ?_
  refine WL.op rfl rfl (op_move rfl ?_)
  refine WL.op rfl rfl (op_lenA Try.underlying73 rfl (H4.arrR (i := 2) rfl) ?_)
  refine WL.op rfl rfl (op_gtrN (b := 0) rfl rfl ?_)
  refine WL.nil ?_
  refine WQ.next ?_
  refine WC.cond rfl (fun (hb5 : (decide ((brest (s ++ pads s.length) j).length > 0)) = true) => ?_) (fun (hb5 : (decide ((brest (s ++ pads s.length) j).length > 0)) = false) => ?_)
  ·
    have hc5 := of_decide_eq_true hb5
    refine WC.skip ?_
    refine WQ.next ?_
    refine WC.block ?_
    refine WC.seq ?_
    refine WC.region ?_
    refine WL.op rfl rfl (op_move rfl ?_)
    refine WL.op rfl rfl (op_move rfl ?_)
    refine WL.op rfl rfl (op_move rfl ?_)
    refine WL.op rfl rfl (op_cutHi (b := 64) Try.underlying73 Fa.I5 rfl (H4.arrR (i := 2) rfl) rfl (by omega) ?_)
    refine WL.op rfl rfl (op_callF Fa.C138 rfl ((rblock_ok (bst firstS (s ++ pads s.length) j) _ _ _ ((brest (s ++ pads s.length) j).take 64) _ (by rw [List.length_take]; omega) (H4.arrR (i := 0) rfl) (H4.arrR (i := 1) rfl) (((H4.arrR (i := 2) rfl)).cutHiM (f := vU8) (l := (brest (s ++ pads s.length) j)) (b := 64) (by omega))).mono (fun e w6 hq => ?_)))
    obtain ⟨v6, rfl, hq6⟩ := hq
    refine ⟨_, rfl, ?_⟩
    have H6 : Own [] w w6 [.row qh 22 1 8 (List.map vU32 (bst firstS (s ++ pads s.length) j).vals), .row v2 22 1 64 (List.map vU32 keyL), .row qb 5 1 (brest (s ++ pads s.length) j).length (List.map vU8 (brest (s ++ pads s.length) j)), .row v6 22 1 8 (List.map vU32 (blockS (bst firstS (s ++ pads s.length) j) ((brest (s ++ pads s.length) j).take 64)).vals)] := H4.splice [] [] [.row v6 22 1 8 (List.map vU32 (blockS (bst firstS (s ++ pads s.length) j) ((brest (s ++ pads s.length) j).take 64)).vals)] rfl rfl hq6 (Fits.solid True.intro Fits.nil)
    refine WL.op rfl rfl (op_assign rfl ?_)
    refine WL.nil ?_
    refine WQ.next ?_
    refine WC.region ?_
    refine WL.op rfl rfl (op_move rfl ?_)
    refine WL.op rfl rfl (op_cutLo (a := 64) Try.underlying73 Fa.I5 rfl (H6.arrR (i := 2) rfl) rfl (by omega) ?_)
    have H7 := H6.cutLoM (f := vU8) (l := (brest (s ++ pads s.length) j)) (a := 64) (i := 2) rfl (by omega)
    refine WL.op rfl rfl (op_assign rfl ?_)
    refine WL.nil ?_
    refine WQ.inNormal ?_
    exact WQ.round (j + 1, v6, (cutV qb 64 (brest (s ++ pads s.length) j).length 1)) ⟨(by omega), (Own.rowEqN (i := 2) (f := vU8) (H7.sel [3, 1, 2] rfl rfl) rfl rfl (List.length_drop).symm)⟩ ⟨rfl, rfl, rfl, trivial⟩ (by show (s ++ pads s.length).length - 64 * (j + 1) < (s ++ pads s.length).length - 64 * j; omega)
  ·
    have hc5 := of_decide_eq_false hb5
    refine WC.exit ?_
    refine WQ.thenExit ?_
    refine WQ.thenExit ?_
    refine WQ.inHere ?_
    refine WQ.next ?_
    refine WC.seq ?_
    refine WC.region ?_
    refine WL.op rfl rfl (op_assign rfl ?_)
    have H8 := H4.nilRow 5 1
    refine WL.nil ?_
    refine WQ.next ?_
    refine WC.seq ?_
    refine WC.seq ?_
    refine WC.region ?_
    refine WL.op rfl rfl (op_assign rfl ?_)
    refine WL.nil ?_
    refine WQ.next ?_
    refine WC.block ?_
    refine WC.loop (α := Nat × Value) (fun (k, t2) => [(3, qh), (6, t2), (7, (vN k))]) (fun (k, t2) w' => (k ≤ 8) ∧ Own [] w w' [.row qh 22 1 8 (List.map vU32 (bst firstS (s ++ pads s.length) j).vals), .row v2 22 1 64 (List.map vU32 keyL), .row qb 5 1 (brest (s ++ pads s.length) j).length (List.map vU8 (brest (s ++ pads s.length) j)), .row t2 5 1 (4 * k) (List.map vU8 (outTo (bst firstS (s ++ pads s.length) j) k))]) (fun (k, t2) => 8 - k) (0, (.slice none 0 0)) ⟨(by omega), H8⟩ ⟨rfl, rfl, rfl, trivial⟩ ?_
    rintro ⟨k, t2⟩ w9 ⟨hinv, H9⟩
    show WC _ _ _ _ _ [(3, qh), (6, t2), (7, (vN k))] _
    refine WC.seq ?_
    refine WC.seq ?_
    refine WC.region ?_
    refine WL.op rfl rfl (op_move rfl ?_)
    refine WL.op rfl rfl (op_lssN (b := 8) rfl rfl ?_)
    refine WL.nil ?_
    refine WQ.next ?_
    refine WC.cond rfl (fun (hb10 : (decide (k < 8)) = true) => ?_) (fun (hb10 : (decide (k < 8)) = false) => ?_)
    ·
      have hc10 := of_decide_eq_true hb10
      refine WC.skip ?_
      refine WQ.next ?_
      refine WC.seq ?_
      refine WC.block ?_
      refine WC.draw 25 Fa.M H9 (HW.op rfl (fun w1 H1 => op_move rfl ⟨rfl, Fr.refl _ _⟩) (HW.op rfl (fun w1 H1 => op_move rfl ⟨rfl, Fr.refl _ _⟩) (HW.op rfl (fun w1 H1 => op_move rfl ⟨rfl, Fr.refl _ _⟩) (HW.op rfl (fun w1 H1 => op_indexAddr1 Try.underlying64 Fa.I22 rfl (H1.arrR (i := 0) rfl) rfl (by omega) ⟨rfl, Fr.refl _ _⟩) (HW.op rfl (fun w1 H1 => op_load rfl ((H1.arrR (i := 0) rfl).at (get_map vU32 0 (Arr.ltM (H1.arrR (i := 0) rfl) (by omega)))) Try.underlying22 rfl ⟨rfl, Fr.refl _ _⟩) (HW.op rfl (fun w1 H1 => op_shrU32 (s := 24) rfl rfl ⟨rfl, Fr.refl _ _⟩) (HW.op rfl (fun w1 H1 => op_convU32U8 (hs := Try.underlying22) (hd := Try.underlying5) rfl ⟨rfl, Fr.refl _ _⟩) (HW.op rfl (fun w1 H1 => op_move rfl ⟨rfl, Fr.refl _ _⟩) (HW.op rfl (fun w1 H1 => op_move rfl ⟨rfl, Fr.refl _ _⟩) (HW.op rfl (fun w1 H1 => op_indexAddr1 Try.underlying64 Fa.I22 rfl (H1.arrR (i := 0) rfl) rfl (by omega) ⟨rfl, Fr.refl _ _⟩) (HW.op rfl (fun w1 H1 => op_load rfl ((H1.arrR (i := 0) rfl).at (get_map vU32 0 (Arr.ltM (H1.arrR (i := 0) rfl) (by omega)))) Try.underlying22 rfl ⟨rfl, Fr.refl _ _⟩) (HW.op rfl (fun w1 H1 => op_shrU32 (s := 16) rfl rfl ⟨rfl, Fr.refl _ _⟩) (HW.op rfl (fun w1 H1 => op_convU32U8 (hs := Try.underlying22) (hd := Try.underlying5) rfl ⟨rfl, Fr.refl _ _⟩) (HW.op rfl (fun w1 H1 => op_move rfl ⟨rfl, Fr.refl _ _⟩) (HW.op rfl (fun w1 H1 => op_move rfl ⟨rfl, Fr.refl _ _⟩) (HW.op rfl (fun w1 H1 => op_indexAddr1 Try.underlying64 Fa.I22 rfl (H1.arrR (i := 0) rfl) rfl (by omega) ⟨rfl, Fr.refl _ _⟩) (HW.op rfl (fun w1 H1 => op_load rfl ((H1.arrR (i := 0) rfl).at (get_map vU32 0 (Arr.ltM (H1.arrR (i := 0) rfl) (by omega)))) Try.underlying22 rfl ⟨rfl, Fr.refl _ _⟩) (HW.op rfl (fun w1 H1 => op_shrU32 (s := 8) rfl rfl ⟨rfl, Fr.refl _ _⟩) (HW.op rfl (fun w1 H1 => op_convU32U8 (hs := Try.underlying22) (hd := Try.underlying5) rfl ⟨rfl, Fr.refl _ _⟩) (HW.op rfl (fun w1 H1 => op_move rfl ⟨rfl, Fr.refl _ _⟩) (HW.op rfl (fun w1 H1 => op_move rfl ⟨rfl, Fr.refl _ _⟩) (HW.op rfl (fun w1 H1 => op_indexAddr1 Try.underlying64 Fa.I22 rfl (H1.arrR (i := 0) rfl) rfl (by omega) ⟨rfl, Fr.refl _ _⟩) (HW.op rfl (fun w1 H1 => op_load rfl ((H1.arrR (i := 0) rfl).at (get_map vU32 0 (Arr.ltM (H1.arrR (i := 0) rfl) (by omega)))) Try.underlying22 rfl ⟨rfl, Fr.refl _ _⟩) (HW.op rfl (fun w1 H1 => op_convU32U8 (hs := Try.underlying22) (hd := Try.underlying5) rfl ⟨rfl, Fr.refl _ _⟩) (HW.flt (mk := fun bq => .slice (some ⟨bq.1, 0, none⟩) 4 4) (ent := fun bq => .row (.slice (some ⟨bq.1, 0, none⟩) 4 4) _ _ _ _) rfl (fun w1 _ => op_buildSlice (cs := [_, _, _, _]) (Own.start w1 []) Try.underlying73 Fa.I5 rfl rfl rfl rfl (by decide) (by decide) (fun bq w2 H2 => ⟨(bq, undef), rfl, H2, True.intro⟩))  HW.nil))))))))))))))))))))))))) (by kernel_rfl) ?_
      intro β11 w11 H11
      refine WL.op rfl rfl (op_appendM (f := vU8) (l := (outTo (bst firstS (s ++ pads s.length) j) k)) (l' := [(UInt8.ofNat (shrU32 ((bst firstS (s ++ pads s.length) j).vals.getD k 0) 24).toNat), (UInt8.ofNat (shrU32 ((bst firstS (s ++ pads s.length) j).vals.getD k 0) 16).toNat), (UInt8.ofNat (shrU32 ((bst firstS (s ++ pads s.length) j).vals.getD k 0) 8).toNat), (UInt8.ofNat ((bst firstS (s ++ pads s.length) j).vals.getD k 0).toNat)]) (i := 3) H11 Try.underlying73 Fa.I5 rfl rfl rfl rfl (Src.ofArr Try.underlying73 (H11.arrR (i := 4) rfl)) (one_mapM (fun _ => rfl)) (by omega) (by omega) (fun v12 w12 H12 => ?_))
      refine WL.op rfl rfl (op_assign rfl ?_)
      refine WL.nil ?_
      refine WQ.inNormal ?_
      refine WQ.next ?_
      refine WC.region ?_
      refine WL.op rfl rfl (op_move rfl ?_)
      refine WL.op rfl rfl (op_addN (b := 1) rfl rfl (by omega) ?_)
      refine WL.op rfl rfl (op_assign rfl ?_)
      refine WL.nil ?_
      exact WQ.round (k + 1, v12) ⟨(by omega), (H12.take 4)⟩ ⟨rfl, rfl, rfl, trivial⟩ (by show 8 - (k + 1) < 8 - k; omega)
    ·
      have hc10 := of_decide_eq_false hb10
      refine WC.exit ?_
      refine WQ.thenExit ?_
      refine WQ.thenExit ?_
      refine WQ.inHere ?_
      refine WQ.next ?_
      refine WC.seq ?_
      refine WC.region ?_
      refine WL.op rfl rfl (op_move rfl ?_)
      refine WL.op rfl rfl (op_bytesStr (l := (outTo (bst firstS (s ++ pads s.length) j) k)) Try.underlying73 Try.underlying5 Try.underlying9 rfl (H9.arrR (i := 3) rfl) rfl ?_)
      refine WL.op rfl rfl (op_assign rfl ?_)
      refine WL.nil ?_
      refine WQ.next ?_
      refine WC.ret ?_
      refine WQ.out (.tmp rfl .nil) ?_
      exact ⟨by have hk : k = 8 := (by omega); subst hk; have hj : j = (s ++ pads s.length).length / 64 := (by omega); subst hj; rfl, H9.fr⟩
end Go.Proofs.Ytpnghdalnghpcaa
