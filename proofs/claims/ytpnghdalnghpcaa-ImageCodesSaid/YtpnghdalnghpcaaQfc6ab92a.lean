/- General lemmas and walks: WImg4, WImg5, WImg6, WImg7, WImg8. No condition but what each theorem names. -/
import Derived.Test.YtpnghdalnghpcaaQf3143682
import Derived.Test.YtpnghdalnghpcaaQca407e87
import Derived.Test.YtpnghdalnghpcaaQ474e3aaf
/-! from WImg4 -/
namespace Go.Proofs.Ytpnghdalnghpcaa
open Go.Owl Go.Spec
set_option maxRecDepth 100000 in
theorem eqS_ok (va vb : Value) (a b : List Sg) (w : World) (hA : Arr w va 3 a.length (List.flatMap sgc a)) (hB : Arr w vb 3 b.length (List.flatMap sgc b)) (hn : a.length < 2 ^ 47) :
    Calls Try.prog 90 #[va, vb] w (fun e w' => e = .returned (.bool (decide (a = b))) ∧ Fr [] w w') := by
  refine enter (args := [va, vb]) Try.func90 rfl rfl ?_
  have H0 : Own [] w w [] := Own.start w []
  refine WC.seq ?_
  refine WC.region ?_
  refine WL.op rfl rfl (op_assign rfl ?_)
  refine WL.nil ?_
  refine WQ.next ?_
  refine WC.seq ?_
  refine WC.seq ?_
  refine WC.region ?_
  refine WL.op rfl rfl (op_move rfl ?_)
  refine WL.op rfl rfl (op_lenA Try.underlying57 rfl (H0.arr hA) ?_)
  refine WL.op rfl rfl (op_move rfl ?_)
  refine WL.op rfl rfl (op_lenA Try.underlying57 rfl (H0.arr hB) ?_)
  refine WL.op rfl rfl (op_neqN rfl rfl ?_)
  refine WL.nil ?_
  refine WQ.next ?_
  refine WC.cond rfl (fun (hb1 : (decide (a.length ≠ b.length)) = true) => ?_) (fun (hb1 : (decide (a.length ≠ b.length)) = false) => ?_)
  ·
    have hc1 := of_decide_eq_true hb1
    refine WC.seq ?_
    refine WC.region ?_
    refine WL.op rfl rfl (op_assign rfl ?_)
    refine WL.nil ?_
    refine WQ.next ?_
    refine WC.ret ?_
    refine WQ.thenRet ?_
    refine WQ.out (.tmp rfl .nil) ?_
    exact ⟨by rw [decide_eq_false (fun h : a = b => hc1 (by rw [h]))]; rfl, H0.fr⟩
  ·
    have hc1 := of_decide_eq_false hb1
    refine WC.skip ?_
    refine WQ.next ?_
    refine WC.seq ?_
    refine WC.seq ?_
    refine WC.region ?_
    refine WL.op rfl rfl (op_move rfl ?_)
    refine WL.op rfl rfl (op_lenA Try.underlying57 rfl (H0.arr hA) ?_)
    refine WL.op rfl rfl (op_move rfl ?_)
    refine WL.nil ?_
    refine WQ.next ?_
    refine WC.block ?_
    refine WC.loop (α := Nat) (fun k => [(0, va), (1, vb), (12, (vN a.length)), (13, (vN k))]) (fun k w' => (k ≤ a.length ∧ (∀ j, j < k → a.getD j Sg.zero = b.getD j Sg.zero)) ∧ Own [] w w' []) (fun k => a.length - k) 0 ⟨⟨Nat.zero_le _, fun j h => by omega⟩, H0⟩ ⟨rfl, rfl, rfl, rfl, trivial⟩ ?_
    rintro k w2 ⟨⟨hk1, hok⟩, H2⟩
    show WC _ _ _ _ _ [(0, va), (1, vb), (12, (vN a.length)), (13, (vN k))] _
    refine WC.seq ?_
    refine WC.region ?_
    refine WL.op rfl rfl (op_lssN rfl rfl ?_)
    refine WL.nil ?_
    refine WQ.next ?_
    refine WC.seq ?_
    refine WC.cond rfl (fun (hb3 : (decide (k < a.length)) = true) => ?_) (fun (hb3 : (decide (k < a.length)) = false) => ?_)
    ·
      have hc3 := of_decide_eq_true hb3
      refine WC.skip ?_
      refine WQ.next ?_
      refine WC.seq ?_
      refine WC.block ?_
      refine WC.seq ?_
      refine WC.region ?_
      refine WL.op rfl rfl (op_move rfl ?_)
      refine WL.op rfl rfl (op_assign rfl ?_)
      refine WL.nil ?_
      refine WQ.next ?_
      refine WC.seq ?_
      refine WC.draw 9 Fa.M H2 (HW.op rfl (fun w1 H1 => op_move rfl ⟨rfl, Fr.refl _ _⟩) (HW.op rfl (fun w1 H1 => op_move rfl ⟨rfl, Fr.refl _ _⟩) (HW.op rfl (fun w1 H1 => op_indexAddr Try.underlying57 Fa.I111 rfl (H1.arr hA) rfl (by omega) ⟨rfl, Fr.refl _ _⟩) (HW.op rfl (fun w1 H1 => op_loadSP (vs := sgc (a.getD k Sg.zero)) rfl (Arr.atsF (H1.arr hA) (fun _ => rfl) (by decide) Sg.zero (by omega)) Try.underlying111 rfl Fa.I111 rfl ⟨rfl, Fr.refl _ _⟩) (HW.op rfl (fun w1 H1 => op_move rfl ⟨rfl, Fr.refl _ _⟩) (HW.op rfl (fun w1 H1 => op_move rfl ⟨rfl, Fr.refl _ _⟩) (HW.op rfl (fun w1 H1 => op_indexAddr Try.underlying57 Fa.I111 rfl (H1.arr hB) rfl (by omega) ⟨rfl, Fr.refl _ _⟩) (HW.op rfl (fun w1 H1 => op_loadSP (vs := sgc (b.getD k Sg.zero)) rfl (Arr.atsF (H1.arr hB) (fun _ => rfl) (by decide) Sg.zero (by omega)) Try.underlying111 rfl Fa.I111 rfl ⟨rfl, Fr.refl _ _⟩) (HW.op rfl (fun w1 H1 => op_neqS (xs := [_, _, _]) (ys := [_, _, _]) (b := (!((decide ((a.getD k Sg.zero).a = (b.getD k Sg.zero).a)) && ((decide ((a.getD k Sg.zero).p = (b.getD k Sg.zero).p)) && (decide ((a.getD k Sg.zero).b = (b.getD k Sg.zero).b)))))) Fa.FL111 rfl rfl rfl (by simp [eqAll, veqStr, veqU32, veqU8]) ⟨rfl, Fr.refl _ _⟩)  HW.nil))))))))) (by kernel_rfl) ?_
      intro β4 w4 H4
      refine WL.nil ?_
      refine WQ.next ?_
      refine WC.cond rfl (fun (hb5 : (!((decide ((a.getD k Sg.zero).a = (b.getD k Sg.zero).a)) && ((decide ((a.getD k Sg.zero).p = (b.getD k Sg.zero).p)) && (decide ((a.getD k Sg.zero).b = (b.getD k Sg.zero).b))))) = true) => ?_) (fun (hb5 : (!((decide ((a.getD k Sg.zero).a = (b.getD k Sg.zero).a)) && ((decide ((a.getD k Sg.zero).p = (b.getD k Sg.zero).p)) && (decide ((a.getD k Sg.zero).b = (b.getD k Sg.zero).b))))) = false) => ?_)
      ·
        have hn5 := (Bool.not_eq_true' _).mp hb5
        refine WC.seq ?_
        refine WC.region ?_
        refine WL.op rfl rfl (op_assign rfl ?_)
        refine WL.nil ?_
        refine WQ.next ?_
        refine WC.ret ?_
        refine WQ.inRet ?_
        refine WQ.thenRet ?_
        refine WQ.thenRet ?_
        refine WQ.inRet ?_
        refine WQ.thenRet ?_
        refine WQ.out (.tmp rfl .nil) ?_
        exact ⟨by rw [decide_eq_false (fun h : a = b => (sg_ne hn5) (by rw [h]))]; rfl, H4.fr⟩
      ·
        have hn5 := (Bool.not_eq_false' _).mp hb5
        refine WC.skip ?_
        refine WQ.inNormal ?_
        refine WQ.next ?_
        refine WC.region ?_
        refine WL.op rfl rfl (op_addN (b := 1) rfl rfl (by omega) ?_)
        refine WL.op rfl rfl (op_move rfl ?_)
        refine WL.nil ?_
        exact WQ.round (k + 1) ⟨⟨by omega, allPrev hok (sg_eq hn5)⟩, H4⟩ ⟨rfl, rfl, rfl, rfl, trivial⟩ (by omega)
    ·
      have hc3 := of_decide_eq_false hb3
      refine WC.exit ?_
      refine WQ.thenExit ?_
      refine WQ.thenExit ?_
      refine WQ.inHere ?_
      refine WQ.next ?_
      refine WC.seq ?_
      refine WC.region ?_
      refine WL.op rfl rfl (op_assign rfl ?_)
      refine WL.nil ?_
      refine WQ.next ?_
      refine WC.ret ?_
      refine WQ.out (.tmp rfl .nil) ?_
      exact ⟨by rw [decide_eq_true (list_eqD (by omega) (fun j hj => hok j (by omega)))]; rfl, H2.fr⟩
set_option maxRecDepth 100000 in
theorem eqX_ok (va vb : Value) (a b : List Xt) (w : World) (hA : Arr w va 2 a.length (List.flatMap xtc a)) (hB : Arr w vb 2 b.length (List.flatMap xtc b)) (hn : a.length < 2 ^ 47) :
    Calls Try.prog 127 #[va, vb] w (fun e w' => e = .returned (.bool (decide (a = b))) ∧ Fr [] w w') := by
  refine enter (args := [va, vb]) Try.func127 rfl rfl ?_
  have H0 : Own [] w w [] := Own.start w []
  refine WC.seq ?_
  refine WC.region ?_
  refine WL.op rfl rfl (op_assign rfl ?_)
  refine WL.nil ?_
  refine WQ.next ?_
  refine WC.seq ?_
  refine WC.seq ?_
  refine WC.region ?_
  refine WL.op rfl rfl (op_move rfl ?_)
  refine WL.op rfl rfl (op_lenA Try.underlying53 rfl (H0.arr hA) ?_)
  refine WL.op rfl rfl (op_move rfl ?_)
  refine WL.op rfl rfl (op_lenA Try.underlying53 rfl (H0.arr hB) ?_)
  refine WL.op rfl rfl (op_neqN rfl rfl ?_)
  refine WL.nil ?_
  refine WQ.next ?_
  refine WC.cond rfl (fun (hb1 : (decide (a.length ≠ b.length)) = true) => ?_) (fun (hb1 : (decide (a.length ≠ b.length)) = false) => ?_)
  ·
    have hc1 := of_decide_eq_true hb1
    refine WC.seq ?_
    refine WC.region ?_
    refine WL.op rfl rfl (op_assign rfl ?_)
    refine WL.nil ?_
    refine WQ.next ?_
    refine WC.ret ?_
    refine WQ.thenRet ?_
    refine WQ.out (.tmp rfl .nil) ?_
    exact ⟨by rw [decide_eq_false (fun h : a = b => hc1 (by rw [h]))]; rfl, H0.fr⟩
  ·
    have hc1 := of_decide_eq_false hb1
    refine WC.skip ?_
    refine WQ.next ?_
    refine WC.seq ?_
    refine WC.seq ?_
    refine WC.region ?_
    refine WL.op rfl rfl (op_move rfl ?_)
    refine WL.op rfl rfl (op_lenA Try.underlying53 rfl (H0.arr hA) ?_)
    refine WL.op rfl rfl (op_move rfl ?_)
    refine WL.nil ?_
    refine WQ.next ?_
    refine WC.block ?_
    refine WC.loop (α := Nat) (fun k => [(0, va), (1, vb), (12, (vN a.length)), (13, (vN k))]) (fun k w' => (k ≤ a.length ∧ (∀ j, j < k → a.getD j Xt.zero = b.getD j Xt.zero)) ∧ Own [] w w' []) (fun k => a.length - k) 0 ⟨⟨Nat.zero_le _, fun j h => by omega⟩, H0⟩ ⟨rfl, rfl, rfl, rfl, trivial⟩ ?_
    rintro k w2 ⟨⟨hk1, hok⟩, H2⟩
    show WC _ _ _ _ _ [(0, va), (1, vb), (12, (vN a.length)), (13, (vN k))] _
    refine WC.seq ?_
    refine WC.region ?_
    refine WL.op rfl rfl (op_lssN rfl rfl ?_)
    refine WL.nil ?_
    refine WQ.next ?_
    refine WC.seq ?_
    refine WC.cond rfl (fun (hb3 : (decide (k < a.length)) = true) => ?_) (fun (hb3 : (decide (k < a.length)) = false) => ?_)
    ·
      have hc3 := of_decide_eq_true hb3
      refine WC.skip ?_
      refine WQ.next ?_
      refine WC.seq ?_
      refine WC.block ?_
      refine WC.seq ?_
      refine WC.region ?_
      refine WL.op rfl rfl (op_move rfl ?_)
      refine WL.op rfl rfl (op_assign rfl ?_)
      refine WL.nil ?_
      refine WQ.next ?_
      refine WC.seq ?_
      refine WC.draw 9 Fa.M H2 (HW.op rfl (fun w1 H1 => op_move rfl ⟨rfl, Fr.refl _ _⟩) (HW.op rfl (fun w1 H1 => op_move rfl ⟨rfl, Fr.refl _ _⟩) (HW.op rfl (fun w1 H1 => op_indexAddr Try.underlying53 Fa.I130 rfl (H1.arr hA) rfl (by omega) ⟨rfl, Fr.refl _ _⟩) (HW.op rfl (fun w1 H1 => op_loadSP (vs := xtc (a.getD k Xt.zero)) rfl (Arr.atsF (H1.arr hA) (fun _ => rfl) (by decide) Xt.zero (by omega)) Try.underlying130 rfl Fa.I130 rfl ⟨rfl, Fr.refl _ _⟩) (HW.op rfl (fun w1 H1 => op_move rfl ⟨rfl, Fr.refl _ _⟩) (HW.op rfl (fun w1 H1 => op_move rfl ⟨rfl, Fr.refl _ _⟩) (HW.op rfl (fun w1 H1 => op_indexAddr Try.underlying53 Fa.I130 rfl (H1.arr hB) rfl (by omega) ⟨rfl, Fr.refl _ _⟩) (HW.op rfl (fun w1 H1 => op_loadSP (vs := xtc (b.getD k Xt.zero)) rfl (Arr.atsF (H1.arr hB) (fun _ => rfl) (by decide) Xt.zero (by omega)) Try.underlying130 rfl Fa.I130 rfl ⟨rfl, Fr.refl _ _⟩) (HW.op rfl (fun w1 H1 => op_neqS (xs := [_, _]) (ys := [_, _]) (b := (!((decide ((a.getD k Xt.zero).id = (b.getD k Xt.zero).id)) && (decide ((a.getD k Xt.zero).bl = (b.getD k Xt.zero).bl))))) Fa.FL130 rfl rfl rfl (by simp [eqAll, veqU32]) ⟨rfl, Fr.refl _ _⟩)  HW.nil))))))))) (by kernel_rfl) ?_
      intro β4 w4 H4
      refine WL.nil ?_
      refine WQ.next ?_
      refine WC.cond rfl (fun (hb5 : (!((decide ((a.getD k Xt.zero).id = (b.getD k Xt.zero).id)) && (decide ((a.getD k Xt.zero).bl = (b.getD k Xt.zero).bl)))) = true) => ?_) (fun (hb5 : (!((decide ((a.getD k Xt.zero).id = (b.getD k Xt.zero).id)) && (decide ((a.getD k Xt.zero).bl = (b.getD k Xt.zero).bl)))) = false) => ?_)
      ·
        have hn5 := (Bool.not_eq_true' _).mp hb5
        refine WC.seq ?_
        refine WC.region ?_
        refine WL.op rfl rfl (op_assign rfl ?_)
        refine WL.nil ?_
        refine WQ.next ?_
        refine WC.ret ?_
        refine WQ.inRet ?_
        refine WQ.thenRet ?_
        refine WQ.thenRet ?_
        refine WQ.inRet ?_
        refine WQ.thenRet ?_
        refine WQ.out (.tmp rfl .nil) ?_
        exact ⟨by rw [decide_eq_false (fun h : a = b => (xt_ne hn5) (by rw [h]))]; rfl, H4.fr⟩
      ·
        have hn5 := (Bool.not_eq_false' _).mp hb5
        refine WC.skip ?_
        refine WQ.inNormal ?_
        refine WQ.next ?_
        refine WC.region ?_
        refine WL.op rfl rfl (op_addN (b := 1) rfl rfl (by omega) ?_)
        refine WL.op rfl rfl (op_move rfl ?_)
        refine WL.nil ?_
        exact WQ.round (k + 1) ⟨⟨by omega, allPrev hok (xt_eq hn5)⟩, H4⟩ ⟨rfl, rfl, rfl, rfl, trivial⟩ (by omega)
    ·
      have hc3 := of_decide_eq_false hb3
      refine WC.exit ?_
      refine WQ.thenExit ?_
      refine WQ.thenExit ?_
      refine WQ.inHere ?_
      refine WQ.next ?_
      refine WC.seq ?_
      refine WC.region ?_
      refine WL.op rfl rfl (op_assign rfl ?_)
      refine WL.nil ?_
      refine WQ.next ?_
      refine WC.ret ?_
      refine WQ.out (.tmp rfl .nil) ?_
      exact ⟨by rw [decide_eq_true (list_eqD (by omega) (fun j hj => hok j (by omega)))]; rfl, H2.fr⟩
set_option maxRecDepth 100000 in
theorem eq16_ok (va vb : Value) (a b : List UInt16) (w : World) (hA : Arr w va 1 a.length (List.map vU16 a)) (hB : Arr w vb 1 b.length (List.map vU16 b)) (hn : a.length < 2 ^ 47) :
    Calls Try.prog 128 #[va, vb] w (fun e w' => e = .returned (.bool (decide (a = b))) ∧ Fr [] w w') := by
  refine enter (args := [va, vb]) Try.func128 rfl rfl ?_
  have H0 : Own [] w w [] := Own.start w []
  refine WC.seq ?_
  refine WC.region ?_
  refine WL.op rfl rfl (op_assign rfl ?_)
  refine WL.nil ?_
  refine WQ.next ?_
  refine WC.seq ?_
  refine WC.seq ?_
  refine WC.region ?_
  refine WL.op rfl rfl (op_move rfl ?_)
  refine WL.op rfl rfl (op_lenA Try.underlying54 rfl (H0.arr hA) ?_)
  refine WL.op rfl rfl (op_move rfl ?_)
  refine WL.op rfl rfl (op_lenA Try.underlying54 rfl (H0.arr hB) ?_)
  refine WL.op rfl rfl (op_neqN rfl rfl ?_)
  refine WL.nil ?_
  refine WQ.next ?_
  refine WC.cond rfl (fun (hb1 : (decide (a.length ≠ b.length)) = true) => ?_) (fun (hb1 : (decide (a.length ≠ b.length)) = false) => ?_)
  ·
    have hc1 := of_decide_eq_true hb1
    refine WC.seq ?_
    refine WC.region ?_
    refine WL.op rfl rfl (op_assign rfl ?_)
    refine WL.nil ?_
    refine WQ.next ?_
    refine WC.ret ?_
    refine WQ.thenRet ?_
    refine WQ.out (.tmp rfl .nil) ?_
    exact ⟨by rw [decide_eq_false (fun h : a = b => hc1 (by rw [h]))]; rfl, H0.fr⟩
  ·
    have hc1 := of_decide_eq_false hb1
    refine WC.skip ?_
    refine WQ.next ?_
    refine WC.seq ?_
    refine WC.seq ?_
    refine WC.region ?_
    refine WL.op rfl rfl (op_move rfl ?_)
    refine WL.op rfl rfl (op_lenA Try.underlying54 rfl (H0.arr hA) ?_)
    refine WL.op rfl rfl (op_move rfl ?_)
    refine WL.nil ?_
    refine WQ.next ?_
    refine WC.block ?_
    refine WC.loop (α := Nat) (fun k => [(0, va), (1, vb), (12, (vN a.length)), (13, (vN k))]) (fun k w' => (k ≤ a.length ∧ (∀ j, j < k → a.getD j 0 = b.getD j 0)) ∧ Own [] w w' []) (fun k => a.length - k) 0 ⟨⟨Nat.zero_le _, fun j h => by omega⟩, H0⟩ ⟨rfl, rfl, rfl, rfl, trivial⟩ ?_
    rintro k w2 ⟨⟨hk1, hok⟩, H2⟩
    show WC _ _ _ _ _ [(0, va), (1, vb), (12, (vN a.length)), (13, (vN k))] _
    refine WC.seq ?_
    refine WC.region ?_
    refine WL.op rfl rfl (op_lssN rfl rfl ?_)
    refine WL.nil ?_
    refine WQ.next ?_
    refine WC.seq ?_
    refine WC.cond rfl (fun (hb3 : (decide (k < a.length)) = true) => ?_) (fun (hb3 : (decide (k < a.length)) = false) => ?_)
    ·
      have hc3 := of_decide_eq_true hb3
      refine WC.skip ?_
      refine WQ.next ?_
      refine WC.seq ?_
      refine WC.block ?_
      refine WC.seq ?_
      refine WC.region ?_
      refine WL.op rfl rfl (op_move rfl ?_)
      refine WL.op rfl rfl (op_assign rfl ?_)
      refine WL.nil ?_
      refine WQ.next ?_
      refine WC.seq ?_
      refine WC.draw 9 Fa.M H2 (HW.op rfl (fun w1 H1 => op_move rfl ⟨rfl, Fr.refl _ _⟩) (HW.op rfl (fun w1 H1 => op_move rfl ⟨rfl, Fr.refl _ _⟩) (HW.op rfl (fun w1 H1 => op_indexAddr1 Try.underlying54 Fa.I92 rfl (H1.arr hA) rfl (by omega) ⟨rfl, Fr.refl _ _⟩) (HW.op rfl (fun w1 H1 => op_load rfl ((H1.arr hA).at (get_map vU16 0 (Arr.ltM (H1.arr hA) (by omega)))) Try.underlying92 rfl ⟨rfl, Fr.refl _ _⟩) (HW.op rfl (fun w1 H1 => op_move rfl ⟨rfl, Fr.refl _ _⟩) (HW.op rfl (fun w1 H1 => op_move rfl ⟨rfl, Fr.refl _ _⟩) (HW.op rfl (fun w1 H1 => op_indexAddr1 Try.underlying54 Fa.I92 rfl (H1.arr hB) rfl (by omega) ⟨rfl, Fr.refl _ _⟩) (HW.op rfl (fun w1 H1 => op_load rfl ((H1.arr hB).at (get_map vU16 0 (Arr.ltM (H1.arr hB) (by omega)))) Try.underlying92 rfl ⟨rfl, Fr.refl _ _⟩) (HW.op rfl (fun w1 H1 => op_neqU16 rfl rfl ⟨rfl, Fr.refl _ _⟩)  HW.nil))))))))) (by kernel_rfl) ?_
      intro β4 w4 H4
      refine WL.nil ?_
      refine WQ.next ?_
      refine WC.cond rfl (fun (hb5 : (decide ((a.getD k 0) ≠ (b.getD k 0))) = true) => ?_) (fun (hb5 : (decide ((a.getD k 0) ≠ (b.getD k 0))) = false) => ?_)
      ·
        have hc5 := of_decide_eq_true hb5
        refine WC.seq ?_
        refine WC.region ?_
        refine WL.op rfl rfl (op_assign rfl ?_)
        refine WL.nil ?_
        refine WQ.next ?_
        refine WC.ret ?_
        refine WQ.inRet ?_
        refine WQ.thenRet ?_
        refine WQ.thenRet ?_
        refine WQ.inRet ?_
        refine WQ.thenRet ?_
        refine WQ.out (.tmp rfl .nil) ?_
        exact ⟨by rw [decide_eq_false (fun h : a = b => hc5 (by rw [h]))]; rfl, H4.fr⟩
      ·
        have hc5 := of_decide_eq_false hb5
        refine WC.skip ?_
        refine WQ.inNormal ?_
        refine WQ.next ?_
        refine WC.region ?_
        refine WL.op rfl rfl (op_addN (b := 1) rfl rfl (by omega) ?_)
        refine WL.op rfl rfl (op_move rfl ?_)
        refine WL.nil ?_
        exact WQ.round (k + 1) ⟨⟨by omega, allPrev hok (Decidable.not_not.mp hc5)⟩, H4⟩ ⟨rfl, rfl, rfl, rfl, trivial⟩ (by omega)
    ·
      have hc3 := of_decide_eq_false hb3
      refine WC.exit ?_
      refine WQ.thenExit ?_
      refine WQ.thenExit ?_
      refine WQ.inHere ?_
      refine WQ.next ?_
      refine WC.seq ?_
      refine WC.region ?_
      refine WL.op rfl rfl (op_assign rfl ?_)
      refine WL.nil ?_
      refine WQ.next ?_
      refine WC.ret ?_
      refine WQ.out (.tmp rfl .nil) ?_
      exact ⟨by rw [decide_eq_true (list_eqD (by omega) (fun j hj => hok j (by omega)))]; rfl, H2.fr⟩
set_option maxRecDepth 100000 in
theorem same15_ok (va vb : Value) (a b : List UInt32) (w : World) (hA : Arr w va 1 a.length (List.map vU32 a)) (hB : Arr w vb 1 b.length (List.map vU32 b)) (hn : a.length < 2 ^ 47) :
    Calls Try.prog 45 #[va, vb] w (fun e w' => e = .returned (.bool (decide (a = b))) ∧ Fr [] w w') := by
  refine enter (args := [va, vb]) Try.func45 rfl rfl ?_
  have H0 : Own [] w w [] := Own.start w []
  refine WC.seq ?_
  refine WC.region ?_
  refine WL.op rfl rfl (op_assign rfl ?_)
  refine WL.nil ?_
  refine WQ.next ?_
  refine WC.seq ?_
  refine WC.seq ?_
  refine WC.region ?_
  refine WL.op rfl rfl (op_move rfl ?_)
  refine WL.op rfl rfl (op_lenA Try.underlying64 rfl (H0.arr hA) ?_)
  refine WL.op rfl rfl (op_move rfl ?_)
  refine WL.op rfl rfl (op_lenA Try.underlying64 rfl (H0.arr hB) ?_)
  refine WL.op rfl rfl (op_neqN rfl rfl ?_)
  refine WL.nil ?_
  refine WQ.next ?_
  refine WC.cond rfl (fun (hb1 : (decide (a.length ≠ b.length)) = true) => ?_) (fun (hb1 : (decide (a.length ≠ b.length)) = false) => ?_)
  ·
    have hc1 := of_decide_eq_true hb1
    refine WC.seq ?_
    refine WC.region ?_
    refine WL.op rfl rfl (op_assign rfl ?_)
    refine WL.nil ?_
    refine WQ.next ?_
    refine WC.ret ?_
    refine WQ.thenRet ?_
    refine WQ.out (.tmp rfl .nil) ?_
    exact ⟨by rw [decide_eq_false (fun h : a = b => hc1 (by rw [h]))]; rfl, H0.fr⟩
  ·
    have hc1 := of_decide_eq_false hb1
    refine WC.skip ?_
    refine WQ.next ?_
    refine WC.seq ?_
    refine WC.seq ?_
    refine WC.region ?_
    refine WL.op rfl rfl (op_assign rfl ?_)
    refine WL.nil ?_
    refine WQ.next ?_
    refine WC.block ?_
    refine WC.loop (α := Nat) (fun k => [(0, va), (1, vb), (5, (vN k))]) (fun k w' => (k ≤ a.length ∧ (∀ j, j < k → a.getD j 0 = b.getD j 0)) ∧ Own [] w w' []) (fun k => a.length - k) 0 ⟨⟨Nat.zero_le _, fun j h => by omega⟩, H0⟩ ⟨rfl, rfl, rfl, trivial⟩ ?_
    rintro k w2 ⟨⟨hk1, hok⟩, H2⟩
    show WC _ _ _ _ _ [(0, va), (1, vb), (5, (vN k))] _
    refine WC.seq ?_
    refine WC.seq ?_
    refine WC.region ?_
    refine WL.op rfl rfl (op_move rfl ?_)
    refine WL.op rfl rfl (op_move rfl ?_)
    refine WL.op rfl rfl (op_lenA Try.underlying64 rfl (H2.arr hA) ?_)
    refine WL.op rfl rfl (op_lssN rfl rfl ?_)
    refine WL.nil ?_
    refine WQ.next ?_
    refine WC.cond rfl (fun (hb3 : (decide (k < a.length)) = true) => ?_) (fun (hb3 : (decide (k < a.length)) = false) => ?_)
    ·
      have hc3 := of_decide_eq_true hb3
      refine WC.skip ?_
      refine WQ.next ?_
      refine WC.seq ?_
      refine WC.block ?_
      refine WC.seq ?_
      refine WC.draw 9 Fa.M H2 (HW.op rfl (fun w1 H1 => op_move rfl ⟨rfl, Fr.refl _ _⟩) (HW.op rfl (fun w1 H1 => op_move rfl ⟨rfl, Fr.refl _ _⟩) (HW.op rfl (fun w1 H1 => op_indexAddr1 Try.underlying64 Fa.I22 rfl (H1.arr hA) rfl (by omega) ⟨rfl, Fr.refl _ _⟩) (HW.op rfl (fun w1 H1 => op_load rfl ((H1.arr hA).at (get_map vU32 0 (Arr.ltM (H1.arr hA) (by omega)))) Try.underlying22 rfl ⟨rfl, Fr.refl _ _⟩) (HW.op rfl (fun w1 H1 => op_move rfl ⟨rfl, Fr.refl _ _⟩) (HW.op rfl (fun w1 H1 => op_move rfl ⟨rfl, Fr.refl _ _⟩) (HW.op rfl (fun w1 H1 => op_indexAddr1 Try.underlying64 Fa.I22 rfl (H1.arr hB) rfl (by omega) ⟨rfl, Fr.refl _ _⟩) (HW.op rfl (fun w1 H1 => op_load rfl ((H1.arr hB).at (get_map vU32 0 (Arr.ltM (H1.arr hB) (by omega)))) Try.underlying22 rfl ⟨rfl, Fr.refl _ _⟩) (HW.op rfl (fun w1 H1 => op_neqU32 rfl rfl ⟨rfl, Fr.refl _ _⟩)  HW.nil))))))))) (by kernel_rfl) ?_
      intro β4 w4 H4
      refine WL.nil ?_
      refine WQ.next ?_
      refine WC.cond rfl (fun (hb5 : (decide ((a.getD k 0) ≠ (b.getD k 0))) = true) => ?_) (fun (hb5 : (decide ((a.getD k 0) ≠ (b.getD k 0))) = false) => ?_)
      ·
        have hc5 := of_decide_eq_true hb5
        refine WC.seq ?_
        refine WC.region ?_
        refine WL.op rfl rfl (op_assign rfl ?_)
        refine WL.nil ?_
        refine WQ.next ?_
        refine WC.ret ?_
        refine WQ.inRet ?_
        refine WQ.thenRet ?_
        refine WQ.thenRet ?_
        refine WQ.inRet ?_
        refine WQ.thenRet ?_
        refine WQ.out (.tmp rfl .nil) ?_
        exact ⟨by rw [decide_eq_false (fun h : a = b => hc5 (by rw [h]))]; rfl, H4.fr⟩
      ·
        have hc5 := of_decide_eq_false hb5
        refine WC.skip ?_
        refine WQ.inNormal ?_
        refine WQ.next ?_
        refine WC.region ?_
        refine WL.op rfl rfl (op_move rfl ?_)
        refine WL.op rfl rfl (op_addN (b := 1) rfl rfl (by omega) ?_)
        refine WL.op rfl rfl (op_assign rfl ?_)
        refine WL.nil ?_
        exact WQ.round (k + 1) ⟨⟨by omega, allPrev hok (Decidable.not_not.mp hc5)⟩, H4⟩ ⟨rfl, rfl, rfl, trivial⟩ (by omega)
    ·
      have hc3 := of_decide_eq_false hb3
      refine WC.exit ?_
      refine WQ.thenExit ?_
      refine WQ.thenExit ?_
      refine WQ.inHere ?_
      refine WQ.next ?_
      refine WC.seq ?_
      refine WC.region ?_
      refine WL.op rfl rfl (op_assign rfl ?_)
      refine WL.nil ?_
      refine WQ.next ?_
      refine WC.ret ?_
      refine WQ.out (.tmp rfl .nil) ?_
      exact ⟨by rw [decide_eq_true (list_eqD (by omega) (fun j hj => hok j (by omega)))]; rfl, H2.fr⟩
set_option maxRecDepth 100000 in
theorem dsame_ok (pg : UInt32) (c : Bool) (ev pv : Value) (xs : List Xt) (ps : List UInt16) (pg' : UInt32) (c' : Bool) (ev' pv' : Value) (xs' : List Xt) (ps' : List UInt16) (w : World) (hE : Arr w ev 2 xs.length (List.flatMap xtc xs)) (hP : Arr w pv 1 ps.length (List.map vU16 ps)) (hF : Arr w ev' 2 xs'.length (List.flatMap xtc xs')) (hQ : Arr w pv' 1 ps'.length (List.map vU16 ps')) (hn : xs.length < 2 ^ 47) (hm : ps.length < 2 ^ 47) :
    Calls Try.prog 89 #[(.agg #[(vU32 pg), ev, pv, (.bool c)]), (.agg #[(vU32 pg'), ev', pv', (.bool c')])] w (fun e w' => e = .returned (.bool (sameM pg c xs ps pg' c' xs' ps')) ∧ Fr [] w w') := by
  refine enter (args := [(.agg #[(vU32 pg), ev, pv, (.bool c)]), (.agg #[(vU32 pg'), ev', pv', (.bool c')])]) Try.func89 rfl rfl ?_
  have H0 : Own [] w w [] := Own.start w []
  refine WC.seq ?_
  refine WC.region ?_
  refine WL.op rfl rfl (op_box H0 rfl rfl (fun b1 w1 H1 => ?_))
  refine WL.op rfl rfl (op_box H1 rfl rfl (fun b2 w2 H2 => ?_))
  refine WL.op rfl rfl (op_assign rfl ?_)
  refine WL.nil ?_
  refine WQ.next ?_
  refine WC.seq ?_
  refine WC.region ?_
  refine WL.op rfl rfl (op_fieldAddr rfl Fa.F56_0 ?_)
  refine WL.op rfl rfl (op_load rfl (H2.cell (i := 0) rfl rfl) Try.underlying22 rfl ?_)
  refine WL.op rfl rfl (op_fieldAddr rfl Fa.F56_0 ?_)
  refine WL.op rfl rfl (op_load rfl (H2.cell (i := 1) rfl rfl) Try.underlying22 rfl ?_)
  refine WL.op rfl rfl (op_eqlU32 rfl rfl ?_)
  refine WL.op rfl rfl (op_move rfl ?_)
  refine WL.split (t := 10) rfl (fun (hb3 : (decide (pg = pg')) = true) => ?_) (fun (hb3 : (decide (pg = pg')) = false) => ?_)
  ·
    have hc3 := of_decide_eq_true hb3
    refine WL.yes rfl rfl rfl hb3 rfl (op_fieldAddr rfl Fa.F56_3 ?_)
    refine WL.yes rfl rfl rfl hb3 rfl (op_load rfl (H2.cell (i := 0) rfl rfl) Try.underlying4 rfl ?_)
    refine WL.yes rfl rfl rfl hb3 rfl (op_fieldAddr rfl Fa.F56_3 ?_)
    refine WL.yes rfl rfl rfl hb3 rfl (op_load rfl (H2.cell (i := 1) rfl rfl) Try.underlying4 rfl ?_)
    refine WL.yes rfl rfl rfl hb3 rfl (op_eqlB Try.underlying4 rfl rfl ?_)
    refine WL.op rfl rfl (op_pickT rfl hb3 rfl ?_)
    refine WL.op rfl rfl (op_move rfl ?_)
    refine WL.split (t := 17) rfl (fun (hb4 : (c == c') = true) => ?_) (fun (hb4 : (c == c') = false) => ?_)
    ·
      refine WL.yes rfl rfl rfl hb4 rfl (op_fieldAddr rfl Fa.F56_1 ?_)
      refine WL.yes rfl rfl rfl hb4 rfl (op_load rfl (H2.cell (i := 0) rfl rfl) Try.underlying53 rfl ?_)
      refine WL.yes rfl rfl rfl hb4 rfl (op_fieldAddr rfl Fa.F56_1 ?_)
      refine WL.yes rfl rfl rfl hb4 rfl (op_load rfl (H2.cell (i := 1) rfl rfl) Try.underlying53 rfl ?_)
      refine WL.yes rfl rfl rfl hb4 rfl (op_callF Fa.C127 rfl ((eqX_ok _ _ xs xs' _ (H2.arr hE) (H2.arr hF) (by omega)).mono (fun e w5 hq => ?_)))
      obtain ⟨rfl, hf5⟩ := hq
      refine ⟨_, rfl, ?_⟩
      have H5 := H2.fr' hf5
      refine WL.op rfl rfl (op_pickT rfl hb4 rfl ?_)
      refine WL.op rfl rfl (op_move rfl ?_)
      refine WL.split (t := 24) rfl (fun (hb6 : (decide (xs = xs')) = true) => ?_) (fun (hb6 : (decide (xs = xs')) = false) => ?_)
      ·
        have hc6 := of_decide_eq_true hb6
        refine WL.yes rfl rfl rfl hb6 rfl (op_fieldAddr rfl Fa.F56_2 ?_)
        refine WL.yes rfl rfl rfl hb6 rfl (op_load rfl (H5.cell (i := 0) rfl rfl) Try.underlying54 rfl ?_)
        refine WL.yes rfl rfl rfl hb6 rfl (op_fieldAddr rfl Fa.F56_2 ?_)
        refine WL.yes rfl rfl rfl hb6 rfl (op_load rfl (H5.cell (i := 1) rfl rfl) Try.underlying54 rfl ?_)
        refine WL.yes rfl rfl rfl hb6 rfl (op_callF Fa.C128 rfl ((eq16_ok _ _ ps ps' _ (H5.arr hP) (H5.arr hQ) (by omega)).mono (fun e w7 hq => ?_)))
        obtain ⟨rfl, hf7⟩ := hq
        refine ⟨_, rfl, ?_⟩
        have H7 := H5.fr' hf7
        refine WL.op rfl rfl (op_pickT rfl hb6 rfl ?_)
        refine WL.op rfl rfl (op_assign rfl ?_)
        refine WL.nil ?_
        refine WQ.next ?_
        refine WC.ret ?_
        refine WQ.out (.tmp rfl .nil) ?_
        exact ⟨by (rw [sameM, hb3, hb4, hb6]) <;> rfl, H7.fr⟩
      ·
        have hc6 := of_decide_eq_false hb6
        refine WL.no rfl rfl rfl hb6 rfl ?_
        refine WL.no rfl rfl rfl hb6 rfl ?_
        refine WL.no rfl rfl rfl hb6 rfl ?_
        refine WL.no rfl rfl rfl hb6 rfl ?_
        refine WL.no rfl rfl rfl hb6 rfl ?_
        refine WL.op rfl rfl (op_pickF rfl hb6 rfl ?_)
        refine WL.op rfl rfl (op_assign rfl ?_)
        refine WL.nil ?_
        refine WQ.next ?_
        refine WC.ret ?_
        refine WQ.out (.tmp rfl .nil) ?_
        exact ⟨by (rw [sameM, hb3, hb4, hb6]) <;> rfl, H5.fr⟩
    ·
      refine WL.no rfl rfl rfl hb4 rfl ?_
      refine WL.no rfl rfl rfl hb4 rfl ?_
      refine WL.no rfl rfl rfl hb4 rfl ?_
      refine WL.no rfl rfl rfl hb4 rfl ?_
      refine WL.no rfl rfl rfl hb4 rfl ?_
      refine WL.op rfl rfl (op_pickF rfl hb4 rfl ?_)
      refine WL.op rfl rfl (op_move rfl ?_)
      refine WL.no rfl rfl rfl rfl rfl ?_
      refine WL.no rfl rfl rfl rfl rfl ?_
      refine WL.no rfl rfl rfl rfl rfl ?_
      refine WL.no rfl rfl rfl rfl rfl ?_
      refine WL.no rfl rfl rfl rfl rfl ?_
      refine WL.op rfl rfl (op_pickF rfl rfl rfl ?_)
      refine WL.op rfl rfl (op_assign rfl ?_)
      refine WL.nil ?_
      refine WQ.next ?_
      refine WC.ret ?_
      refine WQ.out (.tmp rfl .nil) ?_
      exact ⟨by (rw [sameM, hb3, hb4]) <;> rfl, H2.fr⟩
  ·
    have hc3 := of_decide_eq_false hb3
    refine WL.no rfl rfl rfl hb3 rfl ?_
    refine WL.no rfl rfl rfl hb3 rfl ?_
    refine WL.no rfl rfl rfl hb3 rfl ?_
    refine WL.no rfl rfl rfl hb3 rfl ?_
    refine WL.no rfl rfl rfl hb3 rfl ?_
    refine WL.op rfl rfl (op_pickF rfl hb3 rfl ?_)
    refine WL.op rfl rfl (op_move rfl ?_)
    refine WL.no rfl rfl rfl rfl rfl ?_
    refine WL.no rfl rfl rfl rfl rfl ?_
    refine WL.no rfl rfl rfl rfl rfl ?_
    refine WL.no rfl rfl rfl rfl rfl ?_
    refine WL.no rfl rfl rfl rfl rfl ?_
    refine WL.op rfl rfl (op_pickF rfl rfl rfl ?_)
    refine WL.op rfl rfl (op_move rfl ?_)
    refine WL.no rfl rfl rfl rfl rfl ?_
    refine WL.no rfl rfl rfl rfl rfl ?_
    refine WL.no rfl rfl rfl rfl rfl ?_
    refine WL.no rfl rfl rfl rfl rfl ?_
    refine WL.no rfl rfl rfl rfl rfl ?_
    refine WL.op rfl rfl (op_pickF rfl rfl rfl ?_)
    refine WL.op rfl rfl (op_assign rfl ?_)
    refine WL.nil ?_
    refine WQ.next ?_
    refine WC.ret ?_
    refine WQ.out (.tmp rfl .nil) ?_
    exact ⟨by (rw [sameM, hb3]) <;> rfl, H2.fr⟩
set_option maxRecDepth 100000 in
theorem rmsame_ok (pg : UInt32) (c : Bool) (ev pv : Value) (xs : List Xt) (ps : List UInt16) (pg' : UInt32) (c' : Bool) (ev' pv' : Value) (xs' : List Xt) (ps' : List UInt16) (w : World) (hE : Arr w ev 2 xs.length (List.flatMap xtc xs)) (hP : Arr w pv 1 ps.length (List.map vU16 ps)) (hF : Arr w ev' 2 xs'.length (List.flatMap xtc xs')) (hQ : Arr w pv' 1 ps'.length (List.map vU16 ps')) (hn : xs.length < 2 ^ 47) (hm : ps.length < 2 ^ 47) :
    Calls Try.prog 88 #[(.agg #[(vU32 pg), ev, pv, (.bool c)]), (.agg #[(vU32 pg'), ev', pv', (.bool c')])] w (fun e w' => e = .returned (.bool (sameM pg c xs ps pg' c' xs' ps')) ∧ Fr [] w w') := by
  refine enter (args := [(.agg #[(vU32 pg), ev, pv, (.bool c)]), (.agg #[(vU32 pg'), ev', pv', (.bool c')])]) Try.func88 rfl rfl ?_
  have H0 : Own [] w w [] := Own.start w []
  refine WC.seq ?_
  refine WC.region ?_
  refine WL.op rfl rfl (op_box H0 rfl rfl (fun b1 w1 H1 => ?_))
  refine WL.op rfl rfl (op_box H1 rfl rfl (fun b2 w2 H2 => ?_))
  refine WL.op rfl rfl (op_assign rfl ?_)
  refine WL.nil ?_
  refine WQ.next ?_
  refine WC.seq ?_
  refine WC.seq ?_
  refine WC.region ?_
  refine WL.op rfl rfl (op_fieldAddr rfl Fa.F56_0 ?_)
  refine WL.op rfl rfl (op_load rfl (H2.cell (i := 0) rfl rfl) Try.underlying22 rfl ?_)
  refine WL.op rfl rfl (op_fieldAddr rfl Fa.F56_0 ?_)
  refine WL.op rfl rfl (op_load rfl (H2.cell (i := 1) rfl rfl) Try.underlying22 rfl ?_)
  refine WL.op rfl rfl (op_neqU32 rfl rfl ?_)
  refine WL.op rfl rfl (op_move rfl ?_)
  refine WL.split (t := 12) rfl (fun (hb3 : (decide (pg ≠ pg')) = true) => ?_) (fun (hb3 : (decide (pg ≠ pg')) = false) => ?_)
  ·
    have hc3 := of_decide_eq_true hb3
    refine WL.no rfl rfl rfl hb3 rfl ?_
    refine WL.no rfl rfl rfl hb3 rfl ?_
    refine WL.no rfl rfl rfl hb3 rfl ?_
    refine WL.no rfl rfl rfl hb3 rfl ?_
    refine WL.no rfl rfl rfl hb3 rfl ?_
    refine WL.op rfl rfl (op_pickT rfl hb3 rfl ?_)
    refine WL.op rfl rfl (op_move rfl ?_)
    refine WL.no rfl rfl rfl rfl rfl ?_
    refine WL.no rfl rfl rfl rfl rfl ?_
    refine WL.no rfl rfl rfl rfl rfl ?_
    refine WL.no rfl rfl rfl rfl rfl ?_
    refine WL.no rfl rfl rfl rfl rfl ?_
    refine WL.no rfl rfl rfl rfl rfl ?_
    refine WL.no rfl rfl rfl rfl rfl ?_
    refine WL.op rfl rfl (op_pickT rfl rfl rfl ?_)
    refine WL.op rfl rfl (op_move rfl ?_)
    refine WL.no rfl rfl rfl rfl rfl ?_
    refine WL.no rfl rfl rfl rfl rfl ?_
    refine WL.no rfl rfl rfl rfl rfl ?_
    refine WL.no rfl rfl rfl rfl rfl ?_
    refine WL.no rfl rfl rfl rfl rfl ?_
    refine WL.no rfl rfl rfl rfl rfl ?_
    refine WL.no rfl rfl rfl rfl rfl ?_
    refine WL.op rfl rfl (op_pickT rfl rfl rfl ?_)
    refine WL.nil ?_
    refine WQ.next ?_
    refine WC.yes rfl rfl ?_
    refine WC.seq ?_
    refine WC.region ?_
    refine WL.op rfl rfl (op_assign rfl ?_)
    refine WL.nil ?_
    refine WQ.next ?_
    refine WC.ret ?_
    refine WQ.thenRet ?_
    refine WQ.out (.tmp rfl .nil) ?_
    exact ⟨by rw [sameM_no (fun h => hc3 h.1)]; rfl, H2.fr⟩
  ·
    have hc3 := of_decide_eq_false hb3
    refine WL.yes rfl rfl rfl hb3 rfl (op_fieldAddr rfl Fa.F56_3 ?_)
    refine WL.yes rfl rfl rfl hb3 rfl (op_load rfl (H2.cell (i := 0) rfl rfl) Try.underlying4 rfl ?_)
    refine WL.yes rfl rfl rfl hb3 rfl (op_fieldAddr rfl Fa.F56_3 ?_)
    refine WL.yes rfl rfl rfl hb3 rfl (op_load rfl (H2.cell (i := 1) rfl rfl) Try.underlying4 rfl ?_)
    refine WL.yes rfl rfl rfl hb3 rfl (op_neqB Try.underlying4 rfl rfl ?_)
    refine WL.op rfl rfl (op_pickF rfl hb3 rfl ?_)
    refine WL.op rfl rfl (op_move rfl ?_)
    refine WL.split (t := 19) rfl (fun (hb4 : (!(c == c')) = true) => ?_) (fun (hb4 : (!(c == c')) = false) => ?_)
    ·
      have hn4 := (Bool.not_eq_true' _).mp hb4
      refine WL.no rfl rfl rfl hb4 rfl ?_
      refine WL.no rfl rfl rfl hb4 rfl ?_
      refine WL.no rfl rfl rfl hb4 rfl ?_
      refine WL.no rfl rfl rfl hb4 rfl ?_
      refine WL.no rfl rfl rfl hb4 rfl ?_
      refine WL.no rfl rfl rfl hb4 rfl ?_
      refine WL.no rfl rfl rfl hb4 rfl ?_
      refine WL.op rfl rfl (op_pickT rfl hb4 rfl ?_)
      refine WL.op rfl rfl (op_move rfl ?_)
      refine WL.no rfl rfl rfl rfl rfl ?_
      refine WL.no rfl rfl rfl rfl rfl ?_
      refine WL.no rfl rfl rfl rfl rfl ?_
      refine WL.no rfl rfl rfl rfl rfl ?_
      refine WL.no rfl rfl rfl rfl rfl ?_
      refine WL.no rfl rfl rfl rfl rfl ?_
      refine WL.no rfl rfl rfl rfl rfl ?_
      refine WL.op rfl rfl (op_pickT rfl rfl rfl ?_)
      refine WL.nil ?_
      refine WQ.next ?_
      refine WC.yes rfl rfl ?_
      refine WC.seq ?_
      refine WC.region ?_
      refine WL.op rfl rfl (op_assign rfl ?_)
      refine WL.nil ?_
      refine WQ.next ?_
      refine WC.ret ?_
      refine WQ.thenRet ?_
      refine WQ.out (.tmp rfl .nil) ?_
      exact ⟨by rw [sameM_no (fun h => by have h1 := hn4; rw [h.2.1] at h1; simp at h1)]; rfl, H2.fr⟩
    ·
      have hn4 := (Bool.not_eq_false' _).mp hb4
      refine WL.yes rfl rfl rfl hb4 rfl (op_fieldAddr rfl Fa.F56_1 ?_)
      refine WL.yes rfl rfl rfl hb4 rfl (op_load rfl (H2.cell (i := 0) rfl rfl) Try.underlying53 rfl ?_)
      refine WL.yes rfl rfl rfl hb4 rfl (op_lenA Try.underlying53 rfl (H2.arr hE) ?_)
      refine WL.yes rfl rfl rfl hb4 rfl (op_fieldAddr rfl Fa.F56_1 ?_)
      refine WL.yes rfl rfl rfl hb4 rfl (op_load rfl (H2.cell (i := 1) rfl rfl) Try.underlying53 rfl ?_)
      refine WL.yes rfl rfl rfl hb4 rfl (op_lenA Try.underlying53 rfl (H2.arr hF) ?_)
      refine WL.yes rfl rfl rfl hb4 rfl (op_neqN rfl rfl ?_)
      refine WL.op rfl rfl (op_pickF rfl hb4 rfl ?_)
      refine WL.op rfl rfl (op_move rfl ?_)
      refine WL.split (t := 28) rfl (fun (hb5 : (decide (xs.length ≠ xs'.length)) = true) => ?_) (fun (hb5 : (decide (xs.length ≠ xs'.length)) = false) => ?_)
      ·
        have hc5 := of_decide_eq_true hb5
        refine WL.no rfl rfl rfl hb5 rfl ?_
        refine WL.no rfl rfl rfl hb5 rfl ?_
        refine WL.no rfl rfl rfl hb5 rfl ?_
        refine WL.no rfl rfl rfl hb5 rfl ?_
        refine WL.no rfl rfl rfl hb5 rfl ?_
        refine WL.no rfl rfl rfl hb5 rfl ?_
        refine WL.no rfl rfl rfl hb5 rfl ?_
        refine WL.op rfl rfl (op_pickT rfl hb5 rfl ?_)
        refine WL.nil ?_
        refine WQ.next ?_
        refine WC.yes rfl rfl ?_
        refine WC.seq ?_
        refine WC.region ?_
        refine WL.op rfl rfl (op_assign rfl ?_)
        refine WL.nil ?_
        refine WQ.next ?_
        refine WC.ret ?_
        refine WQ.thenRet ?_
        refine WQ.out (.tmp rfl .nil) ?_
        exact ⟨by rw [sameM_no (fun h => hc5 (by rw [h.2.2.1]))]; rfl, H2.fr⟩
      ·
        have hc5 := of_decide_eq_false hb5
        refine WL.yes rfl rfl rfl hb5 rfl (op_fieldAddr rfl Fa.F56_2 ?_)
        refine WL.yes rfl rfl rfl hb5 rfl (op_load rfl (H2.cell (i := 0) rfl rfl) Try.underlying54 rfl ?_)
        refine WL.yes rfl rfl rfl hb5 rfl (op_lenA Try.underlying54 rfl (H2.arr hP) ?_)
        refine WL.yes rfl rfl rfl hb5 rfl (op_fieldAddr rfl Fa.F56_2 ?_)
        refine WL.yes rfl rfl rfl hb5 rfl (op_load rfl (H2.cell (i := 1) rfl rfl) Try.underlying54 rfl ?_)
        refine WL.yes rfl rfl rfl hb5 rfl (op_lenA Try.underlying54 rfl (H2.arr hQ) ?_)
        refine WL.yes rfl rfl rfl hb5 rfl (op_neqN rfl rfl ?_)
        refine WL.op rfl rfl (op_pickF rfl hb5 rfl ?_)
        refine WL.nil ?_
        refine WQ.next ?_
        refine WC.cond rfl (fun (hb6 : (decide (ps.length ≠ ps'.length)) = true) => ?_) (fun (hb6 : (decide (ps.length ≠ ps'.length)) = false) => ?_)
        ·
          have hc6 := of_decide_eq_true hb6
          refine WC.seq ?_
          refine WC.region ?_
          refine WL.op rfl rfl (op_assign rfl ?_)
          refine WL.nil ?_
          refine WQ.next ?_
          refine WC.ret ?_
          refine WQ.thenRet ?_
          refine WQ.out (.tmp rfl .nil) ?_
          exact ⟨by rw [sameM_no (fun h => hc6 (by rw [h.2.2.2]))]; rfl, H2.fr⟩
        ·
          have hc6 := of_decide_eq_false hb6
          refine WC.skip ?_
          refine WQ.next ?_
          refine WC.seq ?_
          refine WC.seq ?_
          refine WC.region ?_
          refine WL.op rfl rfl (op_assign rfl ?_)
          refine WL.nil ?_
          refine WQ.next ?_
          refine WC.block ?_
          refine WC.loop (α := Nat) (fun k => [(2, (ptr b1 0)), (3, (ptr b2 0)), (5, (vN k))]) (fun k w' => (k ≤ xs.length ∧ (∀ j, j < k → xs.getD j Xt.zero = xs'.getD j Xt.zero)) ∧ Own [] w w' [.blk b1 [(vU32 pg), ev, pv, (.bool c)] 56, .blk b2 [(vU32 pg'), ev', pv', (.bool c')] 56]) (fun k => xs.length - k) 0 ⟨⟨Nat.zero_le _, fun j h => by omega⟩, H2⟩ ⟨rfl, rfl, rfl, trivial⟩ ?_
          rintro k w7 ⟨⟨hk1, hok⟩, H7⟩
          show WC _ _ _ _ _ [(2, (ptr b1 0)), (3, (ptr b2 0)), (5, (vN k))] _
          refine WC.seq ?_
          refine WC.seq ?_
          refine WC.region ?_
          refine WL.op rfl rfl (op_move rfl ?_)
          refine WL.op rfl rfl (op_fieldAddr rfl Fa.F56_1 ?_)
          refine WL.op rfl rfl (op_load rfl (H7.cell (i := 0) rfl rfl) Try.underlying53 rfl ?_)
          refine WL.op rfl rfl (op_lenA Try.underlying53 rfl (H7.arr hE) ?_)
          refine WL.op rfl rfl (op_lssN rfl rfl ?_)
          refine WL.nil ?_
          refine WQ.next ?_
          refine WC.cond rfl (fun (hb8 : (decide (k < xs.length)) = true) => ?_) (fun (hb8 : (decide (k < xs.length)) = false) => ?_)
          ·
            have hc8 := of_decide_eq_true hb8
            refine WC.skip ?_
            refine WQ.next ?_
            refine WC.seq ?_
            refine WC.block ?_
            refine WC.seq ?_
            refine WC.draw 11 Fa.M H7 (HW.op rfl (fun w1 H1 => op_fieldAddr rfl Fa.F56_1 ⟨rfl, Fr.refl _ _⟩) (HW.op rfl (fun w1 H1 => op_load rfl (H1.cell (i := 0) rfl rfl) Try.underlying53 rfl ⟨rfl, Fr.refl _ _⟩) (HW.op rfl (fun w1 H1 => op_move rfl ⟨rfl, Fr.refl _ _⟩) (HW.op rfl (fun w1 H1 => op_indexAddr Try.underlying53 Fa.I130 rfl (H1.arr hE) rfl (by omega) ⟨rfl, Fr.refl _ _⟩) (HW.op rfl (fun w1 H1 => op_loadSP (vs := xtc (xs.getD k Xt.zero)) rfl (Arr.atsF (H1.arr hE) (fun _ => rfl) (by decide) Xt.zero (by omega)) Try.underlying130 rfl Fa.I130 rfl ⟨rfl, Fr.refl _ _⟩) (HW.op rfl (fun w1 H1 => op_fieldAddr rfl Fa.F56_1 ⟨rfl, Fr.refl _ _⟩) (HW.op rfl (fun w1 H1 => op_load rfl (H1.cell (i := 1) rfl rfl) Try.underlying53 rfl ⟨rfl, Fr.refl _ _⟩) (HW.op rfl (fun w1 H1 => op_move rfl ⟨rfl, Fr.refl _ _⟩) (HW.op rfl (fun w1 H1 => op_indexAddr Try.underlying53 Fa.I130 rfl (H1.arr hF) rfl (by omega) ⟨rfl, Fr.refl _ _⟩) (HW.op rfl (fun w1 H1 => op_loadSP (vs := xtc (xs'.getD k Xt.zero)) rfl (Arr.atsF (H1.arr hF) (fun _ => rfl) (by decide) Xt.zero (by omega)) Try.underlying130 rfl Fa.I130 rfl ⟨rfl, Fr.refl _ _⟩) (HW.op rfl (fun w1 H1 => op_neqS (xs := [_, _]) (ys := [_, _]) (b := (!((decide ((xs.getD k Xt.zero).id = (xs'.getD k Xt.zero).id)) && (decide ((xs.getD k Xt.zero).bl = (xs'.getD k Xt.zero).bl))))) Fa.FL130 rfl rfl rfl (by simp [eqAll, veqU32]) ⟨rfl, Fr.refl _ _⟩)  HW.nil))))))))))) (by kernel_rfl) ?_
            intro β9 w9 H9
            refine WL.nil ?_
            refine WQ.next ?_
            refine WC.cond rfl (fun (hb10 : (!((decide ((xs.getD k Xt.zero).id = (xs'.getD k Xt.zero).id)) && (decide ((xs.getD k Xt.zero).bl = (xs'.getD k Xt.zero).bl)))) = true) => ?_) (fun (hb10 : (!((decide ((xs.getD k Xt.zero).id = (xs'.getD k Xt.zero).id)) && (decide ((xs.getD k Xt.zero).bl = (xs'.getD k Xt.zero).bl)))) = false) => ?_)
            ·
              have hn10 := (Bool.not_eq_true' _).mp hb10
              refine WC.seq ?_
              refine WC.region ?_
              refine WL.op rfl rfl (op_assign rfl ?_)
              refine WL.nil ?_
              refine WQ.next ?_
              refine WC.ret ?_
              refine WQ.inRet ?_
              refine WQ.thenRet ?_
              refine WQ.thenRet ?_
              refine WQ.inRet ?_
              refine WQ.thenRet ?_
              refine WQ.out (.tmp rfl .nil) ?_
              exact ⟨by rw [sameM_no (fun h => xt_ne hn10 (by rw [h.2.2.1]))]; rfl, H9.fr⟩
            ·
              have hn10 := (Bool.not_eq_false' _).mp hb10
              refine WC.skip ?_
              refine WQ.inNormal ?_
              refine WQ.next ?_
              refine WC.region ?_
              refine WL.op rfl rfl (op_move rfl ?_)
              refine WL.op rfl rfl (op_addN (b := 1) rfl rfl (by omega) ?_)
              refine WL.op rfl rfl (op_assign rfl ?_)
              refine WL.nil ?_
              exact WQ.round (k + 1) ⟨⟨by omega, allPrev hok (xt_eq hn10)⟩, H9⟩ ⟨rfl, rfl, rfl, trivial⟩ (by omega)
          ·
            have hc8 := of_decide_eq_false hb8
            refine WC.exit ?_
            refine WQ.thenExit ?_
            refine WQ.thenExit ?_
            refine WQ.inHere ?_
            refine WQ.next ?_
            refine WC.seq ?_
            refine WC.seq ?_
            refine WC.region ?_
            refine WL.op rfl rfl (op_assign rfl ?_)
            refine WL.nil ?_
            refine WQ.next ?_
            refine WC.block ?_
            refine WC.loop (α := Nat) (fun i => [(2, (ptr b1 0)), (3, (ptr b2 0)), (6, (vN i))]) (fun i w' => (i ≤ ps.length ∧ (∀ j, j < i → ps.getD j 0 = ps'.getD j 0)) ∧ Own [] w w' [.blk b1 [(vU32 pg), ev, pv, (.bool c)] 56, .blk b2 [(vU32 pg'), ev', pv', (.bool c')] 56]) (fun i => ps.length - i) 0 ⟨⟨Nat.zero_le _, fun j h => by omega⟩, H7⟩ ⟨rfl, rfl, rfl, trivial⟩ ?_
            rintro i w11 ⟨⟨hi1, hoi⟩, H11⟩
            show WC _ _ _ _ _ [(2, (ptr b1 0)), (3, (ptr b2 0)), (6, (vN i))] _
            refine WC.seq ?_
            refine WC.seq ?_
            refine WC.region ?_
            refine WL.op rfl rfl (op_move rfl ?_)
            refine WL.op rfl rfl (op_fieldAddr rfl Fa.F56_2 ?_)
            refine WL.op rfl rfl (op_load rfl (H11.cell (i := 0) rfl rfl) Try.underlying54 rfl ?_)
            refine WL.op rfl rfl (op_lenA Try.underlying54 rfl (H11.arr hP) ?_)
            refine WL.op rfl rfl (op_lssN rfl rfl ?_)
            refine WL.nil ?_
            refine WQ.next ?_
            refine WC.cond rfl (fun (hb12 : (decide (i < ps.length)) = true) => ?_) (fun (hb12 : (decide (i < ps.length)) = false) => ?_)
            ·
              have hc12 := of_decide_eq_true hb12
              refine WC.skip ?_
              refine WQ.next ?_
              refine WC.seq ?_
              refine WC.block ?_
              refine WC.seq ?_
              refine WC.draw 11 Fa.M H11 (HW.op rfl (fun w1 H1 => op_fieldAddr rfl Fa.F56_2 ⟨rfl, Fr.refl _ _⟩) (HW.op rfl (fun w1 H1 => op_load rfl (H1.cell (i := 0) rfl rfl) Try.underlying54 rfl ⟨rfl, Fr.refl _ _⟩) (HW.op rfl (fun w1 H1 => op_move rfl ⟨rfl, Fr.refl _ _⟩) (HW.op rfl (fun w1 H1 => op_indexAddr1 Try.underlying54 Fa.I92 rfl (H1.arr hP) rfl (by omega) ⟨rfl, Fr.refl _ _⟩) (HW.op rfl (fun w1 H1 => op_load rfl ((H1.arr hP).at (get_map vU16 0 (Arr.ltM (H1.arr hP) (by omega)))) Try.underlying92 rfl ⟨rfl, Fr.refl _ _⟩) (HW.op rfl (fun w1 H1 => op_fieldAddr rfl Fa.F56_2 ⟨rfl, Fr.refl _ _⟩) (HW.op rfl (fun w1 H1 => op_load rfl (H1.cell (i := 1) rfl rfl) Try.underlying54 rfl ⟨rfl, Fr.refl _ _⟩) (HW.op rfl (fun w1 H1 => op_move rfl ⟨rfl, Fr.refl _ _⟩) (HW.op rfl (fun w1 H1 => op_indexAddr1 Try.underlying54 Fa.I92 rfl (H1.arr hQ) rfl (by omega) ⟨rfl, Fr.refl _ _⟩) (HW.op rfl (fun w1 H1 => op_load rfl ((H1.arr hQ).at (get_map vU16 0 (Arr.ltM (H1.arr hQ) (by omega)))) Try.underlying92 rfl ⟨rfl, Fr.refl _ _⟩) (HW.op rfl (fun w1 H1 => op_neqU16 rfl rfl ⟨rfl, Fr.refl _ _⟩)  HW.nil))))))))))) (by kernel_rfl) ?_
              intro β13 w13 H13
              refine WL.nil ?_
              refine WQ.next ?_
              refine WC.cond rfl (fun (hb14 : (decide ((ps.getD i 0) ≠ (ps'.getD i 0))) = true) => ?_) (fun (hb14 : (decide ((ps.getD i 0) ≠ (ps'.getD i 0))) = false) => ?_)
              ·
                have hc14 := of_decide_eq_true hb14
                refine WC.seq ?_
                refine WC.region ?_
                refine WL.op rfl rfl (op_assign rfl ?_)
                refine WL.nil ?_
                refine WQ.next ?_
                refine WC.ret ?_
                refine WQ.inRet ?_
                refine WQ.thenRet ?_
                refine WQ.thenRet ?_
                refine WQ.inRet ?_
                refine WQ.thenRet ?_
                refine WQ.out (.tmp rfl .nil) ?_
                exact ⟨by rw [sameM_no (fun h => hc14 (by rw [h.2.2.2]))]; rfl, H13.fr⟩
              ·
                have hc14 := of_decide_eq_false hb14
                refine WC.skip ?_
                refine WQ.inNormal ?_
                refine WQ.next ?_
                refine WC.region ?_
                refine WL.op rfl rfl (op_move rfl ?_)
                refine WL.op rfl rfl (op_addN (b := 1) rfl rfl (by omega) ?_)
                refine WL.op rfl rfl (op_assign rfl ?_)
                refine WL.nil ?_
                exact WQ.round (i + 1) ⟨⟨by omega, allPrev hoi (Decidable.not_not.mp hc14)⟩, H13⟩ ⟨rfl, rfl, rfl, trivial⟩ (by omega)
            ·
              have hc12 := of_decide_eq_false hb12
              refine WC.exit ?_
              refine WQ.thenExit ?_
              refine WQ.thenExit ?_
              refine WQ.inHere ?_
              refine WQ.next ?_
              refine WC.seq ?_
              refine WC.region ?_
              refine WL.op rfl rfl (op_assign rfl ?_)
              refine WL.nil ?_
              refine WQ.next ?_
              refine WC.ret ?_
              refine WQ.out (.tmp rfl .nil) ?_
              exact ⟨by rw [sameM_iff.2 ⟨Decidable.not_not.mp hc3, by simpa using hn4, list_eqD (by omega) (fun j hj => hok j (by omega)), list_eqD (by omega) (fun j hj => hoi j (by omega))⟩]; rfl, H11.fr⟩
set_option maxRecDepth 100000 in
theorem isame_ok (pg : UInt32) (c : Bool) (ev pv sv : Value) (xs : List Xt) (ps : List UInt16) (en : UInt32) (sg : List Sg) (pg' : UInt32) (c' : Bool) (ev' pv' sv' : Value) (xs' : List Xt) (ps' : List UInt16) (en' : UInt32) (sg' : List Sg) (w : World) (hE : Arr w ev 2 xs.length (List.flatMap xtc xs)) (hP : Arr w pv 1 ps.length (List.map vU16 ps)) (hS : Arr w sv 3 sg.length (List.flatMap sgc sg)) (hF : Arr w ev' 2 xs'.length (List.flatMap xtc xs')) (hQ : Arr w pv' 1 ps'.length (List.map vU16 ps')) (hR : Arr w sv' 3 sg'.length (List.flatMap sgc sg')) (hn : xs.length < 2 ^ 47) (hm : ps.length < 2 ^ 47) (hk : sg.length < 2 ^ 47) :
    Calls Try.prog 44 #[(.agg #[(vU32 pg), ev, pv, (.bool c), (vU32 en), sv]), (.agg #[(vU32 pg'), ev', pv', (.bool c'), (vU32 en'), sv'])] w (fun e w' => e = .returned (.bool (sameI pg c xs ps en sg pg' c' xs' ps' en' sg')) ∧ Fr [] w w') := by
  refine enter (args := [(.agg #[(vU32 pg), ev, pv, (.bool c), (vU32 en), sv]), (.agg #[(vU32 pg'), ev', pv', (.bool c'), (vU32 en'), sv'])]) Try.func44 rfl rfl ?_
  have H0 : Own [] w w [] := Own.start w []
  refine WC.seq ?_
  refine WC.region ?_
  refine WL.op rfl rfl (op_box H0 rfl rfl (fun b1 w1 H1 => ?_))
  refine WL.op rfl rfl (op_box H1 rfl rfl (fun b2 w2 H2 => ?_))
  refine WL.op rfl rfl (op_assign rfl ?_)
  refine WL.nil ?_
  refine WQ.next ?_
  refine WC.seq ?_
  refine WC.region ?_
  refine WL.op rfl rfl (op_fieldAddr rfl Fa.F59_0 ?_)
  refine WL.op rfl rfl (op_loadS (vs := [_, _, _, _]) rfl (H2.cells (i := 0) rfl rfl) Try.underlying56 rfl Fa.I56 rfl ?_)
  refine WL.op rfl rfl (op_fieldAddr rfl Fa.F59_0 ?_)
  refine WL.op rfl rfl (op_loadS (vs := [_, _, _, _]) rfl (H2.cells (i := 1) rfl rfl) Try.underlying56 rfl Fa.I56 rfl ?_)
  refine WL.op rfl rfl (op_callF Fa.C89 rfl ((dsame_ok pg c _ _ xs ps pg' c' _ _ xs' ps' _ (H2.arr hE) (H2.arr hP) (H2.arr hF) (H2.arr hQ) (by omega) (by omega)).mono (fun e w3 hq => ?_)))
  obtain ⟨rfl, hf3⟩ := hq
  refine ⟨_, rfl, ?_⟩
  have H3 := H2.fr' hf3
  refine WL.op rfl rfl (op_move rfl ?_)
  refine WL.split (t := 10) rfl (fun (hb4 : (sameM pg c xs ps pg' c' xs' ps') = true) => ?_) (fun (hb4 : (sameM pg c xs ps pg' c' xs' ps') = false) => ?_)
  ·
    refine WL.yes rfl rfl rfl hb4 rfl (op_fieldAddr rfl Fa.F59_1 ?_)
    refine WL.yes rfl rfl rfl hb4 rfl (op_load rfl (H3.cell (i := 0) rfl rfl) Try.underlying22 rfl ?_)
    refine WL.yes rfl rfl rfl hb4 rfl (op_fieldAddr rfl Fa.F59_1 ?_)
    refine WL.yes rfl rfl rfl hb4 rfl (op_load rfl (H3.cell (i := 1) rfl rfl) Try.underlying22 rfl ?_)
    refine WL.yes rfl rfl rfl hb4 rfl (op_eqlU32 rfl rfl ?_)
    refine WL.op rfl rfl (op_pickT rfl hb4 rfl ?_)
    refine WL.op rfl rfl (op_move rfl ?_)
    refine WL.split (t := 17) rfl (fun (hb5 : (decide (en = en')) = true) => ?_) (fun (hb5 : (decide (en = en')) = false) => ?_)
    ·
      have hc5 := of_decide_eq_true hb5
      refine WL.yes rfl rfl rfl hb5 rfl (op_fieldAddr rfl Fa.F59_2 ?_)
      refine WL.yes rfl rfl rfl hb5 rfl (op_load rfl (H3.cell (i := 0) rfl rfl) Try.underlying57 rfl ?_)
      refine WL.yes rfl rfl rfl hb5 rfl (op_fieldAddr rfl Fa.F59_2 ?_)
      refine WL.yes rfl rfl rfl hb5 rfl (op_load rfl (H3.cell (i := 1) rfl rfl) Try.underlying57 rfl ?_)
      refine WL.yes rfl rfl rfl hb5 rfl (op_callF Fa.C90 rfl ((eqS_ok _ _ sg sg' _ (H3.arr hS) (H3.arr hR) (by omega)).mono (fun e w6 hq => ?_)))
      obtain ⟨rfl, hf6⟩ := hq
      refine ⟨_, rfl, ?_⟩
      have H6 := H3.fr' hf6
      refine WL.op rfl rfl (op_pickT rfl hb5 rfl ?_)
      refine WL.op rfl rfl (op_assign rfl ?_)
      refine WL.nil ?_
      refine WQ.next ?_
      refine WC.ret ?_
      refine WQ.out (.tmp rfl .nil) ?_
      exact ⟨by (rw [sameI, hb4, hb5]) <;> rfl, H6.fr⟩
    ·
      have hc5 := of_decide_eq_false hb5
      refine WL.no rfl rfl rfl hb5 rfl ?_
      refine WL.no rfl rfl rfl hb5 rfl ?_
      refine WL.no rfl rfl rfl hb5 rfl ?_
      refine WL.no rfl rfl rfl hb5 rfl ?_
      refine WL.no rfl rfl rfl hb5 rfl ?_
      refine WL.op rfl rfl (op_pickF rfl hb5 rfl ?_)
      refine WL.op rfl rfl (op_assign rfl ?_)
      refine WL.nil ?_
      refine WQ.next ?_
      refine WC.ret ?_
      refine WQ.out (.tmp rfl .nil) ?_
      exact ⟨by (rw [sameI, hb4, hb5]) <;> rfl, H3.fr⟩
  ·
    refine WL.no rfl rfl rfl hb4 rfl ?_
    refine WL.no rfl rfl rfl hb4 rfl ?_
    refine WL.no rfl rfl rfl hb4 rfl ?_
    refine WL.no rfl rfl rfl hb4 rfl ?_
    refine WL.no rfl rfl rfl hb4 rfl ?_
    refine WL.op rfl rfl (op_pickF rfl hb4 rfl ?_)
    refine WL.op rfl rfl (op_move rfl ?_)
    refine WL.no rfl rfl rfl rfl rfl ?_
    refine WL.no rfl rfl rfl rfl rfl ?_
    refine WL.no rfl rfl rfl rfl rfl ?_
    refine WL.no rfl rfl rfl rfl rfl ?_
    refine WL.no rfl rfl rfl rfl rfl ?_
    refine WL.op rfl rfl (op_pickF rfl rfl rfl ?_)
    refine WL.op rfl rfl (op_assign rfl ?_)
    refine WL.nil ?_
    refine WQ.next ?_
    refine WC.ret ?_
    refine WQ.out (.tmp rfl .nil) ?_
    exact ⟨by (rw [sameI, hb4]) <;> rfl, H3.fr⟩
set_option maxRecDepth 100000 in
theorem risame_ok (pg : UInt32) (c : Bool) (ev pv sv : Value) (xs : List Xt) (ps : List UInt16) (en : UInt32) (sg : List Sg) (pg' : UInt32) (c' : Bool) (ev' pv' sv' : Value) (xs' : List Xt) (ps' : List UInt16) (en' : UInt32) (sg' : List Sg) (w : World) (hE : Arr w ev 2 xs.length (List.flatMap xtc xs)) (hP : Arr w pv 1 ps.length (List.map vU16 ps)) (hS : Arr w sv 3 sg.length (List.flatMap sgc sg)) (hF : Arr w ev' 2 xs'.length (List.flatMap xtc xs')) (hQ : Arr w pv' 1 ps'.length (List.map vU16 ps')) (hR : Arr w sv' 3 sg'.length (List.flatMap sgc sg')) (hn : xs.length < 2 ^ 47) (hm : ps.length < 2 ^ 47) (hk : sg.length < 2 ^ 47) :
    Calls Try.prog 43 #[(.agg #[(vU32 pg), ev, pv, (.bool c), (vU32 en), sv]), (.agg #[(vU32 pg'), ev', pv', (.bool c'), (vU32 en'), sv'])] w (fun e w' => e = .returned (.bool (sameI pg c xs ps en sg pg' c' xs' ps' en' sg')) ∧ Fr [] w w') := by
  refine enter (args := [(.agg #[(vU32 pg), ev, pv, (.bool c), (vU32 en), sv]), (.agg #[(vU32 pg'), ev', pv', (.bool c'), (vU32 en'), sv'])]) Try.func43 rfl rfl ?_
  have H0 : Own [] w w [] := Own.start w []
  refine WC.seq ?_
  refine WC.region ?_
  refine WL.op rfl rfl (op_box H0 rfl rfl (fun b1 w1 H1 => ?_))
  refine WL.op rfl rfl (op_box H1 rfl rfl (fun b2 w2 H2 => ?_))
  refine WL.op rfl rfl (op_assign rfl ?_)
  refine WL.nil ?_
  refine WQ.next ?_
  refine WC.seq ?_
  refine WC.seq ?_
  refine WC.region ?_
  refine WL.op rfl rfl (op_fieldAddr rfl Fa.F59_0 ?_)
  refine WL.op rfl rfl (op_loadS (vs := [_, _, _, _]) rfl (H2.cells (i := 0) rfl rfl) Try.underlying56 rfl Fa.I56 rfl ?_)
  refine WL.op rfl rfl (op_fieldAddr rfl Fa.F59_0 ?_)
  refine WL.op rfl rfl (op_loadS (vs := [_, _, _, _]) rfl (H2.cells (i := 1) rfl rfl) Try.underlying56 rfl Fa.I56 rfl ?_)
  refine WL.op rfl rfl (op_callF Fa.C88 rfl ((rmsame_ok pg c _ _ xs ps pg' c' _ _ xs' ps' _ (H2.arr hE) (H2.arr hP) (H2.arr hF) (H2.arr hQ) (by omega) (by omega)).mono (fun e w3 hq => ?_)))
  obtain ⟨rfl, hf3⟩ := hq
  refine ⟨_, rfl, ?_⟩
  have H3 := H2.fr' hf3
  refine WL.op rfl rfl (op_not rfl ?_)
  refine WL.op rfl rfl (op_move rfl ?_)
  refine WL.split (t := 12) rfl (fun (hb4 : (!(sameM pg c xs ps pg' c' xs' ps')) = true) => ?_) (fun (hb4 : (!(sameM pg c xs ps pg' c' xs' ps')) = false) => ?_)
  ·
    have hn4 := (Bool.not_eq_true' _).mp hb4
    refine WL.no rfl rfl rfl hb4 rfl ?_
    refine WL.no rfl rfl rfl hb4 rfl ?_
    refine WL.no rfl rfl rfl hb4 rfl ?_
    refine WL.no rfl rfl rfl hb4 rfl ?_
    refine WL.no rfl rfl rfl hb4 rfl ?_
    refine WL.op rfl rfl (op_pickT rfl hb4 rfl ?_)
    refine WL.op rfl rfl (op_move rfl ?_)
    refine WL.no rfl rfl rfl rfl rfl ?_
    refine WL.no rfl rfl rfl rfl rfl ?_
    refine WL.no rfl rfl rfl rfl rfl ?_
    refine WL.no rfl rfl rfl rfl rfl ?_
    refine WL.no rfl rfl rfl rfl rfl ?_
    refine WL.no rfl rfl rfl rfl rfl ?_
    refine WL.no rfl rfl rfl rfl rfl ?_
    refine WL.op rfl rfl (op_pickT rfl rfl rfl ?_)
    refine WL.nil ?_
    refine WQ.next ?_
    refine WC.yes rfl rfl ?_
    refine WC.seq ?_
    refine WC.region ?_
    refine WL.op rfl rfl (op_assign rfl ?_)
    refine WL.nil ?_
    refine WQ.next ?_
    refine WC.ret ?_
    refine WQ.thenRet ?_
    refine WQ.out (.tmp rfl .nil) ?_
    exact ⟨by rw [sameI_no (fun h => by have h1 := hn4; rw [h.1] at h1; cases h1)]; rfl, H3.fr⟩
  ·
    have hn4 := (Bool.not_eq_false' _).mp hb4
    refine WL.yes rfl rfl rfl hb4 rfl (op_fieldAddr rfl Fa.F59_1 ?_)
    refine WL.yes rfl rfl rfl hb4 rfl (op_load rfl (H3.cell (i := 0) rfl rfl) Try.underlying22 rfl ?_)
    refine WL.yes rfl rfl rfl hb4 rfl (op_fieldAddr rfl Fa.F59_1 ?_)
    refine WL.yes rfl rfl rfl hb4 rfl (op_load rfl (H3.cell (i := 1) rfl rfl) Try.underlying22 rfl ?_)
    refine WL.yes rfl rfl rfl hb4 rfl (op_neqU32 rfl rfl ?_)
    refine WL.op rfl rfl (op_pickF rfl hb4 rfl ?_)
    refine WL.op rfl rfl (op_move rfl ?_)
    refine WL.split (t := 19) rfl (fun (hb5 : (decide (en ≠ en')) = true) => ?_) (fun (hb5 : (decide (en ≠ en')) = false) => ?_)
    ·
      have hc5 := of_decide_eq_true hb5
      refine WL.no rfl rfl rfl hb5 rfl ?_
      refine WL.no rfl rfl rfl hb5 rfl ?_
      refine WL.no rfl rfl rfl hb5 rfl ?_
      refine WL.no rfl rfl rfl hb5 rfl ?_
      refine WL.no rfl rfl rfl hb5 rfl ?_
      refine WL.no rfl rfl rfl hb5 rfl ?_
      refine WL.no rfl rfl rfl hb5 rfl ?_
      refine WL.op rfl rfl (op_pickT rfl hb5 rfl ?_)
      refine WL.nil ?_
      refine WQ.next ?_
      refine WC.yes rfl rfl ?_
      refine WC.seq ?_
      refine WC.region ?_
      refine WL.op rfl rfl (op_assign rfl ?_)
      refine WL.nil ?_
      refine WQ.next ?_
      refine WC.ret ?_
      refine WQ.thenRet ?_
      refine WQ.out (.tmp rfl .nil) ?_
      exact ⟨by rw [sameI_no (fun h => hc5 h.2.1)]; rfl, H3.fr⟩
    ·
      have hc5 := of_decide_eq_false hb5
      refine WL.yes rfl rfl rfl hb5 rfl (op_fieldAddr rfl Fa.F59_2 ?_)
      refine WL.yes rfl rfl rfl hb5 rfl (op_load rfl (H3.cell (i := 0) rfl rfl) Try.underlying57 rfl ?_)
      refine WL.yes rfl rfl rfl hb5 rfl (op_lenA Try.underlying57 rfl (H3.arr hS) ?_)
      refine WL.yes rfl rfl rfl hb5 rfl (op_fieldAddr rfl Fa.F59_2 ?_)
      refine WL.yes rfl rfl rfl hb5 rfl (op_load rfl (H3.cell (i := 1) rfl rfl) Try.underlying57 rfl ?_)
      refine WL.yes rfl rfl rfl hb5 rfl (op_lenA Try.underlying57 rfl (H3.arr hR) ?_)
      refine WL.yes rfl rfl rfl hb5 rfl (op_neqN rfl rfl ?_)
      refine WL.op rfl rfl (op_pickF rfl hb5 rfl ?_)
      refine WL.nil ?_
      refine WQ.next ?_
      refine WC.cond rfl (fun (hb6 : (decide (sg.length ≠ sg'.length)) = true) => ?_) (fun (hb6 : (decide (sg.length ≠ sg'.length)) = false) => ?_)
      ·
        have hc6 := of_decide_eq_true hb6
        refine WC.seq ?_
        refine WC.region ?_
        refine WL.op rfl rfl (op_assign rfl ?_)
        refine WL.nil ?_
        refine WQ.next ?_
        refine WC.ret ?_
        refine WQ.thenRet ?_
        refine WQ.out (.tmp rfl .nil) ?_
        exact ⟨by rw [sameI_no (fun h => hc6 (by rw [h.2.2]))]; rfl, H3.fr⟩
      ·
        have hc6 := of_decide_eq_false hb6
        refine WC.skip ?_
        refine WQ.next ?_
        refine WC.seq ?_
        refine WC.seq ?_
        refine WC.region ?_
        refine WL.op rfl rfl (op_assign rfl ?_)
        refine WL.nil ?_
        refine WQ.next ?_
        refine WC.block ?_
        refine WC.loop (α := Nat) (fun k => [(2, (ptr b1 0)), (3, (ptr b2 0)), (5, (vN k))]) (fun k w' => (k ≤ sg.length ∧ (∀ j, j < k → sg.getD j Sg.zero = sg'.getD j Sg.zero)) ∧ Own [] w w' [.blk b1 [(vU32 pg), ev, pv, (.bool c), (vU32 en), sv] 59, .blk b2 [(vU32 pg'), ev', pv', (.bool c'), (vU32 en'), sv'] 59]) (fun k => sg.length - k) 0 ⟨⟨Nat.zero_le _, fun j h => by omega⟩, H3⟩ ⟨rfl, rfl, rfl, trivial⟩ ?_
        rintro k w7 ⟨⟨hk1, hok⟩, H7⟩
        show WC _ _ _ _ _ [(2, (ptr b1 0)), (3, (ptr b2 0)), (5, (vN k))] _
        refine WC.seq ?_
        refine WC.seq ?_
        refine WC.region ?_
        refine WL.op rfl rfl (op_move rfl ?_)
        refine WL.op rfl rfl (op_fieldAddr rfl Fa.F59_2 ?_)
        refine WL.op rfl rfl (op_load rfl (H7.cell (i := 0) rfl rfl) Try.underlying57 rfl ?_)
        refine WL.op rfl rfl (op_lenA Try.underlying57 rfl (H7.arr hS) ?_)
        refine WL.op rfl rfl (op_lssN rfl rfl ?_)
        refine WL.nil ?_
        refine WQ.next ?_
        refine WC.cond rfl (fun (hb8 : (decide (k < sg.length)) = true) => ?_) (fun (hb8 : (decide (k < sg.length)) = false) => ?_)
        ·
          have hc8 := of_decide_eq_true hb8
          refine WC.skip ?_
          refine WQ.next ?_
          refine WC.seq ?_
          refine WC.block ?_
          refine WC.seq ?_
          refine WC.draw 11 Fa.M H7 (HW.op rfl (fun w1 H1 => op_fieldAddr rfl Fa.F59_2 ⟨rfl, Fr.refl _ _⟩) (HW.op rfl (fun w1 H1 => op_load rfl (H1.cell (i := 0) rfl rfl) Try.underlying57 rfl ⟨rfl, Fr.refl _ _⟩) (HW.op rfl (fun w1 H1 => op_move rfl ⟨rfl, Fr.refl _ _⟩) (HW.op rfl (fun w1 H1 => op_indexAddr Try.underlying57 Fa.I111 rfl (H1.arr hS) rfl (by omega) ⟨rfl, Fr.refl _ _⟩) (HW.op rfl (fun w1 H1 => op_loadSP (vs := sgc (sg.getD k Sg.zero)) rfl (Arr.atsF (H1.arr hS) (fun _ => rfl) (by decide) Sg.zero (by omega)) Try.underlying111 rfl Fa.I111 rfl ⟨rfl, Fr.refl _ _⟩) (HW.op rfl (fun w1 H1 => op_fieldAddr rfl Fa.F59_2 ⟨rfl, Fr.refl _ _⟩) (HW.op rfl (fun w1 H1 => op_load rfl (H1.cell (i := 1) rfl rfl) Try.underlying57 rfl ⟨rfl, Fr.refl _ _⟩) (HW.op rfl (fun w1 H1 => op_move rfl ⟨rfl, Fr.refl _ _⟩) (HW.op rfl (fun w1 H1 => op_indexAddr Try.underlying57 Fa.I111 rfl (H1.arr hR) rfl (by omega) ⟨rfl, Fr.refl _ _⟩) (HW.op rfl (fun w1 H1 => op_loadSP (vs := sgc (sg'.getD k Sg.zero)) rfl (Arr.atsF (H1.arr hR) (fun _ => rfl) (by decide) Sg.zero (by omega)) Try.underlying111 rfl Fa.I111 rfl ⟨rfl, Fr.refl _ _⟩) (HW.op rfl (fun w1 H1 => op_neqS (xs := [_, _, _]) (ys := [_, _, _]) (b := (!((decide ((sg.getD k Sg.zero).a = (sg'.getD k Sg.zero).a)) && ((decide ((sg.getD k Sg.zero).p = (sg'.getD k Sg.zero).p)) && (decide ((sg.getD k Sg.zero).b = (sg'.getD k Sg.zero).b)))))) Fa.FL111 rfl rfl rfl (by simp [eqAll, veqStr, veqU32, veqU8]) ⟨rfl, Fr.refl _ _⟩)  HW.nil))))))))))) (by kernel_rfl) ?_
          intro β9 w9 H9
          refine WL.nil ?_
          refine WQ.next ?_
          refine WC.cond rfl (fun (hb10 : (!((decide ((sg.getD k Sg.zero).a = (sg'.getD k Sg.zero).a)) && ((decide ((sg.getD k Sg.zero).p = (sg'.getD k Sg.zero).p)) && (decide ((sg.getD k Sg.zero).b = (sg'.getD k Sg.zero).b))))) = true) => ?_) (fun (hb10 : (!((decide ((sg.getD k Sg.zero).a = (sg'.getD k Sg.zero).a)) && ((decide ((sg.getD k Sg.zero).p = (sg'.getD k Sg.zero).p)) && (decide ((sg.getD k Sg.zero).b = (sg'.getD k Sg.zero).b))))) = false) => ?_)
          ·
            have hn10 := (Bool.not_eq_true' _).mp hb10
            refine WC.seq ?_
            refine WC.region ?_
            refine WL.op rfl rfl (op_assign rfl ?_)
            refine WL.nil ?_
            refine WQ.next ?_
            refine WC.ret ?_
            refine WQ.inRet ?_
            refine WQ.thenRet ?_
            refine WQ.thenRet ?_
            refine WQ.inRet ?_
            refine WQ.thenRet ?_
            refine WQ.out (.tmp rfl .nil) ?_
            exact ⟨by rw [sameI_no (fun h => sg_ne hn10 (by rw [h.2.2]))]; rfl, H9.fr⟩
          ·
            have hn10 := (Bool.not_eq_false' _).mp hb10
            refine WC.skip ?_
            refine WQ.inNormal ?_
            refine WQ.next ?_
            refine WC.region ?_
            refine WL.op rfl rfl (op_move rfl ?_)
            refine WL.op rfl rfl (op_addN (b := 1) rfl rfl (by omega) ?_)
            refine WL.op rfl rfl (op_assign rfl ?_)
            refine WL.nil ?_
            exact WQ.round (k + 1) ⟨⟨by omega, allPrev hok (sg_eq hn10)⟩, H9⟩ ⟨rfl, rfl, rfl, trivial⟩ (by omega)
        ·
          have hc8 := of_decide_eq_false hb8
          refine WC.exit ?_
          refine WQ.thenExit ?_
          refine WQ.thenExit ?_
          refine WQ.inHere ?_
          refine WQ.next ?_
          refine WC.seq ?_
          refine WC.region ?_
          refine WL.op rfl rfl (op_assign rfl ?_)
          refine WL.nil ?_
          refine WQ.next ?_
          refine WC.ret ?_
          refine WQ.out (.tmp rfl .nil) ?_
          exact ⟨by rw [sameI_iff.2 ⟨sameM_iff.1 (by simpa using hn4), Decidable.not_not.mp hc5, list_eqD (by omega) (fun j hj => hok j (by omega))⟩]; rfl, H7.fr⟩
end Go.Proofs.Ytpnghdalnghpcaa
/-! from WImg5 -/
namespace Go.Proofs.Ytpnghdalnghpcaa
open Go.Owl Go.Spec
set_option maxRecDepth 100000 in
theorem large11_ok (pg : UInt32) (ev pv lv : Value) (xs : List Xt) (ps : List UInt16) (con : Bool) (w : World) (hL : Arr w lv 4 1 [vU32 pg, ev, pv, .bool con]) (hE : Arr w ev 2 xs.length (List.flatMap xtc xs)) (hP : Arr w pv 1 ps.length (List.map vU16 ps)) (hn : xs.length < 2 ^ 47) (hm : ps.length < 2 ^ 47) :
    Calls Try.prog 79 #[lv] w (fun e w' => e = .returned (.bool (decide (1 + xs.length + ps.length > 600))) ∧ Fr [] w w') := by
  refine enter (args := [lv]) Try.func79 rfl rfl ?_
  have H0 : Own [] w w [] := Own.start w []
  refine WC.seq ?_
  refine WC.region ?_
  refine WL.op rfl rfl (op_assign rfl ?_)
  refine WL.nil ?_
  refine WQ.next ?_
  refine WC.seq ?_
  refine WC.region ?_
  refine WL.op rfl rfl (op_move rfl ?_)
  refine WL.op rfl rfl (op_lenA Try.underlying167 rfl (H0.arr hL) ?_)
  refine WL.op rfl rfl (op_assign rfl ?_)
  refine WL.nil ?_
  refine WQ.next ?_
  refine WC.cut (α := Unit) (fun _ => [(3, (vN (1 + xs.length + ps.length)))]) (fun _ w' => Own [] w w' []) ?_ ?_
  ·
    refine WC.seq ?_
    refine WC.region ?_
    refine WL.op rfl rfl (op_assign rfl ?_)
    refine WL.nil ?_
    refine WQ.next ?_
    refine WC.block ?_
    refine WC.loop (α := Nat) (fun k => [(0, lv), (3, (vN (if k = 0 then 1 else 1 + xs.length + ps.length))), (4, (vN k))]) (fun k w' => (k ≤ 1) ∧ Own [] w w' []) (fun k => 1 - k) 0 ⟨(Nat.zero_le _), H0⟩ ⟨rfl, rfl, rfl, trivial⟩ ?_
    rintro k w1 ⟨hinv, H1⟩
    show WC _ _ _ _ _ [(0, lv), (3, (vN (if k = 0 then 1 else 1 + xs.length + ps.length))), (4, (vN k))] _
    refine WC.seq ?_
    refine WC.seq ?_
    refine WC.region ?_
    refine WL.op rfl rfl (op_move rfl ?_)
    refine WL.op rfl rfl (op_move rfl ?_)
    refine WL.op rfl rfl (op_lenA Try.underlying167 rfl (H1.arr hL) ?_)
    refine WL.op rfl rfl (op_lssN rfl rfl ?_)
    refine WL.op rfl rfl (op_move rfl ?_)
    refine WL.split (t := 11) rfl (fun (hb2 : (decide (k < 1)) = true) => ?_) (fun (hb2 : (decide (k < 1)) = false) => ?_)
    ·
      have hc2 := of_decide_eq_true hb2
      refine WL.yes rfl rfl rfl hb2 rfl (op_move rfl ?_)
      refine WL.yes rfl rfl rfl hb2 rfl (op_lssN (b := 100) rfl rfl ?_)
      refine WL.op rfl rfl (op_pickT rfl hb2 rfl ?_)
      refine WL.nil ?_
      refine WQ.next ?_
      refine WC.cond rfl (fun (hb3 : (decide (k < 100)) = true) => ?_) (fun (hb3 : (decide (k < 100)) = false) => ?_)
      ·
        have hc3 := of_decide_eq_true hb3
        obtain rfl : k = 0 := by omega
        refine WC.skip ?_
        refine WQ.next ?_
        refine WC.seq ?_
        refine WC.block ?_
        refine WC.draw 16 Fa.M H1 (HW.op rfl (fun w1 H1 => op_move rfl ⟨rfl, Fr.refl _ _⟩) (HW.op rfl (fun w1 H1 => op_move rfl ⟨rfl, Fr.refl _ _⟩) (HW.op rfl (fun w1 H1 => op_move rfl ⟨rfl, Fr.refl _ _⟩) (HW.op rfl (fun w1 H1 => op_indexAddr Try.underlying167 Fa.I56 rfl (H1.arr hL) rfl (by omega) ⟨rfl, Fr.refl _ _⟩) (HW.op rfl (fun w1 H1 => op_fieldAddrS rfl Fa.F56_1 ⟨rfl, Fr.refl _ _⟩) (HW.op rfl (fun w1 H1 => op_load rfl ((H1.arr hL).at rfl) Try.underlying53 rfl ⟨rfl, Fr.refl _ _⟩) (HW.op rfl (fun w1 H1 => op_lenA Try.underlying53 rfl (H1.arr hE) ⟨rfl, Fr.refl _ _⟩) (HW.op rfl (fun w1 H1 => op_addN rfl rfl (by rw [if_pos rfl]; omega) ⟨rfl, Fr.refl _ _⟩) (HW.op rfl (fun w1 H1 => op_move rfl ⟨rfl, Fr.refl _ _⟩) (HW.op rfl (fun w1 H1 => op_move rfl ⟨rfl, Fr.refl _ _⟩) (HW.op rfl (fun w1 H1 => op_indexAddr Try.underlying167 Fa.I56 rfl (H1.arr hL) rfl (by omega) ⟨rfl, Fr.refl _ _⟩) (HW.op rfl (fun w1 H1 => op_fieldAddrS rfl Fa.F56_2 ⟨rfl, Fr.refl _ _⟩) (HW.op rfl (fun w1 H1 => op_load rfl ((H1.arr hL).at rfl) Try.underlying54 rfl ⟨rfl, Fr.refl _ _⟩) (HW.op rfl (fun w1 H1 => op_lenA Try.underlying54 rfl (H1.arr hP) ⟨rfl, Fr.refl _ _⟩) (HW.op rfl (fun w1 H1 => op_addN rfl rfl (by rw [if_pos rfl]; omega) ⟨rfl, Fr.refl _ _⟩) (HW.op rfl (fun w1 H1 => op_assign rfl ⟨rfl, Fr.refl _ _⟩)  HW.nil)))))))))))))))) (by kernel_rfl) ?_
        intro β4 w4 H4
        refine WL.nil ?_
        refine WQ.inNormal ?_
        refine WQ.next ?_
        refine WC.region ?_
        refine WL.op rfl rfl (op_move rfl ?_)
        refine WL.op rfl rfl (op_addN (b := 1) rfl rfl (by omega) ?_)
        refine WL.op rfl rfl (op_assign rfl ?_)
        refine WL.nil ?_
        exact WQ.round 1 ⟨(Nat.le_refl _), H4⟩ ⟨rfl, rfl, rfl, trivial⟩ (by decide)
      ·
        have hc3 := of_decide_eq_false hb3
        refine WC.exit ?_
        refine WQ.thenExit ?_
        refine WQ.thenExit ?_
        refine WQ.inHere ?_
        obtain rfl : k = 1 := by omega
        exact WQ.here () H1 ⟨rfl, trivial⟩
    ·
      have hc2 := of_decide_eq_false hb2
      refine WL.no rfl rfl rfl hb2 rfl ?_
      refine WL.no rfl rfl rfl hb2 rfl ?_
      refine WL.op rfl rfl (op_pickF rfl hb2 rfl ?_)
      refine WL.nil ?_
      refine WQ.next ?_
      refine WC.no rfl rfl ?_
      refine WC.exit ?_
      refine WQ.thenExit ?_
      refine WQ.thenExit ?_
      refine WQ.inHere ?_
      obtain rfl : k = 1 := by omega
      exact WQ.here () H1 ⟨rfl, trivial⟩
  ·
    rintro ⟨⟩ w5 H5
    show WC _ _ _ _ _ [(3, (vN (1 + xs.length + ps.length)))] _
    refine WC.seq ?_
    refine WC.region ?_
    refine WL.op rfl rfl (op_move rfl ?_)
    refine WL.op rfl rfl (op_gtrN (b := 600) rfl rfl ?_)
    refine WL.op rfl rfl (op_assign rfl ?_)
    refine WL.nil ?_
    refine WQ.next ?_
    refine WC.ret ?_
    refine WQ.out (.tmp rfl .nil) ?_
    exact ⟨rfl, H5.fr⟩
set_option maxRecDepth 100000 in
theorem large16_ok (pg : UInt32) (ev pv sv : Value) (xs : List Xt) (ps : List UInt16) (con : Bool) (en : UInt32) (sg : List Sg) (w : World) (hE : Arr w ev 2 xs.length (List.flatMap xtc xs)) (hP : Arr w pv 1 ps.length (List.map vU16 ps)) (hS : Arr w sv 3 sg.length (List.flatMap sgc sg)) (hn : xs.length < 2 ^ 47) (hm : ps.length < 2 ^ 47) (hk : sg.length < 2 ^ 47) (hB : ∀ x ∈ sg, x.b.length ≤ 140737488351232) :
    Calls Try.prog 37 #[(.agg #[(vU32 pg), ev, pv, (.bool con), (vU32 en), sv])] w (fun e w' => e = .returned (.bool (large16 xs ps sg)) ∧ Fr [] w w') := by
  refine enter (args := [(.agg #[(vU32 pg), ev, pv, (.bool con), (vU32 en), sv])]) Try.func37 rfl rfl ?_
  have H0 : Own [] w w [] := Own.start w []
  refine WC.seq ?_
  refine WC.region ?_
  refine WL.op rfl rfl (op_box H0 rfl rfl (fun b1 w1 H1 => ?_))
  refine WL.op rfl rfl (op_assign rfl ?_)
  refine WL.nil ?_
  refine WQ.next ?_
  refine WC.seq ?_
  refine WC.region ?_
  refine WL.op rfl rfl (op_assign rfl ?_)
  refine WL.nil ?_
  refine WQ.next ?_
  refine WC.cut (α := Nat) (fun k => [(1, (ptr b1 0)), (3, (vN (sumS sg k)))]) (fun k w' => (k = min sg.length 20) ∧ Own [] w w' [.blk b1 [(vU32 pg), ev, pv, (.bool con), (vU32 en), sv] 59]) ?_ ?_
  ·
    refine WC.seq ?_
    refine WC.region ?_
    refine WL.op rfl rfl (op_assign rfl ?_)
    refine WL.nil ?_
    refine WQ.next ?_
    refine WC.block ?_
    refine WC.loop (α := Nat) (fun k => [(1, (ptr b1 0)), (3, (vN (sumS sg k))), (4, (vN k))]) (fun k w' => (k ≤ sg.length ∧ k ≤ 20) ∧ Own [] w w' [.blk b1 [(vU32 pg), ev, pv, (.bool con), (vU32 en), sv] 59]) (fun k => sg.length - k) 0 ⟨⟨by omega, by omega⟩, H1⟩ ⟨rfl, rfl, rfl, trivial⟩ ?_
    rintro k w2 ⟨hinv, H2⟩
    show WC _ _ _ _ _ [(1, (ptr b1 0)), (3, (vN (sumS sg k))), (4, (vN k))] _
    have hs0 := sumS_le hB k
    have hg0 := getS_mem hB k
    refine WC.seq ?_
    refine WC.seq ?_
    refine WC.region ?_
    refine WL.op rfl rfl (op_move rfl ?_)
    refine WL.op rfl rfl (op_fieldAddr rfl Fa.F59_2 ?_)
    refine WL.op rfl rfl (op_load rfl (H2.cell (i := 0) rfl rfl) Try.underlying57 rfl ?_)
    refine WL.op rfl rfl (op_lenA Try.underlying57 rfl (H2.arr hS) ?_)
    refine WL.op rfl rfl (op_lssN rfl rfl ?_)
    refine WL.op rfl rfl (op_move rfl ?_)
    refine WL.split (t := 10) rfl (fun (hb3 : (decide (k < sg.length)) = true) => ?_) (fun (hb3 : (decide (k < sg.length)) = false) => ?_)
    ·
      have hc3 := of_decide_eq_true hb3
      refine WL.yes rfl rfl rfl hb3 rfl (op_move rfl ?_)
      refine WL.yes rfl rfl rfl hb3 rfl (op_lssN (b := 20) rfl rfl ?_)
      refine WL.op rfl rfl (op_pickT rfl hb3 rfl ?_)
      refine WL.nil ?_
      refine WQ.next ?_
      refine WC.cond rfl (fun (hb4 : (decide (k < 20)) = true) => ?_) (fun (hb4 : (decide (k < 20)) = false) => ?_)
      ·
        have hc4 := of_decide_eq_true hb4
        refine WC.skip ?_
        refine WQ.next ?_
        refine WC.seq ?_
        refine WC.block ?_
        refine WC.region ?_
        refine WL.op rfl rfl (op_move rfl ?_)
        refine WL.op rfl rfl (op_fieldAddr rfl Fa.F59_2 ?_)
        refine WL.op rfl rfl (op_load rfl (H2.cell (i := 0) rfl rfl) Try.underlying57 rfl ?_)
        refine WL.op rfl rfl (op_move rfl ?_)
        refine WL.op rfl rfl (op_indexAddr Try.underlying57 Fa.I111 rfl (H2.arr hS) rfl (by omega) ?_)
        refine WL.op rfl rfl (op_fieldAddrS rfl Fa.F111_2 ?_)
        refine WL.op rfl rfl (op_load rfl (Arr.atF (k := 2) (H2.arr hS) (fun _ => rfl) (by decide) Sg.zero (by omega) rfl) Try.underlying9 rfl ?_)
        refine WL.op rfl rfl (op_lenStr Try.underlying9 rfl ?_)
        refine WL.op rfl rfl (op_addN rfl rfl (by omega) ?_)
        refine WL.op rfl rfl (op_assign rfl ?_)
        refine WL.nil ?_
        refine WQ.inNormal ?_
        refine WQ.next ?_
        refine WC.region ?_
        refine WL.op rfl rfl (op_move rfl ?_)
        refine WL.op rfl rfl (op_addN (b := 1) rfl rfl (by omega) ?_)
        refine WL.op rfl rfl (op_assign rfl ?_)
        refine WL.nil ?_
        exact WQ.round (k + 1) ⟨(by omega), H2⟩ ⟨rfl, rfl, rfl, trivial⟩ (by omega)
      ·
        have hc4 := of_decide_eq_false hb4
        refine WC.exit ?_
        refine WQ.thenExit ?_
        refine WQ.thenExit ?_
        refine WQ.inHere ?_
        exact WQ.here k ⟨(by omega), H2⟩ ⟨rfl, rfl, trivial⟩
    ·
      have hc3 := of_decide_eq_false hb3
      refine WL.no rfl rfl rfl hb3 rfl ?_
      refine WL.no rfl rfl rfl hb3 rfl ?_
      refine WL.op rfl rfl (op_pickF rfl hb3 rfl ?_)
      refine WL.nil ?_
      refine WQ.next ?_
      refine WC.no rfl rfl ?_
      refine WC.exit ?_
      refine WQ.thenExit ?_
      refine WQ.thenExit ?_
      refine WQ.inHere ?_
      exact WQ.here k ⟨(by omega), H2⟩ ⟨rfl, rfl, trivial⟩
  ·
    rintro k w5 ⟨hinv, H5⟩
    show WC _ _ _ _ _ [(1, (ptr b1 0)), (3, (vN (sumS sg k)))] _
    refine WC.seq ?_
    refine WC.region ?_
    refine WL.op rfl rfl (op_fieldAddr rfl Fa.F59_0 ?_)
    refine WL.op rfl rfl (op_loadS (vs := [_, _, _, _]) rfl (H5.cells (i := 0) rfl rfl) Try.underlying56 rfl Fa.I56 rfl ?_)
    refine WL.op rfl rfl (op_buildSlice (cs := [_, _, _, _]) H5 Try.underlying167 Fa.I56 rfl rfl rfl rfl (by decide) (by decide) (fun b6 w6 H6 => ?_))
    refine WL.op rfl rfl (op_callF Fa.C79 rfl ((large11_ok pg ev pv (.slice (some ⟨b6, 0, none⟩) 1 1) xs ps con _ (H6.arrR (i := 1) rfl) (H6.arr hE) (H6.arr hP) (by omega) (by omega)).mono (fun e w7 hq => ?_)))
    obtain ⟨rfl, hf7⟩ := hq
    refine ⟨_, rfl, ?_⟩
    have H7 := H6.fr' hf7
    refine WL.op rfl rfl (op_move rfl ?_)
    refine WL.split (t := 29) rfl (fun (hb8 : (decide (1 + xs.length + ps.length > 600)) = true) => ?_) (fun (hb8 : (decide (1 + xs.length + ps.length > 600)) = false) => ?_)
    ·
      have hc8 := of_decide_eq_true hb8
      refine WL.no rfl rfl rfl hb8 rfl ?_
      refine WL.no rfl rfl rfl hb8 rfl ?_
      refine WL.no rfl rfl rfl hb8 rfl ?_
      refine WL.no rfl rfl rfl hb8 rfl ?_
      refine WL.op rfl rfl (op_pickT rfl hb8 rfl ?_)
      refine WL.op rfl rfl (op_move rfl ?_)
      refine WL.no rfl rfl rfl rfl rfl ?_
      refine WL.no rfl rfl rfl rfl rfl ?_
      refine WL.op rfl rfl (op_pickT rfl rfl rfl ?_)
      refine WL.op rfl rfl (op_assign rfl ?_)
      refine WL.nil ?_
      refine WQ.next ?_
      refine WC.ret ?_
      refine WQ.out (.tmp rfl .nil) ?_
      exact ⟨by subst hinv; (rw [large16, hb8]) <;> rfl, H7.fr⟩
    ·
      have hc8 := of_decide_eq_false hb8
      refine WL.yes rfl rfl rfl hb8 rfl (op_fieldAddr rfl Fa.F59_2 ?_)
      refine WL.yes rfl rfl rfl hb8 rfl (op_load rfl (H7.cell (i := 0) rfl rfl) Try.underlying57 rfl ?_)
      refine WL.yes rfl rfl rfl hb8 rfl (op_lenA Try.underlying57 rfl (H7.arr hS) ?_)
      refine WL.yes rfl rfl rfl hb8 rfl (op_gtrN (b := 15) rfl rfl ?_)
      refine WL.op rfl rfl (op_pickF rfl hb8 rfl ?_)
      refine WL.op rfl rfl (op_move rfl ?_)
      refine WL.split (t := 35) rfl (fun (hb9 : (decide (sg.length > 15)) = true) => ?_) (fun (hb9 : (decide (sg.length > 15)) = false) => ?_)
      ·
        have hc9 := of_decide_eq_true hb9
        refine WL.no rfl rfl rfl hb9 rfl ?_
        refine WL.no rfl rfl rfl hb9 rfl ?_
        refine WL.op rfl rfl (op_pickT rfl hb9 rfl ?_)
        refine WL.op rfl rfl (op_assign rfl ?_)
        refine WL.nil ?_
        refine WQ.next ?_
        refine WC.ret ?_
        refine WQ.out (.tmp rfl .nil) ?_
        exact ⟨by subst hinv; (rw [large16, hb8, hb9]) <;> rfl, H7.fr⟩
      ·
        have hc9 := of_decide_eq_false hb9
        refine WL.yes rfl rfl rfl hb9 rfl (op_move rfl ?_)
        refine WL.yes rfl rfl rfl hb9 rfl (op_gtrN (b := 262144) rfl rfl ?_)
        refine WL.op rfl rfl (op_pickF rfl hb9 rfl ?_)
        refine WL.op rfl rfl (op_assign rfl ?_)
        refine WL.nil ?_
        refine WQ.next ?_
        refine WC.ret ?_
        refine WQ.out (.tmp rfl .nil) ?_
        exact ⟨by subst hinv; (rw [large16, hb8, hb9]) <;> rfl, H7.fr⟩
set_option maxRecDepth 100000 in
theorem copy11_ok (pg : UInt32) (ev pv : Value) (xs : List Xt) (ps : List UInt16) (con : Bool) (w : World) (hE : Arr w ev 2 xs.length (List.flatMap xtc xs)) (hP : Arr w pv 1 ps.length (List.map vU16 ps)) (hn : xs.length < 2 ^ 40) (hm : ps.length < 2 ^ 40) :
    Calls Try.prog 81 #[(.agg #[(vU32 pg), ev, pv, (.bool con)])] w (fun e w' => ∃ v u, e = .returned (.agg #[vU32 pg, v, u, .bool con]) ∧ Own [] w w' [.row v 130 2 xs.length (List.flatMap xtc xs), .row u 92 1 ps.length (List.map vU16 ps)]) := by
  refine enter (args := [(.agg #[(vU32 pg), ev, pv, (.bool con)])]) Try.func81 rfl rfl ?_
  have H0 : Own [] w w [] := Own.start w []
  refine WC.seq ?_
  refine WC.region ?_
  refine WL.op rfl rfl (op_box H0 rfl rfl (fun b1 w1 H1 => ?_))
  refine WL.op rfl rfl (op_alloc H1 Fa.I56 (fun b2 w2 H2 => ?_))
  refine WL.nil ?_
  refine WQ.next ?_
  refine WC.seq ?_
  refine WC.region ?_
  refine WL.op rfl rfl (op_fieldAddr rfl Fa.F56_1 ?_)
  refine WL.op rfl rfl (op_load rfl (H2.cell (i := 0) rfl rfl) Try.underlying53 rfl ?_)
  have H4 := H2.nilRow 130 2
  refine WL.op rfl rfl (op_appendF (f := xtc) (l := []) (l' := xs) (i := 2) H4 Try.underlying53 Fa.I130 rfl rfl rfl rfl (Src.ofArr Try.underlying53 (H4.arr hE)) (one_flat (fun _ => by simp [xtc, Value.oneCell'])) (by omega) (by omega) (fun v3 w3 H3 => ?_))
  refine WL.op rfl rfl (op_fieldAddr rfl Fa.F56_1 ?_)
  refine WL.op rfl rfl (op_storeB (i := 0) H3 rfl rfl rfl rfl (Arr.one (H3.arrR (i := 2) rfl)) Fa.I53 (fun w5 H5 => ?_))
  refine WL.nil ?_
  refine WQ.next ?_
  refine WC.seq ?_
  refine WC.region ?_
  refine WL.op rfl rfl (op_fieldAddr rfl Fa.F56_2 ?_)
  refine WL.op rfl rfl (op_load rfl (H5.cell (i := 0) rfl rfl) Try.underlying54 rfl ?_)
  have H7 := H5.nilRow 92 1
  refine WL.op rfl rfl (op_appendM (f := vU16) (l := []) (l' := ps) (i := 3) H7 Try.underlying54 Fa.I92 rfl rfl rfl rfl (Src.ofArr Try.underlying54 (H7.arr hP)) (one_mapM (fun _ => rfl)) (by omega) (by omega) (fun v6 w6 H6 => ?_))
  refine WL.op rfl rfl (op_fieldAddr rfl Fa.F56_2 ?_)
  refine WL.op rfl rfl (op_storeB (i := 0) H6 rfl rfl rfl rfl (Arr.one (H6.arrR (i := 3) rfl)) Fa.I54 (fun w8 H8 => ?_))
  refine WL.nil ?_
  refine WQ.next ?_
  refine WC.seq ?_
  refine WC.region ?_
  refine WL.op rfl rfl (op_loadS (vs := [_, _, _, _]) rfl (H8.cells (i := 0) rfl rfl) Try.underlying56 rfl Fa.I56 rfl ?_)
  refine WL.op rfl rfl (op_storeBW (i := 1) H8 rfl rfl rfl rfl (one_cons rfl (one_cons (Arr.one (H8.arrR (i := 2) rfl)) (one_cons (Arr.one (H8.arrR (i := 3) rfl)) (one_cons rfl one_nil)))) Fa.I56 (fun w9 H9 => ?_))
  refine WL.nil ?_
  refine WQ.next ?_
  refine WC.ret ?_
  refine WQ.out (.cell rfl (run_loadVarS (vs := [_, _, _, _]) (H9.cells (i := 1) rfl rfl) Try.underlying56 rfl Fa.I56 rfl) .nil) ?_
  exact ⟨_, _, rfl, (by have h := (show Own [] w w9 [.blk b1 [(vU32 pg), v3, v6, (.bool con)] 56, .blk b2 [(vU32 pg), v3, v6, (.bool con)] 56, .row v3 130 2 (0 + xs.length) (List.flatMap xtc ([] ++ xs)), .row v6 92 1 (0 + ps.length) (List.map vU16 ([] ++ ps))] from H9); have h2 := Own.sel h [2, 3] rfl rfl; simp only [Nat.zero_add, List.nil_append] at h2; exact h2)⟩
set_option maxRecDepth 100000 in
theorem copy16_ok (pg : UInt32) (ev pv sv : Value) (xs : List Xt) (ps : List UInt16) (con : Bool) (en : UInt32) (sg : List Sg) (w : World) (hE : Arr w ev 2 xs.length (List.flatMap xtc xs)) (hP : Arr w pv 1 ps.length (List.map vU16 ps)) (hS : Arr w sv 3 sg.length (List.flatMap sgc sg)) (hn : xs.length < 2 ^ 40) (hm : ps.length < 2 ^ 40) (hk : sg.length < 2 ^ 40) :
    Calls Try.prog 39 #[(.agg #[(vU32 pg), ev, pv, (.bool con), (vU32 en), sv])] w (fun e w' => ∃ v u q, e = .returned (.agg #[vU32 pg, v, u, .bool con, vU32 en, q]) ∧ Own [] w w' [.row v 130 2 xs.length (List.flatMap xtc xs), .row u 92 1 ps.length (List.map vU16 ps), .row q 111 3 sg.length (List.flatMap sgc sg)]) := by
  refine enter (args := [(.agg #[(vU32 pg), ev, pv, (.bool con), (vU32 en), sv])]) Try.func39 rfl rfl ?_
  have H0 : Own [] w w [] := Own.start w []
  refine WC.seq ?_
  refine WC.region ?_
  refine WL.op rfl rfl (op_box H0 rfl rfl (fun b1 w1 H1 => ?_))
  refine WL.op rfl rfl (op_alloc H1 Fa.I59 (fun b2 w2 H2 => ?_))
  refine WL.nil ?_
  refine WQ.next ?_
  refine WC.seq ?_
  refine WC.region ?_
  refine WL.op rfl rfl (op_fieldAddr rfl Fa.F59_0 ?_)
  refine WL.op rfl rfl (op_loadS (vs := [_, _, _, _]) rfl (H2.cells (i := 0) rfl rfl) Try.underlying56 rfl Fa.I56 rfl ?_)
  refine WL.op rfl rfl (op_callF Fa.C81 rfl ((copy11_ok pg _ _ xs ps con _ (H2.arr hE) (H2.arr hP) (by omega) (by omega)).mono (fun e w3 hq => ?_)))
  obtain ⟨v3, u3, rfl, hq3⟩ := hq
  refine ⟨_, rfl, ?_⟩
  have H3 : Own [] w w3 [.blk b1 [(vU32 pg), ev, pv, (.bool con), (vU32 en), sv] 59, .blk b2 [(vU32 0), (.slice none 0 0), (.slice none 0 0), (.bool false), (vU32 0), (.slice none 0 0)] 59, .row v3 130 2 xs.length (List.flatMap xtc xs), .row u3 92 1 ps.length (List.map vU16 ps)] := H2.splice [] [] [.row v3 130 2 xs.length (List.flatMap xtc xs), .row u3 92 1 ps.length (List.map vU16 ps)] rfl rfl hq3 (Fits.solid True.intro (Fits.solid True.intro Fits.nil))
  refine WL.op rfl rfl (op_fieldAddr rfl Fa.F59_0 ?_)
  refine WL.op rfl rfl (op_storeBS (i := 0) (vs := [_, _, _, _]) H3 rfl rfl rfl rfl (one_cons rfl (one_cons (Arr.one (H3.arrR (i := 2) rfl)) (one_cons (Arr.one (H3.arrR (i := 3) rfl)) (one_cons rfl one_nil)))) Fa.I56 (fun w4 H4 => ?_))
  refine WL.nil ?_
  refine WQ.next ?_
  refine WC.seq ?_
  refine WC.region ?_
  refine WL.op rfl rfl (op_fieldAddr rfl Fa.F59_2 ?_)
  refine WL.op rfl rfl (op_load rfl (H4.cell (i := 0) rfl rfl) Try.underlying57 rfl ?_)
  have H6 := H4.nilRow 111 3
  refine WL.op rfl rfl (op_appendF (f := sgc) (l := []) (l' := sg) (i := 4) H6 Try.underlying57 Fa.I111 rfl rfl rfl rfl (Src.ofArr Try.underlying57 (H6.arr hS)) (one_flat (fun _ => by simp [sgc, Value.oneCell'])) (by omega) (by omega) (fun v5 w5 H5 => ?_))
  refine WL.op rfl rfl (op_fieldAddr rfl Fa.F59_2 ?_)
  refine WL.op rfl rfl (op_storeB (i := 0) H5 rfl rfl rfl rfl (Arr.one (H5.arrR (i := 4) rfl)) Fa.I57 (fun w7 H7 => ?_))
  refine WL.nil ?_
  refine WQ.next ?_
  refine WC.seq ?_
  refine WC.region ?_
  refine WL.op rfl rfl (op_loadS (vs := [_, _, _, _, _, _]) rfl (H7.cells (i := 0) rfl rfl) Try.underlying59 rfl Fa.I59 rfl ?_)
  refine WL.op rfl rfl (op_storeBW (i := 1) H7 rfl rfl rfl rfl (one_cons rfl (one_cons (Arr.one (H7.arrR (i := 2) rfl)) (one_cons (Arr.one (H7.arrR (i := 3) rfl)) (one_cons rfl (one_cons rfl (one_cons (Arr.one (H7.arrR (i := 4) rfl)) one_nil)))))) Fa.I59 (fun w8 H8 => ?_))
  refine WL.nil ?_
  refine WQ.next ?_
  refine WC.ret ?_
  refine WQ.out (.cell rfl (run_loadVarS (vs := [_, _, _, _, _, _]) (H8.cells (i := 1) rfl rfl) Try.underlying59 rfl Fa.I59 rfl) .nil) ?_
  exact ⟨_, _, _, rfl, (by have h := (show Own [] w w8 [.blk b1 [(vU32 pg), v3, u3, (.bool con), (vU32 en), v5] 59, .blk b2 [(vU32 pg), v3, u3, (.bool con), (vU32 en), v5] 59, .row v3 130 2 xs.length (List.flatMap xtc xs), .row u3 92 1 ps.length (List.map vU16 ps), .row v5 111 3 (0 + sg.length) (List.flatMap sgc ([] ++ sg))] from H8); have h2 := Own.sel h [2, 3, 4] rfl rfl; simp only [Nat.zero_add, List.nil_append] at h2; exact h2)⟩
end Go.Proofs.Ytpnghdalnghpcaa
/-! from WImg6 -/
namespace Go.Proofs.Ytpnghdalnghpcaa
open Go.Owl Go.Spec
set_option maxRecDepth 100000 in
theorem segb_ok (x : Sg) (w : World) (hb : x.b.length < 2 ^ 47) :
    Calls Try.prog 92 #[(.agg #[(vU32 x.a), (vU8 x.p), (str x.b)])] w (fun e w' => e = .returned (.bool (segB x)) ∧ Fr [] w w') := by
  refine enter (args := [(.agg #[(vU32 x.a), (vU8 x.p), (str x.b)])]) Try.func92 rfl rfl ?_
  have H0 : Own [] w w [] := Own.start w []
  have ha := x.a.toNat_lt
  refine WC.seq ?_
  refine WC.region ?_
  refine WL.op rfl rfl (op_box H0 rfl rfl (fun b1 w1 H1 => ?_))
  refine WL.op rfl rfl (op_assign rfl ?_)
  refine WL.nil ?_
  refine WQ.next ?_
  refine WC.seq ?_
  refine WC.region ?_
  refine WL.op rfl rfl (op_fieldAddr rfl Fa.F111_1 ?_)
  refine WL.op rfl rfl (op_load rfl (H1.cell (i := 0) rfl rfl) Try.underlying5 rfl ?_)
  refine WL.op rfl rfl (op_eqlU8 (b := 1) rfl rfl ?_)
  refine WL.op rfl rfl (op_move rfl ?_)
  refine WL.split (t := 7) rfl (fun (hb2 : (decide (x.p = (1 : UInt8))) = true) => ?_) (fun (hb2 : (decide (x.p = (1 : UInt8))) = false) => ?_)
  ·
    have hc2 := of_decide_eq_true hb2
    refine WL.no rfl rfl rfl hb2 rfl ?_
    refine WL.no rfl rfl rfl hb2 rfl ?_
    refine WL.no rfl rfl rfl hb2 rfl ?_
    refine WL.op rfl rfl (op_pickT rfl hb2 rfl ?_)
    refine WL.op rfl rfl (op_move rfl ?_)
    refine WL.no rfl rfl rfl rfl rfl ?_
    refine WL.no rfl rfl rfl rfl rfl ?_
    refine WL.no rfl rfl rfl rfl rfl ?_
    refine WL.op rfl rfl (op_pickT rfl rfl rfl ?_)
    refine WL.op rfl rfl (op_assign rfl ?_)
    refine WL.nil ?_
    refine WQ.next ?_
    refine WC.seq ?_
    refine WC.region ?_
    refine WL.op rfl rfl (op_move rfl ?_)
    refine WL.op rfl rfl (op_move rfl ?_)
    refine WL.yes rfl rfl rfl rfl rfl (op_fieldAddr rfl Fa.F111_0 ?_)
    refine WL.yes rfl rfl rfl rfl rfl (op_load rfl (H1.cell (i := 0) rfl rfl) Try.underlying22 rfl ?_)
    refine WL.yes rfl rfl rfl rfl rfl (op_remU32 (b := 256) rfl rfl (by decide) ?_)
    refine WL.yes rfl rfl rfl rfl rfl (op_eqlU32 (b := 0) rfl rfl ?_)
    refine WL.op rfl rfl (op_pickT rfl rfl rfl ?_)
    refine WL.op rfl rfl (op_move rfl ?_)
    refine WL.split (t := 24) rfl (fun (hb3 : (decide ((x.a % (256 : UInt32)) = (0 : UInt32))) = true) => ?_) (fun (hb3 : (decide ((x.a % (256 : UInt32)) = (0 : UInt32))) = false) => ?_)
    ·
      have hc3 := of_decide_eq_true hb3
      refine WL.yes rfl rfl rfl hb3 rfl (op_fieldAddr rfl Fa.F111_0 ?_)
      refine WL.yes rfl rfl rfl hb3 rfl (op_load rfl (H1.cell (i := 0) rfl rfl) Try.underlying22 rfl ?_)
      refine WL.yes rfl rfl rfl hb3 rfl (op_geqU32 (b := 256) rfl rfl ?_)
      refine WL.op rfl rfl (op_pickT rfl hb3 rfl ?_)
      refine WL.op rfl rfl (op_move rfl ?_)
      refine WL.split (t := 29) rfl (fun (hb4 : (decide (x.a ≥ (256 : UInt32))) = true) => ?_) (fun (hb4 : (decide (x.a ≥ (256 : UInt32))) = false) => ?_)
      ·
        have hc4 := of_decide_eq_true hb4
        refine WL.yes rfl rfl rfl hb4 rfl (op_fieldAddr rfl Fa.F111_0 ?_)
        refine WL.yes rfl rfl rfl hb4 rfl (op_load rfl (H1.cell (i := 0) rfl rfl) Try.underlying22 rfl ?_)
        refine WL.yes rfl rfl rfl hb4 rfl (op_lssU32 (b := 131072) rfl rfl ?_)
        refine WL.op rfl rfl (op_pickT rfl hb4 rfl ?_)
        refine WL.op rfl rfl (op_move rfl ?_)
        refine WL.split (t := 34) rfl (fun (hb5 : (decide (x.a < (131072 : UInt32))) = true) => ?_) (fun (hb5 : (decide (x.a < (131072 : UInt32))) = false) => ?_)
        ·
          have hc5 := of_decide_eq_true hb5
          refine WL.yes rfl rfl rfl hb5 rfl (op_fieldAddr rfl Fa.F111_2 ?_)
          refine WL.yes rfl rfl rfl hb5 rfl (op_load rfl (H1.cell (i := 0) rfl rfl) Try.underlying9 rfl ?_)
          refine WL.yes rfl rfl rfl hb5 rfl (op_lenStr Try.underlying9 rfl ?_)
          refine WL.yes rfl rfl rfl hb5 rfl (op_geqN (b := 1) rfl rfl ?_)
          refine WL.op rfl rfl (op_pickT rfl hb5 rfl ?_)
          refine WL.op rfl rfl (op_move rfl ?_)
          refine WL.split (t := 40) rfl (fun (hb6 : (decide (x.b.length ≥ 1)) = true) => ?_) (fun (hb6 : (decide (x.b.length ≥ 1)) = false) => ?_)
          ·
            have hc6 := of_decide_eq_true hb6
            refine WL.yes rfl rfl rfl hb6 rfl (op_fieldAddr rfl Fa.F111_2 ?_)
            refine WL.yes rfl rfl rfl hb6 rfl (op_load rfl (H1.cell (i := 0) rfl rfl) Try.underlying9 rfl ?_)
            refine WL.yes rfl rfl rfl hb6 rfl (op_lenStr Try.underlying9 rfl ?_)
            refine WL.yes rfl rfl rfl hb6 rfl (op_fieldAddr rfl Fa.F111_0 ?_)
            refine WL.yes rfl rfl rfl hb6 rfl (op_load rfl (H1.cell (i := 0) rfl rfl) Try.underlying22 rfl ?_)
            refine WL.yes rfl rfl rfl hb6 rfl (op_convU32N (hs := Try.underlying22) (hd := Try.underlying3) rfl ?_)
            refine WL.yes rfl rfl rfl hb6 rfl (op_subI (a := ((131072 : Nat) : Int)) (b := ((x.a.toNat : Nat) : Int)) rfl rfl (by omega) ?_)
            refine WL.yes rfl rfl rfl hb6 rfl (op_leqI rfl rfl ?_)
            refine WL.op rfl rfl (op_pickT rfl hb6 rfl ?_)
            refine WL.op rfl rfl (op_assign rfl ?_)
            refine WL.nil ?_
            refine WQ.next ?_
            refine WC.ret ?_
            refine WQ.out (.tmp rfl .nil) ?_
            exact ⟨by (rw [segB, permR, hb2, hb3, hb4, hb5, hb6]) <;> rfl, H1.fr⟩
          ·
            have hc6 := of_decide_eq_false hb6
            refine WL.no rfl rfl rfl hb6 rfl ?_
            refine WL.no rfl rfl rfl hb6 rfl ?_
            refine WL.no rfl rfl rfl hb6 rfl ?_
            refine WL.no rfl rfl rfl hb6 rfl ?_
            refine WL.no rfl rfl rfl hb6 rfl ?_
            refine WL.no rfl rfl rfl hb6 rfl ?_
            refine WL.no rfl rfl rfl hb6 rfl ?_
            refine WL.no rfl rfl rfl hb6 rfl ?_
            refine WL.op rfl rfl (op_pickF rfl hb6 rfl ?_)
            refine WL.op rfl rfl (op_assign rfl ?_)
            refine WL.nil ?_
            refine WQ.next ?_
            refine WC.ret ?_
            refine WQ.out (.tmp rfl .nil) ?_
            exact ⟨by (rw [segB, permR, hb2, hb3, hb4, hb5, hb6]) <;> rfl, H1.fr⟩
        ·
          have hc5 := of_decide_eq_false hb5
          refine WL.no rfl rfl rfl hb5 rfl ?_
          refine WL.no rfl rfl rfl hb5 rfl ?_
          refine WL.no rfl rfl rfl hb5 rfl ?_
          refine WL.no rfl rfl rfl hb5 rfl ?_
          refine WL.op rfl rfl (op_pickF rfl hb5 rfl ?_)
          refine WL.op rfl rfl (op_move rfl ?_)
          refine WL.no rfl rfl rfl rfl rfl ?_
          refine WL.no rfl rfl rfl rfl rfl ?_
          refine WL.no rfl rfl rfl rfl rfl ?_
          refine WL.no rfl rfl rfl rfl rfl ?_
          refine WL.no rfl rfl rfl rfl rfl ?_
          refine WL.no rfl rfl rfl rfl rfl ?_
          refine WL.no rfl rfl rfl rfl rfl ?_
          refine WL.no rfl rfl rfl rfl rfl ?_
          refine WL.op rfl rfl (op_pickF rfl rfl rfl ?_)
          refine WL.op rfl rfl (op_assign rfl ?_)
          refine WL.nil ?_
          refine WQ.next ?_
          refine WC.ret ?_
          refine WQ.out (.tmp rfl .nil) ?_
          exact ⟨by (rw [segB, permR, hb2, hb3, hb4, hb5]) <;> rfl, H1.fr⟩
      ·
        have hc4 := of_decide_eq_false hb4
        refine WL.no rfl rfl rfl hb4 rfl ?_
        refine WL.no rfl rfl rfl hb4 rfl ?_
        refine WL.no rfl rfl rfl hb4 rfl ?_
        refine WL.op rfl rfl (op_pickF rfl hb4 rfl ?_)
        refine WL.op rfl rfl (op_move rfl ?_)
        refine WL.no rfl rfl rfl rfl rfl ?_
        refine WL.no rfl rfl rfl rfl rfl ?_
        refine WL.no rfl rfl rfl rfl rfl ?_
        refine WL.no rfl rfl rfl rfl rfl ?_
        refine WL.op rfl rfl (op_pickF rfl rfl rfl ?_)
        refine WL.op rfl rfl (op_move rfl ?_)
        refine WL.no rfl rfl rfl rfl rfl ?_
        refine WL.no rfl rfl rfl rfl rfl ?_
        refine WL.no rfl rfl rfl rfl rfl ?_
        refine WL.no rfl rfl rfl rfl rfl ?_
        refine WL.no rfl rfl rfl rfl rfl ?_
        refine WL.no rfl rfl rfl rfl rfl ?_
        refine WL.no rfl rfl rfl rfl rfl ?_
        refine WL.no rfl rfl rfl rfl rfl ?_
        refine WL.op rfl rfl (op_pickF rfl rfl rfl ?_)
        refine WL.op rfl rfl (op_assign rfl ?_)
        refine WL.nil ?_
        refine WQ.next ?_
        refine WC.ret ?_
        refine WQ.out (.tmp rfl .nil) ?_
        exact ⟨by (rw [segB, permR, hb2, hb3, hb4]) <;> rfl, H1.fr⟩
    ·
      have hc3 := of_decide_eq_false hb3
      refine WL.no rfl rfl rfl hb3 rfl ?_
      refine WL.no rfl rfl rfl hb3 rfl ?_
      refine WL.no rfl rfl rfl hb3 rfl ?_
      refine WL.op rfl rfl (op_pickF rfl hb3 rfl ?_)
      refine WL.op rfl rfl (op_move rfl ?_)
      refine WL.no rfl rfl rfl rfl rfl ?_
      refine WL.no rfl rfl rfl rfl rfl ?_
      refine WL.no rfl rfl rfl rfl rfl ?_
      refine WL.op rfl rfl (op_pickF rfl rfl rfl ?_)
      refine WL.op rfl rfl (op_move rfl ?_)
      refine WL.no rfl rfl rfl rfl rfl ?_
      refine WL.no rfl rfl rfl rfl rfl ?_
      refine WL.no rfl rfl rfl rfl rfl ?_
      refine WL.no rfl rfl rfl rfl rfl ?_
      refine WL.op rfl rfl (op_pickF rfl rfl rfl ?_)
      refine WL.op rfl rfl (op_move rfl ?_)
      refine WL.no rfl rfl rfl rfl rfl ?_
      refine WL.no rfl rfl rfl rfl rfl ?_
      refine WL.no rfl rfl rfl rfl rfl ?_
      refine WL.no rfl rfl rfl rfl rfl ?_
      refine WL.no rfl rfl rfl rfl rfl ?_
      refine WL.no rfl rfl rfl rfl rfl ?_
      refine WL.no rfl rfl rfl rfl rfl ?_
      refine WL.no rfl rfl rfl rfl rfl ?_
      refine WL.op rfl rfl (op_pickF rfl rfl rfl ?_)
      refine WL.op rfl rfl (op_assign rfl ?_)
      refine WL.nil ?_
      refine WQ.next ?_
      refine WC.ret ?_
      refine WQ.out (.tmp rfl .nil) ?_
      exact ⟨by (rw [segB, permR, hb2, hb3]) <;> rfl, H1.fr⟩
  ·
    have hc2 := of_decide_eq_false hb2
    refine WL.yes rfl rfl rfl hb2 rfl (op_fieldAddr rfl Fa.F111_1 ?_)
    refine WL.yes rfl rfl rfl hb2 rfl (op_load rfl (H1.cell (i := 0) rfl rfl) Try.underlying5 rfl ?_)
    refine WL.yes rfl rfl rfl hb2 rfl (op_eqlU8 (b := 3) rfl rfl ?_)
    refine WL.op rfl rfl (op_pickF rfl hb2 rfl ?_)
    refine WL.op rfl rfl (op_move rfl ?_)
    refine WL.split (t := 12) rfl (fun (hb7 : (decide (x.p = (3 : UInt8))) = true) => ?_) (fun (hb7 : (decide (x.p = (3 : UInt8))) = false) => ?_)
    ·
      have hc7 := of_decide_eq_true hb7
      refine WL.no rfl rfl rfl hb7 rfl ?_
      refine WL.no rfl rfl rfl hb7 rfl ?_
      refine WL.no rfl rfl rfl hb7 rfl ?_
      refine WL.op rfl rfl (op_pickT rfl hb7 rfl ?_)
      refine WL.op rfl rfl (op_assign rfl ?_)
      refine WL.nil ?_
      refine WQ.next ?_
      refine WC.seq ?_
      refine WC.region ?_
      refine WL.op rfl rfl (op_move rfl ?_)
      refine WL.op rfl rfl (op_move rfl ?_)
      refine WL.yes rfl rfl rfl rfl rfl (op_fieldAddr rfl Fa.F111_0 ?_)
      refine WL.yes rfl rfl rfl rfl rfl (op_load rfl (H1.cell (i := 0) rfl rfl) Try.underlying22 rfl ?_)
      refine WL.yes rfl rfl rfl rfl rfl (op_remU32 (b := 256) rfl rfl (by decide) ?_)
      refine WL.yes rfl rfl rfl rfl rfl (op_eqlU32 (b := 0) rfl rfl ?_)
      refine WL.op rfl rfl (op_pickT rfl rfl rfl ?_)
      refine WL.op rfl rfl (op_move rfl ?_)
      refine WL.split (t := 24) rfl (fun (hb8 : (decide ((x.a % (256 : UInt32)) = (0 : UInt32))) = true) => ?_) (fun (hb8 : (decide ((x.a % (256 : UInt32)) = (0 : UInt32))) = false) => ?_)
      ·
        have hc8 := of_decide_eq_true hb8
        refine WL.yes rfl rfl rfl hb8 rfl (op_fieldAddr rfl Fa.F111_0 ?_)
        refine WL.yes rfl rfl rfl hb8 rfl (op_load rfl (H1.cell (i := 0) rfl rfl) Try.underlying22 rfl ?_)
        refine WL.yes rfl rfl rfl hb8 rfl (op_geqU32 (b := 256) rfl rfl ?_)
        refine WL.op rfl rfl (op_pickT rfl hb8 rfl ?_)
        refine WL.op rfl rfl (op_move rfl ?_)
        refine WL.split (t := 29) rfl (fun (hb9 : (decide (x.a ≥ (256 : UInt32))) = true) => ?_) (fun (hb9 : (decide (x.a ≥ (256 : UInt32))) = false) => ?_)
        ·
          have hc9 := of_decide_eq_true hb9
          refine WL.yes rfl rfl rfl hb9 rfl (op_fieldAddr rfl Fa.F111_0 ?_)
          refine WL.yes rfl rfl rfl hb9 rfl (op_load rfl (H1.cell (i := 0) rfl rfl) Try.underlying22 rfl ?_)
          refine WL.yes rfl rfl rfl hb9 rfl (op_lssU32 (b := 131072) rfl rfl ?_)
          refine WL.op rfl rfl (op_pickT rfl hb9 rfl ?_)
          refine WL.op rfl rfl (op_move rfl ?_)
          refine WL.split (t := 34) rfl (fun (hb10 : (decide (x.a < (131072 : UInt32))) = true) => ?_) (fun (hb10 : (decide (x.a < (131072 : UInt32))) = false) => ?_)
          ·
            have hc10 := of_decide_eq_true hb10
            refine WL.yes rfl rfl rfl hb10 rfl (op_fieldAddr rfl Fa.F111_2 ?_)
            refine WL.yes rfl rfl rfl hb10 rfl (op_load rfl (H1.cell (i := 0) rfl rfl) Try.underlying9 rfl ?_)
            refine WL.yes rfl rfl rfl hb10 rfl (op_lenStr Try.underlying9 rfl ?_)
            refine WL.yes rfl rfl rfl hb10 rfl (op_geqN (b := 1) rfl rfl ?_)
            refine WL.op rfl rfl (op_pickT rfl hb10 rfl ?_)
            refine WL.op rfl rfl (op_move rfl ?_)
            refine WL.split (t := 40) rfl (fun (hb11 : (decide (x.b.length ≥ 1)) = true) => ?_) (fun (hb11 : (decide (x.b.length ≥ 1)) = false) => ?_)
            ·
              have hc11 := of_decide_eq_true hb11
              refine WL.yes rfl rfl rfl hb11 rfl (op_fieldAddr rfl Fa.F111_2 ?_)
              refine WL.yes rfl rfl rfl hb11 rfl (op_load rfl (H1.cell (i := 0) rfl rfl) Try.underlying9 rfl ?_)
              refine WL.yes rfl rfl rfl hb11 rfl (op_lenStr Try.underlying9 rfl ?_)
              refine WL.yes rfl rfl rfl hb11 rfl (op_fieldAddr rfl Fa.F111_0 ?_)
              refine WL.yes rfl rfl rfl hb11 rfl (op_load rfl (H1.cell (i := 0) rfl rfl) Try.underlying22 rfl ?_)
              refine WL.yes rfl rfl rfl hb11 rfl (op_convU32N (hs := Try.underlying22) (hd := Try.underlying3) rfl ?_)
              refine WL.yes rfl rfl rfl hb11 rfl (op_subI (a := ((131072 : Nat) : Int)) (b := ((x.a.toNat : Nat) : Int)) rfl rfl (by omega) ?_)
              refine WL.yes rfl rfl rfl hb11 rfl (op_leqI rfl rfl ?_)
              refine WL.op rfl rfl (op_pickT rfl hb11 rfl ?_)
              refine WL.op rfl rfl (op_assign rfl ?_)
              refine WL.nil ?_
              refine WQ.next ?_
              refine WC.ret ?_
              refine WQ.out (.tmp rfl .nil) ?_
              exact ⟨by (rw [segB, permR, hb2, hb7, hb8, hb9, hb10, hb11]) <;> rfl, H1.fr⟩
            ·
              have hc11 := of_decide_eq_false hb11
              refine WL.no rfl rfl rfl hb11 rfl ?_
              refine WL.no rfl rfl rfl hb11 rfl ?_
              refine WL.no rfl rfl rfl hb11 rfl ?_
              refine WL.no rfl rfl rfl hb11 rfl ?_
              refine WL.no rfl rfl rfl hb11 rfl ?_
              refine WL.no rfl rfl rfl hb11 rfl ?_
              refine WL.no rfl rfl rfl hb11 rfl ?_
              refine WL.no rfl rfl rfl hb11 rfl ?_
              refine WL.op rfl rfl (op_pickF rfl hb11 rfl ?_)
              refine WL.op rfl rfl (op_assign rfl ?_)
              refine WL.nil ?_
              refine WQ.next ?_
              refine WC.ret ?_
              refine WQ.out (.tmp rfl .nil) ?_
              exact ⟨by (rw [segB, permR, hb2, hb7, hb8, hb9, hb10, hb11]) <;> rfl, H1.fr⟩
          ·
            have hc10 := of_decide_eq_false hb10
            refine WL.no rfl rfl rfl hb10 rfl ?_
            refine WL.no rfl rfl rfl hb10 rfl ?_
            refine WL.no rfl rfl rfl hb10 rfl ?_
            refine WL.no rfl rfl rfl hb10 rfl ?_
            refine WL.op rfl rfl (op_pickF rfl hb10 rfl ?_)
            refine WL.op rfl rfl (op_move rfl ?_)
            refine WL.no rfl rfl rfl rfl rfl ?_
            refine WL.no rfl rfl rfl rfl rfl ?_
            refine WL.no rfl rfl rfl rfl rfl ?_
            refine WL.no rfl rfl rfl rfl rfl ?_
            refine WL.no rfl rfl rfl rfl rfl ?_
            refine WL.no rfl rfl rfl rfl rfl ?_
            refine WL.no rfl rfl rfl rfl rfl ?_
            refine WL.no rfl rfl rfl rfl rfl ?_
            refine WL.op rfl rfl (op_pickF rfl rfl rfl ?_)
            refine WL.op rfl rfl (op_assign rfl ?_)
            refine WL.nil ?_
            refine WQ.next ?_
            refine WC.ret ?_
            refine WQ.out (.tmp rfl .nil) ?_
            exact ⟨by (rw [segB, permR, hb2, hb7, hb8, hb9, hb10]) <;> rfl, H1.fr⟩
        ·
          have hc9 := of_decide_eq_false hb9
          refine WL.no rfl rfl rfl hb9 rfl ?_
          refine WL.no rfl rfl rfl hb9 rfl ?_
          refine WL.no rfl rfl rfl hb9 rfl ?_
          refine WL.op rfl rfl (op_pickF rfl hb9 rfl ?_)
          refine WL.op rfl rfl (op_move rfl ?_)
          refine WL.no rfl rfl rfl rfl rfl ?_
          refine WL.no rfl rfl rfl rfl rfl ?_
          refine WL.no rfl rfl rfl rfl rfl ?_
          refine WL.no rfl rfl rfl rfl rfl ?_
          refine WL.op rfl rfl (op_pickF rfl rfl rfl ?_)
          refine WL.op rfl rfl (op_move rfl ?_)
          refine WL.no rfl rfl rfl rfl rfl ?_
          refine WL.no rfl rfl rfl rfl rfl ?_
          refine WL.no rfl rfl rfl rfl rfl ?_
          refine WL.no rfl rfl rfl rfl rfl ?_
          refine WL.no rfl rfl rfl rfl rfl ?_
          refine WL.no rfl rfl rfl rfl rfl ?_
          refine WL.no rfl rfl rfl rfl rfl ?_
          refine WL.no rfl rfl rfl rfl rfl ?_
          refine WL.op rfl rfl (op_pickF rfl rfl rfl ?_)
          refine WL.op rfl rfl (op_assign rfl ?_)
          refine WL.nil ?_
          refine WQ.next ?_
          refine WC.ret ?_
          refine WQ.out (.tmp rfl .nil) ?_
          exact ⟨by (rw [segB, permR, hb2, hb7, hb8, hb9]) <;> rfl, H1.fr⟩
      ·
        have hc8 := of_decide_eq_false hb8
        refine WL.no rfl rfl rfl hb8 rfl ?_
        refine WL.no rfl rfl rfl hb8 rfl ?_
        refine WL.no rfl rfl rfl hb8 rfl ?_
        refine WL.op rfl rfl (op_pickF rfl hb8 rfl ?_)
        refine WL.op rfl rfl (op_move rfl ?_)
        refine WL.no rfl rfl rfl rfl rfl ?_
        refine WL.no rfl rfl rfl rfl rfl ?_
        refine WL.no rfl rfl rfl rfl rfl ?_
        refine WL.op rfl rfl (op_pickF rfl rfl rfl ?_)
        refine WL.op rfl rfl (op_move rfl ?_)
        refine WL.no rfl rfl rfl rfl rfl ?_
        refine WL.no rfl rfl rfl rfl rfl ?_
        refine WL.no rfl rfl rfl rfl rfl ?_
        refine WL.no rfl rfl rfl rfl rfl ?_
        refine WL.op rfl rfl (op_pickF rfl rfl rfl ?_)
        refine WL.op rfl rfl (op_move rfl ?_)
        refine WL.no rfl rfl rfl rfl rfl ?_
        refine WL.no rfl rfl rfl rfl rfl ?_
        refine WL.no rfl rfl rfl rfl rfl ?_
        refine WL.no rfl rfl rfl rfl rfl ?_
        refine WL.no rfl rfl rfl rfl rfl ?_
        refine WL.no rfl rfl rfl rfl rfl ?_
        refine WL.no rfl rfl rfl rfl rfl ?_
        refine WL.no rfl rfl rfl rfl rfl ?_
        refine WL.op rfl rfl (op_pickF rfl rfl rfl ?_)
        refine WL.op rfl rfl (op_assign rfl ?_)
        refine WL.nil ?_
        refine WQ.next ?_
        refine WC.ret ?_
        refine WQ.out (.tmp rfl .nil) ?_
        exact ⟨by (rw [segB, permR, hb2, hb7, hb8]) <;> rfl, H1.fr⟩
    ·
      have hc7 := of_decide_eq_false hb7
      refine WL.yes rfl rfl rfl hb7 rfl (op_fieldAddr rfl Fa.F111_1 ?_)
      refine WL.yes rfl rfl rfl hb7 rfl (op_load rfl (H1.cell (i := 0) rfl rfl) Try.underlying5 rfl ?_)
      refine WL.yes rfl rfl rfl hb7 rfl (op_eqlU8 (b := 5) rfl rfl ?_)
      refine WL.op rfl rfl (op_pickF rfl hb7 rfl ?_)
      refine WL.op rfl rfl (op_assign rfl ?_)
      refine WL.nil ?_
      refine WQ.next ?_
      refine WC.seq ?_
      refine WC.region ?_
      refine WL.op rfl rfl (op_move rfl ?_)
      refine WL.op rfl rfl (op_move rfl ?_)
      refine WL.split (t := 18) rfl (fun (hb12 : (decide (x.p = (5 : UInt8))) = true) => ?_) (fun (hb12 : (decide (x.p = (5 : UInt8))) = false) => ?_)
      ·
        have hc12 := of_decide_eq_true hb12
        refine WL.yes rfl rfl rfl hb12 rfl (op_fieldAddr rfl Fa.F111_0 ?_)
        refine WL.yes rfl rfl rfl hb12 rfl (op_load rfl (H1.cell (i := 0) rfl rfl) Try.underlying22 rfl ?_)
        refine WL.yes rfl rfl rfl hb12 rfl (op_remU32 (b := 256) rfl rfl (by decide) ?_)
        refine WL.yes rfl rfl rfl hb12 rfl (op_eqlU32 (b := 0) rfl rfl ?_)
        refine WL.op rfl rfl (op_pickT rfl hb12 rfl ?_)
        refine WL.op rfl rfl (op_move rfl ?_)
        refine WL.split (t := 24) rfl (fun (hb13 : (decide ((x.a % (256 : UInt32)) = (0 : UInt32))) = true) => ?_) (fun (hb13 : (decide ((x.a % (256 : UInt32)) = (0 : UInt32))) = false) => ?_)
        ·
          have hc13 := of_decide_eq_true hb13
          refine WL.yes rfl rfl rfl hb13 rfl (op_fieldAddr rfl Fa.F111_0 ?_)
          refine WL.yes rfl rfl rfl hb13 rfl (op_load rfl (H1.cell (i := 0) rfl rfl) Try.underlying22 rfl ?_)
          refine WL.yes rfl rfl rfl hb13 rfl (op_geqU32 (b := 256) rfl rfl ?_)
          refine WL.op rfl rfl (op_pickT rfl hb13 rfl ?_)
          refine WL.op rfl rfl (op_move rfl ?_)
          refine WL.split (t := 29) rfl (fun (hb14 : (decide (x.a ≥ (256 : UInt32))) = true) => ?_) (fun (hb14 : (decide (x.a ≥ (256 : UInt32))) = false) => ?_)
          ·
            have hc14 := of_decide_eq_true hb14
            refine WL.yes rfl rfl rfl hb14 rfl (op_fieldAddr rfl Fa.F111_0 ?_)
            refine WL.yes rfl rfl rfl hb14 rfl (op_load rfl (H1.cell (i := 0) rfl rfl) Try.underlying22 rfl ?_)
            refine WL.yes rfl rfl rfl hb14 rfl (op_lssU32 (b := 131072) rfl rfl ?_)
            refine WL.op rfl rfl (op_pickT rfl hb14 rfl ?_)
            refine WL.op rfl rfl (op_move rfl ?_)
            refine WL.split (t := 34) rfl (fun (hb15 : (decide (x.a < (131072 : UInt32))) = true) => ?_) (fun (hb15 : (decide (x.a < (131072 : UInt32))) = false) => ?_)
            ·
              have hc15 := of_decide_eq_true hb15
              refine WL.yes rfl rfl rfl hb15 rfl (op_fieldAddr rfl Fa.F111_2 ?_)
              refine WL.yes rfl rfl rfl hb15 rfl (op_load rfl (H1.cell (i := 0) rfl rfl) Try.underlying9 rfl ?_)
              refine WL.yes rfl rfl rfl hb15 rfl (op_lenStr Try.underlying9 rfl ?_)
              refine WL.yes rfl rfl rfl hb15 rfl (op_geqN (b := 1) rfl rfl ?_)
              refine WL.op rfl rfl (op_pickT rfl hb15 rfl ?_)
              refine WL.op rfl rfl (op_move rfl ?_)
              refine WL.split (t := 40) rfl (fun (hb16 : (decide (x.b.length ≥ 1)) = true) => ?_) (fun (hb16 : (decide (x.b.length ≥ 1)) = false) => ?_)
              ·
                have hc16 := of_decide_eq_true hb16
                refine WL.yes rfl rfl rfl hb16 rfl (op_fieldAddr rfl Fa.F111_2 ?_)
                refine WL.yes rfl rfl rfl hb16 rfl (op_load rfl (H1.cell (i := 0) rfl rfl) Try.underlying9 rfl ?_)
                refine WL.yes rfl rfl rfl hb16 rfl (op_lenStr Try.underlying9 rfl ?_)
                refine WL.yes rfl rfl rfl hb16 rfl (op_fieldAddr rfl Fa.F111_0 ?_)
                refine WL.yes rfl rfl rfl hb16 rfl (op_load rfl (H1.cell (i := 0) rfl rfl) Try.underlying22 rfl ?_)
                refine WL.yes rfl rfl rfl hb16 rfl (op_convU32N (hs := Try.underlying22) (hd := Try.underlying3) rfl ?_)
                refine WL.yes rfl rfl rfl hb16 rfl (op_subI (a := ((131072 : Nat) : Int)) (b := ((x.a.toNat : Nat) : Int)) rfl rfl (by omega) ?_)
                refine WL.yes rfl rfl rfl hb16 rfl (op_leqI rfl rfl ?_)
                refine WL.op rfl rfl (op_pickT rfl hb16 rfl ?_)
                refine WL.op rfl rfl (op_assign rfl ?_)
                refine WL.nil ?_
                refine WQ.next ?_
                refine WC.ret ?_
                refine WQ.out (.tmp rfl .nil) ?_
                exact ⟨by (rw [segB, permR, hb2, hb7, hb12, hb13, hb14, hb15, hb16]) <;> rfl, H1.fr⟩
              ·
                have hc16 := of_decide_eq_false hb16
                refine WL.no rfl rfl rfl hb16 rfl ?_
                refine WL.no rfl rfl rfl hb16 rfl ?_
                refine WL.no rfl rfl rfl hb16 rfl ?_
                refine WL.no rfl rfl rfl hb16 rfl ?_
                refine WL.no rfl rfl rfl hb16 rfl ?_
                refine WL.no rfl rfl rfl hb16 rfl ?_
                refine WL.no rfl rfl rfl hb16 rfl ?_
                refine WL.no rfl rfl rfl hb16 rfl ?_
                refine WL.op rfl rfl (op_pickF rfl hb16 rfl ?_)
                refine WL.op rfl rfl (op_assign rfl ?_)
                refine WL.nil ?_
                refine WQ.next ?_
                refine WC.ret ?_
                refine WQ.out (.tmp rfl .nil) ?_
                exact ⟨by (rw [segB, permR, hb2, hb7, hb12, hb13, hb14, hb15, hb16]) <;> rfl, H1.fr⟩
            ·
              have hc15 := of_decide_eq_false hb15
              refine WL.no rfl rfl rfl hb15 rfl ?_
              refine WL.no rfl rfl rfl hb15 rfl ?_
              refine WL.no rfl rfl rfl hb15 rfl ?_
              refine WL.no rfl rfl rfl hb15 rfl ?_
              refine WL.op rfl rfl (op_pickF rfl hb15 rfl ?_)
              refine WL.op rfl rfl (op_move rfl ?_)
              refine WL.no rfl rfl rfl rfl rfl ?_
              refine WL.no rfl rfl rfl rfl rfl ?_
              refine WL.no rfl rfl rfl rfl rfl ?_
              refine WL.no rfl rfl rfl rfl rfl ?_
              refine WL.no rfl rfl rfl rfl rfl ?_
              refine WL.no rfl rfl rfl rfl rfl ?_
              refine WL.no rfl rfl rfl rfl rfl ?_
              refine WL.no rfl rfl rfl rfl rfl ?_
              refine WL.op rfl rfl (op_pickF rfl rfl rfl ?_)
              refine WL.op rfl rfl (op_assign rfl ?_)
              refine WL.nil ?_
              refine WQ.next ?_
              refine WC.ret ?_
              refine WQ.out (.tmp rfl .nil) ?_
              exact ⟨by (rw [segB, permR, hb2, hb7, hb12, hb13, hb14, hb15]) <;> rfl, H1.fr⟩
          ·
            have hc14 := of_decide_eq_false hb14
            refine WL.no rfl rfl rfl hb14 rfl ?_
            refine WL.no rfl rfl rfl hb14 rfl ?_
            refine WL.no rfl rfl rfl hb14 rfl ?_
            refine WL.op rfl rfl (op_pickF rfl hb14 rfl ?_)
            refine WL.op rfl rfl (op_move rfl ?_)
            refine WL.no rfl rfl rfl rfl rfl ?_
            refine WL.no rfl rfl rfl rfl rfl ?_
            refine WL.no rfl rfl rfl rfl rfl ?_
            refine WL.no rfl rfl rfl rfl rfl ?_
            refine WL.op rfl rfl (op_pickF rfl rfl rfl ?_)
            refine WL.op rfl rfl (op_move rfl ?_)
            refine WL.no rfl rfl rfl rfl rfl ?_
            refine WL.no rfl rfl rfl rfl rfl ?_
            refine WL.no rfl rfl rfl rfl rfl ?_
            refine WL.no rfl rfl rfl rfl rfl ?_
            refine WL.no rfl rfl rfl rfl rfl ?_
            refine WL.no rfl rfl rfl rfl rfl ?_
            refine WL.no rfl rfl rfl rfl rfl ?_
            refine WL.no rfl rfl rfl rfl rfl ?_
            refine WL.op rfl rfl (op_pickF rfl rfl rfl ?_)
            refine WL.op rfl rfl (op_assign rfl ?_)
            refine WL.nil ?_
            refine WQ.next ?_
            refine WC.ret ?_
            refine WQ.out (.tmp rfl .nil) ?_
            exact ⟨by (rw [segB, permR, hb2, hb7, hb12, hb13, hb14]) <;> rfl, H1.fr⟩
        ·
          have hc13 := of_decide_eq_false hb13
          refine WL.no rfl rfl rfl hb13 rfl ?_
          refine WL.no rfl rfl rfl hb13 rfl ?_
          refine WL.no rfl rfl rfl hb13 rfl ?_
          refine WL.op rfl rfl (op_pickF rfl hb13 rfl ?_)
          refine WL.op rfl rfl (op_move rfl ?_)
          refine WL.no rfl rfl rfl rfl rfl ?_
          refine WL.no rfl rfl rfl rfl rfl ?_
          refine WL.no rfl rfl rfl rfl rfl ?_
          refine WL.op rfl rfl (op_pickF rfl rfl rfl ?_)
          refine WL.op rfl rfl (op_move rfl ?_)
          refine WL.no rfl rfl rfl rfl rfl ?_
          refine WL.no rfl rfl rfl rfl rfl ?_
          refine WL.no rfl rfl rfl rfl rfl ?_
          refine WL.no rfl rfl rfl rfl rfl ?_
          refine WL.op rfl rfl (op_pickF rfl rfl rfl ?_)
          refine WL.op rfl rfl (op_move rfl ?_)
          refine WL.no rfl rfl rfl rfl rfl ?_
          refine WL.no rfl rfl rfl rfl rfl ?_
          refine WL.no rfl rfl rfl rfl rfl ?_
          refine WL.no rfl rfl rfl rfl rfl ?_
          refine WL.no rfl rfl rfl rfl rfl ?_
          refine WL.no rfl rfl rfl rfl rfl ?_
          refine WL.no rfl rfl rfl rfl rfl ?_
          refine WL.no rfl rfl rfl rfl rfl ?_
          refine WL.op rfl rfl (op_pickF rfl rfl rfl ?_)
          refine WL.op rfl rfl (op_assign rfl ?_)
          refine WL.nil ?_
          refine WQ.next ?_
          refine WC.ret ?_
          refine WQ.out (.tmp rfl .nil) ?_
          exact ⟨by (rw [segB, permR, hb2, hb7, hb12, hb13]) <;> rfl, H1.fr⟩
      ·
        have hc12 := of_decide_eq_false hb12
        refine WL.no rfl rfl rfl hb12 rfl ?_
        refine WL.no rfl rfl rfl hb12 rfl ?_
        refine WL.no rfl rfl rfl hb12 rfl ?_
        refine WL.no rfl rfl rfl hb12 rfl ?_
        refine WL.op rfl rfl (op_pickF rfl hb12 rfl ?_)
        refine WL.op rfl rfl (op_move rfl ?_)
        refine WL.no rfl rfl rfl rfl rfl ?_
        refine WL.no rfl rfl rfl rfl rfl ?_
        refine WL.no rfl rfl rfl rfl rfl ?_
        refine WL.op rfl rfl (op_pickF rfl rfl rfl ?_)
        refine WL.op rfl rfl (op_move rfl ?_)
        refine WL.no rfl rfl rfl rfl rfl ?_
        refine WL.no rfl rfl rfl rfl rfl ?_
        refine WL.no rfl rfl rfl rfl rfl ?_
        refine WL.op rfl rfl (op_pickF rfl rfl rfl ?_)
        refine WL.op rfl rfl (op_move rfl ?_)
        refine WL.no rfl rfl rfl rfl rfl ?_
        refine WL.no rfl rfl rfl rfl rfl ?_
        refine WL.no rfl rfl rfl rfl rfl ?_
        refine WL.no rfl rfl rfl rfl rfl ?_
        refine WL.op rfl rfl (op_pickF rfl rfl rfl ?_)
        refine WL.op rfl rfl (op_move rfl ?_)
        refine WL.no rfl rfl rfl rfl rfl ?_
        refine WL.no rfl rfl rfl rfl rfl ?_
        refine WL.no rfl rfl rfl rfl rfl ?_
        refine WL.no rfl rfl rfl rfl rfl ?_
        refine WL.no rfl rfl rfl rfl rfl ?_
        refine WL.no rfl rfl rfl rfl rfl ?_
        refine WL.no rfl rfl rfl rfl rfl ?_
        refine WL.no rfl rfl rfl rfl rfl ?_
        refine WL.op rfl rfl (op_pickF rfl rfl rfl ?_)
        refine WL.op rfl rfl (op_assign rfl ?_)
        refine WL.nil ?_
        refine WQ.next ?_
        refine WC.ret ?_
        refine WQ.out (.tmp rfl .nil) ?_
        exact ⟨by (rw [segB, permR, hb2, hb7, hb12]) <;> rfl, H1.fr⟩
set_option maxRecDepth 100000 in
theorem rpages_ok (x : Sg) (w : World) (hb : x.b.length < 2 ^ 40) :
    Calls Try.prog 91 #[(.agg #[(vU32 x.a), (vU8 x.p), (str x.b)])] w (fun e w' => ∃ v, e = .returned v ∧ Own [] w w' [.row v 22 1 (pgN x) (List.map vU32 (pgL x (pgN x)))]) := by
  refine enter (args := [(.agg #[(vU32 x.a), (vU8 x.p), (str x.b)])]) Try.func91 rfl rfl ?_
  have H0 : Own [] w w [] := Own.start w []
  refine WC.seq ?_
  refine WC.region ?_
  refine WL.op rfl rfl (op_box H0 rfl rfl (fun b1 w1 H1 => ?_))
  refine WL.op rfl rfl (op_assign rfl ?_)
  refine WL.nil ?_
  refine WQ.next ?_
  refine WC.seq ?_
  refine WC.region ?_
  refine WL.op rfl rfl (op_assign rfl ?_)
  have H2 := H1.nilRow 22 1
  refine WL.nil ?_
  refine WQ.next ?_
  refine WC.seq ?_
  refine WC.seq ?_
  refine WC.region ?_
  refine WL.op rfl rfl (op_assign rfl ?_)
  refine WL.nil ?_
  refine WQ.next ?_
  refine WC.block ?_
  refine WC.loop (α := Nat × Value) (fun (k, q) => [(1, (ptr b1 0)), (3, q), (4, (vN (256 * k)))]) (fun (k, q) w' => (k ≤ pgN x) ∧ Own [] w w' [.blk b1 [(vU32 x.a), (vU8 x.p), (str x.b)] 111, .row q 22 1 k (List.map vU32 (pgL x k))]) (fun (k, q) => pgN x - k) (0, (.slice none 0 0)) ⟨Nat.zero_le _, H2⟩ ⟨rfl, rfl, rfl, trivial⟩ ?_
  rintro ⟨k, q⟩ w3 ⟨hk1, H3⟩
  show WC _ _ _ _ _ [(1, (ptr b1 0)), (3, q), (4, (vN (256 * k)))] _
  have hpg : pgN x = (x.b.length + 255) / 256 := rfl
  refine WC.seq ?_
  refine WC.seq ?_
  refine WC.region ?_
  refine WL.op rfl rfl (op_move rfl ?_)
  refine WL.op rfl rfl (op_fieldAddr rfl Fa.F111_2 ?_)
  refine WL.op rfl rfl (op_load rfl (H3.cell (i := 0) rfl rfl) Try.underlying9 rfl ?_)
  refine WL.op rfl rfl (op_lenStr Try.underlying9 rfl ?_)
  refine WL.op rfl rfl (op_lssN rfl rfl ?_)
  refine WL.nil ?_
  refine WQ.next ?_
  refine WC.cond rfl (fun (hb4 : (decide ((256 * k) < x.b.length)) = true) => ?_) (fun (hb4 : (decide ((256 * k) < x.b.length)) = false) => ?_)
  ·
    have hc4 := of_decide_eq_true hb4
    refine WC.skip ?_
    refine WQ.next ?_
    refine WC.seq ?_
    refine WC.block ?_
    refine WC.region ?_
    refine WL.op rfl rfl (op_move rfl ?_)
    refine WL.op rfl rfl (op_fieldAddr rfl Fa.F111_0 ?_)
    refine WL.op rfl rfl (op_load rfl (H3.cell (i := 0) rfl rfl) Try.underlying22 rfl ?_)
    refine WL.op rfl rfl (op_move rfl ?_)
    refine WL.op rfl rfl (op_convNU32 (hs := Try.underlying3) (hd := Try.underlying22) rfl ?_)
    refine WL.op rfl rfl (op_addU32 rfl rfl ?_)
    refine WL.op rfl rfl (op_buildSlice (cs := [_]) H3 Try.underlying64 Fa.I22 rfl rfl rfl rfl (by decide) (by decide) (fun b5 w5 H5 => ?_))
    refine WL.op rfl rfl (op_appendM (f := vU32) (l := (pgL x k)) (l' := [(x.a + (UInt32.ofNat (256 * k)))]) (i := 1) H5 Try.underlying64 Fa.I22 rfl rfl rfl rfl (Src.ofArr Try.underlying64 (H5.arrR (i := 2) rfl)) (one_mapM (fun _ => rfl)) (by omega) (by omega) (fun v6 w6 H6 => ?_))
    refine WL.op rfl rfl (op_assign rfl ?_)
    refine WL.nil ?_
    refine WQ.inNormal ?_
    refine WQ.next ?_
    refine WC.region ?_
    refine WL.op rfl rfl (op_move rfl ?_)
    refine WL.op rfl rfl (op_addN (b := 256) rfl rfl (by omega) ?_)
    refine WL.op rfl rfl (op_assign rfl ?_)
    refine WL.nil ?_
    exact WQ.round (k + 1, v6) ⟨(by omega), (H6.take 2)⟩ ⟨rfl, rfl, (congrArg (fun n => some (vN n)) (Nat.mul_succ 256 k).symm), trivial⟩ (by show pgN x - (k + 1) < pgN x - k; omega)
  ·
    have hc4 := of_decide_eq_false hb4
    refine WC.exit ?_
    refine WQ.thenExit ?_
    refine WQ.thenExit ?_
    refine WQ.inHere ?_
    refine WQ.next ?_
    refine WC.seq ?_
    refine WC.region ?_
    refine WL.op rfl rfl (op_move rfl ?_)
    refine WL.op rfl rfl (op_assign rfl ?_)
    refine WL.nil ?_
    refine WQ.next ?_
    refine WC.ret ?_
    refine WQ.out (.tmp rfl .nil) ?_
    obtain rfl : k = pgN x := by omega
    exact ⟨_, rfl, H3.sel [1] rfl rfl⟩
set_option maxRecDepth 100000 in
theorem rmay11_ok (pg : UInt32) (ev pv : Value) (xs : List Xt) (ps : List UInt16) (con : Bool) (w : World) (hE : Arr w ev 2 xs.length (List.flatMap xtc xs)) (hP : Arr w pv 1 ps.length (List.map vU16 ps)) (hn : xs.length < 2 ^ 47) (hm : ps.length < 2 ^ 47) :
    Calls Try.prog 93 #[(.agg #[(vU32 pg), ev, pv, (.bool con)])] w (fun e w' => e = .returned (.bool (mfMay pg xs ps)) ∧ Fr [] w w') := by
  refine enter (args := [(.agg #[(vU32 pg), ev, pv, (.bool con)])]) Try.func93 rfl rfl ?_
  have H0 : Own [] w w [] := Own.start w []
  refine WC.seq ?_
  refine WC.region ?_
  refine WL.op rfl rfl (op_box H0 rfl rfl (fun b1 w1 H1 => ?_))
  refine WL.op rfl rfl (op_assign rfl ?_)
  refine WL.nil ?_
  refine WQ.next ?_
  refine WC.seq ?_
  refine WC.seq ?_
  refine WC.region ?_
  refine WL.op rfl rfl (op_assign rfl ?_)
  refine WL.nil ?_
  refine WQ.next ?_
  refine WC.block ?_
  refine WC.loop (α := Nat) (fun k => [(1, (ptr b1 0)), (3, (vN k))]) (fun k w' => (k ≤ xs.length ∧ (∀ j, j < k → xtBad (xs.getD j Xt.zero) = false ∧ (0 < j → ¬ (xs.getD (j - 1) Xt.zero).id ≥ (xs.getD j Xt.zero).id))) ∧ Own [] w w' [.blk b1 [(vU32 pg), ev, pv, (.bool con)] 56]) (fun k => xs.length - k) 0 ⟨⟨Nat.zero_le _, fun j h => by omega⟩, H1⟩ ⟨rfl, rfl, trivial⟩ ?_
  rintro k w2 ⟨⟨hk1, hok⟩, H2⟩
  show WC _ _ _ _ _ [(1, (ptr b1 0)), (3, (vN k))] _
  refine WC.seq ?_
  refine WC.seq ?_
  refine WC.region ?_
  refine WL.op rfl rfl (op_move rfl ?_)
  refine WL.op rfl rfl (op_fieldAddr rfl Fa.F56_1 ?_)
  refine WL.op rfl rfl (op_load rfl (H2.cell (i := 0) rfl rfl) Try.underlying53 rfl ?_)
  refine WL.op rfl rfl (op_lenA Try.underlying53 rfl (H2.arr hE) ?_)
  refine WL.op rfl rfl (op_lssN rfl rfl ?_)
  refine WL.nil ?_
  refine WQ.next ?_
  refine WC.cond rfl (fun (hb3 : (decide (k < xs.length)) = true) => ?_) (fun (hb3 : (decide (k < xs.length)) = false) => ?_)
  ·
    have hc3 := of_decide_eq_true hb3
    refine WC.skip ?_
    refine WQ.next ?_
    refine WC.seq ?_
    refine WC.block ?_
    refine WC.seq ?_
    refine WC.region ?_
    refine WL.op rfl rfl (op_fieldAddr rfl Fa.F56_1 ?_)
    refine WL.op rfl rfl (op_load rfl (H2.cell (i := 0) rfl rfl) Try.underlying53 rfl ?_)
    refine WL.op rfl rfl (op_move rfl ?_)
    refine WL.op rfl rfl (op_indexAddr Try.underlying53 Fa.I130 rfl (H2.arr hE) rfl (by omega) ?_)
    refine WL.op rfl rfl (op_loadSP (vs := xtc (xs.getD k Xt.zero)) rfl (Arr.atsF (H2.arr hE) (fun _ => rfl) (by decide) Xt.zero (by omega)) Try.underlying130 rfl Fa.I130 rfl ?_)
    refine WL.op rfl rfl (op_alloc H2 Fa.I130 (fun b4 w4 H4 => ?_))
    refine WL.op rfl rfl (op_storeBW (i := 1) H4 rfl rfl rfl rfl rfl Fa.I130 (fun w5 H5 => ?_))
    refine WL.nil ?_
    refine WQ.next ?_
    refine WC.seq ?_
    refine bsplit (fun (hb6 : (decide ((xs.getD k Xt.zero).id ≥ (16 : UInt32))) = true) => ?_) (fun (hb6 : (decide ((xs.getD k Xt.zero).id ≥ (16 : UInt32))) = false) => ?_)
    ·
      have hc6 := of_decide_eq_true hb6
      refine WC.draw 29 Fa.M H5 (HW.op rfl (fun w1 H1 => op_fieldAddr rfl Fa.F130_0 ⟨rfl, Fr.refl _ _⟩) (HW.op rfl (fun w1 H1 => op_load rfl (H1.cell (i := 1) rfl rfl) Try.underlying22 rfl ⟨rfl, Fr.refl _ _⟩) (HW.op rfl (fun w1 H1 => op_geqU32 (b := 16) rfl rfl ⟨rfl, Fr.refl _ _⟩) (HW.op rfl (fun w1 H1 => op_move rfl ⟨rfl, Fr.refl _ _⟩) (HW.no rfl rfl rfl hb6 (HW.no rfl rfl rfl hb6 (HW.no rfl rfl rfl hb6 (HW.op rfl (fun w1 H1 => op_pickT rfl hb6 rfl ⟨rfl, Fr.refl _ _⟩) (HW.op rfl (fun w1 H1 => op_move rfl ⟨rfl, Fr.refl _ _⟩) (HW.no rfl rfl rfl rfl (HW.no rfl rfl rfl rfl (HW.no rfl rfl rfl rfl (HW.op rfl (fun w1 H1 => op_pickT rfl rfl rfl ⟨rfl, Fr.refl _ _⟩) (HW.op rfl (fun w1 H1 => op_move rfl ⟨rfl, Fr.refl _ _⟩) (HW.no rfl rfl rfl rfl (HW.no rfl rfl rfl rfl (HW.no rfl rfl rfl rfl (HW.non rfl rfl rfl (HW.non rfl rfl rfl (HW.non rfl rfl rfl (HW.non rfl rfl rfl (HW.non rfl rfl rfl (HW.non rfl rfl rfl (HW.non rfl rfl rfl (HW.non rfl rfl rfl (HW.non rfl rfl rfl (HW.non rfl rfl rfl (HW.no rfl rfl rfl rfl (HW.op rfl (fun w1 H1 => op_pickT rfl rfl rfl ⟨rfl, Fr.refl _ _⟩)  HW.nil))))))))))))))))))))))))))))) (by kernel_rfl) ?_
      intro β7 w7 H7
      refine WL.nil ?_
      refine WQ.next ?_
      refine WC.yes rfl rfl ?_
      refine WC.seq ?_
      refine WC.region ?_
      refine WL.op rfl rfl (op_assign rfl ?_)
      refine WL.nil ?_
      refine WQ.next ?_
      refine WC.ret ?_
      refine WQ.inRet ?_
      refine WQ.thenRet ?_
      refine WQ.thenRet ?_
      refine WQ.inRet ?_
      refine WQ.thenRet ?_
      refine WQ.out (.tmp rfl .nil) ?_
      exact ⟨by rw [mfMay_x (k := k) (by omega) (by (rw [xtBad, hb6]) <;> rfl)]; rfl, H7.fr⟩
    ·
      have hc6 := of_decide_eq_false hb6
      refine bsplit (fun (hb8 : (decide ((xs.getD k Xt.zero).bl < (1 : UInt32))) = true) => ?_) (fun (hb8 : (decide ((xs.getD k Xt.zero).bl < (1 : UInt32))) = false) => ?_)
      ·
        have hc8 := of_decide_eq_true hb8
        refine WC.draw 29 Fa.M H5 (HW.op rfl (fun w1 H1 => op_fieldAddr rfl Fa.F130_0 ⟨rfl, Fr.refl _ _⟩) (HW.op rfl (fun w1 H1 => op_load rfl (H1.cell (i := 1) rfl rfl) Try.underlying22 rfl ⟨rfl, Fr.refl _ _⟩) (HW.op rfl (fun w1 H1 => op_geqU32 (b := 16) rfl rfl ⟨rfl, Fr.refl _ _⟩) (HW.op rfl (fun w1 H1 => op_move rfl ⟨rfl, Fr.refl _ _⟩) (HW.yes rfl rfl rfl hb6 (fun w1 H1 => op_fieldAddr rfl Fa.F130_1 ⟨rfl, Fr.refl _ _⟩) (HW.yes rfl rfl rfl hb6 (fun w1 H1 => op_load rfl (H1.cell (i := 1) rfl rfl) Try.underlying22 rfl ⟨rfl, Fr.refl _ _⟩) (HW.yes rfl rfl rfl hb6 (fun w1 H1 => op_lssU32 (b := 1) rfl rfl ⟨rfl, Fr.refl _ _⟩) (HW.op rfl (fun w1 H1 => op_pickF rfl hb6 rfl ⟨rfl, Fr.refl _ _⟩) (HW.op rfl (fun w1 H1 => op_move rfl ⟨rfl, Fr.refl _ _⟩) (HW.no rfl rfl rfl hb8 (HW.no rfl rfl rfl hb8 (HW.no rfl rfl rfl hb8 (HW.op rfl (fun w1 H1 => op_pickT rfl hb8 rfl ⟨rfl, Fr.refl _ _⟩) (HW.op rfl (fun w1 H1 => op_move rfl ⟨rfl, Fr.refl _ _⟩) (HW.no rfl rfl rfl rfl (HW.no rfl rfl rfl rfl (HW.no rfl rfl rfl rfl (HW.non rfl rfl rfl (HW.non rfl rfl rfl (HW.non rfl rfl rfl (HW.non rfl rfl rfl (HW.non rfl rfl rfl (HW.non rfl rfl rfl (HW.non rfl rfl rfl (HW.non rfl rfl rfl (HW.non rfl rfl rfl (HW.non rfl rfl rfl (HW.no rfl rfl rfl rfl (HW.op rfl (fun w1 H1 => op_pickT rfl rfl rfl ⟨rfl, Fr.refl _ _⟩)  HW.nil))))))))))))))))))))))))))))) (by kernel_rfl) ?_
        intro β9 w9 H9
        refine WL.nil ?_
        refine WQ.next ?_
        refine WC.yes rfl rfl ?_
        refine WC.seq ?_
        refine WC.region ?_
        refine WL.op rfl rfl (op_assign rfl ?_)
        refine WL.nil ?_
        refine WQ.next ?_
        refine WC.ret ?_
        refine WQ.inRet ?_
        refine WQ.thenRet ?_
        refine WQ.thenRet ?_
        refine WQ.inRet ?_
        refine WQ.thenRet ?_
        refine WQ.out (.tmp rfl .nil) ?_
        exact ⟨by rw [mfMay_x (k := k) (by omega) (by (rw [xtBad, hb6, hb8]) <;> rfl)]; rfl, H9.fr⟩
      ·
        have hc8 := of_decide_eq_false hb8
        refine bsplit (fun (hb10 : (decide ((xs.getD k Xt.zero).bl > (1024 : UInt32))) = true) => ?_) (fun (hb10 : (decide ((xs.getD k Xt.zero).bl > (1024 : UInt32))) = false) => ?_)
        ·
          have hc10 := of_decide_eq_true hb10
          refine WC.draw 29 Fa.M H5 (HW.op rfl (fun w1 H1 => op_fieldAddr rfl Fa.F130_0 ⟨rfl, Fr.refl _ _⟩) (HW.op rfl (fun w1 H1 => op_load rfl (H1.cell (i := 1) rfl rfl) Try.underlying22 rfl ⟨rfl, Fr.refl _ _⟩) (HW.op rfl (fun w1 H1 => op_geqU32 (b := 16) rfl rfl ⟨rfl, Fr.refl _ _⟩) (HW.op rfl (fun w1 H1 => op_move rfl ⟨rfl, Fr.refl _ _⟩) (HW.yes rfl rfl rfl hb6 (fun w1 H1 => op_fieldAddr rfl Fa.F130_1 ⟨rfl, Fr.refl _ _⟩) (HW.yes rfl rfl rfl hb6 (fun w1 H1 => op_load rfl (H1.cell (i := 1) rfl rfl) Try.underlying22 rfl ⟨rfl, Fr.refl _ _⟩) (HW.yes rfl rfl rfl hb6 (fun w1 H1 => op_lssU32 (b := 1) rfl rfl ⟨rfl, Fr.refl _ _⟩) (HW.op rfl (fun w1 H1 => op_pickF rfl hb6 rfl ⟨rfl, Fr.refl _ _⟩) (HW.op rfl (fun w1 H1 => op_move rfl ⟨rfl, Fr.refl _ _⟩) (HW.yes rfl rfl rfl hb8 (fun w1 H1 => op_fieldAddr rfl Fa.F130_1 ⟨rfl, Fr.refl _ _⟩) (HW.yes rfl rfl rfl hb8 (fun w1 H1 => op_load rfl (H1.cell (i := 1) rfl rfl) Try.underlying22 rfl ⟨rfl, Fr.refl _ _⟩) (HW.yes rfl rfl rfl hb8 (fun w1 H1 => op_gtrU32 (b := 1024) rfl rfl ⟨rfl, Fr.refl _ _⟩) (HW.op rfl (fun w1 H1 => op_pickF rfl hb8 rfl ⟨rfl, Fr.refl _ _⟩) (HW.op rfl (fun w1 H1 => op_move rfl ⟨rfl, Fr.refl _ _⟩) (HW.no rfl rfl rfl hb10 (HW.no rfl rfl rfl hb10 (HW.no rfl rfl rfl hb10 (HW.non rfl rfl rfl (HW.non rfl rfl rfl (HW.non rfl rfl rfl (HW.non rfl rfl rfl (HW.non rfl rfl rfl (HW.non rfl rfl rfl (HW.non rfl rfl rfl (HW.non rfl rfl rfl (HW.non rfl rfl rfl (HW.non rfl rfl rfl (HW.no rfl rfl rfl hb10 (HW.op rfl (fun w1 H1 => op_pickT rfl hb10 rfl ⟨rfl, Fr.refl _ _⟩)  HW.nil))))))))))))))))))))))))))))) (by kernel_rfl) ?_
          intro β11 w11 H11
          refine WL.nil ?_
          refine WQ.next ?_
          refine WC.yes rfl rfl ?_
          refine WC.seq ?_
          refine WC.region ?_
          refine WL.op rfl rfl (op_assign rfl ?_)
          refine WL.nil ?_
          refine WQ.next ?_
          refine WC.ret ?_
          refine WQ.inRet ?_
          refine WQ.thenRet ?_
          refine WQ.thenRet ?_
          refine WQ.inRet ?_
          refine WQ.thenRet ?_
          refine WQ.out (.tmp rfl .nil) ?_
          exact ⟨by rw [mfMay_x (k := k) (by omega) (by (rw [xtBad, hb6, hb8, hb10]) <;> rfl)]; rfl, H11.fr⟩
        ·
          have hc10 := of_decide_eq_false hb10
          refine bsplit (fun (hb12 : (decide (k > 0)) = true) => ?_) (fun (hb12 : (decide (k > 0)) = false) => ?_)
          ·
            have hc12 := of_decide_eq_true hb12
            refine WC.draw 29 Fa.M H5 (HW.op rfl (fun w1 H1 => op_fieldAddr rfl Fa.F130_0 ⟨rfl, Fr.refl _ _⟩) (HW.op rfl (fun w1 H1 => op_load rfl (H1.cell (i := 1) rfl rfl) Try.underlying22 rfl ⟨rfl, Fr.refl _ _⟩) (HW.op rfl (fun w1 H1 => op_geqU32 (b := 16) rfl rfl ⟨rfl, Fr.refl _ _⟩) (HW.op rfl (fun w1 H1 => op_move rfl ⟨rfl, Fr.refl _ _⟩) (HW.yes rfl rfl rfl hb6 (fun w1 H1 => op_fieldAddr rfl Fa.F130_1 ⟨rfl, Fr.refl _ _⟩) (HW.yes rfl rfl rfl hb6 (fun w1 H1 => op_load rfl (H1.cell (i := 1) rfl rfl) Try.underlying22 rfl ⟨rfl, Fr.refl _ _⟩) (HW.yes rfl rfl rfl hb6 (fun w1 H1 => op_lssU32 (b := 1) rfl rfl ⟨rfl, Fr.refl _ _⟩) (HW.op rfl (fun w1 H1 => op_pickF rfl hb6 rfl ⟨rfl, Fr.refl _ _⟩) (HW.op rfl (fun w1 H1 => op_move rfl ⟨rfl, Fr.refl _ _⟩) (HW.yes rfl rfl rfl hb8 (fun w1 H1 => op_fieldAddr rfl Fa.F130_1 ⟨rfl, Fr.refl _ _⟩) (HW.yes rfl rfl rfl hb8 (fun w1 H1 => op_load rfl (H1.cell (i := 1) rfl rfl) Try.underlying22 rfl ⟨rfl, Fr.refl _ _⟩) (HW.yes rfl rfl rfl hb8 (fun w1 H1 => op_gtrU32 (b := 1024) rfl rfl ⟨rfl, Fr.refl _ _⟩) (HW.op rfl (fun w1 H1 => op_pickF rfl hb8 rfl ⟨rfl, Fr.refl _ _⟩) (HW.op rfl (fun w1 H1 => op_move rfl ⟨rfl, Fr.refl _ _⟩) (HW.yes rfl rfl rfl hb10 (fun w1 H1 => op_move rfl ⟨rfl, Fr.refl _ _⟩) (HW.yes rfl rfl rfl hb10 (fun w1 H1 => op_gtrN (b := 0) rfl rfl ⟨rfl, Fr.refl _ _⟩) (HW.yes rfl rfl rfl hb10 (fun w1 H1 => op_move rfl ⟨rfl, Fr.refl _ _⟩) (HW.yes rfl rfl rfl hb12 (fun w1 H1 => op_fieldAddr rfl Fa.F56_1 ⟨rfl, Fr.refl _ _⟩) (HW.yes rfl rfl rfl hb12 (fun w1 H1 => op_load rfl (H1.cell (i := 0) rfl rfl) Try.underlying53 rfl ⟨rfl, Fr.refl _ _⟩) (HW.yes rfl rfl rfl hb12 (fun w1 H1 => op_move rfl ⟨rfl, Fr.refl _ _⟩) (HW.yes rfl rfl rfl hb12 (fun w1 H1 => op_subN (b := 1) rfl rfl (by omega) (by omega) ⟨rfl, Fr.refl _ _⟩) (HW.yes rfl rfl rfl hb12 (fun w1 H1 => op_indexAddr Try.underlying53 Fa.I130 rfl (H1.arr hE) rfl (by omega) ⟨rfl, Fr.refl _ _⟩) (HW.yes rfl rfl rfl hb12 (fun w1 H1 => op_fieldAddrS rfl Fa.F130_0 ⟨rfl, Fr.refl _ _⟩) (HW.yes rfl rfl rfl hb12 (fun w1 H1 => op_load rfl (Arr.atF (k := 0) (H1.arr hE) (fun _ => rfl) (by decide) Xt.zero (by omega) rfl) Try.underlying22 rfl ⟨rfl, Fr.refl _ _⟩) (HW.yes rfl rfl rfl hb12 (fun w1 H1 => op_fieldAddr rfl Fa.F130_0 ⟨rfl, Fr.refl _ _⟩) (HW.yes rfl rfl rfl hb12 (fun w1 H1 => op_load rfl (H1.cell (i := 1) rfl rfl) Try.underlying22 rfl ⟨rfl, Fr.refl _ _⟩) (HW.yes rfl rfl rfl hb12 (fun w1 H1 => op_geqU32 rfl rfl ⟨rfl, Fr.refl _ _⟩) (HW.yes rfl rfl rfl hb10 (fun w1 H1 => op_pickT rfl hb12 rfl ⟨rfl, Fr.refl _ _⟩) (HW.op rfl (fun w1 H1 => op_pickF rfl hb10 rfl ⟨rfl, Fr.refl _ _⟩)  HW.nil))))))))))))))))))))))))))))) (by kernel_rfl) ?_
            intro β13 w13 H13
            refine WL.nil ?_
            refine WQ.next ?_
            refine WC.cond rfl (fun (hb14 : (decide ((xs.getD (k - 1) Xt.zero).id ≥ (xs.getD k Xt.zero).id)) = true) => ?_) (fun (hb14 : (decide ((xs.getD (k - 1) Xt.zero).id ≥ (xs.getD k Xt.zero).id)) = false) => ?_)
            ·
              have hc14 := of_decide_eq_true hb14
              refine WC.seq ?_
              refine WC.region ?_
              refine WL.op rfl rfl (op_assign rfl ?_)
              refine WL.nil ?_
              refine WQ.next ?_
              refine WC.ret ?_
              refine WQ.inRet ?_
              refine WQ.thenRet ?_
              refine WQ.thenRet ?_
              refine WQ.inRet ?_
              refine WQ.thenRet ?_
              refine WQ.out (.tmp rfl .nil) ?_
              exact ⟨by rw [mfMay_r (k := k) (by omega) (by omega) hc14]; rfl, H13.fr⟩
            ·
              have hc14 := of_decide_eq_false hb14
              refine WC.skip ?_
              refine WQ.inNormal ?_
              refine WQ.next ?_
              refine WC.region ?_
              refine WL.op rfl rfl (op_move rfl ?_)
              refine WL.op rfl rfl (op_addN (b := 1) rfl rfl (by omega) ?_)
              refine WL.op rfl rfl (op_assign rfl ?_)
              refine WL.nil ?_
              exact WQ.round (k + 1) ⟨⟨by omega, allPrev hok ⟨by (rw [xtBad, hb6, hb8, hb10]) <;> rfl, fun h0 => by first | exact hc14 | (exact absurd h0 hc14)⟩⟩, (H13.take 1)⟩ ⟨rfl, rfl, trivial⟩ (by omega)
          ·
            have hc12 := of_decide_eq_false hb12
            refine WC.draw 29 Fa.M H5 (HW.op rfl (fun w1 H1 => op_fieldAddr rfl Fa.F130_0 ⟨rfl, Fr.refl _ _⟩) (HW.op rfl (fun w1 H1 => op_load rfl (H1.cell (i := 1) rfl rfl) Try.underlying22 rfl ⟨rfl, Fr.refl _ _⟩) (HW.op rfl (fun w1 H1 => op_geqU32 (b := 16) rfl rfl ⟨rfl, Fr.refl _ _⟩) (HW.op rfl (fun w1 H1 => op_move rfl ⟨rfl, Fr.refl _ _⟩) (HW.yes rfl rfl rfl hb6 (fun w1 H1 => op_fieldAddr rfl Fa.F130_1 ⟨rfl, Fr.refl _ _⟩) (HW.yes rfl rfl rfl hb6 (fun w1 H1 => op_load rfl (H1.cell (i := 1) rfl rfl) Try.underlying22 rfl ⟨rfl, Fr.refl _ _⟩) (HW.yes rfl rfl rfl hb6 (fun w1 H1 => op_lssU32 (b := 1) rfl rfl ⟨rfl, Fr.refl _ _⟩) (HW.op rfl (fun w1 H1 => op_pickF rfl hb6 rfl ⟨rfl, Fr.refl _ _⟩) (HW.op rfl (fun w1 H1 => op_move rfl ⟨rfl, Fr.refl _ _⟩) (HW.yes rfl rfl rfl hb8 (fun w1 H1 => op_fieldAddr rfl Fa.F130_1 ⟨rfl, Fr.refl _ _⟩) (HW.yes rfl rfl rfl hb8 (fun w1 H1 => op_load rfl (H1.cell (i := 1) rfl rfl) Try.underlying22 rfl ⟨rfl, Fr.refl _ _⟩) (HW.yes rfl rfl rfl hb8 (fun w1 H1 => op_gtrU32 (b := 1024) rfl rfl ⟨rfl, Fr.refl _ _⟩) (HW.op rfl (fun w1 H1 => op_pickF rfl hb8 rfl ⟨rfl, Fr.refl _ _⟩) (HW.op rfl (fun w1 H1 => op_move rfl ⟨rfl, Fr.refl _ _⟩) (HW.yes rfl rfl rfl hb10 (fun w1 H1 => op_move rfl ⟨rfl, Fr.refl _ _⟩) (HW.yes rfl rfl rfl hb10 (fun w1 H1 => op_gtrN (b := 0) rfl rfl ⟨rfl, Fr.refl _ _⟩) (HW.yes rfl rfl rfl hb10 (fun w1 H1 => op_move rfl ⟨rfl, Fr.refl _ _⟩) (HW.no rfl rfl rfl hb12 (HW.no rfl rfl rfl hb12 (HW.no rfl rfl rfl hb12 (HW.no rfl rfl rfl hb12 (HW.no rfl rfl rfl hb12 (HW.no rfl rfl rfl hb12 (HW.no rfl rfl rfl hb12 (HW.no rfl rfl rfl hb12 (HW.no rfl rfl rfl hb12 (HW.no rfl rfl rfl hb12 (HW.yes rfl rfl rfl hb10 (fun w1 H1 => op_pickF rfl hb12 rfl ⟨rfl, Fr.refl _ _⟩) (HW.op rfl (fun w1 H1 => op_pickF rfl hb10 rfl ⟨rfl, Fr.refl _ _⟩)  HW.nil))))))))))))))))))))))))))))) (by kernel_rfl) ?_
            intro β15 w15 H15
            refine WL.nil ?_
            refine WQ.next ?_
            refine WC.no rfl rfl ?_
            refine WC.skip ?_
            refine WQ.inNormal ?_
            refine WQ.next ?_
            refine WC.region ?_
            refine WL.op rfl rfl (op_move rfl ?_)
            refine WL.op rfl rfl (op_addN (b := 1) rfl rfl (by omega) ?_)
            refine WL.op rfl rfl (op_assign rfl ?_)
            refine WL.nil ?_
            exact WQ.round (k + 1) ⟨⟨by omega, allPrev hok ⟨by (rw [xtBad, hb6, hb8, hb10]) <;> rfl, fun h0 => by first | exact hc12 | (exact absurd h0 hc12)⟩⟩, (H15.take 1)⟩ ⟨rfl, rfl, trivial⟩ (by omega)
  ·
    have hc3 := of_decide_eq_false hb3
    refine WC.exit ?_
    refine WQ.thenExit ?_
    refine WQ.thenExit ?_
    refine WQ.inHere ?_
    refine WQ.next ?_
    refine WC.seq ?_
    refine WC.seq ?_
    refine WC.region ?_
    refine WL.op rfl rfl (op_assign rfl ?_)
    refine WL.nil ?_
    refine WQ.next ?_
    refine WC.block ?_
    refine WC.loop (α := Nat) (fun i => [(1, (ptr b1 0)), (5, (vN i))]) (fun i w' => (i ≤ ps.length ∧ (∀ j, j < i → ps.getD j 0 ≠ 0 ∧ (0 < j → ¬ ps.getD (j - 1) 0 ≥ ps.getD j 0))) ∧ Own [] w w' [.blk b1 [(vU32 pg), ev, pv, (.bool con)] 56]) (fun i => ps.length - i) 0 ⟨⟨Nat.zero_le _, fun j h => by omega⟩, H2⟩ ⟨rfl, rfl, trivial⟩ ?_
    rintro i w16 ⟨⟨hi1, hoi⟩, H16⟩
    show WC _ _ _ _ _ [(1, (ptr b1 0)), (5, (vN i))] _
    refine WC.seq ?_
    refine WC.seq ?_
    refine WC.region ?_
    refine WL.op rfl rfl (op_move rfl ?_)
    refine WL.op rfl rfl (op_fieldAddr rfl Fa.F56_2 ?_)
    refine WL.op rfl rfl (op_load rfl (H16.cell (i := 0) rfl rfl) Try.underlying54 rfl ?_)
    refine WL.op rfl rfl (op_lenA Try.underlying54 rfl (H16.arr hP) ?_)
    refine WL.op rfl rfl (op_lssN rfl rfl ?_)
    refine WL.nil ?_
    refine WQ.next ?_
    refine WC.cond rfl (fun (hb17 : (decide (i < ps.length)) = true) => ?_) (fun (hb17 : (decide (i < ps.length)) = false) => ?_)
    ·
      have hc17 := of_decide_eq_true hb17
      refine WC.skip ?_
      refine WQ.next ?_
      refine WC.seq ?_
      refine WC.block ?_
      refine WC.seq ?_
      refine bsplit (fun (hb18 : (decide ((ps.getD i 0) = (0 : UInt16))) = true) => ?_) (fun (hb18 : (decide ((ps.getD i 0) = (0 : UInt16))) = false) => ?_)
      ·
        have hc18 := of_decide_eq_true hb18
        refine WC.draw 24 Fa.M H16 (HW.op rfl (fun w1 H1 => op_fieldAddr rfl Fa.F56_2 ⟨rfl, Fr.refl _ _⟩) (HW.op rfl (fun w1 H1 => op_load rfl (H1.cell (i := 0) rfl rfl) Try.underlying54 rfl ⟨rfl, Fr.refl _ _⟩) (HW.op rfl (fun w1 H1 => op_move rfl ⟨rfl, Fr.refl _ _⟩) (HW.op rfl (fun w1 H1 => op_indexAddr1 Try.underlying54 Fa.I92 rfl (H1.arr hP) rfl (by omega) ⟨rfl, Fr.refl _ _⟩) (HW.op rfl (fun w1 H1 => op_load rfl ((H1.arr hP).at (get_map vU16 0 (Arr.ltM (H1.arr hP) (by omega)))) Try.underlying92 rfl ⟨rfl, Fr.refl _ _⟩) (HW.op rfl (fun w1 H1 => op_eqlU16 (b := 0) rfl rfl ⟨rfl, Fr.refl _ _⟩) (HW.op rfl (fun w1 H1 => op_move rfl ⟨rfl, Fr.refl _ _⟩) (HW.no rfl rfl rfl hb18 (HW.no rfl rfl rfl hb18 (HW.no rfl rfl rfl hb18 (HW.non rfl rfl rfl (HW.non rfl rfl rfl (HW.non rfl rfl rfl (HW.non rfl rfl rfl (HW.non rfl rfl rfl (HW.non rfl rfl rfl (HW.non rfl rfl rfl (HW.non rfl rfl rfl (HW.non rfl rfl rfl (HW.non rfl rfl rfl (HW.non rfl rfl rfl (HW.non rfl rfl rfl (HW.no rfl rfl rfl hb18 (HW.op rfl (fun w1 H1 => op_pickT rfl hb18 rfl ⟨rfl, Fr.refl _ _⟩)  HW.nil)))))))))))))))))))))))) (by kernel_rfl) ?_
        intro β19 w19 H19
        refine WL.nil ?_
        refine WQ.next ?_
        refine WC.yes rfl rfl ?_
        refine WC.seq ?_
        refine WC.region ?_
        refine WL.op rfl rfl (op_assign rfl ?_)
        refine WL.nil ?_
        refine WQ.next ?_
        refine WC.ret ?_
        refine WQ.inRet ?_
        refine WQ.thenRet ?_
        refine WQ.thenRet ?_
        refine WQ.inRet ?_
        refine WQ.thenRet ?_
        refine WQ.out (.tmp rfl .nil) ?_
        exact ⟨by rw [mfMay_p (k := i) (by omega) hc18]; rfl, H19.fr⟩
      ·
        have hc18 := of_decide_eq_false hb18
        refine bsplit (fun (hb20 : (decide (i > 0)) = true) => ?_) (fun (hb20 : (decide (i > 0)) = false) => ?_)
        ·
          have hc20 := of_decide_eq_true hb20
          refine WC.draw 24 Fa.M H16 (HW.op rfl (fun w1 H1 => op_fieldAddr rfl Fa.F56_2 ⟨rfl, Fr.refl _ _⟩) (HW.op rfl (fun w1 H1 => op_load rfl (H1.cell (i := 0) rfl rfl) Try.underlying54 rfl ⟨rfl, Fr.refl _ _⟩) (HW.op rfl (fun w1 H1 => op_move rfl ⟨rfl, Fr.refl _ _⟩) (HW.op rfl (fun w1 H1 => op_indexAddr1 Try.underlying54 Fa.I92 rfl (H1.arr hP) rfl (by omega) ⟨rfl, Fr.refl _ _⟩) (HW.op rfl (fun w1 H1 => op_load rfl ((H1.arr hP).at (get_map vU16 0 (Arr.ltM (H1.arr hP) (by omega)))) Try.underlying92 rfl ⟨rfl, Fr.refl _ _⟩) (HW.op rfl (fun w1 H1 => op_eqlU16 (b := 0) rfl rfl ⟨rfl, Fr.refl _ _⟩) (HW.op rfl (fun w1 H1 => op_move rfl ⟨rfl, Fr.refl _ _⟩) (HW.yes rfl rfl rfl hb18 (fun w1 H1 => op_move rfl ⟨rfl, Fr.refl _ _⟩) (HW.yes rfl rfl rfl hb18 (fun w1 H1 => op_gtrN (b := 0) rfl rfl ⟨rfl, Fr.refl _ _⟩) (HW.yes rfl rfl rfl hb18 (fun w1 H1 => op_move rfl ⟨rfl, Fr.refl _ _⟩) (HW.yes rfl rfl rfl hb20 (fun w1 H1 => op_fieldAddr rfl Fa.F56_2 ⟨rfl, Fr.refl _ _⟩) (HW.yes rfl rfl rfl hb20 (fun w1 H1 => op_load rfl (H1.cell (i := 0) rfl rfl) Try.underlying54 rfl ⟨rfl, Fr.refl _ _⟩) (HW.yes rfl rfl rfl hb20 (fun w1 H1 => op_move rfl ⟨rfl, Fr.refl _ _⟩) (HW.yes rfl rfl rfl hb20 (fun w1 H1 => op_subN (b := 1) rfl rfl (by omega) (by omega) ⟨rfl, Fr.refl _ _⟩) (HW.yes rfl rfl rfl hb20 (fun w1 H1 => op_indexAddr1 Try.underlying54 Fa.I92 rfl (H1.arr hP) rfl (by omega) ⟨rfl, Fr.refl _ _⟩) (HW.yes rfl rfl rfl hb20 (fun w1 H1 => op_load rfl ((H1.arr hP).at (get_map vU16 0 (Arr.ltM (H1.arr hP) (by omega)))) Try.underlying92 rfl ⟨rfl, Fr.refl _ _⟩) (HW.yes rfl rfl rfl hb20 (fun w1 H1 => op_fieldAddr rfl Fa.F56_2 ⟨rfl, Fr.refl _ _⟩) (HW.yes rfl rfl rfl hb20 (fun w1 H1 => op_load rfl (H1.cell (i := 0) rfl rfl) Try.underlying54 rfl ⟨rfl, Fr.refl _ _⟩) (HW.yes rfl rfl rfl hb20 (fun w1 H1 => op_move rfl ⟨rfl, Fr.refl _ _⟩) (HW.yes rfl rfl rfl hb20 (fun w1 H1 => op_indexAddr1 Try.underlying54 Fa.I92 rfl (H1.arr hP) rfl (by omega) ⟨rfl, Fr.refl _ _⟩) (HW.yes rfl rfl rfl hb20 (fun w1 H1 => op_load rfl ((H1.arr hP).at (get_map vU16 0 (Arr.ltM (H1.arr hP) (by omega)))) Try.underlying92 rfl ⟨rfl, Fr.refl _ _⟩) (HW.yes rfl rfl rfl hb20 (fun w1 H1 => op_geqU16 rfl rfl ⟨rfl, Fr.refl _ _⟩) (HW.yes rfl rfl rfl hb18 (fun w1 H1 => op_pickT rfl hb20 rfl ⟨rfl, Fr.refl _ _⟩) (HW.op rfl (fun w1 H1 => op_pickF rfl hb18 rfl ⟨rfl, Fr.refl _ _⟩)  HW.nil)))))))))))))))))))))))) (by kernel_rfl) ?_
          intro β21 w21 H21
          refine WL.nil ?_
          refine WQ.next ?_
          refine WC.cond rfl (fun (hb22 : (decide ((ps.getD (i - 1) 0) ≥ (ps.getD i 0))) = true) => ?_) (fun (hb22 : (decide ((ps.getD (i - 1) 0) ≥ (ps.getD i 0))) = false) => ?_)
          ·
            have hc22 := of_decide_eq_true hb22
            refine WC.seq ?_
            refine WC.region ?_
            refine WL.op rfl rfl (op_assign rfl ?_)
            refine WL.nil ?_
            refine WQ.next ?_
            refine WC.ret ?_
            refine WQ.inRet ?_
            refine WQ.thenRet ?_
            refine WQ.thenRet ?_
            refine WQ.inRet ?_
            refine WQ.thenRet ?_
            refine WQ.out (.tmp rfl .nil) ?_
            exact ⟨by rw [mfMay_q (k := i) (by omega) (by omega) hc22]; rfl, H21.fr⟩
          ·
            have hc22 := of_decide_eq_false hb22
            refine WC.skip ?_
            refine WQ.inNormal ?_
            refine WQ.next ?_
            refine WC.region ?_
            refine WL.op rfl rfl (op_move rfl ?_)
            refine WL.op rfl rfl (op_addN (b := 1) rfl rfl (by omega) ?_)
            refine WL.op rfl rfl (op_assign rfl ?_)
            refine WL.nil ?_
            exact WQ.round (i + 1) ⟨⟨by omega, allPrev hoi ⟨of_decide_eq_false hb18, fun h0 => by first | exact hc22 | (exact absurd h0 hc22)⟩⟩, H21⟩ ⟨rfl, rfl, trivial⟩ (by omega)
        ·
          have hc20 := of_decide_eq_false hb20
          refine WC.draw 24 Fa.M H16 (HW.op rfl (fun w1 H1 => op_fieldAddr rfl Fa.F56_2 ⟨rfl, Fr.refl _ _⟩) (HW.op rfl (fun w1 H1 => op_load rfl (H1.cell (i := 0) rfl rfl) Try.underlying54 rfl ⟨rfl, Fr.refl _ _⟩) (HW.op rfl (fun w1 H1 => op_move rfl ⟨rfl, Fr.refl _ _⟩) (HW.op rfl (fun w1 H1 => op_indexAddr1 Try.underlying54 Fa.I92 rfl (H1.arr hP) rfl (by omega) ⟨rfl, Fr.refl _ _⟩) (HW.op rfl (fun w1 H1 => op_load rfl ((H1.arr hP).at (get_map vU16 0 (Arr.ltM (H1.arr hP) (by omega)))) Try.underlying92 rfl ⟨rfl, Fr.refl _ _⟩) (HW.op rfl (fun w1 H1 => op_eqlU16 (b := 0) rfl rfl ⟨rfl, Fr.refl _ _⟩) (HW.op rfl (fun w1 H1 => op_move rfl ⟨rfl, Fr.refl _ _⟩) (HW.yes rfl rfl rfl hb18 (fun w1 H1 => op_move rfl ⟨rfl, Fr.refl _ _⟩) (HW.yes rfl rfl rfl hb18 (fun w1 H1 => op_gtrN (b := 0) rfl rfl ⟨rfl, Fr.refl _ _⟩) (HW.yes rfl rfl rfl hb18 (fun w1 H1 => op_move rfl ⟨rfl, Fr.refl _ _⟩) (HW.no rfl rfl rfl hb20 (HW.no rfl rfl rfl hb20 (HW.no rfl rfl rfl hb20 (HW.no rfl rfl rfl hb20 (HW.no rfl rfl rfl hb20 (HW.no rfl rfl rfl hb20 (HW.no rfl rfl rfl hb20 (HW.no rfl rfl rfl hb20 (HW.no rfl rfl rfl hb20 (HW.no rfl rfl rfl hb20 (HW.no rfl rfl rfl hb20 (HW.no rfl rfl rfl hb20 (HW.yes rfl rfl rfl hb18 (fun w1 H1 => op_pickF rfl hb20 rfl ⟨rfl, Fr.refl _ _⟩) (HW.op rfl (fun w1 H1 => op_pickF rfl hb18 rfl ⟨rfl, Fr.refl _ _⟩)  HW.nil)))))))))))))))))))))))) (by kernel_rfl) ?_
          intro β23 w23 H23
          refine WL.nil ?_
          refine WQ.next ?_
          refine WC.no rfl rfl ?_
          refine WC.skip ?_
          refine WQ.inNormal ?_
          refine WQ.next ?_
          refine WC.region ?_
          refine WL.op rfl rfl (op_move rfl ?_)
          refine WL.op rfl rfl (op_addN (b := 1) rfl rfl (by omega) ?_)
          refine WL.op rfl rfl (op_assign rfl ?_)
          refine WL.nil ?_
          exact WQ.round (i + 1) ⟨⟨by omega, allPrev hoi ⟨of_decide_eq_false hb18, fun h0 => by first | exact hc20 | (exact absurd h0 hc20)⟩⟩, H23⟩ ⟨rfl, rfl, trivial⟩ (by omega)
    ·
      have hc17 := of_decide_eq_false hb17
      refine WC.exit ?_
      refine WQ.thenExit ?_
      refine WQ.thenExit ?_
      refine WQ.inHere ?_
      refine WQ.next ?_
      refine WC.seq ?_
      refine WC.region ?_
      refine WL.op rfl rfl (op_fieldAddr rfl Fa.F56_0 ?_)
      refine WL.op rfl rfl (op_load rfl (H16.cell (i := 0) rfl rfl) Try.underlying22 rfl ?_)
      refine WL.op rfl rfl (op_leqU32 (b := 1024) rfl rfl ?_)
      refine WL.op rfl rfl (op_move rfl ?_)
      refine WL.split (t := 81) rfl (fun (hb24 : (decide (pg ≤ (1024 : UInt32))) = true) => ?_) (fun (hb24 : (decide (pg ≤ (1024 : UInt32))) = false) => ?_)
      ·
        have hc24 := of_decide_eq_true hb24
        refine WL.yes rfl rfl rfl hb24 rfl (op_fieldAddr rfl Fa.F56_2 ?_)
        refine WL.yes rfl rfl rfl hb24 rfl (op_load rfl (H16.cell (i := 0) rfl rfl) Try.underlying54 rfl ?_)
        refine WL.yes rfl rfl rfl hb24 rfl (op_lenA Try.underlying54 rfl (H16.arr hP) ?_)
        refine WL.yes rfl rfl rfl hb24 rfl (op_leqN (b := 16) rfl rfl ?_)
        refine WL.op rfl rfl (op_pickT rfl hb24 rfl ?_)
        refine WL.op rfl rfl (op_assign rfl ?_)
        refine WL.nil ?_
        refine WQ.next ?_
        refine WC.ret ?_
        refine WQ.out (.tmp rfl .nil) ?_
        exact ⟨by (rw [mfMay_end (fun j hj => hok j (by omega)) (fun j hj => hoi j (by omega)), hb24]) <;> rfl, H16.fr⟩
      ·
        have hc24 := of_decide_eq_false hb24
        refine WL.no rfl rfl rfl hb24 rfl ?_
        refine WL.no rfl rfl rfl hb24 rfl ?_
        refine WL.no rfl rfl rfl hb24 rfl ?_
        refine WL.no rfl rfl rfl hb24 rfl ?_
        refine WL.op rfl rfl (op_pickF rfl hb24 rfl ?_)
        refine WL.op rfl rfl (op_assign rfl ?_)
        refine WL.nil ?_
        refine WQ.next ?_
        refine WC.ret ?_
        refine WQ.out (.tmp rfl .nil) ?_
        exact ⟨by (rw [mfMay_end (fun j hj => hok j (by omega)) (fun j hj => hoi j (by omega)), hb24]) <;> rfl, H16.fr⟩
set_option maxRecDepth 100000 in
theorem entb_ok (pg : UInt32) (ev pv sv : Value) (xs : List Xt) (ps : List UInt16) (con : Bool) (en : UInt32) (sg : List Sg) (w : World) (hE : Arr w ev 2 xs.length (List.flatMap xtc xs)) (hP : Arr w pv 1 ps.length (List.map vU16 ps)) (hS : Arr w sv 3 sg.length (List.flatMap sgc sg)) (hn : xs.length < 2 ^ 47) (hm : ps.length < 2 ^ 47) (hk : sg.length < 2 ^ 47) :
    Calls Try.prog 94 #[(.agg #[(vU32 pg), ev, pv, (.bool con), (vU32 en), sv])] w (fun e w' => e = .returned (.bool (entB en sg)) ∧ Fr [] w w') := by
  refine enter (args := [(.agg #[(vU32 pg), ev, pv, (.bool con), (vU32 en), sv])]) Try.func94 rfl rfl ?_
  have H0 : Own [] w w [] := Own.start w []
  refine WC.seq ?_
  refine WC.region ?_
  refine WL.op rfl rfl (op_box H0 rfl rfl (fun b1 w1 H1 => ?_))
  refine WL.op rfl rfl (op_assign rfl ?_)
  refine WL.nil ?_
  refine WQ.next ?_
  refine WC.seq ?_
  refine WC.seq ?_
  refine WC.region ?_
  refine WL.op rfl rfl (op_assign rfl ?_)
  refine WL.nil ?_
  refine WQ.next ?_
  refine WC.block ?_
  refine WC.loop (α := Nat) (fun k => [(1, (ptr b1 0)), (3, (vN k))]) (fun k w' => (k ≤ sg.length ∧ (∀ j, j < k → hitB en (sg.getD j Sg.zero) = false)) ∧ Own [] w w' [.blk b1 [(vU32 pg), ev, pv, (.bool con), (vU32 en), sv] 59]) (fun k => sg.length - k) 0 ⟨⟨Nat.zero_le _, fun j h => by omega⟩, H1⟩ ⟨rfl, rfl, trivial⟩ ?_
  rintro k w2 ⟨⟨hk1, hok⟩, H2⟩
  show WC _ _ _ _ _ [(1, (ptr b1 0)), (3, (vN k))] _
  refine WC.seq ?_
  refine WC.seq ?_
  refine WC.region ?_
  refine WL.op rfl rfl (op_move rfl ?_)
  refine WL.op rfl rfl (op_fieldAddr rfl Fa.F59_2 ?_)
  refine WL.op rfl rfl (op_load rfl (H2.cell (i := 0) rfl rfl) Try.underlying57 rfl ?_)
  refine WL.op rfl rfl (op_lenA Try.underlying57 rfl (H2.arr hS) ?_)
  refine WL.op rfl rfl (op_lssN rfl rfl ?_)
  refine WL.nil ?_
  refine WQ.next ?_
  refine WC.cond rfl (fun (hb3 : (decide (k < sg.length)) = true) => ?_) (fun (hb3 : (decide (k < sg.length)) = false) => ?_)
  ·
    have hc3 := of_decide_eq_true hb3
    refine WC.skip ?_
    refine WQ.next ?_
    refine WC.seq ?_
    refine WC.block ?_
    refine WC.seq ?_
    refine WC.region ?_
    refine WL.op rfl rfl (op_fieldAddr rfl Fa.F59_2 ?_)
    refine WL.op rfl rfl (op_load rfl (H2.cell (i := 0) rfl rfl) Try.underlying57 rfl ?_)
    refine WL.op rfl rfl (op_move rfl ?_)
    refine WL.op rfl rfl (op_indexAddr Try.underlying57 Fa.I111 rfl (H2.arr hS) rfl (by omega) ?_)
    refine WL.op rfl rfl (op_loadSP (vs := sgc (sg.getD k Sg.zero)) rfl (Arr.atsF (H2.arr hS) (fun _ => rfl) (by decide) Sg.zero (by omega)) Try.underlying111 rfl Fa.I111 rfl ?_)
    refine WL.op rfl rfl (op_alloc H2 Fa.I111 (fun b4 w4 H4 => ?_))
    refine WL.op rfl rfl (op_storeBW (i := 1) H4 rfl rfl rfl rfl rfl Fa.I111 (fun w5 H5 => ?_))
    refine WL.nil ?_
    refine WQ.next ?_
    refine WC.seq ?_
    refine WC.region ?_
    refine WL.op rfl rfl (op_fieldAddr rfl Fa.F111_1 ?_)
    refine WL.op rfl rfl (op_load rfl (H5.cell (i := 1) rfl rfl) Try.underlying5 rfl ?_)
    refine WL.op rfl rfl (op_eqlU8 (b := 5) rfl rfl ?_)
    refine WL.op rfl rfl (op_move rfl ?_)
    refine WL.split (t := 20) rfl (fun (hb6 : (decide ((sg.getD k Sg.zero).p = (5 : UInt8))) = true) => ?_) (fun (hb6 : (decide ((sg.getD k Sg.zero).p = (5 : UInt8))) = false) => ?_)
    ·
      have hc6 := of_decide_eq_true hb6
      refine WL.yes rfl rfl rfl hb6 rfl (op_fieldAddr rfl Fa.F59_1 ?_)
      refine WL.yes rfl rfl rfl hb6 rfl (op_load rfl (H5.cell (i := 0) rfl rfl) Try.underlying22 rfl ?_)
      refine WL.yes rfl rfl rfl hb6 rfl (op_fieldAddr rfl Fa.F111_0 ?_)
      refine WL.yes rfl rfl rfl hb6 rfl (op_load rfl (H5.cell (i := 1) rfl rfl) Try.underlying22 rfl ?_)
      refine WL.yes rfl rfl rfl hb6 rfl (op_geqU32 rfl rfl ?_)
      refine WL.op rfl rfl (op_pickT rfl hb6 rfl ?_)
      refine WL.op rfl rfl (op_move rfl ?_)
      refine WL.split (t := 27) rfl (fun (hb7 : (decide (en ≥ (sg.getD k Sg.zero).a)) = true) => ?_) (fun (hb7 : (decide (en ≥ (sg.getD k Sg.zero).a)) = false) => ?_)
      ·
        have hc7 := of_decide_eq_true hb7
        refine WL.yes rfl rfl rfl hb7 rfl (op_fieldAddr rfl Fa.F59_1 ?_)
        refine WL.yes rfl rfl rfl hb7 rfl (op_load rfl (H5.cell (i := 0) rfl rfl) Try.underlying22 rfl ?_)
        refine WL.yes rfl rfl rfl hb7 rfl (op_convU32U64 (hs := Try.underlying22) (hd := Try.underlying116) rfl ?_)
        refine WL.yes rfl rfl rfl hb7 rfl (op_addU64 (b := 8) rfl rfl ?_)
        refine WL.yes rfl rfl rfl hb7 rfl (op_fieldAddr rfl Fa.F111_0 ?_)
        refine WL.yes rfl rfl rfl hb7 rfl (op_load rfl (H5.cell (i := 1) rfl rfl) Try.underlying22 rfl ?_)
        refine WL.yes rfl rfl rfl hb7 rfl (op_convU32U64 (hs := Try.underlying22) (hd := Try.underlying116) rfl ?_)
        refine WL.yes rfl rfl rfl hb7 rfl (op_fieldAddr rfl Fa.F111_2 ?_)
        refine WL.yes rfl rfl rfl hb7 rfl (op_load rfl (H5.cell (i := 1) rfl rfl) Try.underlying9 rfl ?_)
        refine WL.yes rfl rfl rfl hb7 rfl (op_lenStr Try.underlying9 rfl ?_)
        refine WL.yes rfl rfl rfl hb7 rfl (op_convNU64 (hs := Try.underlying3) (hd := Try.underlying116) rfl ?_)
        refine WL.yes rfl rfl rfl hb7 rfl (op_addU64 rfl rfl ?_)
        refine WL.yes rfl rfl rfl hb7 rfl (op_leqU64 rfl rfl ?_)
        refine WL.op rfl rfl (op_pickT rfl hb7 rfl ?_)
        refine WL.nil ?_
        refine WQ.next ?_
        refine WC.cond rfl (fun (hb8 : (decide (((UInt64.ofNat en.toNat) + (8 : UInt64)) ≤ ((UInt64.ofNat (sg.getD k Sg.zero).a.toNat) + (UInt64.ofNat (sg.getD k Sg.zero).b.length)))) = true) => ?_) (fun (hb8 : (decide (((UInt64.ofNat en.toNat) + (8 : UInt64)) ≤ ((UInt64.ofNat (sg.getD k Sg.zero).a.toNat) + (UInt64.ofNat (sg.getD k Sg.zero).b.length)))) = false) => ?_)
        ·
          have hc8 := of_decide_eq_true hb8
          refine WC.seq ?_
          refine WC.region ?_
          refine WL.op rfl rfl (op_fieldAddr rfl Fa.F59_1 ?_)
          refine WL.op rfl rfl (op_load rfl (H5.cell (i := 0) rfl rfl) Try.underlying22 rfl ?_)
          refine WL.op rfl rfl (op_remU32 (b := 8) rfl rfl (by decide) ?_)
          refine WL.op rfl rfl (op_eqlU32 (b := 0) rfl rfl ?_)
          refine WL.op rfl rfl (op_assign rfl ?_)
          refine WL.nil ?_
          refine WQ.next ?_
          refine WC.ret ?_
          refine WQ.inRet ?_
          refine WQ.thenRet ?_
          refine WQ.thenRet ?_
          refine WQ.inRet ?_
          refine WQ.thenRet ?_
          refine WQ.out (.tmp rfl .nil) ?_
          exact ⟨by rw [entB, any_yes (d := Sg.zero) (k := k) (by omega) (by (rw [hitB, sgEnd, hb6, hb7, hb8]) <;> rfl)]; rfl, H5.fr⟩
        ·
          have hc8 := of_decide_eq_false hb8
          refine WC.skip ?_
          refine WQ.inNormal ?_
          refine WQ.next ?_
          refine WC.region ?_
          refine WL.op rfl rfl (op_move rfl ?_)
          refine WL.op rfl rfl (op_addN (b := 1) rfl rfl (by omega) ?_)
          refine WL.op rfl rfl (op_assign rfl ?_)
          refine WL.nil ?_
          exact WQ.round (k + 1) ⟨⟨by omega, allPrev hok (by (rw [hitB, sgEnd, hb6, hb7, hb8]) <;> rfl)⟩, (H5.take 1)⟩ ⟨rfl, rfl, trivial⟩ (by omega)
      ·
        have hc7 := of_decide_eq_false hb7
        refine WL.no rfl rfl rfl hb7 rfl ?_
        refine WL.no rfl rfl rfl hb7 rfl ?_
        refine WL.no rfl rfl rfl hb7 rfl ?_
        refine WL.no rfl rfl rfl hb7 rfl ?_
        refine WL.no rfl rfl rfl hb7 rfl ?_
        refine WL.no rfl rfl rfl hb7 rfl ?_
        refine WL.no rfl rfl rfl hb7 rfl ?_
        refine WL.no rfl rfl rfl hb7 rfl ?_
        refine WL.no rfl rfl rfl hb7 rfl ?_
        refine WL.no rfl rfl rfl hb7 rfl ?_
        refine WL.no rfl rfl rfl hb7 rfl ?_
        refine WL.no rfl rfl rfl hb7 rfl ?_
        refine WL.no rfl rfl rfl hb7 rfl ?_
        refine WL.op rfl rfl (op_pickF rfl hb7 rfl ?_)
        refine WL.nil ?_
        refine WQ.next ?_
        refine WC.no rfl rfl ?_
        refine WC.skip ?_
        refine WQ.inNormal ?_
        refine WQ.next ?_
        refine WC.region ?_
        refine WL.op rfl rfl (op_move rfl ?_)
        refine WL.op rfl rfl (op_addN (b := 1) rfl rfl (by omega) ?_)
        refine WL.op rfl rfl (op_assign rfl ?_)
        refine WL.nil ?_
        exact WQ.round (k + 1) ⟨⟨by omega, allPrev hok (by (rw [hitB, sgEnd, hb6, hb7]) <;> rfl)⟩, (H5.take 1)⟩ ⟨rfl, rfl, trivial⟩ (by omega)
    ·
      have hc6 := of_decide_eq_false hb6
      refine WL.no rfl rfl rfl hb6 rfl ?_
      refine WL.no rfl rfl rfl hb6 rfl ?_
      refine WL.no rfl rfl rfl hb6 rfl ?_
      refine WL.no rfl rfl rfl hb6 rfl ?_
      refine WL.no rfl rfl rfl hb6 rfl ?_
      refine WL.op rfl rfl (op_pickF rfl hb6 rfl ?_)
      refine WL.op rfl rfl (op_move rfl ?_)
      refine WL.no rfl rfl rfl rfl rfl ?_
      refine WL.no rfl rfl rfl rfl rfl ?_
      refine WL.no rfl rfl rfl rfl rfl ?_
      refine WL.no rfl rfl rfl rfl rfl ?_
      refine WL.no rfl rfl rfl rfl rfl ?_
      refine WL.no rfl rfl rfl rfl rfl ?_
      refine WL.no rfl rfl rfl rfl rfl ?_
      refine WL.no rfl rfl rfl rfl rfl ?_
      refine WL.no rfl rfl rfl rfl rfl ?_
      refine WL.no rfl rfl rfl rfl rfl ?_
      refine WL.no rfl rfl rfl rfl rfl ?_
      refine WL.no rfl rfl rfl rfl rfl ?_
      refine WL.no rfl rfl rfl rfl rfl ?_
      refine WL.op rfl rfl (op_pickF rfl rfl rfl ?_)
      refine WL.nil ?_
      refine WQ.next ?_
      refine WC.no rfl rfl ?_
      refine WC.skip ?_
      refine WQ.inNormal ?_
      refine WQ.next ?_
      refine WC.region ?_
      refine WL.op rfl rfl (op_move rfl ?_)
      refine WL.op rfl rfl (op_addN (b := 1) rfl rfl (by omega) ?_)
      refine WL.op rfl rfl (op_assign rfl ?_)
      refine WL.nil ?_
      exact WQ.round (k + 1) ⟨⟨by omega, allPrev hok (by (rw [hitB, sgEnd, hb6]) <;> rfl)⟩, (H5.take 1)⟩ ⟨rfl, rfl, trivial⟩ (by omega)
  ·
    have hc3 := of_decide_eq_false hb3
    refine WC.exit ?_
    refine WQ.thenExit ?_
    refine WQ.thenExit ?_
    refine WQ.inHere ?_
    refine WQ.next ?_
    refine WC.seq ?_
    refine WC.region ?_
    refine WL.op rfl rfl (op_assign rfl ?_)
    refine WL.nil ?_
    refine WQ.next ?_
    refine WC.ret ?_
    refine WQ.out (.tmp rfl .nil) ?_
    exact ⟨by rw [entB, any_no (d := Sg.zero) (fun j hj => hok j (by omega))]; rfl, H2.fr⟩
set_option maxRecDepth 100000 in
theorem rmay16_ok (pg : UInt32) (ev pv sv : Value) (xs : List Xt) (ps : List UInt16) (con : Bool) (en : UInt32) (sg : List Sg) (w : World) (hE : Arr w ev 2 xs.length (List.flatMap xtc xs)) (hP : Arr w pv 1 ps.length (List.map vU16 ps)) (hS : Arr w sv 3 sg.length (List.flatMap sgc sg)) (hn : xs.length < 2 ^ 47) (hm : ps.length < 2 ^ 47) (hk : sg.length < 2 ^ 47) (hB : ∀ x ∈ sg, x.b.length ≤ 2 ^ 30) :
    Calls Try.prog 47 #[(.agg #[(vU32 pg), ev, pv, (.bool con), (vU32 en), sv])] w (fun e w' => e = .returned (.bool (rMay pg xs ps en sg)) ∧ Fr [] w w') := by
  refine enter (args := [(.agg #[(vU32 pg), ev, pv, (.bool con), (vU32 en), sv])]) Try.func47 rfl rfl ?_
  have H0 : Own [] w w [] := Own.start w []
  refine WC.seq ?_
  refine WC.region ?_
  refine WL.op rfl rfl (op_box H0 rfl rfl (fun b1 w1 H1 => ?_))
  refine WL.op rfl rfl (op_assign rfl ?_)
  refine WL.nil ?_
  refine WQ.next ?_
  refine WC.seq ?_
  refine WC.region ?_
  refine WL.op rfl rfl (op_assign rfl ?_)
  refine WL.nil ?_
  refine WQ.next ?_
  refine WC.seq ?_
  refine WC.seq ?_
  refine WC.region ?_
  refine WL.op rfl rfl (op_assign rfl ?_)
  refine WL.nil ?_
  refine WQ.next ?_
  refine WC.block ?_
  refine WC.loop (α := Nat) (fun k => [(1, (ptr b1 0)), (3, (vI (lastTo sg k))), (4, (vN k))]) (fun k w' => (k ≤ sg.length ∧ (∀ j, j < k → stepB sg j = true)) ∧ Own [] w w' [.blk b1 [(vU32 pg), ev, pv, (.bool con), (vU32 en), sv] 59]) (fun k => sg.length - k) 0 ⟨⟨Nat.zero_le _, fun j h => by omega⟩, H1⟩ ⟨rfl, rfl, rfl, trivial⟩ ?_
  rintro k w2 ⟨⟨hk1, hok⟩, H2⟩
  show WC _ _ _ _ _ [(1, (ptr b1 0)), (3, (vI (lastTo sg k))), (4, (vN k))] _
  refine WC.seq ?_
  refine WC.seq ?_
  refine WC.region ?_
  refine WL.op rfl rfl (op_move rfl ?_)
  refine WL.op rfl rfl (op_fieldAddr rfl Fa.F59_2 ?_)
  refine WL.op rfl rfl (op_load rfl (H2.cell (i := 0) rfl rfl) Try.underlying57 rfl ?_)
  refine WL.op rfl rfl (op_lenA Try.underlying57 rfl (H2.arr hS) ?_)
  refine WL.op rfl rfl (op_lssN rfl rfl ?_)
  refine WL.nil ?_
  refine WQ.next ?_
  refine WC.cond rfl (fun (hb3 : (decide (k < sg.length)) = true) => ?_) (fun (hb3 : (decide (k < sg.length)) = false) => ?_)
  ·
    have hc3 := of_decide_eq_true hb3
    refine WC.skip ?_
    refine WQ.next ?_
    refine WC.seq ?_
    refine WC.block ?_
    refine WC.seq ?_
    refine WC.seq ?_
    refine WC.region ?_
    refine WL.op rfl rfl (op_fieldAddr rfl Fa.F59_2 ?_)
    refine WL.op rfl rfl (op_load rfl (H2.cell (i := 0) rfl rfl) Try.underlying57 rfl ?_)
    refine WL.op rfl rfl (op_move rfl ?_)
    refine WL.op rfl rfl (op_indexAddr Try.underlying57 Fa.I111 rfl (H2.arr hS) rfl (by omega) ?_)
    refine WL.op rfl rfl (op_loadSP (vs := sgc (sg.getD k Sg.zero)) rfl (Arr.atsF (H2.arr hS) (fun _ => rfl) (by decide) Sg.zero (by omega)) Try.underlying111 rfl Fa.I111 rfl ?_)
    refine WL.op rfl rfl (op_callF Fa.C92 rfl ((segb_ok (sg.getD k Sg.zero) _ (by have := getS_mem hB k; omega)).mono (fun e w4 hq => ?_)))
    obtain ⟨rfl, hf4⟩ := hq
    refine ⟨_, rfl, ?_⟩
    have H4 := H2.fr' hf4
    refine WL.op rfl rfl (op_not rfl ?_)
    refine WL.op rfl rfl (op_move rfl ?_)
    refine WL.split (t := 20) rfl (fun (hb5 : (!(segB (sg.getD k Sg.zero))) = true) => ?_) (fun (hb5 : (!(segB (sg.getD k Sg.zero))) = false) => ?_)
    ·
      have hn5 := (Bool.not_eq_true' _).mp hb5
      refine WL.no rfl rfl rfl hb5 rfl ?_
      refine WL.no rfl rfl rfl hb5 rfl ?_
      refine WL.no rfl rfl rfl hb5 rfl ?_
      refine WL.no rfl rfl rfl hb5 rfl ?_
      refine WL.no rfl rfl rfl hb5 rfl ?_
      refine WL.no rfl rfl rfl hb5 rfl ?_
      refine WL.no rfl rfl rfl hb5 rfl ?_
      refine WL.no rfl rfl rfl hb5 rfl ?_
      refine WL.no rfl rfl rfl hb5 rfl ?_
      refine WL.op rfl rfl (op_pickT rfl hb5 rfl ?_)
      refine WL.nil ?_
      refine WQ.next ?_
      refine WC.yes rfl rfl ?_
      refine WC.seq ?_
      refine WC.region ?_
      refine WL.op rfl rfl (op_assign rfl ?_)
      refine WL.nil ?_
      refine WQ.next ?_
      refine WC.ret ?_
      refine WQ.thenRet ?_
      refine WQ.inRet ?_
      refine WQ.thenRet ?_
      refine WQ.thenRet ?_
      refine WQ.inRet ?_
      refine WQ.thenRet ?_
      refine WQ.out (.tmp rfl .nil) ?_
      exact ⟨by rw [rMay_no (k := k) (by omega) (by (rw [stepB, hn5]) <;> rfl)]; rfl, H4.fr⟩
    ·
      have hn5 := (Bool.not_eq_false' _).mp hb5
      refine WL.yes rfl rfl rfl hb5 rfl (op_fieldAddr rfl Fa.F59_2 ?_)
      refine WL.yes rfl rfl rfl hb5 rfl (op_load rfl (H4.cell (i := 0) rfl rfl) Try.underlying57 rfl ?_)
      refine WL.yes rfl rfl rfl hb5 rfl (op_move rfl ?_)
      refine WL.yes rfl rfl rfl hb5 rfl (op_indexAddr Try.underlying57 Fa.I111 rfl (H4.arr hS) rfl (by omega) ?_)
      refine WL.yes rfl rfl rfl hb5 rfl (op_fieldAddrS rfl Fa.F111_0 ?_)
      refine WL.yes rfl rfl rfl hb5 rfl (op_load rfl (Arr.atF (k := 0) (H4.arr hS) (fun _ => rfl) (by decide) Sg.zero (by omega) rfl) Try.underlying22 rfl ?_)
      refine WL.yes rfl rfl rfl hb5 rfl (op_convU32N (hs := Try.underlying22) (hd := Try.underlying3) rfl ?_)
      refine WL.yes rfl rfl rfl hb5 rfl (op_move rfl ?_)
      refine WL.yes rfl rfl rfl hb5 rfl (op_leqI rfl rfl ?_)
      refine WL.op rfl rfl (op_pickF rfl hb5 rfl ?_)
      refine WL.nil ?_
      refine WQ.next ?_
      refine WC.cond rfl (fun (hb6 : (decide (((sg.getD k Sg.zero).a.toNat : Int) ≤ (lastTo sg k))) = true) => ?_) (fun (hb6 : (decide (((sg.getD k Sg.zero).a.toNat : Int) ≤ (lastTo sg k))) = false) => ?_)
      ·
        have hc6 := of_decide_eq_true hb6
        refine WC.seq ?_
        refine WC.region ?_
        refine WL.op rfl rfl (op_assign rfl ?_)
        refine WL.nil ?_
        refine WQ.next ?_
        refine WC.ret ?_
        refine WQ.thenRet ?_
        refine WQ.inRet ?_
        refine WQ.thenRet ?_
        refine WQ.thenRet ?_
        refine WQ.inRet ?_
        refine WQ.thenRet ?_
        refine WQ.out (.tmp rfl .nil) ?_
        exact ⟨by rw [rMay_no (k := k) (by omega) (by (rw [stepB, hn5, hb6]) <;> rfl)]; rfl, H4.fr⟩
      ·
        have hc6 := of_decide_eq_false hb6
        have hstp : stepB sg k = true := by (rw [stepB, hn5, hb6]) <;> rfl
        have hsg := segB_len (x := sg.getD k Sg.zero) (by simpa using hn5)
        have hgb := getS_mem hB k
        have hpg : pgN (sg.getD k Sg.zero) = ((sg.getD k Sg.zero).b.length + 255) / 256 := rfl
        refine WC.skip ?_
        refine WQ.next ?_
        refine WC.seq ?_
        refine WC.region ?_
        refine WL.op rfl rfl (op_fieldAddr rfl Fa.F59_2 ?_)
        refine WL.op rfl rfl (op_load rfl (H4.cell (i := 0) rfl rfl) Try.underlying57 rfl ?_)
        refine WL.op rfl rfl (op_move rfl ?_)
        refine WL.op rfl rfl (op_indexAddr Try.underlying57 Fa.I111 rfl (H4.arr hS) rfl (by omega) ?_)
        refine WL.op rfl rfl (op_loadSP (vs := sgc (sg.getD k Sg.zero)) rfl (Arr.atsF (H4.arr hS) (fun _ => rfl) (by decide) Sg.zero (by omega)) Try.underlying111 rfl Fa.I111 rfl ?_)
        refine WL.op rfl rfl (op_callF Fa.C91 rfl ((rpages_ok (sg.getD k Sg.zero) _ (by have := getS_mem hB k; omega)).mono (fun e w7 hq => ?_)))
        obtain ⟨v7, rfl, hq7⟩ := hq
        refine ⟨_, rfl, ?_⟩
        have H7 : Own [] w w7 [.blk b1 [(vU32 pg), ev, pv, (.bool con), (vU32 en), sv] 59, .row v7 22 1 (pgN (sg.getD k Sg.zero)) (List.map vU32 (pgL (sg.getD k Sg.zero) (pgN (sg.getD k Sg.zero))))] := H4.splice [] [] [.row v7 22 1 (pgN (sg.getD k Sg.zero)) (List.map vU32 (pgL (sg.getD k Sg.zero) (pgN (sg.getD k Sg.zero))))] rfl rfl hq7 (Fits.solid True.intro Fits.nil)
        refine WL.op rfl rfl (op_assign rfl ?_)
        refine WL.nil ?_
        refine WQ.next ?_
        refine WC.region ?_
        refine WL.op rfl rfl (op_move rfl ?_)
        refine WL.op rfl rfl (op_move rfl ?_)
        refine WL.op rfl rfl (op_lenA Try.underlying64 rfl (H7.arrR (i := 1) rfl) ?_)
        refine WL.op rfl rfl (op_subN (b := 1) rfl rfl (by omega) (by omega) ?_)
        refine WL.op rfl rfl (op_indexAddr1 Try.underlying64 Fa.I22 rfl (H7.arrR (i := 1) rfl) rfl (by omega) ?_)
        refine WL.op rfl rfl (op_load rfl ((H7.arrR (i := 1) rfl).at (get_map vU32 0 (Arr.ltM (H7.arrR (i := 1) rfl) (by omega)))) Try.underlying22 rfl ?_)
        refine WL.op rfl rfl (op_convU32N (hs := Try.underlying22) (hd := Try.underlying3) rfl ?_)
        refine WL.op rfl rfl (op_assign rfl ?_)
        refine WL.nil ?_
        refine WQ.inNormal ?_
        refine WQ.next ?_
        refine WC.region ?_
        refine WL.op rfl rfl (op_move rfl ?_)
        refine WL.op rfl rfl (op_addN (b := 1) rfl rfl (by omega) ?_)
        refine WL.op rfl rfl (op_assign rfl ?_)
        refine WL.nil ?_
        exact WQ.round (k + 1) ⟨⟨by omega, allPrev hok hstp⟩, (H7.take 1)⟩ ⟨rfl, rfl, rfl, trivial⟩ (by omega)
  ·
    have hc3 := of_decide_eq_false hb3
    refine WC.exit ?_
    refine WQ.thenExit ?_
    refine WQ.thenExit ?_
    refine WQ.inHere ?_
    refine WQ.next ?_
    refine WC.seq ?_
    refine WC.region ?_
    refine WL.op rfl rfl (op_fieldAddr rfl Fa.F59_0 ?_)
    refine WL.op rfl rfl (op_loadS (vs := [_, _, _, _]) rfl (H2.cells (i := 0) rfl rfl) Try.underlying56 rfl Fa.I56 rfl ?_)
    refine WL.op rfl rfl (op_callF Fa.C93 rfl ((rmay11_ok pg _ _ xs ps con _ (H2.arr hE) (H2.arr hP) (by omega) (by omega)).mono (fun e w8 hq => ?_)))
    obtain ⟨rfl, hf8⟩ := hq
    refine ⟨_, rfl, ?_⟩
    have H8 := H2.fr' hf8
    refine WL.op rfl rfl (op_move rfl ?_)
    refine WL.split (t := 47) rfl (fun (hb9 : (mfMay pg xs ps) = true) => ?_) (fun (hb9 : (mfMay pg xs ps) = false) => ?_)
    ·
      refine WL.yes rfl rfl rfl hb9 rfl (op_fieldAddr rfl Fa.F59_2 ?_)
      refine WL.yes rfl rfl rfl hb9 rfl (op_load rfl (H8.cell (i := 0) rfl rfl) Try.underlying57 rfl ?_)
      refine WL.yes rfl rfl rfl hb9 rfl (op_lenA Try.underlying57 rfl (H8.arr hS) ?_)
      refine WL.yes rfl rfl rfl hb9 rfl (op_geqN (b := 1) rfl rfl ?_)
      refine WL.op rfl rfl (op_pickT rfl hb9 rfl ?_)
      refine WL.op rfl rfl (op_move rfl ?_)
      refine WL.split (t := 53) rfl (fun (hb10 : (decide (sg.length ≥ 1)) = true) => ?_) (fun (hb10 : (decide (sg.length ≥ 1)) = false) => ?_)
      ·
        have hc10 := of_decide_eq_true hb10
        refine WL.yes rfl rfl rfl hb10 rfl (op_fieldAddr rfl Fa.F59_2 ?_)
        refine WL.yes rfl rfl rfl hb10 rfl (op_load rfl (H8.cell (i := 0) rfl rfl) Try.underlying57 rfl ?_)
        refine WL.yes rfl rfl rfl hb10 rfl (op_lenA Try.underlying57 rfl (H8.arr hS) ?_)
        refine WL.yes rfl rfl rfl hb10 rfl (op_leqN (b := 8) rfl rfl ?_)
        refine WL.op rfl rfl (op_pickT rfl hb10 rfl ?_)
        refine WL.op rfl rfl (op_move rfl ?_)
        refine WL.split (t := 59) rfl (fun (hb11 : (decide (sg.length ≤ 8)) = true) => ?_) (fun (hb11 : (decide (sg.length ≤ 8)) = false) => ?_)
        ·
          have hc11 := of_decide_eq_true hb11
          refine WL.yes rfl rfl rfl hb11 rfl (op_loadS (vs := [_, _, _, _, _, _]) rfl (H8.cells (i := 0) rfl rfl) Try.underlying59 rfl Fa.I59 rfl ?_)
          refine WL.yes rfl rfl rfl hb11 rfl (op_callF Fa.C94 rfl ((entb_ok pg _ _ _ xs ps con en sg _ (H8.arr hE) (H8.arr hP) (H8.arr hS) (by omega) (by omega) (by omega)).mono (fun e w12 hq => ?_)))
          obtain ⟨rfl, hf12⟩ := hq
          refine ⟨_, rfl, ?_⟩
          have H12 := H8.fr' hf12
          refine WL.op rfl rfl (op_pickT rfl hb11 rfl ?_)
          refine WL.op rfl rfl (op_assign rfl ?_)
          refine WL.nil ?_
          refine WQ.next ?_
          refine WC.ret ?_
          refine WQ.out (.tmp rfl .nil) ?_
          exact ⟨by (rw [rMay_end (fun j hj => hok j (by omega)), hb9, hb10, hb11]) <;> rfl, H12.fr⟩
        ·
          have hc11 := of_decide_eq_false hb11
          refine WL.no rfl rfl rfl hb11 rfl ?_
          refine WL.no rfl rfl rfl hb11 rfl ?_
          refine WL.op rfl rfl (op_pickF rfl hb11 rfl ?_)
          refine WL.op rfl rfl (op_assign rfl ?_)
          refine WL.nil ?_
          refine WQ.next ?_
          refine WC.ret ?_
          refine WQ.out (.tmp rfl .nil) ?_
          exact ⟨by (rw [rMay_end (fun j hj => hok j (by omega)), hb9, hb10, hb11]) <;> rfl, H8.fr⟩
      ·
        have hc10 := of_decide_eq_false hb10
        refine WL.no rfl rfl rfl hb10 rfl ?_
        refine WL.no rfl rfl rfl hb10 rfl ?_
        refine WL.no rfl rfl rfl hb10 rfl ?_
        refine WL.no rfl rfl rfl hb10 rfl ?_
        refine WL.op rfl rfl (op_pickF rfl hb10 rfl ?_)
        refine WL.op rfl rfl (op_move rfl ?_)
        refine WL.no rfl rfl rfl rfl rfl ?_
        refine WL.no rfl rfl rfl rfl rfl ?_
        refine WL.op rfl rfl (op_pickF rfl rfl rfl ?_)
        refine WL.op rfl rfl (op_assign rfl ?_)
        refine WL.nil ?_
        refine WQ.next ?_
        refine WC.ret ?_
        refine WQ.out (.tmp rfl .nil) ?_
        exact ⟨by (rw [rMay_end (fun j hj => hok j (by omega)), hb9, hb10]) <;> rfl, H8.fr⟩
    ·
      refine WL.no rfl rfl rfl hb9 rfl ?_
      refine WL.no rfl rfl rfl hb9 rfl ?_
      refine WL.no rfl rfl rfl hb9 rfl ?_
      refine WL.no rfl rfl rfl hb9 rfl ?_
      refine WL.op rfl rfl (op_pickF rfl hb9 rfl ?_)
      refine WL.op rfl rfl (op_move rfl ?_)
      refine WL.no rfl rfl rfl rfl rfl ?_
      refine WL.no rfl rfl rfl rfl rfl ?_
      refine WL.no rfl rfl rfl rfl rfl ?_
      refine WL.no rfl rfl rfl rfl rfl ?_
      refine WL.op rfl rfl (op_pickF rfl rfl rfl ?_)
      refine WL.op rfl rfl (op_move rfl ?_)
      refine WL.no rfl rfl rfl rfl rfl ?_
      refine WL.no rfl rfl rfl rfl rfl ?_
      refine WL.op rfl rfl (op_pickF rfl rfl rfl ?_)
      refine WL.op rfl rfl (op_assign rfl ?_)
      refine WL.nil ?_
      refine WQ.next ?_
      refine WC.ret ?_
      refine WQ.out (.tmp rfl .nil) ?_
      exact ⟨by (rw [rMay_end (fun j hj => hok j (by omega)), hb9]) <;> rfl, H8.fr⟩
end Go.Proofs.Ytpnghdalnghpcaa
/-! from WImg7 -/
namespace Go.Proofs.Ytpnghdalnghpcaa
open Go.Owl Go.Spec
set_option maxRecDepth 100000 in
theorem rnum16_ok (v : UInt32) (n : Int) (w : World) :
    Calls Try.prog 95 #[(vU32 v), (vI n)] w (fun e w' => e = .returned (str (numS v n)) ∧ Fr [] w w') := by
  refine enter (args := [(vU32 v), (vI n)]) Try.func95 rfl rfl ?_
  have H0 : Own [] w w [] := Own.start w []
  refine WC.seq ?_
  refine WC.region ?_
  refine WL.op rfl rfl (op_assign rfl ?_)
  refine WL.nil ?_
  refine WQ.next ?_
  refine WC.seq ?_
  refine WC.region ?_
  refine WL.op rfl rfl (op_move rfl ?_)
  refine WL.op rfl rfl (op_move rfl ?_)
  refine WL.op rfl rfl (op_callF Fa.C18 rfl ((rnum_ok v (n) _).mono (fun e w1 hq => ?_)))
  obtain ⟨rfl, hf1⟩ := hq
  refine ⟨_, rfl, ?_⟩
  have H1 := H0.fr' hf1
  refine WL.op rfl rfl (op_move rfl ?_)
  refine WL.op rfl rfl (op_extract rfl rfl ?_)
  refine WL.op rfl rfl (op_extract rfl rfl ?_)
  refine WL.op rfl rfl (op_assign rfl ?_)
  refine WL.op rfl rfl (op_assign rfl ?_)
  refine WL.nil ?_
  refine WQ.next ?_
  refine WC.seq ?_
  refine WC.region ?_
  refine WL.op rfl rfl (op_move rfl ?_)
  refine WL.op rfl rfl (op_assign rfl ?_)
  refine WL.nil ?_
  refine WQ.next ?_
  refine WC.ret ?_
  refine WQ.out (.tmp rfl .nil) ?_
  exact ⟨rfl, H1.fr⟩
set_option maxRecDepth 100000 in
theorem rpgs_ok (pg : UInt32) (ev pv sv : Value) (xs : List Xt) (ps : List UInt16) (con : Bool) (en : UInt32) (sg : List Sg) (w : World) (hE : Arr w ev 2 xs.length (List.flatMap xtc xs)) (hP : Arr w pv 1 ps.length (List.map vU16 ps)) (hS : Arr w sv 3 sg.length (List.flatMap sgc sg)) (hn : xs.length < 2 ^ 47) (hm : ps.length < 2 ^ 47) (hk : sg.length < 2 ^ 47) (hB : ∀ x ∈ sg, x.b.length ≤ 2 ^ 30) (hs : sg.length ≤ 2 ^ 20) :
    Calls Try.prog 46 #[(.agg #[(vU32 pg), ev, pv, (.bool con), (vU32 en), sv])] w (fun e w' => ∃ v, e = .returned v ∧ Own [] w w' [.row v 22 1 (if rMay pg xs ps en sg then pagesTo sg sg.length else []).length (List.map vU32 (if rMay pg xs ps en sg then pagesTo sg sg.length else []))]) := by
  refine enter (args := [(.agg #[(vU32 pg), ev, pv, (.bool con), (vU32 en), sv])]) Try.func46 rfl rfl ?_
  have H0 : Own [] w w [] := Own.start w []
  refine WC.seq ?_
  refine WC.region ?_
  refine WL.op rfl rfl (op_box H0 rfl rfl (fun b1 w1 H1 => ?_))
  refine WL.op rfl rfl (op_assign rfl ?_)
  refine WL.nil ?_
  refine WQ.next ?_
  refine WC.seq ?_
  refine WC.region ?_
  refine WL.op rfl rfl (op_assign rfl ?_)
  have H2 := H1.nilRow 22 1
  refine WL.nil ?_
  refine WQ.next ?_
  refine WC.cut (α := Nat × Value) (fun (k, q) => [(3, q)]) (fun (k, q) w' => ((k = sg.length ∧ (k = 0 ∨ rMay pg xs ps en sg = true)) ∨ (k = 0 ∧ rMay pg xs ps en sg = false)) ∧ Own [] w w' [.blk b1 [(vU32 pg), ev, pv, (.bool con), (vU32 en), sv] 59, .row q 22 1 (pagesTo sg k).length (List.map vU32 (pagesTo sg k))]) ?_ ?_
  ·
    refine WC.seq ?_
    refine WC.region ?_
    refine WL.op rfl rfl (op_assign rfl ?_)
    refine WL.nil ?_
    refine WQ.next ?_
    refine WC.block ?_
    refine WC.loop (α := Nat × Value) (fun (k, q) => [(1, (ptr b1 0)), (3, q), (4, (vN k))]) (fun (k, q) w' => (k ≤ sg.length ∧ (k = 0 ∨ rMay pg xs ps en sg = true)) ∧ Own [] w w' [.blk b1 [(vU32 pg), ev, pv, (.bool con), (vU32 en), sv] 59, .row q 22 1 (pagesTo sg k).length (List.map vU32 (pagesTo sg k))]) (fun (k, q) => sg.length - k) (0, (.slice none 0 0)) ⟨⟨Nat.zero_le _, .inl rfl⟩, H2⟩ ⟨rfl, rfl, rfl, trivial⟩ ?_
    rintro ⟨k, q⟩ w3 ⟨⟨hk1, hk2⟩, H3⟩
    show WC _ _ _ _ _ [(1, (ptr b1 0)), (3, q), (4, (vN k))] _
    have hpl := pagesTo_len hB k
    have hgb := getS_mem hB k
    have hpg : pgN (sg.getD k Sg.zero) = ((sg.getD k Sg.zero).b.length + 255) / 256 := rfl
    refine WC.seq ?_
    refine WC.seq ?_
    refine WC.region ?_
    refine WL.op rfl rfl (op_move rfl ?_)
    refine WL.op rfl rfl (op_fieldAddr rfl Fa.F59_2 ?_)
    refine WL.op rfl rfl (op_load rfl (H3.cell (i := 0) rfl rfl) Try.underlying57 rfl ?_)
    refine WL.op rfl rfl (op_lenA Try.underlying57 rfl (H3.arr hS) ?_)
    refine WL.op rfl rfl (op_lssN rfl rfl ?_)
    refine WL.op rfl rfl (op_move rfl ?_)
    refine WL.split (t := 10) rfl (fun (hb4 : (decide (k < sg.length)) = true) => ?_) (fun (hb4 : (decide (k < sg.length)) = false) => ?_)
    ·
      have hc4 := of_decide_eq_true hb4
      refine WL.yes rfl rfl rfl hb4 rfl (op_loadS (vs := [_, _, _, _, _, _]) rfl (H3.cells (i := 0) rfl rfl) Try.underlying59 rfl Fa.I59 rfl ?_)
      refine WL.yes rfl rfl rfl hb4 rfl (op_callF Fa.C47 rfl ((rmay16_ok pg _ _ _ xs ps con en sg _ (H3.arr hE) (H3.arr hP) (H3.arr hS) hn hm hk hB).mono (fun e w5 hq => ?_)))
      obtain ⟨rfl, hf5⟩ := hq
      refine ⟨_, rfl, ?_⟩
      have H5 := H3.fr' hf5
      refine WL.op rfl rfl (op_pickT rfl hb4 rfl ?_)
      refine WL.nil ?_
      refine WQ.next ?_
      refine WC.cond rfl (fun (hb6 : (rMay pg xs ps en sg) = true) => ?_) (fun (hb6 : (rMay pg xs ps en sg) = false) => ?_)
      ·
        refine WC.skip ?_
        refine WQ.next ?_
        refine WC.seq ?_
        refine WC.block ?_
        refine WC.region ?_
        refine WL.op rfl rfl (op_move rfl ?_)
        refine WL.op rfl rfl (op_fieldAddr rfl Fa.F59_2 ?_)
        refine WL.op rfl rfl (op_load rfl (H5.cell (i := 0) rfl rfl) Try.underlying57 rfl ?_)
        refine WL.op rfl rfl (op_move rfl ?_)
        refine WL.op rfl rfl (op_indexAddr Try.underlying57 Fa.I111 rfl (H5.arr hS) rfl (by omega) ?_)
        refine WL.op rfl rfl (op_loadSP (vs := sgc (sg.getD k Sg.zero)) rfl (Arr.atsF (H5.arr hS) (fun _ => rfl) (by decide) Sg.zero (by omega)) Try.underlying111 rfl Fa.I111 rfl ?_)
        refine WL.op rfl rfl (op_callF Fa.C91 rfl ((rpages_ok (sg.getD k Sg.zero) _ (by omega)).mono (fun e w7 hq => ?_)))
        obtain ⟨v7, rfl, hq7⟩ := hq
        refine ⟨_, rfl, ?_⟩
        have H7 : Own [] w w7 [.blk b1 [(vU32 pg), ev, pv, (.bool con), (vU32 en), sv] 59, .row q 22 1 (pagesTo sg k).length (List.map vU32 (pagesTo sg k)), .row v7 22 1 (pgN (sg.getD k Sg.zero)) (List.map vU32 (pgL (sg.getD k Sg.zero) (pgN (sg.getD k Sg.zero))))] := H5.splice [] [] [.row v7 22 1 (pgN (sg.getD k Sg.zero)) (List.map vU32 (pgL (sg.getD k Sg.zero) (pgN (sg.getD k Sg.zero))))] rfl rfl hq7 (Fits.solid True.intro Fits.nil)
        refine WL.op rfl rfl (op_appendM (f := vU32) (l := (pagesTo sg k)) (l' := (pgL (sg.getD k Sg.zero) (pgN (sg.getD k Sg.zero)))) (i := 1) H7 Try.underlying64 Fa.I22 rfl rfl rfl rfl (Src.ofArr Try.underlying64 (H7.arrR (i := 2) rfl)) (one_mapM (fun _ => rfl)) (by omega) (by omega) (fun v8 w8 H8 => ?_))
        refine WL.op rfl rfl (op_assign rfl ?_)
        refine WL.nil ?_
        refine WQ.inNormal ?_
        refine WQ.next ?_
        refine WC.region ?_
        refine WL.op rfl rfl (op_move rfl ?_)
        refine WL.op rfl rfl (op_addN (b := 1) rfl rfl (by omega) ?_)
        refine WL.op rfl rfl (op_assign rfl ?_)
        refine WL.nil ?_
        exact WQ.round (k + 1, v8) ⟨⟨by omega, .inr hb6⟩, (Own.rowEqN (i := 1) (f := vU32) (show Own [] w w8 [.blk b1 [(vU32 pg), ev, pv, (.bool con), (vU32 en), sv] 59, .row v8 22 1 ((pagesTo sg k).length + (pgN (sg.getD k Sg.zero))) (List.map vU32 ((pagesTo sg k) ++ (pgL (sg.getD k Sg.zero) (pgN (sg.getD k Sg.zero)))))] from (H8.take 2)) rfl rfl (by rw [pagesTo, List.length_append, pgL_len]))⟩ ⟨rfl, rfl, rfl, trivial⟩ (by show sg.length - (k + 1) < sg.length - k; omega)
      ·
        refine WC.exit ?_
        refine WQ.thenExit ?_
        refine WQ.thenExit ?_
        refine WQ.inHere ?_
        exact WQ.here (k, q) ⟨.inr ⟨hk2.resolve_right (by rw [hb6]; decide), hb6⟩, (show Own [] w w5 [.blk b1 [(vU32 pg), ev, pv, (.bool con), (vU32 en), sv] 59, .row q 22 1 (pagesTo sg k).length (List.map vU32 (pagesTo sg k))] from H5)⟩ ⟨rfl, trivial⟩
    ·
      have hc4 := of_decide_eq_false hb4
      refine WL.no rfl rfl rfl hb4 rfl ?_
      refine WL.no rfl rfl rfl hb4 rfl ?_
      refine WL.op rfl rfl (op_pickF rfl hb4 rfl ?_)
      refine WL.nil ?_
      refine WQ.next ?_
      refine WC.no rfl rfl ?_
      refine WC.exit ?_
      refine WQ.thenExit ?_
      refine WQ.thenExit ?_
      refine WQ.inHere ?_
      exact WQ.here (k, q) ⟨.inl ⟨by omega, hk2⟩, (show Own [] w w3 [.blk b1 [(vU32 pg), ev, pv, (.bool con), (vU32 en), sv] 59, .row q 22 1 (pagesTo sg k).length (List.map vU32 (pagesTo sg k))] from H3)⟩ ⟨rfl, trivial⟩
  ·
    rintro ⟨k, q⟩ w9 ⟨hk2, H9⟩
    show WC _ _ _ _ _ [(3, q)] _
    refine WC.seq ?_
    refine WC.region ?_
    refine WL.op rfl rfl (op_move rfl ?_)
    refine WL.op rfl rfl (op_assign rfl ?_)
    refine WL.nil ?_
    refine WQ.next ?_
    refine WC.ret ?_
    refine WQ.out (.tmp rfl .nil) ?_
    have hL : (if rMay pg xs ps en sg then pagesTo sg sg.length else []) = pagesTo sg k := by
      rcases hk2 with ⟨h1, h2⟩ | ⟨h1, h2⟩
      · subst h1; rcases h2 with h2 | h2
        · rw [h2, pagesTo]; split <;> rfl
        · rw [h2]; rfl
      · rw [h2, h1]; rfl
    rw [hL]
    exact ⟨_, rfl, H9.sel [1] rfl rfl⟩
end Go.Proofs.Ytpnghdalnghpcaa
/-! from WImg8 -/
namespace Go.Proofs.Ytpnghdalnghpcaa
open Go.Owl Go.Spec
set_option maxRecDepth 100000 in
theorem ipgs_ok (pg : UInt32) (ev pv sv : Value) (xs : List Xt) (ps : List UInt16) (con : Bool) (en : UInt32) (sg : List Sg) (w : World) (hE : Arr w ev 2 xs.length (List.flatMap xtc xs)) (hP : Arr w pv 1 ps.length (List.map vU16 ps)) (hS : Arr w sv 3 sg.length (List.flatMap sgc sg)) (hn : xs.length < 2 ^ 47) (hm : ps.length < 2 ^ 47) (hk : sg.length < 2 ^ 47) (hB : ∀ x ∈ sg, x.b.length ≤ 2 ^ 30) (hs : sg.length ≤ 2 ^ 20) :
    Calls Try.prog 42 #[(.agg #[(vU32 pg), ev, pv, (.bool con), (vU32 en), sv])] w (fun e w' => ∃ v, e = .returned v ∧ Own [] w w' [.row v 22 1 (if imE pg xs ps en sg = 0 then pagesTo sg sg.length else []).length (List.map vU32 (if imE pg xs ps en sg = 0 then pagesTo sg sg.length else []))]) := by
  refine enter (args := [(.agg #[(vU32 pg), ev, pv, (.bool con), (vU32 en), sv])]) Try.func42 rfl rfl ?_
  have H0 : Own [] w w [] := Own.start w []
  refine WC.seq ?_
  refine WC.region ?_
  refine WL.op rfl rfl (op_box H0 rfl rfl (fun b1 w1 H1 => ?_))
  refine WL.op rfl rfl (op_assign rfl ?_)
  have H2 := H1.nilRow 22 1
  refine WL.nil ?_
  refine WQ.next ?_
  refine WC.seq ?_
  refine WC.seq ?_
  refine WC.region ?_
  refine WL.op rfl rfl (op_loadS (vs := [_, _, _, _, _, _]) rfl (H2.cells (i := 0) rfl rfl) Try.underlying59 rfl Fa.I59 rfl ?_)
  refine WL.op rfl rfl (op_callF Fa.C40 rfl ((icheck_ok pg _ _ _ xs ps con en sg _ (H2.arr hE) (H2.arr hP) (H2.arr hS) (by omega) (by omega) (by omega)).mono (fun e w3 hq => ?_)))
  obtain ⟨rfl, hf3⟩ := hq
  refine ⟨_, rfl, ?_⟩
  have H3 := H2.fr' hf3
  refine WL.op rfl rfl (op_neqN (b := 0) rfl rfl ?_)
  refine WL.nil ?_
  refine WQ.next ?_
  refine WC.cond rfl (fun (hb4 : (decide ((imE pg xs ps en sg) ≠ 0)) = true) => ?_) (fun (hb4 : (decide ((imE pg xs ps en sg) ≠ 0)) = false) => ?_)
  ·
    have hc4 := of_decide_eq_true hb4
    refine WC.seq ?_
    refine WC.region ?_
    refine WL.op rfl rfl (op_assign rfl ?_)
    refine WL.nil ?_
    refine WQ.next ?_
    refine WC.ret ?_
    refine WQ.thenRet ?_
    refine WQ.out (.tmp rfl .nil) ?_
    rw [if_neg hc4]
    exact ⟨_, rfl, (H3.nilRow 22 1).sel [2] rfl rfl⟩
  ·
    have hc4 := of_decide_eq_false hb4
    have him : imE pg xs ps en sg = 0 := Decidable.not_not.mp hc4
    refine WC.skip ?_
    refine WQ.next ?_
    refine WC.seq ?_
    refine WC.seq ?_
    refine WC.region ?_
    refine WL.op rfl rfl (op_fieldAddr rfl Fa.F59_2 ?_)
    refine WL.op rfl rfl (op_load rfl (H3.cell (i := 0) rfl rfl) Try.underlying57 rfl ?_)
    refine WL.op rfl rfl (op_lenA Try.underlying57 rfl (H3.arr hS) ?_)
    refine WL.op rfl rfl (op_move rfl ?_)
    refine WL.nil ?_
    refine WQ.next ?_
    refine WC.block ?_
    refine WC.loop (α := Nat × Value) (fun (k, q) => [(1, (ptr b1 0)), (2, q), (10, sv), (11, (vN sg.length)), (12, (vN k))]) (fun (k, q) w' => (k ≤ sg.length) ∧ Own [] w w' [.blk b1 [(vU32 pg), ev, pv, (.bool con), (vU32 en), sv] 59, .row q 22 1 (pagesTo sg k).length (List.map vU32 (pagesTo sg k))]) (fun (k, q) => sg.length - k) (0, (.slice none 0 0)) ⟨Nat.zero_le _, H3⟩ ⟨rfl, rfl, rfl, rfl, rfl, trivial⟩ ?_
    rintro ⟨k, q⟩ w5 ⟨hk1, H5⟩
    show WC _ _ _ _ _ [(1, (ptr b1 0)), (2, q), (10, sv), (11, (vN sg.length)), (12, (vN k))] _
    have hpl := pagesTo_len hB k
    have hgb := getS_mem hB k
    have hpg : pgN (sg.getD k Sg.zero) = ((sg.getD k Sg.zero).b.length + 255) / 256 := rfl
    refine WC.seq ?_
    refine WC.region ?_
    refine WL.op rfl rfl (op_lssN rfl rfl ?_)
    refine WL.nil ?_
    refine WQ.next ?_
    refine WC.seq ?_
    refine WC.cond rfl (fun (hb6 : (decide (k < sg.length)) = true) => ?_) (fun (hb6 : (decide (k < sg.length)) = false) => ?_)
    ·
      have hc6 := of_decide_eq_true hb6
      refine WC.skip ?_
      refine WQ.next ?_
      refine WC.seq ?_
      refine WC.block ?_
      refine WC.seq ?_
      refine WC.region ?_
      refine WL.op rfl rfl (op_indexAddr Try.underlying57 Fa.I111 rfl (H5.arr hS) rfl (by omega) ?_)
      refine WL.op rfl rfl (op_loadSP (vs := sgc (sg.getD k Sg.zero)) rfl (Arr.atsF (H5.arr hS) (fun _ => rfl) (by decide) Sg.zero (by omega)) Try.underlying111 rfl Fa.I111 rfl ?_)
      refine WL.op rfl rfl (op_alloc H5 Fa.I111 (fun b7 w7 H7 => ?_))
      refine WL.op rfl rfl (op_storeBW (i := 2) H7 rfl rfl rfl rfl rfl Fa.I111 (fun w8 H8 => ?_))
      refine WL.nil ?_
      refine WQ.next ?_
      refine WC.seq ?_
      refine WC.region ?_
      refine WL.op rfl rfl (op_fieldAddr rfl Fa.F111_0 ?_)
      refine WL.op rfl rfl (op_load rfl (H8.cell (i := 2) rfl rfl) Try.underlying22 rfl ?_)
      refine WL.op rfl rfl (op_convU32U64 (hs := Try.underlying22) (hd := Try.underlying116) rfl ?_)
      refine WL.op rfl rfl (op_assign rfl ?_)
      refine WL.nil ?_
      refine WQ.next ?_
      refine WC.block ?_
      refine WC.loop (α := Nat × Value) (fun (j, r) => [(1, (ptr b1 0)), (2, r), (4, (ptr b7 0)), (5, (vU64 (UInt64.ofNat ((sg.getD k Sg.zero).a.toNat + 256 * j)))), (10, sv), (11, (vN sg.length)), (12, (vN k))]) (fun (j, r) w' => (j ≤ pgN (sg.getD k Sg.zero)) ∧ Own [] w w' [.blk b1 [(vU32 pg), ev, pv, (.bool con), (vU32 en), sv] 59, .row r 22 1 (pagesTo sg k ++ pgL (sg.getD k Sg.zero) j).length (List.map vU32 (pagesTo sg k ++ pgL (sg.getD k Sg.zero) j)), .blk b7 [(vU32 (sg.getD k Sg.zero).a), (vU8 (sg.getD k Sg.zero).p), (str (sg.getD k Sg.zero).b)] 111]) (fun (j, r) => pgN (sg.getD k Sg.zero) - j) (0, q) ⟨Nat.zero_le _, (Own.rowEqN (i := 1) (f := vU32) H8 rfl (List.append_nil _).symm (congrArg List.length (List.append_nil _).symm))⟩ ⟨rfl, rfl, rfl, rfl, rfl, rfl, rfl, trivial⟩ ?_
      rintro ⟨j, r⟩ w9 ⟨hj1, H9⟩
      show WC _ _ _ _ _ [(1, (ptr b1 0)), (2, r), (4, (ptr b7 0)), (5, (vU64 (UInt64.ofNat ((sg.getD k Sg.zero).a.toNat + 256 * j)))), (10, sv), (11, (vN sg.length)), (12, (vN k))] _
      have hnb := im_all him k (by omega)
      have hlt := pg_lt hnb (by omega) hj1
      have hpj : (pagesTo sg k ++ pgL (sg.getD k Sg.zero) j).length = (pagesTo sg k).length + j := by rw [List.length_append, pgL_len]
      have hal := (sg.getD k Sg.zero).a.toNat_lt
      refine WC.seq ?_
      refine WC.seq ?_
      refine WC.region ?_
      refine WL.op rfl rfl (op_move rfl ?_)
      refine WL.op rfl rfl (op_loadS (vs := [_, _, _]) rfl (H9.cells (i := 2) rfl rfl) Try.underlying111 rfl Fa.I111 rfl ?_)
      refine WL.op rfl rfl (op_callF Fa.C84 rfl ((send_ok (sg.getD k Sg.zero) _).mono (fun e w10 hq => ?_)))
      obtain ⟨rfl, hf10⟩ := hq
      refine ⟨_, rfl, ?_⟩
      have H10 := H9.fr' hf10
      refine WL.op rfl rfl (op_lssU64 rfl rfl ?_)
      refine WL.nil ?_
      refine WQ.next ?_
      refine WC.cond rfl (fun (hb11 : (decide ((UInt64.ofNat ((sg.getD k Sg.zero).a.toNat + 256 * j)) < (sgEnd (sg.getD k Sg.zero)))) = true) => ?_) (fun (hb11 : (decide ((UInt64.ofNat ((sg.getD k Sg.zero).a.toNat + 256 * j)) < (sgEnd (sg.getD k Sg.zero)))) = false) => ?_)
      ·
        have hc11 := of_decide_eq_true hb11
        refine WC.skip ?_
        refine WQ.next ?_
        refine WC.seq ?_
        refine WC.block ?_
        refine WC.region ?_
        refine WL.op rfl rfl (op_move rfl ?_)
        refine WL.op rfl rfl (op_move rfl ?_)
        refine WL.op rfl rfl (op_convU64U32 (hs := Try.underlying116) (hd := Try.underlying22) rfl ?_)
        refine WL.op rfl rfl (op_buildSlice (cs := [_]) H10 Try.underlying64 Fa.I22 rfl rfl rfl rfl (by decide) (by decide) (fun b12 w12 H12 => ?_))
        refine WL.op rfl rfl (op_appendM (f := vU32) (l := (pagesTo sg k ++ pgL (sg.getD k Sg.zero) j)) (l' := [(UInt32.ofNat (UInt64.ofNat ((sg.getD k Sg.zero).a.toNat + 256 * j)).toNat)]) (i := 1) H12 Try.underlying64 Fa.I22 rfl rfl rfl rfl (Src.ofArr Try.underlying64 (H12.arrR (i := 3) rfl)) (one_mapM (fun _ => rfl)) (by omega) (by omega) (fun v13 w13 H13 => ?_))
        refine WL.op rfl rfl (op_assign rfl ?_)
        refine WL.nil ?_
        refine WQ.inNormal ?_
        refine WQ.next ?_
        refine WC.region ?_
        refine WL.op rfl rfl (op_move rfl ?_)
        refine WL.op rfl rfl (op_addU64 (b := 256) rfl rfl ?_)
        refine WL.op rfl rfl (op_assign rfl ?_)
        refine WL.nil ?_
        exact WQ.round (j + 1, v13) ⟨(by have := hlt.1 hc11; omega), (Own.rowEqN (i := 1) (f := vU32) (show Own [] w w13 [.blk b1 [(vU32 pg), ev, pv, (.bool con), (vU32 en), sv] 59, .row v13 22 1 ((pagesTo sg k ++ pgL (sg.getD k Sg.zero) j).length + 1) (List.map vU32 ((pagesTo sg k ++ pgL (sg.getD k Sg.zero) j) ++ [(UInt32.ofNat (UInt64.ofNat ((sg.getD k Sg.zero).a.toNat + 256 * j)).toNat)])), .blk b7 [(vU32 (sg.getD k Sg.zero).a), (vU8 (sg.getD k Sg.zero).p), (str (sg.getD k Sg.zero).b)] 111] from (H13.take 3)) rfl (by rw [pg_u32 (by omega), List.append_assoc]; rfl) (by simp only [List.length_append, pgL_len, List.length_cons, List.length_nil]; omega))⟩ ⟨rfl, rfl, rfl, (congrArg (fun n => some (vU64 n)) (pg_add _ _)), rfl, rfl, rfl, trivial⟩ (by have := hlt.1 hc11; show pgN (sg.getD k Sg.zero) - (j + 1) < pgN (sg.getD k Sg.zero) - j; omega)
      ·
        have hc11 := of_decide_eq_false hb11
        have hjn : ¬ 256 * j < (sg.getD k Sg.zero).b.length := fun h => hc11 (hlt.2 h)
        refine WC.exit ?_
        refine WQ.thenExit ?_
        refine WQ.thenExit ?_
        refine WQ.inHere ?_
        refine WQ.inNormal ?_
        refine WQ.next ?_
        refine WC.region ?_
        refine WL.op rfl rfl (op_addN (b := 1) rfl rfl (by omega) ?_)
        refine WL.op rfl rfl (op_move rfl ?_)
        refine WL.nil ?_
        have hje : j = pgN (sg.getD k Sg.zero) := by omega
        exact WQ.round (k + 1, r) ⟨(by omega), (by have h := (show Own [] w w10 [.blk b1 [(vU32 pg), ev, pv, (.bool con), (vU32 en), sv] 59, .row r 22 1 (pagesTo sg k ++ pgL (sg.getD k Sg.zero) j).length (List.map vU32 (pagesTo sg k ++ pgL (sg.getD k Sg.zero) j))] from (H10.take 2)); rw [hje] at h; exact Own.rowEqN (i := 1) (f := vU32) h rfl rfl (by rw [pagesTo]))⟩ ⟨rfl, rfl, rfl, rfl, rfl, trivial⟩ (by show sg.length - (k + 1) < sg.length - k; omega)
    ·
      have hc6 := of_decide_eq_false hb6
      refine WC.exit ?_
      refine WQ.thenExit ?_
      refine WQ.thenExit ?_
      refine WQ.inHere ?_
      refine WQ.next ?_
      refine WC.seq ?_
      refine WC.region ?_
      refine WL.op rfl rfl (op_move rfl ?_)
      refine WL.op rfl rfl (op_assign rfl ?_)
      refine WL.nil ?_
      refine WQ.next ?_
      refine WC.ret ?_
      refine WQ.out (.tmp rfl .nil) ?_
      obtain rfl : k = sg.length := by omega
      rw [if_pos him]
      exact ⟨_, rfl, H5.sel [1] rfl rfl⟩
end Go.Proofs.Ytpnghdalnghpcaa
