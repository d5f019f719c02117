/- General lemmas and walks: WActs, WActs2, WSha, WSha2. No condition but what each theorem names. -/
import Derived.Test.YtpnghdalnghpcaaQddb921a6
import Derived.Test.YtpnghdalnghpcaaQ5598486a
import Derived.Test.YtpnghdalnghpcaaQd866fd4e
/-! from WActs -/
namespace Go.Proofs.Ytpnghdalnghpcaa
open Go.Owl Go.Spec
set_option maxRecDepth 100000 in
theorem fits_ok (n : Int) (w : World) :
    Calls Try.prog 129 #[(vI n)] w (fun e w' => e = .returned (.bool (decide (w32 n = n))) ∧ Fr [] w w') := by
  refine enter (args := [(vI n)]) Try.func129 rfl rfl ?_
  have H0 : Own [] w w [] := Own.start w []
  refine WC.seq ?_
  refine WC.region ?_
  refine WL.op rfl rfl (op_assign rfl ?_)
  refine WL.nil ?_
  refine WQ.next ?_
  refine WC.seq ?_
  refine WC.region ?_
  refine WL.op rfl rfl (op_move rfl ?_)
  refine WL.op rfl rfl (op_convII32 Try.underlying3 Try.underlying21 rfl ?_)
  refine WL.op rfl rfl (op_convI32I Try.underlying21 Try.underlying3 rfl ?_)
  refine WL.op rfl rfl (op_move rfl ?_)
  refine WL.op rfl rfl (op_eqlI rfl rfl ?_)
  refine WL.op rfl rfl (op_assign rfl ?_)
  refine WL.nil ?_
  refine WQ.next ?_
  refine WC.ret ?_
  refine WQ.out (.tmp rfl .nil) ?_
  exact ⟨rfl, H0.fr⟩
set_option maxRecDepth 100000 in
theorem rfits_ok (n : Int) (w : World) :
    Calls Try.prog 130 #[(vI n)] w (fun e w' => e = .returned (.bool (decide (w32 n = n))) ∧ Fr [] w w') := by
  refine enter (args := [(vI n)]) Try.func130 rfl rfl ?_
  have H0 : Own [] w w [] := Own.start w []
  refine WC.seq ?_
  refine WC.region ?_
  refine WL.op rfl rfl (op_assign rfl ?_)
  refine WL.nil ?_
  refine WQ.next ?_
  refine WC.seq ?_
  refine WC.region ?_
  refine WL.op rfl rfl (op_move rfl ?_)
  refine WL.op rfl rfl (op_geqI (b := (-2147483648)) rfl rfl ?_)
  refine WL.op rfl rfl (op_move rfl ?_)
  refine WL.split (t := 5) rfl (fun (hb1 : (decide (n ≥ (-2147483648))) = true) => ?_) (fun (hb1 : (decide (n ≥ (-2147483648))) = false) => ?_)
  ·
    have hc1 := of_decide_eq_true hb1
    refine WL.yes rfl rfl rfl hb1 rfl (op_move rfl ?_)
    refine WL.yes rfl rfl rfl hb1 rfl (op_lssI (b := (2147483648 : Int)) rfl rfl ?_)
    refine WL.op rfl rfl (op_pickT rfl hb1 rfl ?_)
    refine WL.op rfl rfl (op_assign rfl ?_)
    refine WL.nil ?_
    refine WQ.next ?_
    refine WC.ret ?_
    refine WQ.out (.tmp rfl .nil) ?_
    exact ⟨by rw [fits_dec n hc1]; rfl, H0.fr⟩
  ·
    have hc1 := of_decide_eq_false hb1
    refine WL.no rfl rfl rfl hb1 rfl ?_
    refine WL.no rfl rfl rfl hb1 rfl ?_
    refine WL.op rfl rfl (op_pickF rfl hb1 rfl ?_)
    refine WL.op rfl rfl (op_assign rfl ?_)
    refine WL.nil ?_
    refine WQ.next ?_
    refine WC.ret ?_
    refine WQ.out (.tmp rfl .nil) ?_
    exact ⟨by rw [fits_no n hc1]; rfl, H0.fr⟩
set_option maxRecDepth 100000 in
theorem atext_ok (a : Ac) (w : World) :
    Calls Try.prog 99 #[(.agg #[(vU8 a.d), (vI a.n), (vI a.m), (str a.t)])] w (fun e w' => e = .returned (.tuple #[str (actS a), vN (actE a)]) ∧ Fr [] w w') := by
  refine enter (args := [(.agg #[(vU8 a.d), (vI a.n), (vI a.m), (str a.t)])]) Try.func99 rfl rfl ?_
  have H0 : Own [] w w [] := Own.start w []
  refine WC.seq ?_
  refine WC.region ?_
  refine WL.op rfl rfl (op_box H0 rfl rfl (fun b1 w1 H1 => ?_))
  refine WL.op rfl rfl (op_assign rfl ?_)
  refine WL.op rfl rfl (op_assign rfl ?_)
  refine WL.nil ?_
  refine WQ.next ?_
  refine WC.seq ?_
  refine WC.seq ?_
  refine WC.region ?_
  refine WL.op rfl rfl (op_fieldAddr rfl Fa.F143_1 ?_)
  refine WL.op rfl rfl (op_load rfl (H1.cell (i := 0) rfl rfl) Try.underlying3 rfl ?_)
  refine WL.op rfl rfl (op_callF Fa.C129 rfl ((fits_ok a.n _).mono (fun e w2 hq => ?_)))
  obtain ⟨rfl, hf2⟩ := hq
  refine ⟨_, rfl, ?_⟩
  have H2 := H1.fr' hf2
  refine WL.op rfl rfl (op_not rfl ?_)
  refine WL.op rfl rfl (op_move rfl ?_)
  refine WL.split (t := 15) rfl (fun (hb3 : (!(decide (w32 a.n = a.n))) = true) => ?_) (fun (hb3 : (!(decide (w32 a.n = a.n))) = false) => ?_)
  ·
    have hn3 := (Bool.not_eq_true' _).mp hb3
    refine WL.no rfl rfl rfl hb3 rfl ?_
    refine WL.no rfl rfl rfl hb3 rfl ?_
    refine WL.no rfl rfl rfl hb3 rfl ?_
    refine WL.no rfl rfl rfl hb3 rfl ?_
    refine WL.op rfl rfl (op_pickT rfl hb3 rfl ?_)
    refine WL.op rfl rfl (op_move rfl ?_)
    refine WL.no rfl rfl rfl rfl rfl ?_
    refine WL.no rfl rfl rfl rfl rfl ?_
    refine WL.no rfl rfl rfl rfl rfl ?_
    refine WL.no rfl rfl rfl rfl rfl ?_
    refine WL.op rfl rfl (op_pickT rfl rfl rfl ?_)
    refine WL.nil ?_
    refine WQ.next ?_
    refine WC.yes rfl rfl ?_
    refine WC.seq ?_
    refine WC.region ?_
    refine WL.op rfl rfl (op_assign rfl ?_)
    refine WL.op rfl rfl (op_assign rfl ?_)
    refine WL.nil ?_
    refine WQ.next ?_
    refine WC.ret ?_
    refine WQ.thenRet ?_
    refine WQ.out (.tmp rfl (.tmp rfl .nil)) ?_
    have hE : actE a = 2 := actE_2 (fun h => by have h0 := actE_0 h; first | omega | simp_all)
    rw [actS, hE, if_neg (by decide)]
    exact ⟨rfl, H2.fr⟩
  ·
    have hn3 := (Bool.not_eq_false' _).mp hb3
    refine WL.yes rfl rfl rfl hb3 rfl (op_fieldAddr rfl Fa.F143_2 ?_)
    refine WL.yes rfl rfl rfl hb3 rfl (op_load rfl (H2.cell (i := 0) rfl rfl) Try.underlying3 rfl ?_)
    refine WL.yes rfl rfl rfl hb3 rfl (op_callF Fa.C129 rfl ((fits_ok a.m _).mono (fun e w4 hq => ?_)))
    obtain ⟨rfl, hf4⟩ := hq
    refine ⟨_, rfl, ?_⟩
    have H4 := H2.fr' hf4
    refine WL.yes rfl rfl rfl hb3 rfl (op_not rfl ?_)
    refine WL.op rfl rfl (op_pickF rfl hb3 rfl ?_)
    refine WL.op rfl rfl (op_move rfl ?_)
    refine WL.split (t := 21) rfl (fun (hb5 : (!(decide (w32 a.m = a.m))) = true) => ?_) (fun (hb5 : (!(decide (w32 a.m = a.m))) = false) => ?_)
    ·
      have hn5 := (Bool.not_eq_true' _).mp hb5
      refine WL.no rfl rfl rfl hb5 rfl ?_
      refine WL.no rfl rfl rfl hb5 rfl ?_
      refine WL.no rfl rfl rfl hb5 rfl ?_
      refine WL.no rfl rfl rfl hb5 rfl ?_
      refine WL.op rfl rfl (op_pickT rfl hb5 rfl ?_)
      refine WL.nil ?_
      refine WQ.next ?_
      refine WC.yes rfl rfl ?_
      refine WC.seq ?_
      refine WC.region ?_
      refine WL.op rfl rfl (op_assign rfl ?_)
      refine WL.op rfl rfl (op_assign rfl ?_)
      refine WL.nil ?_
      refine WQ.next ?_
      refine WC.ret ?_
      refine WQ.thenRet ?_
      refine WQ.out (.tmp rfl (.tmp rfl .nil)) ?_
      have hE : actE a = 2 := actE_2 (fun h => by have h0 := actE_0 h; first | omega | simp_all)
      rw [actS, hE, if_neg (by decide)]
      exact ⟨rfl, H4.fr⟩
    ·
      have hn5 := (Bool.not_eq_false' _).mp hb5
      refine WL.yes rfl rfl rfl hb5 rfl (op_fieldAddr rfl Fa.F143_3 ?_)
      refine WL.yes rfl rfl rfl hb5 rfl (op_load rfl (H4.cell (i := 0) rfl rfl) Try.underlying9 rfl ?_)
      refine WL.yes rfl rfl rfl hb5 rfl (op_lenStr Try.underlying9 rfl ?_)
      refine WL.yes rfl rfl rfl hb5 rfl (op_gtrN (b := 65519) rfl rfl ?_)
      refine WL.op rfl rfl (op_pickF rfl hb5 rfl ?_)
      refine WL.nil ?_
      refine WQ.next ?_
      refine WC.cond rfl (fun (hb6 : (decide (a.t.length > 65519)) = true) => ?_) (fun (hb6 : (decide (a.t.length > 65519)) = false) => ?_)
      ·
        have hc6 := of_decide_eq_true hb6
        refine WC.seq ?_
        refine WC.region ?_
        refine WL.op rfl rfl (op_assign rfl ?_)
        refine WL.op rfl rfl (op_assign rfl ?_)
        refine WL.nil ?_
        refine WQ.next ?_
        refine WC.ret ?_
        refine WQ.thenRet ?_
        refine WQ.out (.tmp rfl (.tmp rfl .nil)) ?_
        have hE : actE a = 2 := actE_2 (fun h => by have h0 := actE_0 h; first | omega | simp_all)
        rw [actS, hE, if_neg (by decide)]
        exact ⟨rfl, H4.fr⟩
      ·
        have hc6 := of_decide_eq_false hb6
        refine WC.skip ?_
        refine WQ.next ?_
        refine WC.seq ?_
        refine WC.region ?_
        refine WL.op rfl rfl (op_fieldAddr rfl Fa.F143_0 ?_)
        refine WL.op rfl rfl (op_load rfl (H4.cell (i := 0) rfl rfl) Try.underlying5 rfl ?_)
        refine WL.op rfl rfl (op_buildSlice (cs := [_]) H4 Try.underlying73 Fa.I5 rfl rfl rfl rfl (by decide) (by decide) (fun b7 w7 H7 => ?_))
        refine WL.op rfl rfl (op_bytesStr (l := [a.d]) Try.underlying73 Try.underlying5 Try.underlying9 rfl (H7.arrR (i := 1) rfl) rfl ?_)
        refine WL.op rfl rfl (op_assign rfl ?_)
        refine WL.nil ?_
        refine WQ.next ?_
        refine WC.seq ?_
        refine WC.seq ?_
        refine WC.region ?_
        refine WL.op rfl rfl (op_fieldAddr rfl Fa.F143_1 ?_)
        refine WL.op rfl rfl (op_load rfl (H7.cell (i := 0) rfl rfl) Try.underlying3 rfl ?_)
        refine WL.op rfl rfl (op_fieldAddr rfl Fa.F143_2 ?_)
        refine WL.op rfl rfl (op_load rfl (H7.cell (i := 0) rfl rfl) Try.underlying3 rfl ?_)
        refine WL.op rfl rfl (op_buildA (cs := [_, _]) Fa.I180 Try.underlying180 Fa.I3 rfl rfl ?_)
        refine WL.op rfl rfl (op_move rfl ?_)
        refine WL.nil ?_
        refine WQ.next ?_
        refine WC.block ?_
        refine WC.loop (α := Nat) (fun k => [(1, (ptr b1 0)), (35, (.agg #[(vI a.n), (vI a.m)])), (4, (str (actTo a k))), (36, (vN k))]) (fun k w' => (k ≤ 2) ∧ Own [] w w' [.blk b1 [(vU8 a.d), (vI a.n), (vI a.m), (str a.t)] 143, .row (.slice (some ⟨b7, 0, none⟩) 1 1) 5 1 1 (List.map vU8 [a.d])]) (fun k => 2 - k) 0 ⟨(by omega), H7⟩ ⟨rfl, rfl, rfl, rfl, trivial⟩ ?_
        rintro k w8 ⟨hinv, H8⟩
        show WC _ _ _ _ _ [(1, (ptr b1 0)), (35, (.agg #[(vI a.n), (vI a.m)])), (4, (str (actTo a k))), (36, (vN k))] _
        refine WC.seq ?_
        refine WC.region ?_
        refine WL.op rfl rfl (op_lssN (b := 2) rfl rfl ?_)
        refine WL.nil ?_
        refine WQ.next ?_
        refine WC.seq ?_
        refine WC.cond rfl (fun (hb9 : (decide (k < 2)) = true) => ?_) (fun (hb9 : (decide (k < 2)) = false) => ?_)
        ·
          have hc9 := of_decide_eq_true hb9
          refine WC.skip ?_
          refine WQ.next ?_
          refine WC.seq ?_
          refine WC.block ?_
          refine WC.seq ?_
          refine WC.region ?_
          refine WL.op rfl rfl (op_indexA1 (cs := _) Try.underlying180 Fa.I3 Try.underlying3 rfl rfl rfl (by omega) (nm_get a (by omega)) ?_)
          refine WL.op rfl rfl (op_assign rfl ?_)
          refine WL.nil ?_
          refine WQ.next ?_
          refine WC.seq ?_
          refine WC.region ?_
          refine WL.op rfl rfl (op_move rfl ?_)
          refine WL.op rfl rfl (op_convIU32 Try.underlying3 Try.underlying22 rfl ?_)
          refine WL.op rfl rfl (op_callF Fa.C17 rfl ((num_ok (u32I (a.nm k)) (4) _).mono (fun e w10 hq => ?_)))
          obtain ⟨rfl, hf10⟩ := hq
          refine ⟨_, rfl, ?_⟩
          have H10 := H8.fr' hf10
          refine WL.op rfl rfl (op_move rfl ?_)
          refine WL.op rfl rfl (op_extract rfl rfl ?_)
          refine WL.op rfl rfl (op_extract rfl rfl ?_)
          refine WL.op rfl rfl (op_assign rfl ?_)
          refine WL.op rfl rfl (op_assign rfl ?_)
          refine WL.nil ?_
          refine WQ.next ?_
          refine WC.region ?_
          refine WL.op rfl rfl (op_move rfl ?_)
          refine WL.op rfl rfl (op_move rfl ?_)
          refine WL.op rfl rfl (op_addStr rfl rfl (by have := actTo_len a k; have := numE_len (u32I (a.nm k)) 4; omega) ?_)
          refine WL.op rfl rfl (op_assign rfl ?_)
          refine WL.nil ?_
          refine WQ.inNormal ?_
          refine WQ.next ?_
          refine WC.region ?_
          refine WL.op rfl rfl (op_addN (b := 1) rfl rfl (by omega) ?_)
          refine WL.op rfl rfl (op_move rfl ?_)
          refine WL.nil ?_
          exact WQ.round (k + 1) ⟨(by omega), H10⟩ ⟨rfl, rfl, rfl, rfl, trivial⟩ (by omega)
        ·
          have hc9 := of_decide_eq_false hb9
          refine WC.exit ?_
          refine WQ.thenExit ?_
          refine WQ.thenExit ?_
          refine WQ.inHere ?_
          refine WQ.next ?_
          refine WC.seq ?_
          refine WC.region ?_
          refine WL.op rfl rfl (op_fieldAddr rfl Fa.F143_3 ?_)
          refine WL.op rfl rfl (op_load rfl (H8.cell (i := 0) rfl rfl) Try.underlying9 rfl ?_)
          refine WL.op rfl rfl (op_callF Fa.C19 rfl ((ptext_ok a.t _ (by omega)).mono (fun e w11 hq => ?_)))
          obtain ⟨rfl, hf11⟩ := hq
          refine ⟨_, rfl, ?_⟩
          have H11 := H8.fr' hf11
          refine WL.op rfl rfl (op_move rfl ?_)
          refine WL.op rfl rfl (op_extract rfl rfl ?_)
          refine WL.op rfl rfl (op_extract rfl rfl ?_)
          refine WL.op rfl rfl (op_assign rfl ?_)
          refine WL.op rfl rfl (op_assign rfl ?_)
          refine WL.nil ?_
          refine WQ.next ?_
          refine WC.seq ?_
          refine WC.region ?_
          refine WL.op rfl rfl (op_move rfl ?_)
          refine WL.op rfl rfl (op_move rfl ?_)
          refine WL.op rfl rfl (op_addStr rfl rfl (by have := actTo_len a k; have := txS_len a.t; omega) ?_)
          refine WL.op rfl rfl (op_move rfl ?_)
          refine WL.op rfl rfl (op_assign rfl ?_)
          refine WL.op rfl rfl (op_assign rfl ?_)
          refine WL.nil ?_
          refine WQ.next ?_
          refine WC.ret ?_
          refine WQ.out (.tmp rfl (.tmp rfl .nil)) ?_
          have hE : actE a = 0 := by rw [actE, if_pos ⟨by first | assumption | simp_all, by first | assumption | simp_all, by omega⟩]
          rw [actS, hE, if_pos rfl]
          exact ⟨by first | rfl | (have hk : k = 2 := (by omega); subst hk; rw [show txE a.t = 0 from by rw [txE, if_neg (by omega)]]; rfl), H11.fr⟩
set_option maxRecDepth 100000 in
theorem ratext_ok (a : Ac) (w : World) :
    Calls Try.prog 103 #[(.agg #[(vU8 a.d), (vI a.n), (vI a.m), (str a.t)])] w (fun e w' => e = .returned (.tuple #[str (actS a), vN (actE a)]) ∧ Fr [] w w') := by
  refine enter (args := [(.agg #[(vU8 a.d), (vI a.n), (vI a.m), (str a.t)])]) Try.func103 rfl rfl ?_
  have H0 : Own [] w w [] := Own.start w []
  refine WC.seq ?_
  refine WC.region ?_
  refine WL.op rfl rfl (op_box H0 rfl rfl (fun b1 w1 H1 => ?_))
  refine WL.op rfl rfl (op_assign rfl ?_)
  refine WL.op rfl rfl (op_assign rfl ?_)
  refine WL.nil ?_
  refine WQ.next ?_
  refine WC.seq ?_
  refine WC.seq ?_
  refine WC.region ?_
  refine WL.op rfl rfl (op_fieldAddr rfl Fa.F143_1 ?_)
  refine WL.op rfl rfl (op_load rfl (H1.cell (i := 0) rfl rfl) Try.underlying3 rfl ?_)
  refine WL.op rfl rfl (op_callF Fa.C130 rfl ((rfits_ok a.n _).mono (fun e w2 hq => ?_)))
  obtain ⟨rfl, hf2⟩ := hq
  refine ⟨_, rfl, ?_⟩
  have H2 := H1.fr' hf2
  refine WL.op rfl rfl (op_not rfl ?_)
  refine WL.op rfl rfl (op_move rfl ?_)
  refine WL.split (t := 16) rfl (fun (hb3 : (!(decide (w32 a.n = a.n))) = true) => ?_) (fun (hb3 : (!(decide (w32 a.n = a.n))) = false) => ?_)
  ·
    have hn3 := (Bool.not_eq_true' _).mp hb3
    refine WL.no rfl rfl rfl hb3 rfl ?_
    refine WL.no rfl rfl rfl hb3 rfl ?_
    refine WL.no rfl rfl rfl hb3 rfl ?_
    refine WL.no rfl rfl rfl hb3 rfl ?_
    refine WL.op rfl rfl (op_pickT rfl hb3 rfl ?_)
    refine WL.op rfl rfl (op_move rfl ?_)
    refine WL.no rfl rfl rfl rfl rfl ?_
    refine WL.no rfl rfl rfl rfl rfl ?_
    refine WL.no rfl rfl rfl rfl rfl ?_
    refine WL.no rfl rfl rfl rfl rfl ?_
    refine WL.op rfl rfl (op_pickT rfl rfl rfl ?_)
    refine WL.nil ?_
    refine WQ.next ?_
    refine WC.yes rfl rfl ?_
    refine WC.seq ?_
    refine WC.region ?_
    refine WL.op rfl rfl (op_assign rfl ?_)
    refine WL.op rfl rfl (op_assign rfl ?_)
    refine WL.nil ?_
    refine WQ.next ?_
    refine WC.ret ?_
    refine WQ.thenRet ?_
    refine WQ.out (.tmp rfl (.tmp rfl .nil)) ?_
    have hE : actE a = 2 := actE_2 (fun h => by have h0 := actE_0 h; first | omega | simp_all)
    rw [actS, hE, if_neg (by decide)]
    exact ⟨rfl, H2.fr⟩
  ·
    have hn3 := (Bool.not_eq_false' _).mp hb3
    refine WL.yes rfl rfl rfl hb3 rfl (op_fieldAddr rfl Fa.F143_2 ?_)
    refine WL.yes rfl rfl rfl hb3 rfl (op_load rfl (H2.cell (i := 0) rfl rfl) Try.underlying3 rfl ?_)
    refine WL.yes rfl rfl rfl hb3 rfl (op_callF Fa.C130 rfl ((rfits_ok a.m _).mono (fun e w4 hq => ?_)))
    obtain ⟨rfl, hf4⟩ := hq
    refine ⟨_, rfl, ?_⟩
    have H4 := H2.fr' hf4
    refine WL.yes rfl rfl rfl hb3 rfl (op_not rfl ?_)
    refine WL.op rfl rfl (op_pickF rfl hb3 rfl ?_)
    refine WL.op rfl rfl (op_move rfl ?_)
    refine WL.split (t := 22) rfl (fun (hb5 : (!(decide (w32 a.m = a.m))) = true) => ?_) (fun (hb5 : (!(decide (w32 a.m = a.m))) = false) => ?_)
    ·
      have hn5 := (Bool.not_eq_true' _).mp hb5
      refine WL.no rfl rfl rfl hb5 rfl ?_
      refine WL.no rfl rfl rfl hb5 rfl ?_
      refine WL.no rfl rfl rfl hb5 rfl ?_
      refine WL.no rfl rfl rfl hb5 rfl ?_
      refine WL.op rfl rfl (op_pickT rfl hb5 rfl ?_)
      refine WL.nil ?_
      refine WQ.next ?_
      refine WC.yes rfl rfl ?_
      refine WC.seq ?_
      refine WC.region ?_
      refine WL.op rfl rfl (op_assign rfl ?_)
      refine WL.op rfl rfl (op_assign rfl ?_)
      refine WL.nil ?_
      refine WQ.next ?_
      refine WC.ret ?_
      refine WQ.thenRet ?_
      refine WQ.out (.tmp rfl (.tmp rfl .nil)) ?_
      have hE : actE a = 2 := actE_2 (fun h => by have h0 := actE_0 h; first | omega | simp_all)
      rw [actS, hE, if_neg (by decide)]
      exact ⟨rfl, H4.fr⟩
    ·
      have hn5 := (Bool.not_eq_false' _).mp hb5
      refine WL.yes rfl rfl rfl hb5 rfl (op_fieldAddr rfl Fa.F143_3 ?_)
      refine WL.yes rfl rfl rfl hb5 rfl (op_load rfl (H4.cell (i := 0) rfl rfl) Try.underlying9 rfl ?_)
      refine WL.yes rfl rfl rfl hb5 rfl (op_lenStr Try.underlying9 rfl ?_)
      refine WL.yes rfl rfl rfl hb5 rfl (op_gtrN (b := 65519) rfl rfl ?_)
      refine WL.op rfl rfl (op_pickF rfl hb5 rfl ?_)
      refine WL.nil ?_
      refine WQ.next ?_
      refine WC.cond rfl (fun (hb6 : (decide (a.t.length > 65519)) = true) => ?_) (fun (hb6 : (decide (a.t.length > 65519)) = false) => ?_)
      ·
        have hc6 := of_decide_eq_true hb6
        refine WC.seq ?_
        refine WC.region ?_
        refine WL.op rfl rfl (op_assign rfl ?_)
        refine WL.op rfl rfl (op_assign rfl ?_)
        refine WL.nil ?_
        refine WQ.next ?_
        refine WC.ret ?_
        refine WQ.thenRet ?_
        refine WQ.out (.tmp rfl (.tmp rfl .nil)) ?_
        have hE : actE a = 2 := actE_2 (fun h => by have h0 := actE_0 h; first | omega | simp_all)
        rw [actS, hE, if_neg (by decide)]
        exact ⟨rfl, H4.fr⟩
      ·
        have hc6 := of_decide_eq_false hb6
        refine WC.skip ?_
        refine WQ.next ?_
        refine WC.seq ?_
        refine WC.region ?_
        refine WL.op rfl rfl (op_fieldAddr rfl Fa.F143_0 ?_)
        refine WL.op rfl rfl (op_load rfl (H4.cell (i := 0) rfl rfl) Try.underlying5 rfl ?_)
        refine WL.op rfl rfl (op_convU8U32 (hs := Try.underlying5) (hd := Try.underlying22) rfl ?_)
        refine WL.op rfl rfl (op_callF Fa.C18 rfl ((rnum_ok (UInt32.ofNat a.d.toNat) (1) _).mono (fun e w7 hq => ?_)))
        obtain ⟨rfl, hf7⟩ := hq
        refine ⟨_, rfl, ?_⟩
        have H7 := H4.fr' hf7
        refine WL.op rfl rfl (op_move rfl ?_)
        refine WL.op rfl rfl (op_extract rfl rfl ?_)
        refine WL.op rfl rfl (op_extract rfl rfl ?_)
        refine WL.op rfl rfl (op_assign rfl ?_)
        refine WL.op rfl rfl (op_assign rfl ?_)
        refine WL.nil ?_
        refine WQ.next ?_
        refine WC.seq ?_
        refine WC.region ?_
        refine WL.op rfl rfl (op_fieldAddr rfl Fa.F143_1 ?_)
        refine WL.op rfl rfl (op_load rfl (H7.cell (i := 0) rfl rfl) Try.underlying3 rfl ?_)
        refine WL.op rfl rfl (op_convIU32 Try.underlying3 Try.underlying22 rfl ?_)
        refine WL.op rfl rfl (op_callF Fa.C18 rfl ((rnum_ok (u32I a.n) (4) _).mono (fun e w8 hq => ?_)))
        obtain ⟨rfl, hf8⟩ := hq
        refine ⟨_, rfl, ?_⟩
        have H8 := H7.fr' hf8
        refine WL.op rfl rfl (op_move rfl ?_)
        refine WL.op rfl rfl (op_extract rfl rfl ?_)
        refine WL.op rfl rfl (op_extract rfl rfl ?_)
        refine WL.op rfl rfl (op_assign rfl ?_)
        refine WL.op rfl rfl (op_assign rfl ?_)
        refine WL.nil ?_
        refine WQ.next ?_
        refine WC.seq ?_
        refine WC.region ?_
        refine WL.op rfl rfl (op_fieldAddr rfl Fa.F143_2 ?_)
        refine WL.op rfl rfl (op_load rfl (H8.cell (i := 0) rfl rfl) Try.underlying3 rfl ?_)
        refine WL.op rfl rfl (op_convIU32 Try.underlying3 Try.underlying22 rfl ?_)
        refine WL.op rfl rfl (op_callF Fa.C18 rfl ((rnum_ok (u32I a.m) (4) _).mono (fun e w9 hq => ?_)))
        obtain ⟨rfl, hf9⟩ := hq
        refine ⟨_, rfl, ?_⟩
        have H9 := H8.fr' hf9
        refine WL.op rfl rfl (op_move rfl ?_)
        refine WL.op rfl rfl (op_extract rfl rfl ?_)
        refine WL.op rfl rfl (op_extract rfl rfl ?_)
        refine WL.op rfl rfl (op_assign rfl ?_)
        refine WL.op rfl rfl (op_assign rfl ?_)
        refine WL.nil ?_
        refine WQ.next ?_
        refine WC.seq ?_
        refine WC.region ?_
        refine WL.op rfl rfl (op_fieldAddr rfl Fa.F143_3 ?_)
        refine WL.op rfl rfl (op_load rfl (H9.cell (i := 0) rfl rfl) Try.underlying9 rfl ?_)
        refine WL.op rfl rfl (op_callF Fa.C20 rfl ((rtext_ok a.t _ (by omega)).mono (fun e w10 hq => ?_)))
        obtain ⟨rfl, hf10⟩ := hq
        refine ⟨_, rfl, ?_⟩
        have H10 := H9.fr' hf10
        refine WL.op rfl rfl (op_move rfl ?_)
        refine WL.op rfl rfl (op_extract rfl rfl ?_)
        refine WL.op rfl rfl (op_extract rfl rfl ?_)
        refine WL.op rfl rfl (op_assign rfl ?_)
        refine WL.op rfl rfl (op_assign rfl ?_)
        refine WL.nil ?_
        refine WQ.next ?_
        refine WC.seq ?_
        refine WC.region ?_
        refine WL.op rfl rfl (op_move rfl ?_)
        refine WL.op rfl rfl (op_move rfl ?_)
        refine WL.op rfl rfl (op_addStr rfl rfl (by rw [(num1 a.d).2.2]; have := numE_len (u32I a.n) 4; simp; omega) ?_)
        refine WL.op rfl rfl (op_move rfl ?_)
        refine WL.op rfl rfl (op_addStr rfl rfl (by rw [(num1 a.d).2.2]; have := numE_len (u32I a.n) 4; have := numE_len (u32I a.m) 4; simp; omega) ?_)
        refine WL.op rfl rfl (op_move rfl ?_)
        refine WL.op rfl rfl (op_addStr rfl rfl (by rw [(num1 a.d).2.2]; have := numE_len (u32I a.n) 4; have := numE_len (u32I a.m) 4; have := txS_len a.t; simp; omega) ?_)
        refine WL.op rfl rfl (op_assign rfl ?_)
        refine WL.op rfl rfl (op_assign rfl ?_)
        refine WL.nil ?_
        refine WQ.next ?_
        refine WC.ret ?_
        refine WQ.out (.tmp rfl (.tmp rfl .nil)) ?_
        have hE : actE a = 0 := by rw [actE, if_pos ⟨by first | assumption | simp_all, by first | assumption | simp_all, by omega⟩]
        rw [actS, hE, if_pos rfl, actR, (num1 a.d).2.2]
        exact ⟨rfl, H10.fr⟩
set_option maxRecDepth 100000 in
theorem aact_ok (s : List UInt8) (w : World) (hs : s.length < 2 ^ 47) :
    Calls Try.prog 106 #[(str s)] w (fun e w' => e = .returned (.tuple #[.agg #[vU8 (unA s).d, vI (unA s).n, vI (unA s).m, str (unA s).t], vN (unE s)]) ∧ Fr [] w w') := by
  refine enter (args := [(str s)]) Try.func106 rfl rfl ?_
  have H0 : Own [] w w [] := Own.start w []
  refine WC.seq ?_
  refine WC.region ?_
  refine WL.op rfl rfl (op_alloc H0 Fa.I143 (fun b1 w1 H1 => ?_))
  refine WL.op rfl rfl (op_assign rfl ?_)
  refine WL.nil ?_
  refine WQ.next ?_
  refine WC.seq ?_
  refine WC.region ?_
  refine WL.op rfl rfl (op_move rfl ?_)
  refine WL.op rfl rfl (op_callF Fa.C24 rfl ((rdnew_ok s _).mono (fun e w2 hq => ?_)))
  obtain ⟨q2, rfl, hq2⟩ := hq
  refine ⟨_, rfl, ?_⟩
  have H2 : Own [] w w2 [.blk b1 [(vU8 0), (vN 0), (vN 0), (str [])] 143, .blk q2 [(str s), (vN 0), (vN 0)] 107] := H1.splice [] [] [.blk q2 [(str s), (vN 0), (vN 0)] 107] rfl rfl hq2 (Fits.solid True.intro Fits.nil)
  refine WL.op rfl rfl (op_assign rfl ?_)
  refine WL.nil ?_
  refine WQ.next ?_
  refine WC.seq ?_
  refine WC.region ?_
  refine WL.op rfl rfl (op_move rfl ?_)
  refine WL.op rfl rfl (op_callF Fa.C25 rfl ((rdnum_ok q2 (Rd.mk s 0 0 (Nat.zero_le _)) (1) 107 _ _ (H2.part [1] rfl rfl) (by first | (rw [textR_s, numR_s, numR_s, numR_s]; exact hs) | (rw [numR_s, numR_s, numR_s]; exact hs) | (rw [numR_s, numR_s]; exact hs) | (rw [numR_s]; exact hs) | exact hs)).mono (fun e w3 hq => ?_)))
  obtain ⟨rfl, hq3⟩ := hq
  refine ⟨_, rfl, ?_⟩
  have H3 : Own [] w w3 [.blk b1 [(vU8 0), (vN 0), (vN 0), (str [])] 143, .blk q2 [(str ((numR (Rd.mk s 0 0 (Nat.zero_le _)) 1).2).s), (vN ((numR (Rd.mk s 0 0 (Nat.zero_le _)) 1).2).at_), (vN ((numR (Rd.mk s 0 0 (Nat.zero_le _)) 1).2).f)] 107] := H2.splice [1] [.blk q2 [(str ((numR (Rd.mk s 0 0 (Nat.zero_le _)) 1).2).s), (vN ((numR (Rd.mk s 0 0 (Nat.zero_le _)) 1).2).at_), (vN ((numR (Rd.mk s 0 0 (Nat.zero_le _)) 1).2).f)] 107] [] rfl rfl hq3 (Fits.solid True.intro Fits.nil)
  refine WL.op rfl rfl (op_move rfl ?_)
  refine WL.op rfl rfl (op_extract rfl rfl ?_)
  refine WL.op rfl rfl (op_extract rfl rfl ?_)
  refine WL.op rfl rfl (op_assign rfl ?_)
  refine WL.op rfl rfl (op_assign rfl ?_)
  refine WL.nil ?_
  refine WQ.next ?_
  refine WC.seq ?_
  refine WC.region ?_
  refine WL.op rfl rfl (op_move rfl ?_)
  refine WL.op rfl rfl (op_callF Fa.C25 rfl ((rdnum_ok q2 ((numR (Rd.mk s 0 0 (Nat.zero_le _)) 1).2) (4) 107 _ _ (H3.part [1] rfl rfl) (by first | (rw [textR_s, numR_s, numR_s, numR_s]; exact hs) | (rw [numR_s, numR_s, numR_s]; exact hs) | (rw [numR_s, numR_s]; exact hs) | (rw [numR_s]; exact hs) | exact hs)).mono (fun e w4 hq => ?_)))
  obtain ⟨rfl, hq4⟩ := hq
  refine ⟨_, rfl, ?_⟩
  have H4 : Own [] w w4 [.blk b1 [(vU8 0), (vN 0), (vN 0), (str [])] 143, .blk q2 [(str ((numR ((numR (Rd.mk s 0 0 (Nat.zero_le _)) 1).2) 4).2).s), (vN ((numR ((numR (Rd.mk s 0 0 (Nat.zero_le _)) 1).2) 4).2).at_), (vN ((numR ((numR (Rd.mk s 0 0 (Nat.zero_le _)) 1).2) 4).2).f)] 107] := H3.splice [1] [.blk q2 [(str ((numR ((numR (Rd.mk s 0 0 (Nat.zero_le _)) 1).2) 4).2).s), (vN ((numR ((numR (Rd.mk s 0 0 (Nat.zero_le _)) 1).2) 4).2).at_), (vN ((numR ((numR (Rd.mk s 0 0 (Nat.zero_le _)) 1).2) 4).2).f)] 107] [] rfl rfl hq4 (Fits.solid True.intro Fits.nil)
  refine WL.op rfl rfl (op_move rfl ?_)
  refine WL.op rfl rfl (op_extract rfl rfl ?_)
  refine WL.op rfl rfl (op_extract rfl rfl ?_)
  refine WL.op rfl rfl (op_assign rfl ?_)
  refine WL.op rfl rfl (op_assign rfl ?_)
  refine WL.nil ?_
  refine WQ.next ?_
  refine WC.seq ?_
  refine WC.region ?_
  refine WL.op rfl rfl (op_move rfl ?_)
  refine WL.op rfl rfl (op_callF Fa.C25 rfl ((rdnum_ok q2 ((numR ((numR (Rd.mk s 0 0 (Nat.zero_le _)) 1).2) 4).2) (4) 107 _ _ (H4.part [1] rfl rfl) (by first | (rw [textR_s, numR_s, numR_s, numR_s]; exact hs) | (rw [numR_s, numR_s, numR_s]; exact hs) | (rw [numR_s, numR_s]; exact hs) | (rw [numR_s]; exact hs) | exact hs)).mono (fun e w5 hq => ?_)))
  obtain ⟨rfl, hq5⟩ := hq
  refine ⟨_, rfl, ?_⟩
  have H5 : Own [] w w5 [.blk b1 [(vU8 0), (vN 0), (vN 0), (str [])] 143, .blk q2 [(str ((numR ((numR ((numR (Rd.mk s 0 0 (Nat.zero_le _)) 1).2) 4).2) 4).2).s), (vN ((numR ((numR ((numR (Rd.mk s 0 0 (Nat.zero_le _)) 1).2) 4).2) 4).2).at_), (vN ((numR ((numR ((numR (Rd.mk s 0 0 (Nat.zero_le _)) 1).2) 4).2) 4).2).f)] 107] := H4.splice [1] [.blk q2 [(str ((numR ((numR ((numR (Rd.mk s 0 0 (Nat.zero_le _)) 1).2) 4).2) 4).2).s), (vN ((numR ((numR ((numR (Rd.mk s 0 0 (Nat.zero_le _)) 1).2) 4).2) 4).2).at_), (vN ((numR ((numR ((numR (Rd.mk s 0 0 (Nat.zero_le _)) 1).2) 4).2) 4).2).f)] 107] [] rfl rfl hq5 (Fits.solid True.intro Fits.nil)
  refine WL.op rfl rfl (op_move rfl ?_)
  refine WL.op rfl rfl (op_extract rfl rfl ?_)
  refine WL.op rfl rfl (op_extract rfl rfl ?_)
  refine WL.op rfl rfl (op_assign rfl ?_)
  refine WL.op rfl rfl (op_assign rfl ?_)
  refine WL.nil ?_
  refine WQ.next ?_
  refine WC.seq ?_
  refine WC.region ?_
  refine WL.op rfl rfl (op_move rfl ?_)
  refine WL.op rfl rfl (op_callF Fa.C26 rfl ((rdtext_ok q2 ((numR ((numR ((numR (Rd.mk s 0 0 (Nat.zero_le _)) 1).2) 4).2) 4).2)  107 _ _ (H5.part [1] rfl rfl) (by first | (rw [textR_s, numR_s, numR_s, numR_s]; exact hs) | (rw [numR_s, numR_s, numR_s]; exact hs) | (rw [numR_s, numR_s]; exact hs) | (rw [numR_s]; exact hs) | exact hs)).mono (fun e w6 hq => ?_)))
  obtain ⟨rfl, hq6⟩ := hq
  refine ⟨_, rfl, ?_⟩
  have H6 : Own [] w w6 [.blk b1 [(vU8 0), (vN 0), (vN 0), (str [])] 143, .blk q2 [(str ((textR ((numR ((numR ((numR (Rd.mk s 0 0 (Nat.zero_le _)) 1).2) 4).2) 4).2)).2).s), (vN ((textR ((numR ((numR ((numR (Rd.mk s 0 0 (Nat.zero_le _)) 1).2) 4).2) 4).2)).2).at_), (vN ((textR ((numR ((numR ((numR (Rd.mk s 0 0 (Nat.zero_le _)) 1).2) 4).2) 4).2)).2).f)] 107] := H5.splice [1] [.blk q2 [(str ((textR ((numR ((numR ((numR (Rd.mk s 0 0 (Nat.zero_le _)) 1).2) 4).2) 4).2)).2).s), (vN ((textR ((numR ((numR ((numR (Rd.mk s 0 0 (Nat.zero_le _)) 1).2) 4).2) 4).2)).2).at_), (vN ((textR ((numR ((numR ((numR (Rd.mk s 0 0 (Nat.zero_le _)) 1).2) 4).2) 4).2)).2).f)] 107] [] rfl rfl hq6 (Fits.solid True.intro Fits.nil)
  refine WL.op rfl rfl (op_move rfl ?_)
  refine WL.op rfl rfl (op_extract rfl rfl ?_)
  refine WL.op rfl rfl (op_extract rfl rfl ?_)
  refine WL.op rfl rfl (op_assign rfl ?_)
  refine WL.op rfl rfl (op_assign rfl ?_)
  refine WL.nil ?_
  refine WQ.next ?_
  refine WC.seq ?_
  refine WC.seq ?_
  refine WC.region ?_
  refine WL.op rfl rfl (op_move rfl ?_)
  refine WL.op rfl rfl (op_callF Fa.C29 rfl ((rdend_ok q2 ((textR ((numR ((numR ((numR (Rd.mk s 0 0 (Nat.zero_le _)) 1).2) 4).2) 4).2)).2)  107 _ _ (H6.part [1] rfl rfl) (by first | (rw [textR_s, numR_s, numR_s, numR_s]; exact hs) | (rw [numR_s, numR_s, numR_s]; exact hs) | (rw [numR_s, numR_s]; exact hs) | (rw [numR_s]; exact hs) | exact hs)).mono (fun e w7 hq => ?_)))
  obtain ⟨rfl, hq7⟩ := hq
  refine ⟨_, rfl, ?_⟩
  have H7 : Own [] w w7 [.blk b1 [(vU8 0), (vN 0), (vN 0), (str [])] 143, .blk q2 [(str ((endR ((textR ((numR ((numR ((numR (Rd.mk s 0 0 (Nat.zero_le _)) 1).2) 4).2) 4).2)).2)).2).s), (vN ((endR ((textR ((numR ((numR ((numR (Rd.mk s 0 0 (Nat.zero_le _)) 1).2) 4).2) 4).2)).2)).2).at_), (vN ((endR ((textR ((numR ((numR ((numR (Rd.mk s 0 0 (Nat.zero_le _)) 1).2) 4).2) 4).2)).2)).2).f)] 107] := H6.splice [1] [.blk q2 [(str ((endR ((textR ((numR ((numR ((numR (Rd.mk s 0 0 (Nat.zero_le _)) 1).2) 4).2) 4).2)).2)).2).s), (vN ((endR ((textR ((numR ((numR ((numR (Rd.mk s 0 0 (Nat.zero_le _)) 1).2) 4).2) 4).2)).2)).2).at_), (vN ((endR ((textR ((numR ((numR ((numR (Rd.mk s 0 0 (Nat.zero_le _)) 1).2) 4).2) 4).2)).2)).2).f)] 107] [] rfl rfl hq7 (Fits.solid True.intro Fits.nil)
  refine WL.op rfl rfl (op_neqN (b := 0) rfl rfl ?_)
  refine WL.op rfl rfl (op_move rfl ?_)
  refine WL.split (t := 38) rfl (fun (hb8 : (decide ((endR ((textR ((numR ((numR ((numR (Rd.mk s 0 0 (Nat.zero_le _)) 1).2) 4).2) 4).2)).2)).1 ≠ 0)) = true) => ?_) (fun (hb8 : (decide ((endR ((textR ((numR ((numR ((numR (Rd.mk s 0 0 (Nat.zero_le _)) 1).2) 4).2) 4).2)).2)).1 ≠ 0)) = false) => ?_)
  ·
    have hc8 := of_decide_eq_true hb8
    refine WL.no rfl rfl rfl hb8 rfl ?_
    refine WL.no rfl rfl rfl hb8 rfl ?_
    refine WL.no rfl rfl rfl hb8 rfl ?_
    refine WL.op rfl rfl (op_pickT rfl hb8 rfl ?_)
    refine WL.nil ?_
    refine WQ.next ?_
    refine WC.yes rfl rfl ?_
    refine WC.seq ?_
    refine WC.region ?_
    refine WL.op rfl rfl (op_loadS (vs := [_, _, _, _]) rfl (H7.cells (i := 0) rfl rfl) Try.underlying143 rfl Fa.I143 rfl ?_)
    refine WL.op rfl rfl (op_storeBW (i := 0) H7 rfl rfl rfl rfl rfl Fa.I143 (fun w9 H9 => ?_))
    refine WL.op rfl rfl (op_assign rfl ?_)
    refine WL.nil ?_
    refine WQ.next ?_
    refine WC.ret ?_
    refine WQ.thenRet ?_
    refine WQ.out (.cell rfl (run_loadVarS (vs := [_, _, _, _]) (H9.cells (i := 0) rfl rfl) Try.underlying143 rfl Fa.I143 rfl) (.tmp rfl .nil)) ?_
    have hE : unE s = 7 := by
      rw [unE, if_pos]
      first | exact Or.inl (by with_reducible assumption) | exact Or.inr (by with_reducible assumption)
    rw [unA, hE, if_neg (by decide)]
    exact ⟨rfl, H9.fr⟩
  ·
    have hc8 := of_decide_eq_false hb8
    refine WL.yes rfl rfl rfl hb8 rfl (op_move rfl ?_)
    refine WL.yes rfl rfl rfl hb8 rfl (op_lenStr Try.underlying9 rfl ?_)
    refine WL.yes rfl rfl rfl hb8 rfl (op_gtrN (b := 65519) rfl rfl ?_)
    refine WL.op rfl rfl (op_pickF rfl hb8 rfl ?_)
    refine WL.nil ?_
    refine WQ.next ?_
    refine WC.cond rfl (fun (hb10 : (decide ((textR ((numR ((numR ((numR (Rd.mk s 0 0 (Nat.zero_le _)) 1).2) 4).2) 4).2)).1.1.length > 65519)) = true) => ?_) (fun (hb10 : (decide ((textR ((numR ((numR ((numR (Rd.mk s 0 0 (Nat.zero_le _)) 1).2) 4).2) 4).2)).1.1.length > 65519)) = false) => ?_)
    ·
      have hc10 := of_decide_eq_true hb10
      refine WC.seq ?_
      refine WC.region ?_
      refine WL.op rfl rfl (op_loadS (vs := [_, _, _, _]) rfl (H7.cells (i := 0) rfl rfl) Try.underlying143 rfl Fa.I143 rfl ?_)
      refine WL.op rfl rfl (op_storeBW (i := 0) H7 rfl rfl rfl rfl rfl Fa.I143 (fun w11 H11 => ?_))
      refine WL.op rfl rfl (op_assign rfl ?_)
      refine WL.nil ?_
      refine WQ.next ?_
      refine WC.ret ?_
      refine WQ.thenRet ?_
      refine WQ.out (.cell rfl (run_loadVarS (vs := [_, _, _, _]) (H11.cells (i := 0) rfl rfl) Try.underlying143 rfl Fa.I143 rfl) (.tmp rfl .nil)) ?_
      have hE : unE s = 7 := by
        rw [unE, if_pos]
        first | exact Or.inl (by with_reducible assumption) | exact Or.inr (by with_reducible assumption)
      rw [unA, hE, if_neg (by decide)]
      exact ⟨rfl, H11.fr⟩
    ·
      have hc10 := of_decide_eq_false hb10
      refine WC.skip ?_
      refine WQ.next ?_
      refine WC.seq ?_
      refine WC.region ?_
      refine WL.op rfl rfl (op_move rfl ?_)
      refine WL.op rfl rfl (op_convU32U8 (hs := Try.underlying22) (hd := Try.underlying5) rfl ?_)
      refine WL.op rfl rfl (op_move rfl ?_)
      refine WL.op rfl rfl (op_convU32I32 Try.underlying22 Try.underlying21 rfl ?_)
      refine WL.op rfl rfl (op_convI32I Try.underlying21 Try.underlying3 rfl ?_)
      refine WL.op rfl rfl (op_move rfl ?_)
      refine WL.op rfl rfl (op_convU32I32 Try.underlying22 Try.underlying21 rfl ?_)
      refine WL.op rfl rfl (op_convI32I Try.underlying21 Try.underlying3 rfl ?_)
      refine WL.op rfl rfl (op_move rfl ?_)
      refine WL.op rfl rfl (op_build (cs := [_, _, _, _]) Fa.I143 Fa.PL143 rfl rfl ?_)
      refine WL.op rfl rfl (op_storeBW (i := 0) H7 rfl rfl rfl rfl rfl Fa.I143 (fun w12 H12 => ?_))
      refine WL.op rfl rfl (op_assign rfl ?_)
      refine WL.nil ?_
      refine WQ.next ?_
      refine WC.ret ?_
      refine WQ.out (.cell rfl (run_loadVarS (vs := [_, _, _, _]) (H12.cells (i := 0) rfl rfl) Try.underlying143 rfl Fa.I143 rfl) (.tmp rfl .nil)) ?_
      have hE : unE s = 0 := by
        rw [unE, if_neg]
        rintro (h | h)
        · exact (by with_reducible assumption : ¬ _) h
        · exact (by with_reducible assumption : ¬ _) h
      rw [unA, if_pos hE, hE]
      exact ⟨rfl, H12.fr⟩
end Go.Proofs.Ytpnghdalnghpcaa
/-! from WActs2 -/
namespace Go.Proofs.Ytpnghdalnghpcaa
open Go.Owl Go.Spec
set_option maxRecDepth 100000 in
theorem ract_ok (s : List UInt8) (w : World) (hs : s.length < 2 ^ 47) :
    Calls Try.prog 108 #[(str s)] w (fun e w' => e = .returned (.tuple #[.agg #[vU8 (unA s).d, vI (unA s).n, vI (unA s).m, str (unA s).t], vN (unE s)]) ∧ Fr [] w w') := by
  refine enter (args := [(str s)]) Try.func108 rfl rfl ?_
  have H0 : Own [] w w [] := Own.start w []
  refine WC.seq ?_
  refine WC.region ?_
  refine WL.op rfl rfl (op_alloc H0 Fa.I143 (fun b1 w1 H1 => ?_))
  refine WL.op rfl rfl (op_assign rfl ?_)
  refine WL.nil ?_
  refine WQ.next ?_
  refine WC.seq ?_
  refine WC.region ?_
  refine WL.op rfl rfl (op_move rfl ?_)
  refine WL.op rfl rfl (op_build (cs := [_, _]) Fa.I47 Fa.PL47 rfl rfl ?_)
  refine WL.op rfl rfl (op_box H1 rfl rfl (fun b2 w2 H2 => ?_))
  refine WL.op rfl rfl (op_assign rfl ?_)
  refine WL.nil ?_
  refine WQ.next ?_
  refine WC.seq ?_
  refine WC.region ?_
  refine WL.op rfl rfl (op_move rfl ?_)
  refine WL.op rfl rfl (op_callF Fa.C32 rfl ((fnum_ok b2 s 0 (1) _ _ (H2.part [1] rfl rfl) (by first | with_reducible exact hs | ((repeat (first | with_reducible apply text_rest_lt | with_reducible apply num_rest_lt)); with_reducible exact hs))).mono (fun e w3 hq => ?_)))
  obtain ⟨rfl, hq3⟩ := hq
  refine ⟨_, rfl, ?_⟩
  have H3 : Own [] w w3 [.blk b1 [(vU8 0), (vN 0), (vN 0), (str [])] 143, .blk b2 [(str (numR (Rd.mk s 0 0 (Nat.zero_le _)) 1).2.rest), (vN (numR (Rd.mk s 0 0 (Nat.zero_le _)) 1).2.f)] 47] := H2.splice [1] [.blk b2 [(str (numR (Rd.mk s 0 0 (Nat.zero_le _)) 1).2.rest), (vN (numR (Rd.mk s 0 0 (Nat.zero_le _)) 1).2.f)] 47] [] rfl rfl hq3 (Fits.solid True.intro Fits.nil)
  refine WL.op rfl rfl (op_move rfl ?_)
  refine WL.op rfl rfl (op_extract rfl rfl ?_)
  refine WL.op rfl rfl (op_extract rfl rfl ?_)
  refine WL.op rfl rfl (op_assign rfl ?_)
  refine WL.op rfl rfl (op_assign rfl ?_)
  refine WL.nil ?_
  refine WQ.next ?_
  refine WC.seq ?_
  refine WC.region ?_
  refine WL.op rfl rfl (op_move rfl ?_)
  refine WL.op rfl rfl (op_callF Fa.C32 rfl ((fnum_ok b2 ((numR (Rd.mk s 0 0 (Nat.zero_le _)) 1).2.rest) ((numR (Rd.mk s 0 0 (Nat.zero_le _)) 1).2.f) (4) _ _ (H3.part [1] rfl rfl) (by first | with_reducible exact hs | ((repeat (first | with_reducible apply text_rest_lt | with_reducible apply num_rest_lt)); with_reducible exact hs))).mono (fun e w4 hq => ?_)))
  obtain ⟨rfl, hq4⟩ := hq
  refine ⟨_, rfl, ?_⟩
  have H4 : Own [] w w4 [.blk b1 [(vU8 0), (vN 0), (vN 0), (str [])] 143, .blk b2 [(str (numR (Rd.mk ((numR (Rd.mk s 0 0 (Nat.zero_le _)) 1).2.rest) 0 ((numR (Rd.mk s 0 0 (Nat.zero_le _)) 1).2.f) (Nat.zero_le _)) 4).2.rest), (vN (numR (Rd.mk ((numR (Rd.mk s 0 0 (Nat.zero_le _)) 1).2.rest) 0 ((numR (Rd.mk s 0 0 (Nat.zero_le _)) 1).2.f) (Nat.zero_le _)) 4).2.f)] 47] := H3.splice [1] [.blk b2 [(str (numR (Rd.mk ((numR (Rd.mk s 0 0 (Nat.zero_le _)) 1).2.rest) 0 ((numR (Rd.mk s 0 0 (Nat.zero_le _)) 1).2.f) (Nat.zero_le _)) 4).2.rest), (vN (numR (Rd.mk ((numR (Rd.mk s 0 0 (Nat.zero_le _)) 1).2.rest) 0 ((numR (Rd.mk s 0 0 (Nat.zero_le _)) 1).2.f) (Nat.zero_le _)) 4).2.f)] 47] [] rfl rfl hq4 (Fits.solid True.intro Fits.nil)
  refine WL.op rfl rfl (op_move rfl ?_)
  refine WL.op rfl rfl (op_extract rfl rfl ?_)
  refine WL.op rfl rfl (op_extract rfl rfl ?_)
  refine WL.op rfl rfl (op_assign rfl ?_)
  refine WL.op rfl rfl (op_assign rfl ?_)
  refine WL.nil ?_
  refine WQ.next ?_
  refine WC.seq ?_
  refine WC.region ?_
  refine WL.op rfl rfl (op_move rfl ?_)
  refine WL.op rfl rfl (op_callF Fa.C32 rfl ((fnum_ok b2 ((numR (Rd.mk ((numR (Rd.mk s 0 0 (Nat.zero_le _)) 1).2.rest) 0 ((numR (Rd.mk s 0 0 (Nat.zero_le _)) 1).2.f) (Nat.zero_le _)) 4).2.rest) ((numR (Rd.mk ((numR (Rd.mk s 0 0 (Nat.zero_le _)) 1).2.rest) 0 ((numR (Rd.mk s 0 0 (Nat.zero_le _)) 1).2.f) (Nat.zero_le _)) 4).2.f) (4) _ _ (H4.part [1] rfl rfl) (by first | with_reducible exact hs | ((repeat (first | with_reducible apply text_rest_lt | with_reducible apply num_rest_lt)); with_reducible exact hs))).mono (fun e w5 hq => ?_)))
  obtain ⟨rfl, hq5⟩ := hq
  refine ⟨_, rfl, ?_⟩
  have H5 : Own [] w w5 [.blk b1 [(vU8 0), (vN 0), (vN 0), (str [])] 143, .blk b2 [(str (numR (Rd.mk ((numR (Rd.mk ((numR (Rd.mk s 0 0 (Nat.zero_le _)) 1).2.rest) 0 ((numR (Rd.mk s 0 0 (Nat.zero_le _)) 1).2.f) (Nat.zero_le _)) 4).2.rest) 0 ((numR (Rd.mk ((numR (Rd.mk s 0 0 (Nat.zero_le _)) 1).2.rest) 0 ((numR (Rd.mk s 0 0 (Nat.zero_le _)) 1).2.f) (Nat.zero_le _)) 4).2.f) (Nat.zero_le _)) 4).2.rest), (vN (numR (Rd.mk ((numR (Rd.mk ((numR (Rd.mk s 0 0 (Nat.zero_le _)) 1).2.rest) 0 ((numR (Rd.mk s 0 0 (Nat.zero_le _)) 1).2.f) (Nat.zero_le _)) 4).2.rest) 0 ((numR (Rd.mk ((numR (Rd.mk s 0 0 (Nat.zero_le _)) 1).2.rest) 0 ((numR (Rd.mk s 0 0 (Nat.zero_le _)) 1).2.f) (Nat.zero_le _)) 4).2.f) (Nat.zero_le _)) 4).2.f)] 47] := H4.splice [1] [.blk b2 [(str (numR (Rd.mk ((numR (Rd.mk ((numR (Rd.mk s 0 0 (Nat.zero_le _)) 1).2.rest) 0 ((numR (Rd.mk s 0 0 (Nat.zero_le _)) 1).2.f) (Nat.zero_le _)) 4).2.rest) 0 ((numR (Rd.mk ((numR (Rd.mk s 0 0 (Nat.zero_le _)) 1).2.rest) 0 ((numR (Rd.mk s 0 0 (Nat.zero_le _)) 1).2.f) (Nat.zero_le _)) 4).2.f) (Nat.zero_le _)) 4).2.rest), (vN (numR (Rd.mk ((numR (Rd.mk ((numR (Rd.mk s 0 0 (Nat.zero_le _)) 1).2.rest) 0 ((numR (Rd.mk s 0 0 (Nat.zero_le _)) 1).2.f) (Nat.zero_le _)) 4).2.rest) 0 ((numR (Rd.mk ((numR (Rd.mk s 0 0 (Nat.zero_le _)) 1).2.rest) 0 ((numR (Rd.mk s 0 0 (Nat.zero_le _)) 1).2.f) (Nat.zero_le _)) 4).2.f) (Nat.zero_le _)) 4).2.f)] 47] [] rfl rfl hq5 (Fits.solid True.intro Fits.nil)
  refine WL.op rfl rfl (op_move rfl ?_)
  refine WL.op rfl rfl (op_extract rfl rfl ?_)
  refine WL.op rfl rfl (op_extract rfl rfl ?_)
  refine WL.op rfl rfl (op_assign rfl ?_)
  refine WL.op rfl rfl (op_assign rfl ?_)
  refine WL.nil ?_
  refine WQ.next ?_
  refine WC.seq ?_
  refine WC.region ?_
  refine WL.op rfl rfl (op_move rfl ?_)
  refine WL.op rfl rfl (op_callF Fa.C33 rfl ((ftext_ok b2 ((numR (Rd.mk ((numR (Rd.mk ((numR (Rd.mk s 0 0 (Nat.zero_le _)) 1).2.rest) 0 ((numR (Rd.mk s 0 0 (Nat.zero_le _)) 1).2.f) (Nat.zero_le _)) 4).2.rest) 0 ((numR (Rd.mk ((numR (Rd.mk s 0 0 (Nat.zero_le _)) 1).2.rest) 0 ((numR (Rd.mk s 0 0 (Nat.zero_le _)) 1).2.f) (Nat.zero_le _)) 4).2.f) (Nat.zero_le _)) 4).2.rest) ((numR (Rd.mk ((numR (Rd.mk ((numR (Rd.mk s 0 0 (Nat.zero_le _)) 1).2.rest) 0 ((numR (Rd.mk s 0 0 (Nat.zero_le _)) 1).2.f) (Nat.zero_le _)) 4).2.rest) 0 ((numR (Rd.mk ((numR (Rd.mk s 0 0 (Nat.zero_le _)) 1).2.rest) 0 ((numR (Rd.mk s 0 0 (Nat.zero_le _)) 1).2.f) (Nat.zero_le _)) 4).2.f) (Nat.zero_le _)) 4).2.f)  _ _ (H5.part [1] rfl rfl) (by first | with_reducible exact hs | ((repeat (first | with_reducible apply text_rest_lt | with_reducible apply num_rest_lt)); with_reducible exact hs))).mono (fun e w6 hq => ?_)))
  obtain ⟨rfl, hq6⟩ := hq
  refine ⟨_, rfl, ?_⟩
  have H6 : Own [] w w6 [.blk b1 [(vU8 0), (vN 0), (vN 0), (str [])] 143, .blk b2 [(str (textR (Rd.mk ((numR (Rd.mk ((numR (Rd.mk ((numR (Rd.mk s 0 0 (Nat.zero_le _)) 1).2.rest) 0 ((numR (Rd.mk s 0 0 (Nat.zero_le _)) 1).2.f) (Nat.zero_le _)) 4).2.rest) 0 ((numR (Rd.mk ((numR (Rd.mk s 0 0 (Nat.zero_le _)) 1).2.rest) 0 ((numR (Rd.mk s 0 0 (Nat.zero_le _)) 1).2.f) (Nat.zero_le _)) 4).2.f) (Nat.zero_le _)) 4).2.rest) 0 ((numR (Rd.mk ((numR (Rd.mk ((numR (Rd.mk s 0 0 (Nat.zero_le _)) 1).2.rest) 0 ((numR (Rd.mk s 0 0 (Nat.zero_le _)) 1).2.f) (Nat.zero_le _)) 4).2.rest) 0 ((numR (Rd.mk ((numR (Rd.mk s 0 0 (Nat.zero_le _)) 1).2.rest) 0 ((numR (Rd.mk s 0 0 (Nat.zero_le _)) 1).2.f) (Nat.zero_le _)) 4).2.f) (Nat.zero_le _)) 4).2.f) (Nat.zero_le _))).2.rest), (vN (textR (Rd.mk ((numR (Rd.mk ((numR (Rd.mk ((numR (Rd.mk s 0 0 (Nat.zero_le _)) 1).2.rest) 0 ((numR (Rd.mk s 0 0 (Nat.zero_le _)) 1).2.f) (Nat.zero_le _)) 4).2.rest) 0 ((numR (Rd.mk ((numR (Rd.mk s 0 0 (Nat.zero_le _)) 1).2.rest) 0 ((numR (Rd.mk s 0 0 (Nat.zero_le _)) 1).2.f) (Nat.zero_le _)) 4).2.f) (Nat.zero_le _)) 4).2.rest) 0 ((numR (Rd.mk ((numR (Rd.mk ((numR (Rd.mk s 0 0 (Nat.zero_le _)) 1).2.rest) 0 ((numR (Rd.mk s 0 0 (Nat.zero_le _)) 1).2.f) (Nat.zero_le _)) 4).2.rest) 0 ((numR (Rd.mk ((numR (Rd.mk s 0 0 (Nat.zero_le _)) 1).2.rest) 0 ((numR (Rd.mk s 0 0 (Nat.zero_le _)) 1).2.f) (Nat.zero_le _)) 4).2.f) (Nat.zero_le _)) 4).2.f) (Nat.zero_le _))).2.f)] 47] := H5.splice [1] [.blk b2 [(str (textR (Rd.mk ((numR (Rd.mk ((numR (Rd.mk ((numR (Rd.mk s 0 0 (Nat.zero_le _)) 1).2.rest) 0 ((numR (Rd.mk s 0 0 (Nat.zero_le _)) 1).2.f) (Nat.zero_le _)) 4).2.rest) 0 ((numR (Rd.mk ((numR (Rd.mk s 0 0 (Nat.zero_le _)) 1).2.rest) 0 ((numR (Rd.mk s 0 0 (Nat.zero_le _)) 1).2.f) (Nat.zero_le _)) 4).2.f) (Nat.zero_le _)) 4).2.rest) 0 ((numR (Rd.mk ((numR (Rd.mk ((numR (Rd.mk s 0 0 (Nat.zero_le _)) 1).2.rest) 0 ((numR (Rd.mk s 0 0 (Nat.zero_le _)) 1).2.f) (Nat.zero_le _)) 4).2.rest) 0 ((numR (Rd.mk ((numR (Rd.mk s 0 0 (Nat.zero_le _)) 1).2.rest) 0 ((numR (Rd.mk s 0 0 (Nat.zero_le _)) 1).2.f) (Nat.zero_le _)) 4).2.f) (Nat.zero_le _)) 4).2.f) (Nat.zero_le _))).2.rest), (vN (textR (Rd.mk ((numR (Rd.mk ((numR (Rd.mk ((numR (Rd.mk s 0 0 (Nat.zero_le _)) 1).2.rest) 0 ((numR (Rd.mk s 0 0 (Nat.zero_le _)) 1).2.f) (Nat.zero_le _)) 4).2.rest) 0 ((numR (Rd.mk ((numR (Rd.mk s 0 0 (Nat.zero_le _)) 1).2.rest) 0 ((numR (Rd.mk s 0 0 (Nat.zero_le _)) 1).2.f) (Nat.zero_le _)) 4).2.f) (Nat.zero_le _)) 4).2.rest) 0 ((numR (Rd.mk ((numR (Rd.mk ((numR (Rd.mk s 0 0 (Nat.zero_le _)) 1).2.rest) 0 ((numR (Rd.mk s 0 0 (Nat.zero_le _)) 1).2.f) (Nat.zero_le _)) 4).2.rest) 0 ((numR (Rd.mk ((numR (Rd.mk s 0 0 (Nat.zero_le _)) 1).2.rest) 0 ((numR (Rd.mk s 0 0 (Nat.zero_le _)) 1).2.f) (Nat.zero_le _)) 4).2.f) (Nat.zero_le _)) 4).2.f) (Nat.zero_le _))).2.f)] 47] [] rfl rfl hq6 (Fits.solid True.intro Fits.nil)
  refine WL.op rfl rfl (op_move rfl ?_)
  refine WL.op rfl rfl (op_extract rfl rfl ?_)
  refine WL.op rfl rfl (op_extract rfl rfl ?_)
  refine WL.op rfl rfl (op_assign rfl ?_)
  refine WL.op rfl rfl (op_assign rfl ?_)
  refine WL.nil ?_
  refine WQ.next ?_
  refine WC.seq ?_
  refine WC.region ?_
  refine WL.op rfl rfl (op_move rfl ?_)
  refine WL.op rfl rfl (op_convU32U8 (hs := Try.underlying22) (hd := Try.underlying5) rfl ?_)
  refine WL.op rfl rfl (op_move rfl ?_)
  refine WL.op rfl rfl (op_convU32I32 Try.underlying22 Try.underlying21 rfl ?_)
  refine WL.op rfl rfl (op_convI32I Try.underlying21 Try.underlying3 rfl ?_)
  refine WL.op rfl rfl (op_move rfl ?_)
  refine WL.op rfl rfl (op_convU32I32 Try.underlying22 Try.underlying21 rfl ?_)
  refine WL.op rfl rfl (op_convI32I Try.underlying21 Try.underlying3 rfl ?_)
  refine WL.op rfl rfl (op_move rfl ?_)
  refine WL.op rfl rfl (op_build (cs := [_, _, _, _]) Fa.I143 Fa.PL143 rfl rfl ?_)
  refine WL.op rfl rfl (op_alloc H6 Fa.I143 (fun b7 w7 H7 => ?_))
  refine WL.op rfl rfl (op_storeBW (i := 2) H7 rfl rfl rfl rfl rfl Fa.I143 (fun w8 H8 => ?_))
  refine WL.nil ?_
  refine WQ.next ?_
  refine WC.seq ?_
  refine WC.region ?_
  refine WL.op rfl rfl (op_loadS (vs := [_, _, _, _]) rfl (H8.cells (i := 2) rfl rfl) Try.underlying143 rfl Fa.I143 rfl ?_)
  refine WL.op rfl rfl (op_callF Fa.C103 rfl ((ratext_ok (Ac.mk (UInt8.ofNat (numR (Rd.mk s 0 0 (Nat.zero_le _)) 1).1.1.toNat) (w32 ((numR (Rd.mk ((numR (Rd.mk s 0 0 (Nat.zero_le _)) 1).2.rest) 0 ((numR (Rd.mk s 0 0 (Nat.zero_le _)) 1).2.f) (Nat.zero_le _)) 4).1.1.toNat : Int)) (w32 ((numR (Rd.mk ((numR (Rd.mk ((numR (Rd.mk s 0 0 (Nat.zero_le _)) 1).2.rest) 0 ((numR (Rd.mk s 0 0 (Nat.zero_le _)) 1).2.f) (Nat.zero_le _)) 4).2.rest) 0 ((numR (Rd.mk ((numR (Rd.mk s 0 0 (Nat.zero_le _)) 1).2.rest) 0 ((numR (Rd.mk s 0 0 (Nat.zero_le _)) 1).2.f) (Nat.zero_le _)) 4).2.f) (Nat.zero_le _)) 4).1.1.toNat : Int)) ((textR (Rd.mk ((numR (Rd.mk ((numR (Rd.mk ((numR (Rd.mk s 0 0 (Nat.zero_le _)) 1).2.rest) 0 ((numR (Rd.mk s 0 0 (Nat.zero_le _)) 1).2.f) (Nat.zero_le _)) 4).2.rest) 0 ((numR (Rd.mk ((numR (Rd.mk s 0 0 (Nat.zero_le _)) 1).2.rest) 0 ((numR (Rd.mk s 0 0 (Nat.zero_le _)) 1).2.f) (Nat.zero_le _)) 4).2.f) (Nat.zero_le _)) 4).2.rest) 0 ((numR (Rd.mk ((numR (Rd.mk ((numR (Rd.mk s 0 0 (Nat.zero_le _)) 1).2.rest) 0 ((numR (Rd.mk s 0 0 (Nat.zero_le _)) 1).2.f) (Nat.zero_le _)) 4).2.rest) 0 ((numR (Rd.mk ((numR (Rd.mk s 0 0 (Nat.zero_le _)) 1).2.rest) 0 ((numR (Rd.mk s 0 0 (Nat.zero_le _)) 1).2.f) (Nat.zero_le _)) 4).2.f) (Nat.zero_le _)) 4).2.f) (Nat.zero_le _))).1.1)) _).mono (fun e w9 hq => ?_)))
  obtain ⟨rfl, hf9⟩ := hq
  refine ⟨_, rfl, ?_⟩
  have H9 := H8.fr' hf9
  refine WL.op rfl rfl (op_move rfl ?_)
  refine WL.op rfl rfl (op_extract rfl rfl ?_)
  refine WL.op rfl rfl (op_extract rfl rfl ?_)
  refine WL.op rfl rfl (op_assign rfl ?_)
  refine WL.op rfl rfl (op_assign rfl ?_)
  refine WL.nil ?_
  refine WQ.next ?_
  refine WC.seq ?_
  refine WC.seq ?_
  refine WC.region ?_
  have hq2 : (numR (Rd.mk (numR (Rd.mk s 0 0 (Nat.zero_le _)) 1).2.rest 0 (numR (Rd.mk s 0 0 (Nat.zero_le _)) 1).2.f (Nat.zero_le _)) 4).1 = (ur2 s).1 := by with_reducible exact (ref_chain s).1
  have hq3 : (numR (Rd.mk (numR (Rd.mk (numR (Rd.mk s 0 0 (Nat.zero_le _)) 1).2.rest 0 (numR (Rd.mk s 0 0 (Nat.zero_le _)) 1).2.f (Nat.zero_le _)) 4).2.rest 0 (numR (Rd.mk (numR (Rd.mk s 0 0 (Nat.zero_le _)) 1).2.rest 0 (numR (Rd.mk s 0 0 (Nat.zero_le _)) 1).2.f (Nat.zero_le _)) 4).2.f (Nat.zero_le _)) 4).1 = (ur3 s).1 := by with_reducible exact (ref_chain s).2.1
  have hq4 : (textR (Rd.mk (numR (Rd.mk (numR (Rd.mk (numR (Rd.mk s 0 0 (Nat.zero_le _)) 1).2.rest 0 (numR (Rd.mk s 0 0 (Nat.zero_le _)) 1).2.f (Nat.zero_le _)) 4).2.rest 0 (numR (Rd.mk (numR (Rd.mk s 0 0 (Nat.zero_le _)) 1).2.rest 0 (numR (Rd.mk s 0 0 (Nat.zero_le _)) 1).2.f (Nat.zero_le _)) 4).2.f (Nat.zero_le _)) 4).2.rest 0 (numR (Rd.mk (numR (Rd.mk (numR (Rd.mk s 0 0 (Nat.zero_le _)) 1).2.rest 0 (numR (Rd.mk s 0 0 (Nat.zero_le _)) 1).2.f (Nat.zero_le _)) 4).2.rest 0 (numR (Rd.mk (numR (Rd.mk s 0 0 (Nat.zero_le _)) 1).2.rest 0 (numR (Rd.mk s 0 0 (Nat.zero_le _)) 1).2.f (Nat.zero_le _)) 4).2.f (Nat.zero_le _)) 4).2.f (Nat.zero_le _))).1 = (ur4 s).1 := by with_reducible exact (ref_chain s).2.2.1
  have hq5 : (endR (Rd.mk (textR (Rd.mk (numR (Rd.mk (numR (Rd.mk (numR (Rd.mk s 0 0 (Nat.zero_le _)) 1).2.rest 0 (numR (Rd.mk s 0 0 (Nat.zero_le _)) 1).2.f (Nat.zero_le _)) 4).2.rest 0 (numR (Rd.mk (numR (Rd.mk s 0 0 (Nat.zero_le _)) 1).2.rest 0 (numR (Rd.mk s 0 0 (Nat.zero_le _)) 1).2.f (Nat.zero_le _)) 4).2.f (Nat.zero_le _)) 4).2.rest 0 (numR (Rd.mk (numR (Rd.mk (numR (Rd.mk s 0 0 (Nat.zero_le _)) 1).2.rest 0 (numR (Rd.mk s 0 0 (Nat.zero_le _)) 1).2.f (Nat.zero_le _)) 4).2.rest 0 (numR (Rd.mk (numR (Rd.mk s 0 0 (Nat.zero_le _)) 1).2.rest 0 (numR (Rd.mk s 0 0 (Nat.zero_le _)) 1).2.f (Nat.zero_le _)) 4).2.f (Nat.zero_le _)) 4).2.f (Nat.zero_le _))).2.rest 0 (textR (Rd.mk (numR (Rd.mk (numR (Rd.mk (numR (Rd.mk s 0 0 (Nat.zero_le _)) 1).2.rest 0 (numR (Rd.mk s 0 0 (Nat.zero_le _)) 1).2.f (Nat.zero_le _)) 4).2.rest 0 (numR (Rd.mk (numR (Rd.mk s 0 0 (Nat.zero_le _)) 1).2.rest 0 (numR (Rd.mk s 0 0 (Nat.zero_le _)) 1).2.f (Nat.zero_le _)) 4).2.f (Nat.zero_le _)) 4).2.rest 0 (numR (Rd.mk (numR (Rd.mk (numR (Rd.mk s 0 0 (Nat.zero_le _)) 1).2.rest 0 (numR (Rd.mk s 0 0 (Nat.zero_le _)) 1).2.f (Nat.zero_le _)) 4).2.rest 0 (numR (Rd.mk (numR (Rd.mk s 0 0 (Nat.zero_le _)) 1).2.rest 0 (numR (Rd.mk s 0 0 (Nat.zero_le _)) 1).2.f (Nat.zero_le _)) 4).2.f (Nat.zero_le _)) 4).2.f (Nat.zero_le _))).2.f (Nat.zero_le _))).1 = (endR (ur4 s).2).1 := by with_reducible exact (ref_chain s).2.2.2
  have hU : Ac.mk (UInt8.ofNat (numR (Rd.mk s 0 0 (Nat.zero_le _)) 1).1.1.toNat) (w32 ((numR (Rd.mk (numR (Rd.mk s 0 0 (Nat.zero_le _)) 1).2.rest 0 (numR (Rd.mk s 0 0 (Nat.zero_le _)) 1).2.f (Nat.zero_le _)) 4).1.1.toNat : Int)) (w32 ((numR (Rd.mk (numR (Rd.mk (numR (Rd.mk s 0 0 (Nat.zero_le _)) 1).2.rest 0 (numR (Rd.mk s 0 0 (Nat.zero_le _)) 1).2.f (Nat.zero_le _)) 4).2.rest 0 (numR (Rd.mk (numR (Rd.mk s 0 0 (Nat.zero_le _)) 1).2.rest 0 (numR (Rd.mk s 0 0 (Nat.zero_le _)) 1).2.f (Nat.zero_le _)) 4).2.f (Nat.zero_le _)) 4).1.1.toNat : Int)) (textR (Rd.mk (numR (Rd.mk (numR (Rd.mk (numR (Rd.mk s 0 0 (Nat.zero_le _)) 1).2.rest 0 (numR (Rd.mk s 0 0 (Nat.zero_le _)) 1).2.f (Nat.zero_le _)) 4).2.rest 0 (numR (Rd.mk (numR (Rd.mk s 0 0 (Nat.zero_le _)) 1).2.rest 0 (numR (Rd.mk s 0 0 (Nat.zero_le _)) 1).2.f (Nat.zero_le _)) 4).2.f (Nat.zero_le _)) 4).2.rest 0 (numR (Rd.mk (numR (Rd.mk (numR (Rd.mk s 0 0 (Nat.zero_le _)) 1).2.rest 0 (numR (Rd.mk s 0 0 (Nat.zero_le _)) 1).2.f (Nat.zero_le _)) 4).2.rest 0 (numR (Rd.mk (numR (Rd.mk s 0 0 (Nat.zero_le _)) 1).2.rest 0 (numR (Rd.mk s 0 0 (Nat.zero_le _)) 1).2.f (Nat.zero_le _)) 4).2.f (Nat.zero_le _)) 4).2.f (Nat.zero_le _))).1.1 = unR s := by rw [hq2, hq3, hq4]
  refine WL.op rfl rfl (op_move rfl ?_)
  refine WL.op rfl rfl (op_callF Fa.C35 rfl ((fend_ok b2 ((textR (Rd.mk ((numR (Rd.mk ((numR (Rd.mk ((numR (Rd.mk s 0 0 (Nat.zero_le _)) 1).2.rest) 0 ((numR (Rd.mk s 0 0 (Nat.zero_le _)) 1).2.f) (Nat.zero_le _)) 4).2.rest) 0 ((numR (Rd.mk ((numR (Rd.mk s 0 0 (Nat.zero_le _)) 1).2.rest) 0 ((numR (Rd.mk s 0 0 (Nat.zero_le _)) 1).2.f) (Nat.zero_le _)) 4).2.f) (Nat.zero_le _)) 4).2.rest) 0 ((numR (Rd.mk ((numR (Rd.mk ((numR (Rd.mk s 0 0 (Nat.zero_le _)) 1).2.rest) 0 ((numR (Rd.mk s 0 0 (Nat.zero_le _)) 1).2.f) (Nat.zero_le _)) 4).2.rest) 0 ((numR (Rd.mk ((numR (Rd.mk s 0 0 (Nat.zero_le _)) 1).2.rest) 0 ((numR (Rd.mk s 0 0 (Nat.zero_le _)) 1).2.f) (Nat.zero_le _)) 4).2.f) (Nat.zero_le _)) 4).2.f) (Nat.zero_le _))).2.rest) ((textR (Rd.mk ((numR (Rd.mk ((numR (Rd.mk ((numR (Rd.mk s 0 0 (Nat.zero_le _)) 1).2.rest) 0 ((numR (Rd.mk s 0 0 (Nat.zero_le _)) 1).2.f) (Nat.zero_le _)) 4).2.rest) 0 ((numR (Rd.mk ((numR (Rd.mk s 0 0 (Nat.zero_le _)) 1).2.rest) 0 ((numR (Rd.mk s 0 0 (Nat.zero_le _)) 1).2.f) (Nat.zero_le _)) 4).2.f) (Nat.zero_le _)) 4).2.rest) 0 ((numR (Rd.mk ((numR (Rd.mk ((numR (Rd.mk s 0 0 (Nat.zero_le _)) 1).2.rest) 0 ((numR (Rd.mk s 0 0 (Nat.zero_le _)) 1).2.f) (Nat.zero_le _)) 4).2.rest) 0 ((numR (Rd.mk ((numR (Rd.mk s 0 0 (Nat.zero_le _)) 1).2.rest) 0 ((numR (Rd.mk s 0 0 (Nat.zero_le _)) 1).2.f) (Nat.zero_le _)) 4).2.f) (Nat.zero_le _)) 4).2.f) (Nat.zero_le _))).2.f)  _ _ (H9.part [1] rfl rfl) (by first | with_reducible exact hs | ((repeat (first | with_reducible apply text_rest_lt | with_reducible apply num_rest_lt)); with_reducible exact hs))).mono (fun e w10 hq => ?_)))
  obtain ⟨rfl, hq10⟩ := hq
  refine ⟨_, rfl, ?_⟩
  have H10 : Own [] w w10 [.blk b1 [(vU8 0), (vN 0), (vN 0), (str [])] 143, .blk b2 [(str (endR (Rd.mk ((textR (Rd.mk ((numR (Rd.mk ((numR (Rd.mk ((numR (Rd.mk s 0 0 (Nat.zero_le _)) 1).2.rest) 0 ((numR (Rd.mk s 0 0 (Nat.zero_le _)) 1).2.f) (Nat.zero_le _)) 4).2.rest) 0 ((numR (Rd.mk ((numR (Rd.mk s 0 0 (Nat.zero_le _)) 1).2.rest) 0 ((numR (Rd.mk s 0 0 (Nat.zero_le _)) 1).2.f) (Nat.zero_le _)) 4).2.f) (Nat.zero_le _)) 4).2.rest) 0 ((numR (Rd.mk ((numR (Rd.mk ((numR (Rd.mk s 0 0 (Nat.zero_le _)) 1).2.rest) 0 ((numR (Rd.mk s 0 0 (Nat.zero_le _)) 1).2.f) (Nat.zero_le _)) 4).2.rest) 0 ((numR (Rd.mk ((numR (Rd.mk s 0 0 (Nat.zero_le _)) 1).2.rest) 0 ((numR (Rd.mk s 0 0 (Nat.zero_le _)) 1).2.f) (Nat.zero_le _)) 4).2.f) (Nat.zero_le _)) 4).2.f) (Nat.zero_le _))).2.rest) 0 ((textR (Rd.mk ((numR (Rd.mk ((numR (Rd.mk ((numR (Rd.mk s 0 0 (Nat.zero_le _)) 1).2.rest) 0 ((numR (Rd.mk s 0 0 (Nat.zero_le _)) 1).2.f) (Nat.zero_le _)) 4).2.rest) 0 ((numR (Rd.mk ((numR (Rd.mk s 0 0 (Nat.zero_le _)) 1).2.rest) 0 ((numR (Rd.mk s 0 0 (Nat.zero_le _)) 1).2.f) (Nat.zero_le _)) 4).2.f) (Nat.zero_le _)) 4).2.rest) 0 ((numR (Rd.mk ((numR (Rd.mk ((numR (Rd.mk s 0 0 (Nat.zero_le _)) 1).2.rest) 0 ((numR (Rd.mk s 0 0 (Nat.zero_le _)) 1).2.f) (Nat.zero_le _)) 4).2.rest) 0 ((numR (Rd.mk ((numR (Rd.mk s 0 0 (Nat.zero_le _)) 1).2.rest) 0 ((numR (Rd.mk s 0 0 (Nat.zero_le _)) 1).2.f) (Nat.zero_le _)) 4).2.f) (Nat.zero_le _)) 4).2.f) (Nat.zero_le _))).2.f) (Nat.zero_le _))).2.rest), (vN (endR (Rd.mk ((textR (Rd.mk ((numR (Rd.mk ((numR (Rd.mk ((numR (Rd.mk s 0 0 (Nat.zero_le _)) 1).2.rest) 0 ((numR (Rd.mk s 0 0 (Nat.zero_le _)) 1).2.f) (Nat.zero_le _)) 4).2.rest) 0 ((numR (Rd.mk ((numR (Rd.mk s 0 0 (Nat.zero_le _)) 1).2.rest) 0 ((numR (Rd.mk s 0 0 (Nat.zero_le _)) 1).2.f) (Nat.zero_le _)) 4).2.f) (Nat.zero_le _)) 4).2.rest) 0 ((numR (Rd.mk ((numR (Rd.mk ((numR (Rd.mk s 0 0 (Nat.zero_le _)) 1).2.rest) 0 ((numR (Rd.mk s 0 0 (Nat.zero_le _)) 1).2.f) (Nat.zero_le _)) 4).2.rest) 0 ((numR (Rd.mk ((numR (Rd.mk s 0 0 (Nat.zero_le _)) 1).2.rest) 0 ((numR (Rd.mk s 0 0 (Nat.zero_le _)) 1).2.f) (Nat.zero_le _)) 4).2.f) (Nat.zero_le _)) 4).2.f) (Nat.zero_le _))).2.rest) 0 ((textR (Rd.mk ((numR (Rd.mk ((numR (Rd.mk ((numR (Rd.mk s 0 0 (Nat.zero_le _)) 1).2.rest) 0 ((numR (Rd.mk s 0 0 (Nat.zero_le _)) 1).2.f) (Nat.zero_le _)) 4).2.rest) 0 ((numR (Rd.mk ((numR (Rd.mk s 0 0 (Nat.zero_le _)) 1).2.rest) 0 ((numR (Rd.mk s 0 0 (Nat.zero_le _)) 1).2.f) (Nat.zero_le _)) 4).2.f) (Nat.zero_le _)) 4).2.rest) 0 ((numR (Rd.mk ((numR (Rd.mk ((numR (Rd.mk s 0 0 (Nat.zero_le _)) 1).2.rest) 0 ((numR (Rd.mk s 0 0 (Nat.zero_le _)) 1).2.f) (Nat.zero_le _)) 4).2.rest) 0 ((numR (Rd.mk ((numR (Rd.mk s 0 0 (Nat.zero_le _)) 1).2.rest) 0 ((numR (Rd.mk s 0 0 (Nat.zero_le _)) 1).2.f) (Nat.zero_le _)) 4).2.f) (Nat.zero_le _)) 4).2.f) (Nat.zero_le _))).2.f) (Nat.zero_le _))).2.f)] 47, .blk b7 [(vU8 (UInt8.ofNat (numR (Rd.mk s 0 0 (Nat.zero_le _)) 1).1.1.toNat)), (vI (w32 ((numR (Rd.mk ((numR (Rd.mk s 0 0 (Nat.zero_le _)) 1).2.rest) 0 ((numR (Rd.mk s 0 0 (Nat.zero_le _)) 1).2.f) (Nat.zero_le _)) 4).1.1.toNat : Int))), (vI (w32 ((numR (Rd.mk ((numR (Rd.mk ((numR (Rd.mk s 0 0 (Nat.zero_le _)) 1).2.rest) 0 ((numR (Rd.mk s 0 0 (Nat.zero_le _)) 1).2.f) (Nat.zero_le _)) 4).2.rest) 0 ((numR (Rd.mk ((numR (Rd.mk s 0 0 (Nat.zero_le _)) 1).2.rest) 0 ((numR (Rd.mk s 0 0 (Nat.zero_le _)) 1).2.f) (Nat.zero_le _)) 4).2.f) (Nat.zero_le _)) 4).1.1.toNat : Int))), (str (textR (Rd.mk ((numR (Rd.mk ((numR (Rd.mk ((numR (Rd.mk s 0 0 (Nat.zero_le _)) 1).2.rest) 0 ((numR (Rd.mk s 0 0 (Nat.zero_le _)) 1).2.f) (Nat.zero_le _)) 4).2.rest) 0 ((numR (Rd.mk ((numR (Rd.mk s 0 0 (Nat.zero_le _)) 1).2.rest) 0 ((numR (Rd.mk s 0 0 (Nat.zero_le _)) 1).2.f) (Nat.zero_le _)) 4).2.f) (Nat.zero_le _)) 4).2.rest) 0 ((numR (Rd.mk ((numR (Rd.mk ((numR (Rd.mk s 0 0 (Nat.zero_le _)) 1).2.rest) 0 ((numR (Rd.mk s 0 0 (Nat.zero_le _)) 1).2.f) (Nat.zero_le _)) 4).2.rest) 0 ((numR (Rd.mk ((numR (Rd.mk s 0 0 (Nat.zero_le _)) 1).2.rest) 0 ((numR (Rd.mk s 0 0 (Nat.zero_le _)) 1).2.f) (Nat.zero_le _)) 4).2.f) (Nat.zero_le _)) 4).2.f) (Nat.zero_le _))).1.1)] 143] := H9.splice [1] [.blk b2 [(str (endR (Rd.mk ((textR (Rd.mk ((numR (Rd.mk ((numR (Rd.mk ((numR (Rd.mk s 0 0 (Nat.zero_le _)) 1).2.rest) 0 ((numR (Rd.mk s 0 0 (Nat.zero_le _)) 1).2.f) (Nat.zero_le _)) 4).2.rest) 0 ((numR (Rd.mk ((numR (Rd.mk s 0 0 (Nat.zero_le _)) 1).2.rest) 0 ((numR (Rd.mk s 0 0 (Nat.zero_le _)) 1).2.f) (Nat.zero_le _)) 4).2.f) (Nat.zero_le _)) 4).2.rest) 0 ((numR (Rd.mk ((numR (Rd.mk ((numR (Rd.mk s 0 0 (Nat.zero_le _)) 1).2.rest) 0 ((numR (Rd.mk s 0 0 (Nat.zero_le _)) 1).2.f) (Nat.zero_le _)) 4).2.rest) 0 ((numR (Rd.mk ((numR (Rd.mk s 0 0 (Nat.zero_le _)) 1).2.rest) 0 ((numR (Rd.mk s 0 0 (Nat.zero_le _)) 1).2.f) (Nat.zero_le _)) 4).2.f) (Nat.zero_le _)) 4).2.f) (Nat.zero_le _))).2.rest) 0 ((textR (Rd.mk ((numR (Rd.mk ((numR (Rd.mk ((numR (Rd.mk s 0 0 (Nat.zero_le _)) 1).2.rest) 0 ((numR (Rd.mk s 0 0 (Nat.zero_le _)) 1).2.f) (Nat.zero_le _)) 4).2.rest) 0 ((numR (Rd.mk ((numR (Rd.mk s 0 0 (Nat.zero_le _)) 1).2.rest) 0 ((numR (Rd.mk s 0 0 (Nat.zero_le _)) 1).2.f) (Nat.zero_le _)) 4).2.f) (Nat.zero_le _)) 4).2.rest) 0 ((numR (Rd.mk ((numR (Rd.mk ((numR (Rd.mk s 0 0 (Nat.zero_le _)) 1).2.rest) 0 ((numR (Rd.mk s 0 0 (Nat.zero_le _)) 1).2.f) (Nat.zero_le _)) 4).2.rest) 0 ((numR (Rd.mk ((numR (Rd.mk s 0 0 (Nat.zero_le _)) 1).2.rest) 0 ((numR (Rd.mk s 0 0 (Nat.zero_le _)) 1).2.f) (Nat.zero_le _)) 4).2.f) (Nat.zero_le _)) 4).2.f) (Nat.zero_le _))).2.f) (Nat.zero_le _))).2.rest), (vN (endR (Rd.mk ((textR (Rd.mk ((numR (Rd.mk ((numR (Rd.mk ((numR (Rd.mk s 0 0 (Nat.zero_le _)) 1).2.rest) 0 ((numR (Rd.mk s 0 0 (Nat.zero_le _)) 1).2.f) (Nat.zero_le _)) 4).2.rest) 0 ((numR (Rd.mk ((numR (Rd.mk s 0 0 (Nat.zero_le _)) 1).2.rest) 0 ((numR (Rd.mk s 0 0 (Nat.zero_le _)) 1).2.f) (Nat.zero_le _)) 4).2.f) (Nat.zero_le _)) 4).2.rest) 0 ((numR (Rd.mk ((numR (Rd.mk ((numR (Rd.mk s 0 0 (Nat.zero_le _)) 1).2.rest) 0 ((numR (Rd.mk s 0 0 (Nat.zero_le _)) 1).2.f) (Nat.zero_le _)) 4).2.rest) 0 ((numR (Rd.mk ((numR (Rd.mk s 0 0 (Nat.zero_le _)) 1).2.rest) 0 ((numR (Rd.mk s 0 0 (Nat.zero_le _)) 1).2.f) (Nat.zero_le _)) 4).2.f) (Nat.zero_le _)) 4).2.f) (Nat.zero_le _))).2.rest) 0 ((textR (Rd.mk ((numR (Rd.mk ((numR (Rd.mk ((numR (Rd.mk s 0 0 (Nat.zero_le _)) 1).2.rest) 0 ((numR (Rd.mk s 0 0 (Nat.zero_le _)) 1).2.f) (Nat.zero_le _)) 4).2.rest) 0 ((numR (Rd.mk ((numR (Rd.mk s 0 0 (Nat.zero_le _)) 1).2.rest) 0 ((numR (Rd.mk s 0 0 (Nat.zero_le _)) 1).2.f) (Nat.zero_le _)) 4).2.f) (Nat.zero_le _)) 4).2.rest) 0 ((numR (Rd.mk ((numR (Rd.mk ((numR (Rd.mk s 0 0 (Nat.zero_le _)) 1).2.rest) 0 ((numR (Rd.mk s 0 0 (Nat.zero_le _)) 1).2.f) (Nat.zero_le _)) 4).2.rest) 0 ((numR (Rd.mk ((numR (Rd.mk s 0 0 (Nat.zero_le _)) 1).2.rest) 0 ((numR (Rd.mk s 0 0 (Nat.zero_le _)) 1).2.f) (Nat.zero_le _)) 4).2.f) (Nat.zero_le _)) 4).2.f) (Nat.zero_le _))).2.f) (Nat.zero_le _))).2.f)] 47] [] rfl rfl hq10 (Fits.solid True.intro Fits.nil)
  refine WL.op rfl rfl (op_neqN (b := 0) rfl rfl ?_)
  refine WL.op rfl rfl (op_move rfl ?_)
  refine WL.split (t := 57) rfl (fun (hb11 : (decide ((endR (Rd.mk ((textR (Rd.mk ((numR (Rd.mk ((numR (Rd.mk ((numR (Rd.mk s 0 0 (Nat.zero_le _)) 1).2.rest) 0 ((numR (Rd.mk s 0 0 (Nat.zero_le _)) 1).2.f) (Nat.zero_le _)) 4).2.rest) 0 ((numR (Rd.mk ((numR (Rd.mk s 0 0 (Nat.zero_le _)) 1).2.rest) 0 ((numR (Rd.mk s 0 0 (Nat.zero_le _)) 1).2.f) (Nat.zero_le _)) 4).2.f) (Nat.zero_le _)) 4).2.rest) 0 ((numR (Rd.mk ((numR (Rd.mk ((numR (Rd.mk s 0 0 (Nat.zero_le _)) 1).2.rest) 0 ((numR (Rd.mk s 0 0 (Nat.zero_le _)) 1).2.f) (Nat.zero_le _)) 4).2.rest) 0 ((numR (Rd.mk ((numR (Rd.mk s 0 0 (Nat.zero_le _)) 1).2.rest) 0 ((numR (Rd.mk s 0 0 (Nat.zero_le _)) 1).2.f) (Nat.zero_le _)) 4).2.f) (Nat.zero_le _)) 4).2.f) (Nat.zero_le _))).2.rest) 0 ((textR (Rd.mk ((numR (Rd.mk ((numR (Rd.mk ((numR (Rd.mk s 0 0 (Nat.zero_le _)) 1).2.rest) 0 ((numR (Rd.mk s 0 0 (Nat.zero_le _)) 1).2.f) (Nat.zero_le _)) 4).2.rest) 0 ((numR (Rd.mk ((numR (Rd.mk s 0 0 (Nat.zero_le _)) 1).2.rest) 0 ((numR (Rd.mk s 0 0 (Nat.zero_le _)) 1).2.f) (Nat.zero_le _)) 4).2.f) (Nat.zero_le _)) 4).2.rest) 0 ((numR (Rd.mk ((numR (Rd.mk ((numR (Rd.mk s 0 0 (Nat.zero_le _)) 1).2.rest) 0 ((numR (Rd.mk s 0 0 (Nat.zero_le _)) 1).2.f) (Nat.zero_le _)) 4).2.rest) 0 ((numR (Rd.mk ((numR (Rd.mk s 0 0 (Nat.zero_le _)) 1).2.rest) 0 ((numR (Rd.mk s 0 0 (Nat.zero_le _)) 1).2.f) (Nat.zero_le _)) 4).2.f) (Nat.zero_le _)) 4).2.f) (Nat.zero_le _))).2.f) (Nat.zero_le _))).1 ≠ 0)) = true) => ?_) (fun (hb11 : (decide ((endR (Rd.mk ((textR (Rd.mk ((numR (Rd.mk ((numR (Rd.mk ((numR (Rd.mk s 0 0 (Nat.zero_le _)) 1).2.rest) 0 ((numR (Rd.mk s 0 0 (Nat.zero_le _)) 1).2.f) (Nat.zero_le _)) 4).2.rest) 0 ((numR (Rd.mk ((numR (Rd.mk s 0 0 (Nat.zero_le _)) 1).2.rest) 0 ((numR (Rd.mk s 0 0 (Nat.zero_le _)) 1).2.f) (Nat.zero_le _)) 4).2.f) (Nat.zero_le _)) 4).2.rest) 0 ((numR (Rd.mk ((numR (Rd.mk ((numR (Rd.mk s 0 0 (Nat.zero_le _)) 1).2.rest) 0 ((numR (Rd.mk s 0 0 (Nat.zero_le _)) 1).2.f) (Nat.zero_le _)) 4).2.rest) 0 ((numR (Rd.mk ((numR (Rd.mk s 0 0 (Nat.zero_le _)) 1).2.rest) 0 ((numR (Rd.mk s 0 0 (Nat.zero_le _)) 1).2.f) (Nat.zero_le _)) 4).2.f) (Nat.zero_le _)) 4).2.f) (Nat.zero_le _))).2.rest) 0 ((textR (Rd.mk ((numR (Rd.mk ((numR (Rd.mk ((numR (Rd.mk s 0 0 (Nat.zero_le _)) 1).2.rest) 0 ((numR (Rd.mk s 0 0 (Nat.zero_le _)) 1).2.f) (Nat.zero_le _)) 4).2.rest) 0 ((numR (Rd.mk ((numR (Rd.mk s 0 0 (Nat.zero_le _)) 1).2.rest) 0 ((numR (Rd.mk s 0 0 (Nat.zero_le _)) 1).2.f) (Nat.zero_le _)) 4).2.f) (Nat.zero_le _)) 4).2.rest) 0 ((numR (Rd.mk ((numR (Rd.mk ((numR (Rd.mk s 0 0 (Nat.zero_le _)) 1).2.rest) 0 ((numR (Rd.mk s 0 0 (Nat.zero_le _)) 1).2.f) (Nat.zero_le _)) 4).2.rest) 0 ((numR (Rd.mk ((numR (Rd.mk s 0 0 (Nat.zero_le _)) 1).2.rest) 0 ((numR (Rd.mk s 0 0 (Nat.zero_le _)) 1).2.f) (Nat.zero_le _)) 4).2.f) (Nat.zero_le _)) 4).2.f) (Nat.zero_le _))).2.f) (Nat.zero_le _))).1 ≠ 0)) = false) => ?_)
  ·
    have hc11 := of_decide_eq_true hb11
    refine WL.no rfl rfl rfl hb11 rfl ?_
    refine WL.no rfl rfl rfl hb11 rfl ?_
    refine WL.op rfl rfl (op_pickT rfl hb11 rfl ?_)
    refine WL.op rfl rfl (op_move rfl ?_)
    refine WL.no rfl rfl rfl rfl rfl ?_
    refine WL.no rfl rfl rfl rfl rfl ?_
    refine WL.no rfl rfl rfl rfl rfl ?_
    refine WL.op rfl rfl (op_pickT rfl rfl rfl ?_)
    refine WL.nil ?_
    refine WQ.next ?_
    refine WC.yes rfl rfl ?_
    refine WC.seq ?_
    refine WC.region ?_
    refine WL.op rfl rfl (op_build (cs := [_, _, _, _]) Fa.I143 Fa.PL143 rfl rfl ?_)
    refine WL.op rfl rfl (op_storeBW (i := 0) H10 rfl rfl rfl rfl rfl Fa.I143 (fun w12 H12 => ?_))
    refine WL.op rfl rfl (op_assign rfl ?_)
    refine WL.nil ?_
    refine WQ.next ?_
    refine WC.ret ?_
    refine WQ.thenRet ?_
    refine WQ.out (.cell rfl (run_loadVarS (vs := [_, _, _, _]) (H12.cells (i := 0) rfl rfl) Try.underlying143 rfl Fa.I143 rfl) (.tmp rfl .nil)) ?_
    rw [hq5] at hc11
    have hE : unE s = 7 := by rw [unE_ref, if_pos (Or.inl hc11)]
    rw [unA, hE, if_neg (by decide)]
    exact ⟨rfl, H12.fr⟩
  ·
    have hc11 := of_decide_eq_false hb11
    refine WL.yes rfl rfl rfl hb11 rfl (op_move rfl ?_)
    refine WL.yes rfl rfl rfl hb11 rfl (op_neqN (b := 0) rfl rfl ?_)
    refine WL.op rfl rfl (op_pickF rfl hb11 rfl ?_)
    refine WL.op rfl rfl (op_move rfl ?_)
    refine WL.split (t := 61) rfl (fun (hb13 : (decide ((actE (Ac.mk (UInt8.ofNat (numR (Rd.mk s 0 0 (Nat.zero_le _)) 1).1.1.toNat) (w32 ((numR (Rd.mk ((numR (Rd.mk s 0 0 (Nat.zero_le _)) 1).2.rest) 0 ((numR (Rd.mk s 0 0 (Nat.zero_le _)) 1).2.f) (Nat.zero_le _)) 4).1.1.toNat : Int)) (w32 ((numR (Rd.mk ((numR (Rd.mk ((numR (Rd.mk s 0 0 (Nat.zero_le _)) 1).2.rest) 0 ((numR (Rd.mk s 0 0 (Nat.zero_le _)) 1).2.f) (Nat.zero_le _)) 4).2.rest) 0 ((numR (Rd.mk ((numR (Rd.mk s 0 0 (Nat.zero_le _)) 1).2.rest) 0 ((numR (Rd.mk s 0 0 (Nat.zero_le _)) 1).2.f) (Nat.zero_le _)) 4).2.f) (Nat.zero_le _)) 4).1.1.toNat : Int)) ((textR (Rd.mk ((numR (Rd.mk ((numR (Rd.mk ((numR (Rd.mk s 0 0 (Nat.zero_le _)) 1).2.rest) 0 ((numR (Rd.mk s 0 0 (Nat.zero_le _)) 1).2.f) (Nat.zero_le _)) 4).2.rest) 0 ((numR (Rd.mk ((numR (Rd.mk s 0 0 (Nat.zero_le _)) 1).2.rest) 0 ((numR (Rd.mk s 0 0 (Nat.zero_le _)) 1).2.f) (Nat.zero_le _)) 4).2.f) (Nat.zero_le _)) 4).2.rest) 0 ((numR (Rd.mk ((numR (Rd.mk ((numR (Rd.mk s 0 0 (Nat.zero_le _)) 1).2.rest) 0 ((numR (Rd.mk s 0 0 (Nat.zero_le _)) 1).2.f) (Nat.zero_le _)) 4).2.rest) 0 ((numR (Rd.mk ((numR (Rd.mk s 0 0 (Nat.zero_le _)) 1).2.rest) 0 ((numR (Rd.mk s 0 0 (Nat.zero_le _)) 1).2.f) (Nat.zero_le _)) 4).2.f) (Nat.zero_le _)) 4).2.f) (Nat.zero_le _))).1.1))) ≠ 0)) = true) => ?_) (fun (hb13 : (decide ((actE (Ac.mk (UInt8.ofNat (numR (Rd.mk s 0 0 (Nat.zero_le _)) 1).1.1.toNat) (w32 ((numR (Rd.mk ((numR (Rd.mk s 0 0 (Nat.zero_le _)) 1).2.rest) 0 ((numR (Rd.mk s 0 0 (Nat.zero_le _)) 1).2.f) (Nat.zero_le _)) 4).1.1.toNat : Int)) (w32 ((numR (Rd.mk ((numR (Rd.mk ((numR (Rd.mk s 0 0 (Nat.zero_le _)) 1).2.rest) 0 ((numR (Rd.mk s 0 0 (Nat.zero_le _)) 1).2.f) (Nat.zero_le _)) 4).2.rest) 0 ((numR (Rd.mk ((numR (Rd.mk s 0 0 (Nat.zero_le _)) 1).2.rest) 0 ((numR (Rd.mk s 0 0 (Nat.zero_le _)) 1).2.f) (Nat.zero_le _)) 4).2.f) (Nat.zero_le _)) 4).1.1.toNat : Int)) ((textR (Rd.mk ((numR (Rd.mk ((numR (Rd.mk ((numR (Rd.mk s 0 0 (Nat.zero_le _)) 1).2.rest) 0 ((numR (Rd.mk s 0 0 (Nat.zero_le _)) 1).2.f) (Nat.zero_le _)) 4).2.rest) 0 ((numR (Rd.mk ((numR (Rd.mk s 0 0 (Nat.zero_le _)) 1).2.rest) 0 ((numR (Rd.mk s 0 0 (Nat.zero_le _)) 1).2.f) (Nat.zero_le _)) 4).2.f) (Nat.zero_le _)) 4).2.rest) 0 ((numR (Rd.mk ((numR (Rd.mk ((numR (Rd.mk s 0 0 (Nat.zero_le _)) 1).2.rest) 0 ((numR (Rd.mk s 0 0 (Nat.zero_le _)) 1).2.f) (Nat.zero_le _)) 4).2.rest) 0 ((numR (Rd.mk ((numR (Rd.mk s 0 0 (Nat.zero_le _)) 1).2.rest) 0 ((numR (Rd.mk s 0 0 (Nat.zero_le _)) 1).2.f) (Nat.zero_le _)) 4).2.f) (Nat.zero_le _)) 4).2.f) (Nat.zero_le _))).1.1))) ≠ 0)) = false) => ?_)
    ·
      have hc13 := of_decide_eq_true hb13
      refine WL.no rfl rfl rfl hb13 rfl ?_
      refine WL.no rfl rfl rfl hb13 rfl ?_
      refine WL.no rfl rfl rfl hb13 rfl ?_
      refine WL.op rfl rfl (op_pickT rfl hb13 rfl ?_)
      refine WL.nil ?_
      refine WQ.next ?_
      refine WC.yes rfl rfl ?_
      refine WC.seq ?_
      refine WC.region ?_
      refine WL.op rfl rfl (op_build (cs := [_, _, _, _]) Fa.I143 Fa.PL143 rfl rfl ?_)
      refine WL.op rfl rfl (op_storeBW (i := 0) H10 rfl rfl rfl rfl rfl Fa.I143 (fun w14 H14 => ?_))
      refine WL.op rfl rfl (op_assign rfl ?_)
      refine WL.nil ?_
      refine WQ.next ?_
      refine WC.ret ?_
      refine WQ.thenRet ?_
      refine WQ.out (.cell rfl (run_loadVarS (vs := [_, _, _, _]) (H14.cells (i := 0) rfl rfl) Try.underlying143 rfl Fa.I143 rfl) (.tmp rfl .nil)) ?_
      rw [hq5] at hc11
      rw [hU] at hc13
      have hE : unE s = 7 := by rw [unE_ref, if_pos (Or.inr (Or.inl hc13))]
      rw [unA, hE, if_neg (by decide)]
      exact ⟨rfl, H14.fr⟩
    ·
      have hc13 := of_decide_eq_false hb13
      refine WL.yes rfl rfl rfl hb13 rfl (op_move rfl ?_)
      refine WL.yes rfl rfl rfl hb13 rfl (op_move rfl ?_)
      refine WL.yes rfl rfl rfl hb13 rfl (op_neqStr rfl rfl ?_)
      refine WL.op rfl rfl (op_pickF rfl hb13 rfl ?_)
      refine WL.nil ?_
      refine WQ.next ?_
      refine WC.cond rfl (fun (hb15 : (decide ((actS (Ac.mk (UInt8.ofNat (numR (Rd.mk s 0 0 (Nat.zero_le _)) 1).1.1.toNat) (w32 ((numR (Rd.mk ((numR (Rd.mk s 0 0 (Nat.zero_le _)) 1).2.rest) 0 ((numR (Rd.mk s 0 0 (Nat.zero_le _)) 1).2.f) (Nat.zero_le _)) 4).1.1.toNat : Int)) (w32 ((numR (Rd.mk ((numR (Rd.mk ((numR (Rd.mk s 0 0 (Nat.zero_le _)) 1).2.rest) 0 ((numR (Rd.mk s 0 0 (Nat.zero_le _)) 1).2.f) (Nat.zero_le _)) 4).2.rest) 0 ((numR (Rd.mk ((numR (Rd.mk s 0 0 (Nat.zero_le _)) 1).2.rest) 0 ((numR (Rd.mk s 0 0 (Nat.zero_le _)) 1).2.f) (Nat.zero_le _)) 4).2.f) (Nat.zero_le _)) 4).1.1.toNat : Int)) ((textR (Rd.mk ((numR (Rd.mk ((numR (Rd.mk ((numR (Rd.mk s 0 0 (Nat.zero_le _)) 1).2.rest) 0 ((numR (Rd.mk s 0 0 (Nat.zero_le _)) 1).2.f) (Nat.zero_le _)) 4).2.rest) 0 ((numR (Rd.mk ((numR (Rd.mk s 0 0 (Nat.zero_le _)) 1).2.rest) 0 ((numR (Rd.mk s 0 0 (Nat.zero_le _)) 1).2.f) (Nat.zero_le _)) 4).2.f) (Nat.zero_le _)) 4).2.rest) 0 ((numR (Rd.mk ((numR (Rd.mk ((numR (Rd.mk s 0 0 (Nat.zero_le _)) 1).2.rest) 0 ((numR (Rd.mk s 0 0 (Nat.zero_le _)) 1).2.f) (Nat.zero_le _)) 4).2.rest) 0 ((numR (Rd.mk ((numR (Rd.mk s 0 0 (Nat.zero_le _)) 1).2.rest) 0 ((numR (Rd.mk s 0 0 (Nat.zero_le _)) 1).2.f) (Nat.zero_le _)) 4).2.f) (Nat.zero_le _)) 4).2.f) (Nat.zero_le _))).1.1))) ≠ s)) = true) => ?_) (fun (hb15 : (decide ((actS (Ac.mk (UInt8.ofNat (numR (Rd.mk s 0 0 (Nat.zero_le _)) 1).1.1.toNat) (w32 ((numR (Rd.mk ((numR (Rd.mk s 0 0 (Nat.zero_le _)) 1).2.rest) 0 ((numR (Rd.mk s 0 0 (Nat.zero_le _)) 1).2.f) (Nat.zero_le _)) 4).1.1.toNat : Int)) (w32 ((numR (Rd.mk ((numR (Rd.mk ((numR (Rd.mk s 0 0 (Nat.zero_le _)) 1).2.rest) 0 ((numR (Rd.mk s 0 0 (Nat.zero_le _)) 1).2.f) (Nat.zero_le _)) 4).2.rest) 0 ((numR (Rd.mk ((numR (Rd.mk s 0 0 (Nat.zero_le _)) 1).2.rest) 0 ((numR (Rd.mk s 0 0 (Nat.zero_le _)) 1).2.f) (Nat.zero_le _)) 4).2.f) (Nat.zero_le _)) 4).1.1.toNat : Int)) ((textR (Rd.mk ((numR (Rd.mk ((numR (Rd.mk ((numR (Rd.mk s 0 0 (Nat.zero_le _)) 1).2.rest) 0 ((numR (Rd.mk s 0 0 (Nat.zero_le _)) 1).2.f) (Nat.zero_le _)) 4).2.rest) 0 ((numR (Rd.mk ((numR (Rd.mk s 0 0 (Nat.zero_le _)) 1).2.rest) 0 ((numR (Rd.mk s 0 0 (Nat.zero_le _)) 1).2.f) (Nat.zero_le _)) 4).2.f) (Nat.zero_le _)) 4).2.rest) 0 ((numR (Rd.mk ((numR (Rd.mk ((numR (Rd.mk s 0 0 (Nat.zero_le _)) 1).2.rest) 0 ((numR (Rd.mk s 0 0 (Nat.zero_le _)) 1).2.f) (Nat.zero_le _)) 4).2.rest) 0 ((numR (Rd.mk ((numR (Rd.mk s 0 0 (Nat.zero_le _)) 1).2.rest) 0 ((numR (Rd.mk s 0 0 (Nat.zero_le _)) 1).2.f) (Nat.zero_le _)) 4).2.f) (Nat.zero_le _)) 4).2.f) (Nat.zero_le _))).1.1))) ≠ s)) = false) => ?_)
      ·
        have hc15 := of_decide_eq_true hb15
        refine WC.seq ?_
        refine WC.region ?_
        refine WL.op rfl rfl (op_build (cs := [_, _, _, _]) Fa.I143 Fa.PL143 rfl rfl ?_)
        refine WL.op rfl rfl (op_storeBW (i := 0) H10 rfl rfl rfl rfl rfl Fa.I143 (fun w16 H16 => ?_))
        refine WL.op rfl rfl (op_assign rfl ?_)
        refine WL.nil ?_
        refine WQ.next ?_
        refine WC.ret ?_
        refine WQ.thenRet ?_
        refine WQ.out (.cell rfl (run_loadVarS (vs := [_, _, _, _]) (H16.cells (i := 0) rfl rfl) Try.underlying143 rfl Fa.I143 rfl) (.tmp rfl .nil)) ?_
        rw [hq5] at hc11
        rw [hU] at hc13
        rw [hU] at hc15
        have hE : unE s = 7 := by rw [unE_ref, if_pos (Or.inr (Or.inr hc15))]
        rw [unA, hE, if_neg (by decide)]
        exact ⟨rfl, H16.fr⟩
      ·
        have hc15 := of_decide_eq_false hb15
        refine WC.skip ?_
        refine WQ.next ?_
        refine WC.seq ?_
        refine WC.region ?_
        refine WL.op rfl rfl (op_loadS (vs := [_, _, _, _]) rfl (H10.cells (i := 2) rfl rfl) Try.underlying143 rfl Fa.I143 rfl ?_)
        refine WL.op rfl rfl (op_storeBW (i := 0) H10 rfl rfl rfl rfl rfl Fa.I143 (fun w17 H17 => ?_))
        refine WL.op rfl rfl (op_assign rfl ?_)
        refine WL.nil ?_
        refine WQ.next ?_
        refine WC.ret ?_
        refine WQ.out (.cell rfl (run_loadVarS (vs := [_, _, _, _]) (H17.cells (i := 0) rfl rfl) Try.underlying143 rfl Fa.I143 rfl) (.tmp rfl .nil)) ?_
        rw [hq5] at hc11
        rw [hU] at hc13
        rw [hU] at hc15
        have hE : unE s = 0 := by
          rw [unE_ref, if_neg]
          rintro (h | h | h)
          · exact hc11 h
          · exact hc13 h
          · exact hc15 h
        rw [unA_eq hE, hE]
        exact ⟨by rw [hq2, hq3, hq4]; rfl, H17.fr⟩
end Go.Proofs.Ytpnghdalnghpcaa
/-! from WSha -/
namespace Go.Proofs.Ytpnghdalnghpcaa
open Go.Owl Go.Spec
set_option maxRecDepth 100000 in
theorem turn_ok (x : UInt32) (n : Nat) (hn : n ≤ 32) (w : World) :
    Calls Try.prog 152 #[(vU32 x), (vN n)] w (fun e w' => e = .returned (vU32 (rot x n)) ∧ Fr [] w w') := by
  refine enter (args := [(vU32 x), (vN n)]) Try.func152 rfl rfl ?_
  have H0 : Own [] w w [] := Own.start w []
  refine WC.seq ?_
  refine WC.region ?_
  refine WL.op rfl rfl (op_assign rfl ?_)
  refine WL.nil ?_
  refine WQ.next ?_
  refine WC.seq ?_
  refine WC.draw 9 Fa.M H0 (HW.op rfl (fun w1 H1 => op_move rfl ⟨rfl, Fr.refl _ _⟩) (HW.op rfl (fun w1 H1 => op_move rfl ⟨rfl, Fr.refl _ _⟩) (HW.op rfl (fun w1 H1 => op_shrU32 rfl rfl ⟨rfl, Fr.refl _ _⟩) (HW.op rfl (fun w1 H1 => op_move rfl ⟨rfl, Fr.refl _ _⟩) (HW.op rfl (fun w1 H1 => op_move rfl ⟨rfl, Fr.refl _ _⟩) (HW.op rfl (fun w1 H1 => op_subN (a := 32) rfl rfl (by omega) (by omega) ⟨rfl, Fr.refl _ _⟩) (HW.op rfl (fun w1 H1 => op_shlU32 rfl rfl ⟨rfl, Fr.refl _ _⟩) (HW.op rfl (fun w1 H1 => op_orU32 rfl rfl ⟨rfl, Fr.refl _ _⟩) (HW.op rfl (fun w1 H1 => op_assign rfl ⟨rfl, Fr.refl _ _⟩)  HW.nil))))))))) (by kernel_rfl) ?_
  intro β1 w1 H1
  refine WL.nil ?_
  refine WQ.next ?_
  refine WC.ret ?_
  refine WQ.out (.tmp rfl .nil) ?_
  exact ⟨rfl, H1.fr⟩
set_option maxRecDepth 100000 in
theorem first_ok  (w : World) :
    Calls Try.prog 143 #[] w (fun e w' => e = .returned (.agg #[vU32 firstS.a, vU32 firstS.b, vU32 firstS.c, vU32 firstS.d, vU32 firstS.e, vU32 firstS.f, vU32 firstS.g, vU32 firstS.h]) ∧ Fr [] w w') := by
  refine enter (args := []) Try.func143 rfl rfl ?_
  have H0 : Own [] w w [] := Own.start w []
  refine WC.seq ?_
  refine WC.region ?_
  refine WL.op rfl rfl (op_alloc H0 Fa.I195 (fun b1 w1 H1 => ?_))
  refine WL.nil ?_
  refine WQ.next ?_
  refine WC.seq ?_
  refine WC.region ?_
  refine WL.op rfl rfl (op_buildA (cs := [_, _, _, _, _, _, _, _]) Fa.I195 Try.underlying195 Fa.I22 rfl rfl ?_)
  refine WL.op rfl rfl (op_storeBW (i := 0) H1 rfl rfl rfl rfl rfl Fa.I195 (fun w2 H2 => ?_))
  refine WL.nil ?_
  refine WQ.next ?_
  refine WC.ret ?_
  refine WQ.out (.cell rfl (run_loadVarS (vs := [_, _, _, _, _, _, _, _]) (H2.cells (i := 0) rfl rfl) Try.underlying195 rfl Fa.I195 rfl) .nil) ?_
  exact ⟨rfl, H2.fr⟩
set_option maxRecDepth 100000 in
theorem keys_ok  (w : World) :
    Calls Try.prog 151 #[] w (fun e w' => e = .returned (.agg (keyL.map vU32).toArray) ∧ Fr [] w w') := by
  refine enter (args := []) Try.func151 rfl rfl ?_
  have H0 : Own [] w w [] := Own.start w []
  refine WC.seq ?_
  refine WC.region ?_
  refine WL.op rfl rfl (op_alloc H0 Fa.I204 (fun b1 w1 H1 => ?_))
  refine WL.nil ?_
  refine WQ.next ?_
  refine WC.seq ?_
  refine WC.region ?_
  refine WL.op rfl rfl (op_buildA (cs := keyL.map vU32) Fa.I204 Try.underlying204 Fa.I22 rfl (by kernel_rfl) ?_)
  refine WL.op rfl rfl (op_storeBV (i := 0) H1 rfl rfl rfl (by kernel_rfl) (one_U32 _) (by kernel_rfl) Fa.I204 (fun w2 H2 => ?_))
  refine WL.nil ?_
  refine WQ.next ?_
  refine WC.ret ?_
  refine WQ.out (.cell rfl (run_loadVarS (H2.cellsW (i := 0) rfl) Try.underlying204 rfl Fa.I204 (by kernel_rfl)) .nil) ?_
  exact ⟨rfl, H2.fr⟩
set_option maxRecDepth 100000 in
theorem words_ok (v : Value) (b : List UInt8) (w : World) (hl : b.length = 64) (hA : Arr w v 1 64 (b.map vU8)) :
    Calls Try.prog 150 #[v] w (fun e w' => e = .returned (.agg ((wl b 64).map vU32).toArray) ∧ Fr [] w w') := by
  refine enter (args := [v]) Try.func150 rfl rfl ?_
  have H0 : Own [] w w [] := Own.start w []
  refine WC.seq ?_
  refine WC.region ?_
  refine WL.op rfl rfl (op_alloc H0 Fa.I204 (fun b1 w1 H1 => ?_))
  refine WL.nil ?_
  refine WQ.next ?_
  refine WC.seq ?_
  refine WC.seq ?_
  refine WC.region ?_
  refine WL.op rfl rfl (op_move rfl ?_)
  refine WL.nil ?_
  refine WQ.next ?_
  refine WC.block ?_
  refine WC.loop (α := Nat) (fun k => [(0, v), (2, (ptr b1 0)), (7, (vN k))]) (fun k w' => (k ≤ 16) ∧ Own [] w w' [.blk b1 (wC b k) 204]) (fun k => 16 - k) 0 ⟨(by omega), H1⟩ ⟨rfl, rfl, rfl, trivial⟩ ?_
  rintro k w2 ⟨hinv, H2⟩
  show WC _ _ _ _ _ [(0, v), (2, (ptr b1 0)), (7, (vN k))] _
  refine WC.seq ?_
  refine WC.region ?_
  refine WL.op rfl rfl (op_lssN (b := 16) rfl rfl ?_)
  refine WL.nil ?_
  refine WQ.next ?_
  refine WC.seq ?_
  refine WC.cond rfl (fun (hb3 : (decide (k < 16)) = true) => ?_) (fun (hb3 : (decide (k < 16)) = false) => ?_)
  ·
    have hc3 := of_decide_eq_true hb3
    refine WC.skip ?_
    refine WQ.next ?_
    refine WC.seq ?_
    refine WC.block ?_
    refine WC.seq ?_
    refine WC.region ?_
    refine WL.op rfl rfl (op_move rfl ?_)
    refine WL.op rfl rfl (op_assign rfl ?_)
    refine WL.nil ?_
    refine WQ.next ?_
    refine WC.draw 35 Fa.M H2 (HW.op rfl (fun w1 H1 => op_move rfl ⟨rfl, Fr.refl _ _⟩) (HW.op rfl (fun w1 H1 => op_move rfl ⟨rfl, Fr.refl _ _⟩) (HW.op rfl (fun w1 H1 => op_move rfl ⟨rfl, Fr.refl _ _⟩) (HW.op rfl (fun w1 H1 => op_mulN (a := 4) rfl rfl (by omega) ⟨rfl, Fr.refl _ _⟩) (HW.op rfl (fun w1 H1 => op_indexAddr1 Try.underlying73 Fa.I5 rfl (H1.arr hA) rfl (by omega) ⟨rfl, Fr.refl _ _⟩) (HW.op rfl (fun w1 H1 => op_load rfl ((H1.arr hA).at (get_map vU8 0 (by omega))) Try.underlying5 rfl ⟨rfl, Fr.refl _ _⟩) (HW.op rfl (fun w1 H1 => op_convU8U32 (hs := Try.underlying5) (hd := Try.underlying22) rfl ⟨rfl, Fr.refl _ _⟩) (HW.op rfl (fun w1 H1 => op_shlU32 (s := 24) rfl rfl ⟨rfl, Fr.refl _ _⟩) (HW.op rfl (fun w1 H1 => op_move rfl ⟨rfl, Fr.refl _ _⟩) (HW.op rfl (fun w1 H1 => op_move rfl ⟨rfl, Fr.refl _ _⟩) (HW.op rfl (fun w1 H1 => op_mulN (a := 4) rfl rfl (by omega) ⟨rfl, Fr.refl _ _⟩) (HW.op rfl (fun w1 H1 => op_addN (b := 1) rfl rfl (by omega) ⟨rfl, Fr.refl _ _⟩) (HW.op rfl (fun w1 H1 => op_indexAddr1 Try.underlying73 Fa.I5 rfl (H1.arr hA) rfl (by omega) ⟨rfl, Fr.refl _ _⟩) (HW.op rfl (fun w1 H1 => op_load rfl ((H1.arr hA).at (get_map vU8 0 (by omega))) Try.underlying5 rfl ⟨rfl, Fr.refl _ _⟩) (HW.op rfl (fun w1 H1 => op_convU8U32 (hs := Try.underlying5) (hd := Try.underlying22) rfl ⟨rfl, Fr.refl _ _⟩) (HW.op rfl (fun w1 H1 => op_shlU32 (s := 16) rfl rfl ⟨rfl, Fr.refl _ _⟩) (HW.op rfl (fun w1 H1 => op_orU32 rfl rfl ⟨rfl, Fr.refl _ _⟩) (HW.op rfl (fun w1 H1 => op_move rfl ⟨rfl, Fr.refl _ _⟩) (HW.op rfl (fun w1 H1 => op_move rfl ⟨rfl, Fr.refl _ _⟩) (HW.op rfl (fun w1 H1 => op_mulN (a := 4) rfl rfl (by omega) ⟨rfl, Fr.refl _ _⟩) (HW.op rfl (fun w1 H1 => op_addN (b := 2) rfl rfl (by omega) ⟨rfl, Fr.refl _ _⟩) (HW.op rfl (fun w1 H1 => op_indexAddr1 Try.underlying73 Fa.I5 rfl (H1.arr hA) rfl (by omega) ⟨rfl, Fr.refl _ _⟩) (HW.op rfl (fun w1 H1 => op_load rfl ((H1.arr hA).at (get_map vU8 0 (by omega))) Try.underlying5 rfl ⟨rfl, Fr.refl _ _⟩) (HW.op rfl (fun w1 H1 => op_convU8U32 (hs := Try.underlying5) (hd := Try.underlying22) rfl ⟨rfl, Fr.refl _ _⟩) (HW.op rfl (fun w1 H1 => op_shlU32 (s := 8) rfl rfl ⟨rfl, Fr.refl _ _⟩) (HW.op rfl (fun w1 H1 => op_orU32 rfl rfl ⟨rfl, Fr.refl _ _⟩) (HW.op rfl (fun w1 H1 => op_move rfl ⟨rfl, Fr.refl _ _⟩) (HW.op rfl (fun w1 H1 => op_move rfl ⟨rfl, Fr.refl _ _⟩) (HW.op rfl (fun w1 H1 => op_mulN (a := 4) rfl rfl (by omega) ⟨rfl, Fr.refl _ _⟩) (HW.op rfl (fun w1 H1 => op_addN (b := 3) rfl rfl (by omega) ⟨rfl, Fr.refl _ _⟩) (HW.op rfl (fun w1 H1 => op_indexAddr1 Try.underlying73 Fa.I5 rfl (H1.arr hA) rfl (by omega) ⟨rfl, Fr.refl _ _⟩) (HW.op rfl (fun w1 H1 => op_load rfl ((H1.arr hA).at (get_map vU8 0 (by omega))) Try.underlying5 rfl ⟨rfl, Fr.refl _ _⟩) (HW.op rfl (fun w1 H1 => op_convU8U32 (hs := Try.underlying5) (hd := Try.underlying22) rfl ⟨rfl, Fr.refl _ _⟩) (HW.op rfl (fun w1 H1 => op_orU32 rfl rfl ⟨rfl, Fr.refl _ _⟩) (HW.op rfl (fun w1 H1 => op_indexAddrA1 Try.underlying204 Fa.I22 rfl rfl (by omega) ⟨rfl, Fr.refl _ _⟩)  HW.nil))))))))))))))))))))))))))))))))))) (by kernel_rfl) ?_
    intro β4 w4 H4
    refine WL.op rfl rfl (op_storeB (i := 0) H4 rfl rfl rfl (by rw [Nat.blt_eq, wC_length _ _ (by omega)]; omega) rfl Fa.I22 (fun w5 H5 => ?_))
    refine WL.nil ?_
    refine WQ.inNormal ?_
    refine WQ.next ?_
    refine WC.region ?_
    refine WL.op rfl rfl (op_addN (b := 1) rfl rfl (by omega) ?_)
    refine WL.op rfl rfl (op_move rfl ?_)
    refine WL.nil ?_
    exact WQ.round (k + 1) ⟨(by omega), (by rw [wC_set b (k := k) (by omega), if_pos (by omega)]; exact H5)⟩ ⟨rfl, rfl, rfl, trivial⟩ (by omega)
  ·
    have hc3 := of_decide_eq_false hb3
    refine WC.exit ?_
    refine WQ.thenExit ?_
    refine WQ.thenExit ?_
    refine WQ.inHere ?_
    refine WQ.next ?_
    refine WC.seq ?_
    refine WC.seq ?_
    refine WC.region ?_
    refine WL.op rfl rfl (op_assign rfl ?_)
    refine WL.nil ?_
    refine WQ.next ?_
    refine WC.block ?_
    refine WC.loop (α := Nat) (fun k => [(0, v), (2, (ptr b1 0)), (4, (vN k))]) (fun k w' => ((16 ≤ k ∧ k ≤ 64)) ∧ Own [] w w' [.blk b1 (wC b k) 204]) (fun k => 64 - k) 16 ⟨(by omega), (by have hk : k = 16 := (by omega); subst hk; exact H2)⟩ ⟨rfl, rfl, rfl, trivial⟩ ?_
    rintro k w6 ⟨hinv, H6⟩
    show WC _ _ _ _ _ [(0, v), (2, (ptr b1 0)), (4, (vN k))] _
    refine WC.seq ?_
    refine WC.seq ?_
    refine WC.region ?_
    refine WL.op rfl rfl (op_move rfl ?_)
    refine WL.op rfl rfl (op_lssN (b := 64) rfl rfl ?_)
    refine WL.nil ?_
    refine WQ.next ?_
    refine WC.cond rfl (fun (hb7 : (decide (k < 64)) = true) => ?_) (fun (hb7 : (decide (k < 64)) = false) => ?_)
    ·
      have hc7 := of_decide_eq_true hb7
      refine WC.skip ?_
      refine WQ.next ?_
      refine WC.seq ?_
      refine WC.block ?_
      refine WC.seq ?_
      refine WC.draw 10 Fa.M H6 (HW.op rfl (fun w1 H1 => op_move rfl ⟨rfl, Fr.refl _ _⟩) (HW.op rfl (fun w1 H1 => op_subN (b := 15) rfl rfl (by omega) (by omega) ⟨rfl, Fr.refl _ _⟩) (HW.op rfl (fun w1 H1 => op_indexAddrA1 Try.underlying204 Fa.I22 rfl rfl (by omega) ⟨rfl, Fr.refl _ _⟩) (HW.op rfl (fun w1 H1 => op_load rfl (H1.cell (i := 0) rfl (wC_get b (by omega))) Try.underlying22 rfl ⟨rfl, Fr.refl _ _⟩) (HW.op rfl (fun w1 H1 => op_move rfl ⟨rfl, Fr.refl _ _⟩) (HW.op rfl (fun w1 H1 => op_subN (b := 2) rfl rfl (by omega) (by omega) ⟨rfl, Fr.refl _ _⟩) (HW.op rfl (fun w1 H1 => op_indexAddrA1 Try.underlying204 Fa.I22 rfl rfl (by omega) ⟨rfl, Fr.refl _ _⟩) (HW.op rfl (fun w1 H1 => op_load rfl (H1.cell (i := 0) rfl (wC_get b (by omega))) Try.underlying22 rfl ⟨rfl, Fr.refl _ _⟩) (HW.op rfl (fun w1 H1 => op_assign rfl ⟨rfl, Fr.refl _ _⟩) (HW.op rfl (fun w1 H1 => op_assign rfl ⟨rfl, Fr.refl _ _⟩)  HW.nil)))))))))) (by kernel_rfl) ?_
      intro β8 w8 H8
      refine WL.nil ?_
      refine WQ.next ?_
      refine WC.draw 29 Fa.M H8 (HW.op rfl (fun w1 H1 => op_move rfl ⟨rfl, Fr.refl _ _⟩) (HW.op rfl (fun w1 H1 => op_move rfl ⟨rfl, Fr.refl _ _⟩) (HW.op rfl (fun w1 H1 => op_subN (b := 16) rfl rfl (by omega) (by omega) ⟨rfl, Fr.refl _ _⟩) (HW.op rfl (fun w1 H1 => op_indexAddrA1 Try.underlying204 Fa.I22 rfl rfl (by omega) ⟨rfl, Fr.refl _ _⟩) (HW.op rfl (fun w1 H1 => op_load rfl (H1.cell (i := 0) rfl (wC_get b (by omega))) Try.underlying22 rfl ⟨rfl, Fr.refl _ _⟩) (HW.op rfl (fun w1 H1 => op_move rfl ⟨rfl, Fr.refl _ _⟩) (HW.op rfl (fun w1 H1 => op_callF Fa.C152 rfl ((turn_ok ((wl b k).getD (k - 15) 0) 7 (by decide) _).mono (fun e w2 hq => ⟨_, hq.1, rfl, hq.2⟩))) (HW.op rfl (fun w1 H1 => op_move rfl ⟨rfl, Fr.refl _ _⟩) (HW.op rfl (fun w1 H1 => op_callF Fa.C152 rfl ((turn_ok ((wl b k).getD (k - 15) 0) 18 (by decide) _).mono (fun e w2 hq => ⟨_, hq.1, rfl, hq.2⟩))) (HW.op rfl (fun w1 H1 => op_xorU32 rfl rfl ⟨rfl, Fr.refl _ _⟩) (HW.op rfl (fun w1 H1 => op_move rfl ⟨rfl, Fr.refl _ _⟩) (HW.op rfl (fun w1 H1 => op_shrU32 (s := 3) rfl rfl ⟨rfl, Fr.refl _ _⟩) (HW.op rfl (fun w1 H1 => op_xorU32 rfl rfl ⟨rfl, Fr.refl _ _⟩) (HW.op rfl (fun w1 H1 => op_addU32 rfl rfl ⟨rfl, Fr.refl _ _⟩) (HW.op rfl (fun w1 H1 => op_move rfl ⟨rfl, Fr.refl _ _⟩) (HW.op rfl (fun w1 H1 => op_subN (b := 7) rfl rfl (by omega) (by omega) ⟨rfl, Fr.refl _ _⟩) (HW.op rfl (fun w1 H1 => op_indexAddrA1 Try.underlying204 Fa.I22 rfl rfl (by omega) ⟨rfl, Fr.refl _ _⟩) (HW.op rfl (fun w1 H1 => op_load rfl (H1.cell (i := 0) rfl (wC_get b (by omega))) Try.underlying22 rfl ⟨rfl, Fr.refl _ _⟩) (HW.op rfl (fun w1 H1 => op_addU32 rfl rfl ⟨rfl, Fr.refl _ _⟩) (HW.op rfl (fun w1 H1 => op_move rfl ⟨rfl, Fr.refl _ _⟩) (HW.op rfl (fun w1 H1 => op_callF Fa.C152 rfl ((turn_ok ((wl b k).getD (k - 2) 0) 17 (by decide) _).mono (fun e w2 hq => ⟨_, hq.1, rfl, hq.2⟩))) (HW.op rfl (fun w1 H1 => op_move rfl ⟨rfl, Fr.refl _ _⟩) (HW.op rfl (fun w1 H1 => op_callF Fa.C152 rfl ((turn_ok ((wl b k).getD (k - 2) 0) 19 (by decide) _).mono (fun e w2 hq => ⟨_, hq.1, rfl, hq.2⟩))) (HW.op rfl (fun w1 H1 => op_xorU32 rfl rfl ⟨rfl, Fr.refl _ _⟩) (HW.op rfl (fun w1 H1 => op_move rfl ⟨rfl, Fr.refl _ _⟩) (HW.op rfl (fun w1 H1 => op_shrU32 (s := 10) rfl rfl ⟨rfl, Fr.refl _ _⟩) (HW.op rfl (fun w1 H1 => op_xorU32 rfl rfl ⟨rfl, Fr.refl _ _⟩) (HW.op rfl (fun w1 H1 => op_addU32 rfl rfl ⟨rfl, Fr.refl _ _⟩) (HW.op rfl (fun w1 H1 => op_indexAddrA1 Try.underlying204 Fa.I22 rfl rfl (by omega) ⟨rfl, Fr.refl _ _⟩)  HW.nil))))))))))))))))))))))))))))) (by kernel_rfl) ?_
      intro β13 w13 H13
      refine WL.op rfl rfl (op_storeB (i := 0) H13 rfl rfl rfl (by rw [Nat.blt_eq, wC_length _ _ (by omega)]; omega) rfl Fa.I22 (fun w14 H14 => ?_))
      refine WL.nil ?_
      refine WQ.inNormal ?_
      refine WQ.next ?_
      refine WC.region ?_
      refine WL.op rfl rfl (op_move rfl ?_)
      refine WL.op rfl rfl (op_addN (b := 1) rfl rfl (by omega) ?_)
      refine WL.op rfl rfl (op_assign rfl ?_)
      refine WL.nil ?_
      exact WQ.round (k + 1) ⟨(by omega), (by rw [wC_set b (k := k) (by omega), if_neg (by omega)]; exact H14)⟩ ⟨rfl, rfl, rfl, trivial⟩ (by omega)
    ·
      have hc7 := of_decide_eq_false hb7
      refine WC.exit ?_
      refine WQ.thenExit ?_
      refine WQ.thenExit ?_
      refine WQ.inHere ?_
      refine WQ.next ?_
      refine WC.seq ?_
      refine WC.region ?_
      refine WL.op rfl rfl (op_loadS rfl (H6.cellsW (i := 0) rfl) Try.underlying204 rfl Fa.I204 (wC_length _ _ (by omega)) ?_)
      refine WL.op rfl rfl (op_storeBV (i := 0) H6 rfl rfl rfl (by rw [wC_length _ _ (by omega)]; exact Nat.beq_refl 64) (by have hk : k = 64 := (by omega); subst hk; rw [wC_end]; exact one_U32 _) (wC_length _ _ (by omega)) Fa.I204 (fun w15 H15 => ?_))
      refine WL.nil ?_
      refine WQ.next ?_
      refine WC.ret ?_
      refine WQ.out (.cell rfl (run_loadVarS (H15.cellsW (i := 0) rfl) Try.underlying204 rfl Fa.I204 (wC_length _ _ (by omega))) .nil) ?_
      exact ⟨by have hk : k = 64 := (by omega); subst hk; rw [← wC_end]; rfl, H15.fr⟩
set_option maxRecDepth 100000 in
theorem block_ok (h : St) (v : Value) (b : List UInt8) (w : World) (hl : b.length = 64) (hA : Arr w v 1 64 (b.map vU8)) :
    Calls Try.prog 145 #[(.agg #[(vU32 h.a), (vU32 h.b), (vU32 h.c), (vU32 h.d), (vU32 h.e), (vU32 h.f), (vU32 h.g), (vU32 h.h)]), v] w (fun e w' => e = .returned (.agg #[vU32 (blockS h b).a, vU32 (blockS h b).b, vU32 (blockS h b).c, vU32 (blockS h b).d, vU32 (blockS h b).e, vU32 (blockS h b).f, vU32 (blockS h b).g, vU32 (blockS h b).h]) ∧ Fr [] w w') := by
  refine enter (args := [(.agg #[(vU32 h.a), (vU32 h.b), (vU32 h.c), (vU32 h.d), (vU32 h.e), (vU32 h.f), (vU32 h.g), (vU32 h.h)]), v]) Try.func145 rfl rfl ?_
  have H0 : Own [] w w [] := Own.start w []
  refine WC.seq ?_
  refine WC.region ?_
  refine WL.op rfl rfl (op_box H0 rfl rfl (fun b1 w1 H1 => ?_))
  refine WL.op rfl rfl (op_alloc H1 Fa.I195 (fun b2 w2 H2 => ?_))
  refine WL.nil ?_
  refine WQ.next ?_
  refine WC.seq ?_
  refine WC.draw 7 Fa.M H2 (HW.op rfl (fun w1 H1 => op_loadS (vs := [_, _, _, _, _, _, _, _]) rfl (H1.cells (i := 0) rfl rfl) Try.underlying195 rfl Fa.I195 rfl ⟨rfl, Fr.refl _ _⟩) (HW.op rfl (fun w1 H1 => op_move rfl ⟨rfl, Fr.refl _ _⟩) (HW.op rfl (fun w1 H1 => op_callF Fa.C150 rfl ((words_ok _ _ _ hl (H1.arr hA)).mono (fun e w2 hq => ⟨_, hq.1, rfl, hq.2⟩))) (HW.op rfl (fun w1 H1 => op_callF Fa.C151 rfl ((keys_ok _).mono (fun e w2 hq => ⟨_, hq.1, rfl, hq.2⟩))) (HW.flt (mk := fun bq => ptr bq.1 0) (ent := fun bq => .blk bq.1 _ _) rfl (fun w1 _ => op_alloc (Own.start w1 []) Fa.I195 (fun bq w2 H2 => ⟨(bq, undef), rfl, H2, True.intro⟩)) (HW.flt (mk := fun bq => ptr bq.1 0) (ent := fun bq => .blk bq.1 _ _) rfl (fun w1 _ => op_alloc (Own.start w1 []) Fa.I204 (fun bq w2 H2 => ⟨(bq, undef), rfl, H2, True.intro⟩)) (HW.flt (mk := fun bq => ptr bq.1 0) (ent := fun bq => .blk bq.1 _ _) rfl (fun w1 _ => op_alloc (Own.start w1 []) Fa.I204 (fun bq w2 H2 => ⟨(bq, undef), rfl, H2, True.intro⟩))  HW.nil))))))) (by kernel_rfl) ?_
  intro β5 w5 H5
  refine WL.op rfl rfl (op_storeBW (i := 2) H5 rfl rfl rfl rfl rfl Fa.I195 (fun w6 H6 => ?_))
  refine WL.op rfl rfl (op_storeBV (i := 3) H6 rfl rfl rfl (by rw [List.length_map, wl_length, List.length_replicate]; rfl) (one_U32 _) (by rw [List.length_map, wl_length]) Fa.I204 (fun w7 H7 => ?_))
  refine WL.op rfl rfl (op_storeBV (i := 4) H7 rfl rfl rfl (by kernel_rfl) (one_U32 _) (by kernel_rfl) Fa.I204 (fun w8 H8 => ?_))
  refine WL.nil ?_
  refine WQ.next ?_
  refine WC.seq ?_
  refine WC.seq ?_
  refine WC.region ?_
  refine WL.op rfl rfl (op_move rfl ?_)
  refine WL.nil ?_
  refine WQ.next ?_
  refine WC.block ?_
  refine WC.loop (α := Nat) (fun t => [(2, (ptr b1 0)), (4, (ptr b2 0)), (5, (ptr (β5 4).1 0)), (6, (ptr (β5 5).1 0)), (7, (ptr (β5 6).1 0)), (16, (vN t))]) (fun t w' => (t ≤ 64) ∧ Own [] w w' [.blk b1 [(vU32 h.a), (vU32 h.b), (vU32 h.c), (vU32 h.d), (vU32 h.e), (vU32 h.f), (vU32 h.g), (vU32 h.h)] 195, .blk b2 [(vU32 0), (vU32 0), (vU32 0), (vU32 0), (vU32 0), (vU32 0), (vU32 0), (vU32 0)] 195, .blk (β5 4).1 [(vU32 (rounds h (wl b 64) t).a), (vU32 (rounds h (wl b 64) t).b), (vU32 (rounds h (wl b 64) t).c), (vU32 (rounds h (wl b 64) t).d), (vU32 (rounds h (wl b 64) t).e), (vU32 (rounds h (wl b 64) t).f), (vU32 (rounds h (wl b 64) t).g), (vU32 (rounds h (wl b 64) t).h)] 195, .blk (β5 5).1 ((wl b 64).map vU32) 204, .blk (β5 6).1 (keyL.map vU32) 204]) (fun t => 64 - t) 0 ⟨(by omega), H8⟩ ⟨rfl, rfl, rfl, rfl, rfl, rfl, trivial⟩ ?_
  rintro t w9 ⟨hinv, H9⟩
  show WC _ _ _ _ _ [(2, (ptr b1 0)), (4, (ptr b2 0)), (5, (ptr (β5 4).1 0)), (6, (ptr (β5 5).1 0)), (7, (ptr (β5 6).1 0)), (16, (vN t))] _
  refine WC.seq ?_
  refine WC.region ?_
  refine WL.op rfl rfl (op_lssN (b := 64) rfl rfl ?_)
  refine WL.nil ?_
  refine WQ.next ?_
  refine WC.seq ?_
  refine WC.cond rfl (fun (hb10 : (decide (t < 64)) = true) => ?_) (fun (hb10 : (decide (t < 64)) = false) => ?_)
  ·
    have hc10 := of_decide_eq_true hb10
    refine WC.skip ?_
    refine WQ.next ?_
    refine WC.seq ?_
    refine WC.block ?_
    refine WC.seq ?_
    refine WC.region ?_
    refine WL.op rfl rfl (op_move rfl ?_)
    refine WL.op rfl rfl (op_assign rfl ?_)
    refine WL.nil ?_
    refine WQ.next ?_
    refine WC.seq ?_
    refine WC.draw 35 Fa.M H9 (HW.op rfl (fun w1 H1 => op_indexAddrA1 (m := 7) Try.underlying195 Fa.I22 rfl rfl (by omega) ⟨rfl, Fr.refl _ _⟩) (HW.op rfl (fun w1 H1 => op_load rfl (H1.cell (i := 2) rfl rfl) Try.underlying22 rfl ⟨rfl, Fr.refl _ _⟩) (HW.op rfl (fun w1 H1 => op_indexAddrA1 (m := 4) Try.underlying195 Fa.I22 rfl rfl (by omega) ⟨rfl, Fr.refl _ _⟩) (HW.op rfl (fun w1 H1 => op_load rfl (H1.cell (i := 2) rfl rfl) Try.underlying22 rfl ⟨rfl, Fr.refl _ _⟩) (HW.op rfl (fun w1 H1 => op_callF Fa.C152 rfl ((turn_ok ((rounds h (wl b 64) t).e) 6 (by decide) _).mono (fun e w2 hq => ⟨_, hq.1, rfl, hq.2⟩))) (HW.op rfl (fun w1 H1 => op_indexAddrA1 (m := 4) Try.underlying195 Fa.I22 rfl rfl (by omega) ⟨rfl, Fr.refl _ _⟩) (HW.op rfl (fun w1 H1 => op_load rfl (H1.cell (i := 2) rfl rfl) Try.underlying22 rfl ⟨rfl, Fr.refl _ _⟩) (HW.op rfl (fun w1 H1 => op_callF Fa.C152 rfl ((turn_ok ((rounds h (wl b 64) t).e) 11 (by decide) _).mono (fun e w2 hq => ⟨_, hq.1, rfl, hq.2⟩))) (HW.op rfl (fun w1 H1 => op_xorU32 rfl rfl ⟨rfl, Fr.refl _ _⟩) (HW.op rfl (fun w1 H1 => op_indexAddrA1 (m := 4) Try.underlying195 Fa.I22 rfl rfl (by omega) ⟨rfl, Fr.refl _ _⟩) (HW.op rfl (fun w1 H1 => op_load rfl (H1.cell (i := 2) rfl rfl) Try.underlying22 rfl ⟨rfl, Fr.refl _ _⟩) (HW.op rfl (fun w1 H1 => op_callF Fa.C152 rfl ((turn_ok ((rounds h (wl b 64) t).e) 25 (by decide) _).mono (fun e w2 hq => ⟨_, hq.1, rfl, hq.2⟩))) (HW.op rfl (fun w1 H1 => op_xorU32 rfl rfl ⟨rfl, Fr.refl _ _⟩) (HW.op rfl (fun w1 H1 => op_addU32 rfl rfl ⟨rfl, Fr.refl _ _⟩) (HW.op rfl (fun w1 H1 => op_indexAddrA1 (m := 4) Try.underlying195 Fa.I22 rfl rfl (by omega) ⟨rfl, Fr.refl _ _⟩) (HW.op rfl (fun w1 H1 => op_load rfl (H1.cell (i := 2) rfl rfl) Try.underlying22 rfl ⟨rfl, Fr.refl _ _⟩) (HW.op rfl (fun w1 H1 => op_indexAddrA1 (m := 5) Try.underlying195 Fa.I22 rfl rfl (by omega) ⟨rfl, Fr.refl _ _⟩) (HW.op rfl (fun w1 H1 => op_load rfl (H1.cell (i := 2) rfl rfl) Try.underlying22 rfl ⟨rfl, Fr.refl _ _⟩) (HW.op rfl (fun w1 H1 => op_andU32 rfl rfl ⟨rfl, Fr.refl _ _⟩) (HW.op rfl (fun w1 H1 => op_indexAddrA1 (m := 6) Try.underlying195 Fa.I22 rfl rfl (by omega) ⟨rfl, Fr.refl _ _⟩) (HW.op rfl (fun w1 H1 => op_load rfl (H1.cell (i := 2) rfl rfl) Try.underlying22 rfl ⟨rfl, Fr.refl _ _⟩) (HW.op rfl (fun w1 H1 => op_indexAddrA1 (m := 4) Try.underlying195 Fa.I22 rfl rfl (by omega) ⟨rfl, Fr.refl _ _⟩) (HW.op rfl (fun w1 H1 => op_load rfl (H1.cell (i := 2) rfl rfl) Try.underlying22 rfl ⟨rfl, Fr.refl _ _⟩) (HW.op rfl (fun w1 H1 => op_andNotU32 rfl rfl ⟨rfl, Fr.refl _ _⟩) (HW.op rfl (fun w1 H1 => op_xorU32 rfl rfl ⟨rfl, Fr.refl _ _⟩) (HW.op rfl (fun w1 H1 => op_addU32 rfl rfl ⟨rfl, Fr.refl _ _⟩) (HW.op rfl (fun w1 H1 => op_move rfl ⟨rfl, Fr.refl _ _⟩) (HW.op rfl (fun w1 H1 => op_indexAddrA1 Try.underlying204 Fa.I22 rfl rfl (by omega) ⟨rfl, Fr.refl _ _⟩) (HW.op rfl (fun w1 H1 => op_load rfl (H1.cell (i := 4) rfl (get_map0 vU32 0 (by rw [keyL_length]; omega))) Try.underlying22 rfl ⟨rfl, Fr.refl _ _⟩) (HW.op rfl (fun w1 H1 => op_addU32 rfl rfl ⟨rfl, Fr.refl _ _⟩) (HW.op rfl (fun w1 H1 => op_move rfl ⟨rfl, Fr.refl _ _⟩) (HW.op rfl (fun w1 H1 => op_indexAddrA1 Try.underlying204 Fa.I22 rfl rfl (by omega) ⟨rfl, Fr.refl _ _⟩) (HW.op rfl (fun w1 H1 => op_load rfl (H1.cell (i := 3) rfl (get_map0 vU32 0 (by rw [wl_length]; omega))) Try.underlying22 rfl ⟨rfl, Fr.refl _ _⟩) (HW.op rfl (fun w1 H1 => op_addU32 rfl rfl ⟨rfl, Fr.refl _ _⟩) (HW.op rfl (fun w1 H1 => op_assign rfl ⟨rfl, Fr.refl _ _⟩)  HW.nil))))))))))))))))))))))))))))))))))) (by kernel_rfl) ?_
    intro β14 w14 H14
    refine WL.nil ?_
    refine WQ.next ?_
    refine WC.seq ?_
    refine WC.draw 30 Fa.M H14 (HW.op rfl (fun w1 H1 => op_indexAddrA1 (m := 0) Try.underlying195 Fa.I22 rfl rfl (by omega) ⟨rfl, Fr.refl _ _⟩) (HW.op rfl (fun w1 H1 => op_load rfl (H1.cell (i := 2) rfl rfl) Try.underlying22 rfl ⟨rfl, Fr.refl _ _⟩) (HW.op rfl (fun w1 H1 => op_callF Fa.C152 rfl ((turn_ok ((rounds h (wl b 64) t).a) 2 (by decide) _).mono (fun e w2 hq => ⟨_, hq.1, rfl, hq.2⟩))) (HW.op rfl (fun w1 H1 => op_indexAddrA1 (m := 0) Try.underlying195 Fa.I22 rfl rfl (by omega) ⟨rfl, Fr.refl _ _⟩) (HW.op rfl (fun w1 H1 => op_load rfl (H1.cell (i := 2) rfl rfl) Try.underlying22 rfl ⟨rfl, Fr.refl _ _⟩) (HW.op rfl (fun w1 H1 => op_callF Fa.C152 rfl ((turn_ok ((rounds h (wl b 64) t).a) 13 (by decide) _).mono (fun e w2 hq => ⟨_, hq.1, rfl, hq.2⟩))) (HW.op rfl (fun w1 H1 => op_xorU32 rfl rfl ⟨rfl, Fr.refl _ _⟩) (HW.op rfl (fun w1 H1 => op_indexAddrA1 (m := 0) Try.underlying195 Fa.I22 rfl rfl (by omega) ⟨rfl, Fr.refl _ _⟩) (HW.op rfl (fun w1 H1 => op_load rfl (H1.cell (i := 2) rfl rfl) Try.underlying22 rfl ⟨rfl, Fr.refl _ _⟩) (HW.op rfl (fun w1 H1 => op_callF Fa.C152 rfl ((turn_ok ((rounds h (wl b 64) t).a) 22 (by decide) _).mono (fun e w2 hq => ⟨_, hq.1, rfl, hq.2⟩))) (HW.op rfl (fun w1 H1 => op_xorU32 rfl rfl ⟨rfl, Fr.refl _ _⟩) (HW.op rfl (fun w1 H1 => op_indexAddrA1 (m := 0) Try.underlying195 Fa.I22 rfl rfl (by omega) ⟨rfl, Fr.refl _ _⟩) (HW.op rfl (fun w1 H1 => op_load rfl (H1.cell (i := 2) rfl rfl) Try.underlying22 rfl ⟨rfl, Fr.refl _ _⟩) (HW.op rfl (fun w1 H1 => op_indexAddrA1 (m := 1) Try.underlying195 Fa.I22 rfl rfl (by omega) ⟨rfl, Fr.refl _ _⟩) (HW.op rfl (fun w1 H1 => op_load rfl (H1.cell (i := 2) rfl rfl) Try.underlying22 rfl ⟨rfl, Fr.refl _ _⟩) (HW.op rfl (fun w1 H1 => op_andU32 rfl rfl ⟨rfl, Fr.refl _ _⟩) (HW.op rfl (fun w1 H1 => op_indexAddrA1 (m := 0) Try.underlying195 Fa.I22 rfl rfl (by omega) ⟨rfl, Fr.refl _ _⟩) (HW.op rfl (fun w1 H1 => op_load rfl (H1.cell (i := 2) rfl rfl) Try.underlying22 rfl ⟨rfl, Fr.refl _ _⟩) (HW.op rfl (fun w1 H1 => op_indexAddrA1 (m := 2) Try.underlying195 Fa.I22 rfl rfl (by omega) ⟨rfl, Fr.refl _ _⟩) (HW.op rfl (fun w1 H1 => op_load rfl (H1.cell (i := 2) rfl rfl) Try.underlying22 rfl ⟨rfl, Fr.refl _ _⟩) (HW.op rfl (fun w1 H1 => op_andU32 rfl rfl ⟨rfl, Fr.refl _ _⟩) (HW.op rfl (fun w1 H1 => op_xorU32 rfl rfl ⟨rfl, Fr.refl _ _⟩) (HW.op rfl (fun w1 H1 => op_indexAddrA1 (m := 1) Try.underlying195 Fa.I22 rfl rfl (by omega) ⟨rfl, Fr.refl _ _⟩) (HW.op rfl (fun w1 H1 => op_load rfl (H1.cell (i := 2) rfl rfl) Try.underlying22 rfl ⟨rfl, Fr.refl _ _⟩) (HW.op rfl (fun w1 H1 => op_indexAddrA1 (m := 2) Try.underlying195 Fa.I22 rfl rfl (by omega) ⟨rfl, Fr.refl _ _⟩) (HW.op rfl (fun w1 H1 => op_load rfl (H1.cell (i := 2) rfl rfl) Try.underlying22 rfl ⟨rfl, Fr.refl _ _⟩) (HW.op rfl (fun w1 H1 => op_andU32 rfl rfl ⟨rfl, Fr.refl _ _⟩) (HW.op rfl (fun w1 H1 => op_xorU32 rfl rfl ⟨rfl, Fr.refl _ _⟩) (HW.op rfl (fun w1 H1 => op_addU32 rfl rfl ⟨rfl, Fr.refl _ _⟩) (HW.op rfl (fun w1 H1 => op_assign rfl ⟨rfl, Fr.refl _ _⟩)  HW.nil)))))))))))))))))))))))))))))) (by kernel_rfl) ?_
    intro β18 w18 H18
    refine WL.nil ?_
    refine WQ.next ?_
    refine WC.region ?_
    refine WL.op rfl rfl (op_move rfl ?_)
    refine WL.op rfl rfl (op_move rfl ?_)
    refine WL.op rfl rfl (op_addU32 rfl rfl ?_)
    refine WL.op rfl rfl (op_indexAddrA1 (m := 0) Try.underlying195 Fa.I22 rfl rfl (by omega) ?_)
    refine WL.op rfl rfl (op_load rfl (H18.cell (i := 2) rfl rfl) Try.underlying22 rfl ?_)
    refine WL.op rfl rfl (op_indexAddrA1 (m := 1) Try.underlying195 Fa.I22 rfl rfl (by omega) ?_)
    refine WL.op rfl rfl (op_load rfl (H18.cell (i := 2) rfl rfl) Try.underlying22 rfl ?_)
    refine WL.op rfl rfl (op_indexAddrA1 (m := 2) Try.underlying195 Fa.I22 rfl rfl (by omega) ?_)
    refine WL.op rfl rfl (op_load rfl (H18.cell (i := 2) rfl rfl) Try.underlying22 rfl ?_)
    refine WL.op rfl rfl (op_indexAddrA1 (m := 3) Try.underlying195 Fa.I22 rfl rfl (by omega) ?_)
    refine WL.op rfl rfl (op_load rfl (H18.cell (i := 2) rfl rfl) Try.underlying22 rfl ?_)
    refine WL.op rfl rfl (op_move rfl ?_)
    refine WL.op rfl rfl (op_addU32 rfl rfl ?_)
    refine WL.op rfl rfl (op_indexAddrA1 (m := 4) Try.underlying195 Fa.I22 rfl rfl (by omega) ?_)
    refine WL.op rfl rfl (op_load rfl (H18.cell (i := 2) rfl rfl) Try.underlying22 rfl ?_)
    refine WL.op rfl rfl (op_indexAddrA1 (m := 5) Try.underlying195 Fa.I22 rfl rfl (by omega) ?_)
    refine WL.op rfl rfl (op_load rfl (H18.cell (i := 2) rfl rfl) Try.underlying22 rfl ?_)
    refine WL.op rfl rfl (op_indexAddrA1 (m := 6) Try.underlying195 Fa.I22 rfl rfl (by omega) ?_)
    refine WL.op rfl rfl (op_load rfl (H18.cell (i := 2) rfl rfl) Try.underlying22 rfl ?_)
    refine WL.op rfl rfl (op_buildA (cs := [_, _, _, _, _, _, _, _]) Fa.I195 Try.underlying195 Fa.I22 rfl rfl ?_)
    refine WL.op rfl rfl (op_storeBW (i := 2) H18 rfl rfl rfl rfl rfl Fa.I195 (fun w19 H19 => ?_))
    refine WL.nil ?_
    refine WQ.inNormal ?_
    refine WQ.next ?_
    refine WC.region ?_
    refine WL.op rfl rfl (op_addN (b := 1) rfl rfl (by omega) ?_)
    refine WL.op rfl rfl (op_move rfl ?_)
    refine WL.nil ?_
    exact WQ.round (t + 1) ⟨(by omega), (by exact H19)⟩ ⟨rfl, rfl, rfl, rfl, rfl, rfl, trivial⟩ (by omega)
  ·
    have hc10 := of_decide_eq_false hb10
    refine WC.exit ?_
    refine WQ.thenExit ?_
    refine WQ.thenExit ?_
    refine WQ.inHere ?_
    refine WQ.next ?_
    refine WC.seq ?_
    refine WC.seq ?_
    refine WC.region ?_
    refine WL.op rfl rfl (op_move rfl ?_)
    refine WL.nil ?_
    refine WQ.next ?_
    refine WC.block ?_
    refine WC.loop (α := Nat) (fun k => [(2, (ptr b1 0)), (4, (ptr b2 0)), (5, (ptr (β5 4).1 0)), (103, (vN k))]) (fun k w' => (k ≤ 8) ∧ Own [] w w' [.blk b1 (h.vals.map vU32) 195, .blk b2 [(vU32 0), (vU32 0), (vU32 0), (vU32 0), (vU32 0), (vU32 0), (vU32 0), (vU32 0)] 195, .blk (β5 4).1 ((addTo (rounds h (wl b 64) 64) h k).map vU32) 195, .blk (β5 5).1 ((wl b 64).map vU32) 204, .blk (β5 6).1 (keyL.map vU32) 204]) (fun k => 8 - k) 0 ⟨(by omega), (by have ht : t = 64 := (by omega); subst ht; exact H9)⟩ ⟨rfl, rfl, rfl, rfl, trivial⟩ ?_
    rintro k w20 ⟨hinv, H20⟩
    show WC _ _ _ _ _ [(2, (ptr b1 0)), (4, (ptr b2 0)), (5, (ptr (β5 4).1 0)), (103, (vN k))] _
    refine WC.seq ?_
    refine WC.region ?_
    refine WL.op rfl rfl (op_lssN (b := 8) rfl rfl ?_)
    refine WL.nil ?_
    refine WQ.next ?_
    refine WC.seq ?_
    refine WC.cond rfl (fun (hb21 : (decide (k < 8)) = true) => ?_) (fun (hb21 : (decide (k < 8)) = false) => ?_)
    ·
      have hc21 := of_decide_eq_true hb21
      refine WC.skip ?_
      refine WQ.next ?_
      refine WC.seq ?_
      refine WC.block ?_
      refine WC.seq ?_
      refine WC.region ?_
      refine WL.op rfl rfl (op_move rfl ?_)
      refine WL.op rfl rfl (op_assign rfl ?_)
      refine WL.nil ?_
      refine WQ.next ?_
      refine WC.draw 8 Fa.M H20 (HW.op rfl (fun w1 H1 => op_move rfl ⟨rfl, Fr.refl _ _⟩) (HW.op rfl (fun w1 H1 => op_indexAddrA1 Try.underlying195 Fa.I22 rfl rfl (by omega) ⟨rfl, Fr.refl _ _⟩) (HW.op rfl (fun w1 H1 => op_load rfl (H1.cell (i := 2) rfl (get_map0 vU32 0 (by rw [addTo_length _ _ _ (by omega)]; omega))) Try.underlying22 rfl ⟨rfl, Fr.refl _ _⟩) (HW.op rfl (fun w1 H1 => op_move rfl ⟨rfl, Fr.refl _ _⟩) (HW.op rfl (fun w1 H1 => op_indexAddrA1 Try.underlying195 Fa.I22 rfl rfl (by omega) ⟨rfl, Fr.refl _ _⟩) (HW.op rfl (fun w1 H1 => op_load rfl (H1.cell (i := 0) rfl (get_map0 vU32 0 (by rw [vals_length]; omega))) Try.underlying22 rfl ⟨rfl, Fr.refl _ _⟩) (HW.op rfl (fun w1 H1 => op_addU32 rfl rfl ⟨rfl, Fr.refl _ _⟩) (HW.op rfl (fun w1 H1 => op_indexAddrA1 Try.underlying195 Fa.I22 rfl rfl (by omega) ⟨rfl, Fr.refl _ _⟩)  HW.nil)))))))) (by kernel_rfl) ?_
      intro β22 w22 H22
      refine WL.op rfl rfl (op_storeB (i := 2) H22 rfl rfl rfl (by rw [Nat.blt_eq, List.length_map, addTo_length _ _ _ (by omega)]; omega) rfl Fa.I22 (fun w23 H23 => ?_))
      refine WL.nil ?_
      refine WQ.inNormal ?_
      refine WQ.next ?_
      refine WC.region ?_
      refine WL.op rfl rfl (op_addN (b := 1) rfl rfl (by omega) ?_)
      refine WL.op rfl rfl (op_move rfl ?_)
      refine WL.nil ?_
      exact WQ.round (k + 1) ⟨(by omega), (by rw [addTo_map _ _ (by omega)]; exact H23)⟩ ⟨rfl, rfl, rfl, rfl, trivial⟩ (by omega)
    ·
      have hc21 := of_decide_eq_false hb21
      refine WC.exit ?_
      refine WQ.thenExit ?_
      refine WQ.thenExit ?_
      refine WQ.inHere ?_
      refine WQ.next ?_
      refine WC.seq ?_
      refine WC.region ?_
      refine WL.op rfl rfl (op_loadS rfl (H20.cellsW (i := 2) rfl) Try.underlying195 rfl Fa.I195 (by rw [List.length_map, addTo_length _ _ _ (by omega)]) ?_)
      refine WL.op rfl rfl (op_storeBV (i := 1) H20 rfl rfl rfl (by rw [List.length_map, addTo_length _ _ _ (by omega)]; rfl) (one_U32 _) (by rw [List.length_map, addTo_length _ _ _ (by omega)]) Fa.I195 (fun w24 H24 => ?_))
      refine WL.nil ?_
      refine WQ.next ?_
      refine WC.ret ?_
      refine WQ.out (.cell rfl (run_loadVarS (H24.cellsW (i := 1) rfl) Try.underlying195 rfl Fa.I195 (by rw [List.length_map, addTo_length _ _ _ (by omega)])) .nil) ?_
      exact ⟨by have hk : k = 8 := (by omega); subst hk; rw [addTo_end]; rfl, H24.fr⟩
set_option maxRecDepth 100000 in
theorem new_ok  (w : World) :
    Calls Try.prog 131 #[] w (fun e w' => ∃ q, e = .returned (ptr q 0) ∧ Own [] w w' [.blk q [(vU32 (hst ([] : List UInt8)).a), (vU32 (hst ([] : List UInt8)).b), (vU32 (hst ([] : List UInt8)).c), (vU32 (hst ([] : List UInt8)).d), (vU32 (hst ([] : List UInt8)).e), (vU32 (hst ([] : List UInt8)).f), (vU32 (hst ([] : List UInt8)).g), (vU32 (hst ([] : List UInt8)).h), (.slice none 0 0), (vN ([] : List UInt8).length)] 198, .row (.slice none 0 0) 5 1 (hrest ([] : List UInt8)).length ((hrest ([] : List UInt8)).map vU8)]) := by
  refine enter (args := []) Try.func131 rfl rfl ?_
  have H0 : Own [] w w [] := Own.start w []
  refine WC.seq ?_
  refine WC.region ?_
  refine WL.op rfl rfl (op_assign rfl ?_)
  refine WL.nil ?_
  refine WQ.next ?_
  refine WC.seq ?_
  refine WC.region ?_
  refine WL.op rfl rfl (op_callF Fa.C143 rfl ((first_ok _).mono (fun e w1 hq => ?_)))
  obtain ⟨rfl, hf1⟩ := hq
  refine ⟨_, rfl, ?_⟩
  have H1 := H0.fr' hf1
  refine WL.op rfl rfl (op_build (cs := [_, _, _, _, _, _, _, _, _, _]) Fa.I198 Fa.PL198 rfl rfl ?_)
  refine WL.op rfl rfl (op_box H1 rfl rfl (fun b2 w2 H2 => ?_))
  refine WL.op rfl rfl (op_assign rfl ?_)
  refine WL.nil ?_
  refine WQ.next ?_
  refine WC.ret ?_
  refine WQ.out (.tmp rfl .nil) ?_
  exact ⟨b2, rfl, H2.nilRow _ _⟩
set_option maxRecDepth 100000 in
theorem write_ok (q : Nat) (v lv : Value) (all : List UInt8) (ls : List (List UInt8)) (T : List Nat) (w : World) (H : Own T w w [.blk q [(vU32 (hst all).a), (vU32 (hst all).b), (vU32 (hst all).c), (vU32 (hst all).d), (vU32 (hst all).e), (vU32 (hst all).f), (vU32 (hst all).g), (vU32 (hst all).h), v, (vN all.length)] 198, .row v 5 1 (hrest all).length ((hrest all).map vU8)]) {nl : Nat} (hA : ∀ w1, Fr T w w1 → Arr w1 lv 1 nl (ls.map str)) (hb : (all ++ ls.flatten).length < 2 ^ 40) (hn : ls.length < 2 ^ 40) :
    Calls Try.prog 133 #[(ptr q 0), lv] w (fun e w' => ∃ v, e = .returned (vN 0) ∧ Own T w w' [.blk q [(vU32 (hst (all ++ ls.flatten)).a), (vU32 (hst (all ++ ls.flatten)).b), (vU32 (hst (all ++ ls.flatten)).c), (vU32 (hst (all ++ ls.flatten)).d), (vU32 (hst (all ++ ls.flatten)).e), (vU32 (hst (all ++ ls.flatten)).f), (vU32 (hst (all ++ ls.flatten)).g), (vU32 (hst (all ++ ls.flatten)).h), v, (vN (all ++ ls.flatten).length)] 198, .row v 5 1 (hrest (all ++ ls.flatten)).length ((hrest (all ++ ls.flatten)).map vU8)]) := by
  refine enter (args := [(ptr q 0), lv]) Try.func133 rfl rfl ?_
  obtain rfl := (hA w (Fr.refl _ _)).mapLen
  refine WC.seq ?_
  refine WC.region ?_
  refine WL.op rfl rfl (op_assign rfl ?_)
  refine WL.nil ?_
  refine WQ.next ?_
  refine WC.seq ?_
  refine WC.seq ?_
  refine WC.region ?_
  refine WL.op rfl rfl (op_move rfl ?_)
  refine WL.op rfl rfl (op_eqlPN Fa.PT182 rfl rfl ?_)
  refine WL.nil ?_
  refine WQ.next ?_
  refine WC.no rfl rfl ?_
  refine WC.skip ?_
  refine WQ.next ?_
  refine WC.seq ?_
  refine WC.seq ?_
  refine WC.region ?_
  refine WL.op rfl rfl (op_move rfl ?_)
  refine WL.op rfl rfl (op_lenA Try.underlying23 rfl (hA _ H.fr) ?_)
  refine WL.op rfl rfl (op_move rfl ?_)
  refine WL.nil ?_
  refine WQ.next ?_
  refine WC.block ?_
  refine WC.loop (α := Nat × Value) (fun (k, v) => [(0, (ptr q 0)), (9, lv), (10, (vN ls.length)), (11, (vN k))]) (fun (k, v) w' => (k ≤ ls.length) ∧ Own T w w' [.blk q [(vU32 (hst (acc all ls k)).a), (vU32 (hst (acc all ls k)).b), (vU32 (hst (acc all ls k)).c), (vU32 (hst (acc all ls k)).d), (vU32 (hst (acc all ls k)).e), (vU32 (hst (acc all ls k)).f), (vU32 (hst (acc all ls k)).g), (vU32 (hst (acc all ls k)).h), v, (vN (acc all ls k).length)] 198, .row v 5 1 (hrest (acc all ls k)).length (List.map vU8 (hrest (acc all ls k)))]) (fun (k, v) => ls.length - k) (0, v) ⟨(by omega), H⟩ ⟨rfl, rfl, rfl, rfl, trivial⟩ ?_
  rintro ⟨k, v⟩ w1 ⟨hinv, H1⟩
  show WC _ _ _ _ _ [(0, (ptr q 0)), (9, lv), (10, (vN ls.length)), (11, (vN k))] _
  have hl0 := acc_len all ls k (by omega)
  have hr0 := hrest_length (acc all ls k)
  refine WC.seq ?_
  refine WC.region ?_
  refine WL.op rfl rfl (op_lssN rfl rfl ?_)
  refine WL.nil ?_
  refine WQ.next ?_
  refine WC.seq ?_
  refine WC.cond rfl (fun (hb2 : (decide (k < ls.length)) = true) => ?_) (fun (hb2 : (decide (k < ls.length)) = false) => ?_)
  ·
    have hc2 := of_decide_eq_true hb2
    have hl1 := acc_len1 all ls k hc2
    refine WC.skip ?_
    refine WQ.next ?_
    refine WC.seq ?_
    refine WC.block ?_
    refine WC.seq ?_
    refine WC.region ?_
    refine WL.op rfl rfl (op_indexAddr1 Try.underlying23 Fa.I9 rfl (hA _ H1.fr) rfl (by omega) ?_)
    refine WL.op rfl rfl (op_load rfl ((hA _ H1.fr).at (get_map str [] (by first | omega | (simp; omega)))) Try.underlying9 rfl ?_)
    refine WL.op rfl rfl (op_assign rfl ?_)
    refine WL.nil ?_
    refine WQ.next ?_
    refine WC.seq ?_
    refine WC.region ?_
    refine WL.op rfl rfl (op_move rfl ?_)
    refine WL.op rfl rfl (op_move rfl ?_)
    refine WL.op rfl rfl (op_nilCheck rfl ?_)
    refine WL.op rfl rfl (op_fieldAddr rfl Fa.F198_1 ?_)
    refine WL.op rfl rfl (op_load rfl (H1.cell (i := 0) rfl rfl) Try.underlying73 rfl ?_)
    refine WL.op rfl rfl (op_move rfl ?_)
    refine WL.op rfl rfl (op_appendM (f := vU8) (l := (hrest (acc all ls k))) (l' := (ls.getD k [])) (i := 1) H1 Try.underlying73 Fa.I5 rfl rfl rfl rfl (Src.ofStr Try.underlying9) (one_mapM (fun _ => rfl)) (by omega) (by omega) (fun v3 w3 H3 => ?_))
    refine WL.op rfl rfl (op_nilCheck rfl ?_)
    refine WL.op rfl rfl (op_fieldAddr rfl Fa.F198_1 ?_)
    refine WL.op rfl rfl (op_storeB (i := 0) H3 rfl rfl rfl rfl (Arr.one (H3.arrR (i := 1) rfl)) Fa.I73 (fun w4 H4 => ?_))
    refine WL.nil ?_
    refine WQ.next ?_
    refine WC.seq ?_
    refine WC.region ?_
    refine WL.op rfl rfl (op_move rfl ?_)
    refine WL.op rfl rfl (op_nilCheck rfl ?_)
    refine WL.op rfl rfl (op_fieldAddr rfl Fa.F198_2 ?_)
    refine WL.op rfl rfl (op_load rfl (H4.cell (i := 0) rfl rfl) Try.underlying3 rfl ?_)
    refine WL.op rfl rfl (op_move rfl ?_)
    refine WL.op rfl rfl (op_lenStr Try.underlying9 rfl ?_)
    refine WL.op rfl rfl (op_addN rfl rfl (by omega) ?_)
    refine WL.op rfl rfl (op_nilCheck rfl ?_)
    refine WL.op rfl rfl (op_fieldAddr rfl Fa.F198_2 ?_)
    refine WL.op rfl rfl (op_storeB (i := 0) H4 rfl rfl rfl rfl rfl Fa.I3 (fun w5 H5 => ?_))
    refine WL.nil ?_
    refine WQ.next ?_
    refine WC.block ?_
    refine WC.loop (α := Nat × Value) (fun (j, v) => [(0, (ptr q 0)), (6, (str (ls.getD k []))), (9, lv), (10, (vN ls.length)), (11, (vN k))]) (fun (j, v) w' => (64 * j ≤ (hrest (acc all ls k)).length + (ls.getD k []).length) ∧ Own T w w' [.blk q [(vU32 (bst (hst (acc all ls k)) (hrest (acc all ls k) ++ (ls.getD k [])) j).a), (vU32 (bst (hst (acc all ls k)) (hrest (acc all ls k) ++ (ls.getD k [])) j).b), (vU32 (bst (hst (acc all ls k)) (hrest (acc all ls k) ++ (ls.getD k [])) j).c), (vU32 (bst (hst (acc all ls k)) (hrest (acc all ls k) ++ (ls.getD k [])) j).d), (vU32 (bst (hst (acc all ls k)) (hrest (acc all ls k) ++ (ls.getD k [])) j).e), (vU32 (bst (hst (acc all ls k)) (hrest (acc all ls k) ++ (ls.getD k [])) j).f), (vU32 (bst (hst (acc all ls k)) (hrest (acc all ls k) ++ (ls.getD k [])) j).g), (vU32 (bst (hst (acc all ls k)) (hrest (acc all ls k) ++ (ls.getD k [])) j).h), v, (vN ((acc all ls k).length + (ls.getD k []).length))] 198, .row v 5 1 (brest (hrest (acc all ls k) ++ (ls.getD k [])) j).length (List.map vU8 (brest (hrest (acc all ls k) ++ (ls.getD k [])) j))]) (fun (j, v) => (hrest (acc all ls k)).length + (ls.getD k []).length - 64 * j) (0, v3) ⟨(by omega), (by have h := H5; rw [← @List.length_append _ (hrest (acc all ls k)) (ls.getD k [])] at h; exact h)⟩ ⟨rfl, rfl, rfl, rfl, rfl, trivial⟩ ?_
    rintro ⟨j, v⟩ w6 ⟨hinv, H6⟩
    show WC _ _ _ _ _ [(0, (ptr q 0)), (6, (str (ls.getD k []))), (9, lv), (10, (vN ls.length)), (11, (vN k))] _
    have hb0 := brest_length (hrest (acc all ls k) ++ (ls.getD k [])) j
    rw [List.length_append] at hb0
    refine WC.seq ?_
    refine WC.seq ?_
    refine WC.region ?_
    refine WL.op rfl rfl (op_move rfl ?_)
    refine WL.op rfl rfl (op_nilCheck rfl ?_)
    refine WL.op rfl rfl (op_fieldAddr rfl Fa.F198_1 ?_)
    refine WL.op rfl rfl (op_load rfl (H6.cell (i := 0) rfl rfl) Try.underlying73 rfl ?_)
    refine WL.op rfl rfl (op_lenA Try.underlying73 rfl (H6.arrR (i := 1) rfl) ?_)
    refine WL.op rfl rfl (op_geqN (b := 64) rfl rfl ?_)
    refine WL.nil ?_
    refine WQ.next ?_
    refine WC.cond rfl (fun (hb7 : (decide ((brest (hrest (acc all ls k) ++ (ls.getD k [])) j).length ≥ 64)) = true) => ?_) (fun (hb7 : (decide ((brest (hrest (acc all ls k) ++ (ls.getD k [])) j).length ≥ 64)) = false) => ?_)
    ·
      have hc7 := of_decide_eq_true hb7
      refine WC.skip ?_
      refine WQ.next ?_
      refine WC.block ?_
      refine WC.seq ?_
      refine WC.draw 13 Fa.M H6 (HW.op rfl (fun w1 H1 => op_move rfl ⟨rfl, Fr.refl _ _⟩) (HW.op rfl (fun w1 H1 => op_move rfl ⟨rfl, Fr.refl _ _⟩) (HW.op rfl (fun w1 H1 => op_nilCheck rfl ⟨rfl, Fr.refl _ _⟩) (HW.op rfl (fun w1 H1 => op_fieldAddr rfl Fa.F198_0 ⟨rfl, Fr.refl _ _⟩) (HW.op rfl (fun w1 H1 => op_loadS (vs := [_, _, _, _, _, _, _, _]) rfl (H1.cells (i := 0) rfl rfl) Try.underlying195 rfl Fa.I195 rfl ⟨rfl, Fr.refl _ _⟩) (HW.op rfl (fun w1 H1 => op_move rfl ⟨rfl, Fr.refl _ _⟩) (HW.op rfl (fun w1 H1 => op_nilCheck rfl ⟨rfl, Fr.refl _ _⟩) (HW.op rfl (fun w1 H1 => op_fieldAddr rfl Fa.F198_1 ⟨rfl, Fr.refl _ _⟩) (HW.op rfl (fun w1 H1 => op_load rfl (H1.cell (i := 0) rfl rfl) Try.underlying73 rfl ⟨rfl, Fr.refl _ _⟩) (HW.op rfl (fun w1 H1 => op_cutHi (b := 64) Try.underlying73 Fa.I5 rfl (H1.arrR (i := 1) rfl) rfl (by omega) ⟨rfl, Fr.refl _ _⟩) (HW.op rfl (fun w1 H1 => op_callF Fa.C145 rfl ((block_ok (bst (hst (acc all ls k)) (hrest (acc all ls k) ++ (ls.getD k [])) j) _ ((brest (hrest (acc all ls k) ++ (ls.getD k [])) j).take 64) _ (by rw [List.length_take]; omega) (((H1.arrR (i := 1) rfl)).cutHiM (f := vU8) (l := (brest (hrest (acc all ls k) ++ (ls.getD k [])) j)) (b := 64) (by omega))).mono (fun e w2 hq => ⟨_, hq.1, rfl, hq.2⟩))) (HW.op rfl (fun w1 H1 => op_nilCheck rfl ⟨rfl, Fr.refl _ _⟩) (HW.op rfl (fun w1 H1 => op_fieldAddr rfl Fa.F198_0 ⟨rfl, Fr.refl _ _⟩)  HW.nil))))))))))))) (by kernel_rfl) ?_
      intro β9 w9 H9
      refine WL.op rfl rfl (op_storeBS (i := 0) (vs := [_, _, _, _, _, _, _, _]) H9 rfl rfl rfl rfl rfl Fa.I195 (fun w10 H10 => ?_))
      refine WL.nil ?_
      refine WQ.next ?_
      refine WC.region ?_
      refine WL.op rfl rfl (op_move rfl ?_)
      refine WL.op rfl rfl (op_move rfl ?_)
      refine WL.op rfl rfl (op_nilCheck rfl ?_)
      refine WL.op rfl rfl (op_fieldAddr rfl Fa.F198_1 ?_)
      refine WL.op rfl rfl (op_load rfl (H10.cell (i := 0) rfl rfl) Try.underlying73 rfl ?_)
      refine WL.op rfl rfl (op_cutLo (a := 64) Try.underlying73 Fa.I5 rfl (H10.arrR (i := 1) rfl) rfl (by omega) ?_)
      have H11 := H10.cutLoM (f := vU8) (l := (brest (hrest (acc all ls k) ++ (ls.getD k [])) j)) (a := 64) (i := 1) rfl (by omega)
      refine WL.op rfl rfl (op_nilCheck rfl ?_)
      refine WL.op rfl rfl (op_fieldAddr rfl Fa.F198_1 ?_)
      refine WL.op rfl rfl (op_storeB (i := 0) H11 rfl rfl rfl rfl (Arr.one (H11.arrR (i := 1) rfl)) Fa.I73 (fun w12 H12 => ?_))
      refine WL.nil ?_
      refine WQ.inNormal ?_
      exact WQ.round (j + 1, (cutV v 64 (brest (hrest (acc all ls k) ++ (ls.getD k [])) j).length 1)) ⟨(by omega), (by have h := H12; rw [← List.length_drop] at h; exact h)⟩ ⟨rfl, rfl, rfl, rfl, rfl, trivial⟩ (by show (hrest (acc all ls k)).length + (ls.getD k []).length - 64 * (j + 1) < (hrest (acc all ls k)).length + (ls.getD k []).length - 64 * j; omega)
    ·
      have hc7 := of_decide_eq_false hb7
      obtain ⟨he1, he2⟩ := mEnd (acc all ls k) (ls.getD k []) j (by omega) (by omega)
      have H13 : Own T w w6 [.blk q [(vU32 (hst (acc all ls (k + 1))).a), (vU32 (hst (acc all ls (k + 1))).b), (vU32 (hst (acc all ls (k + 1))).c), (vU32 (hst (acc all ls (k + 1))).d), (vU32 (hst (acc all ls (k + 1))).e), (vU32 (hst (acc all ls (k + 1))).f), (vU32 (hst (acc all ls (k + 1))).g), (vU32 (hst (acc all ls (k + 1))).h), v, (vN (acc all ls (k + 1)).length)] 198, .row v 5 1 (hrest (acc all ls (k + 1))).length (List.map vU8 (hrest (acc all ls (k + 1))))] := by have h := H6; rw [he1, he2, ← @List.length_append _ (acc all ls k) (ls.getD k [])] at h; exact h
      refine WC.exit ?_
      refine WQ.thenExit ?_
      refine WQ.thenExit ?_
      refine WQ.inHere ?_
      refine WQ.inNormal ?_
      refine WQ.next ?_
      refine WC.region ?_
      refine WL.op rfl rfl (op_addN (b := 1) rfl rfl (by omega) ?_)
      refine WL.op rfl rfl (op_move rfl ?_)
      refine WL.nil ?_
      exact WQ.round (k + 1, v) ⟨(by omega), H13⟩ ⟨rfl, rfl, rfl, rfl, trivial⟩ (by show ls.length - (k + 1) < ls.length - k; omega)
  ·
    have hc2 := of_decide_eq_false hb2
    refine WC.exit ?_
    refine WQ.thenExit ?_
    refine WQ.thenExit ?_
    refine WQ.inHere ?_
    refine WQ.next ?_
    refine WC.seq ?_
    refine WC.region ?_
    refine WL.op rfl rfl (op_assign rfl ?_)
    refine WL.nil ?_
    refine WQ.next ?_
    refine WC.ret ?_
    refine WQ.out (.tmp rfl .nil) ?_
    exact ⟨_, rfl, (by have hk : k = ls.length := (by omega); subst hk; have h := H1; rw [acc_end] at h; exact h)⟩
set_option maxRecDepth 100000 in
theorem hsum_ok (q : Nat) (v : Value) (all : List UInt8) (w : World) (hQ : cellsAt w q [(vU32 (hst all).a), (vU32 (hst all).b), (vU32 (hst all).c), (vU32 (hst all).d), (vU32 (hst all).e), (vU32 (hst all).f), (vU32 (hst all).g), (vU32 (hst all).h), v, (vN all.length)]) (hV : Arr w v 1 (hrest all).length (List.map vU8 (hrest all))) (hb : all.length < 2 ^ 40) :
    Calls Try.prog 135 #[(ptr q 0)] w (fun e w' => e = .returned (str (sha all)) ∧ Fr [] w w') := by
  refine enter (args := [(ptr q 0)]) Try.func135 rfl rfl ?_
  have H0 : Own [] w w [Ent.bo q [(vU32 (hst all).a), (vU32 (hst all).b), (vU32 (hst all).c), (vU32 (hst all).d), (vU32 (hst all).e), (vU32 (hst all).f), (vU32 (hst all).g), (vU32 (hst all).h), v, (vN all.length)], Ent.ar v 1 (hrest all).length (List.map vU8 (hrest all))] := (((Own.start w []).oldB hQ).oldA hV)
  have hr0 := hrest_length all
  have hp0 : padZ all.length = (119 - all.length % 64) % 64 := rfl
  refine WC.seq ?_
  refine WC.region ?_
  refine WL.op rfl rfl (op_assign rfl ?_)
  refine WL.nil ?_
  refine WQ.next ?_
  refine WC.seq ?_
  refine WC.seq ?_
  refine WC.region ?_
  refine WL.op rfl rfl (op_move rfl ?_)
  refine WL.op rfl rfl (op_eqlPN Fa.PT182 rfl rfl ?_)
  refine WL.nil ?_
  refine WQ.next ?_
  refine WC.no rfl rfl ?_
  refine WC.skip ?_
  refine WQ.next ?_
  refine WC.seq ?_
  refine WC.region ?_
  refine WL.op rfl rfl (op_move rfl ?_)
  refine WL.op rfl rfl (op_nilCheck rfl ?_)
  refine WL.op rfl rfl (op_fieldAddr rfl Fa.F198_1 ?_)
  refine WL.op rfl rfl (op_load rfl (H0.cellO (i := 0) rfl rfl) Try.underlying73 rfl ?_)
  have H2 := H0.nilRow 5 1
  refine WL.op rfl rfl (op_appendM (f := vU8) (l := []) (l' := (hrest all)) (i := 2) H2 Try.underlying73 Fa.I5 rfl rfl rfl rfl (Src.ofArr Try.underlying73 (H2.arrO (i := 1) rfl)) (one_mapM (fun _ => rfl)) (by omega) (by omega) (fun v1 w1 H1 => ?_))
  refine WL.op rfl rfl (op_buildSlice (cs := [_]) H1 Try.underlying73 Fa.I5 rfl rfl rfl rfl (by decide) (by decide) (fun b3 w3 H3 => ?_))
  refine WL.op rfl rfl (op_appendM (f := vU8) (l := ([] ++ (hrest all))) (l' := [128]) (i := 2) H3 Try.underlying73 Fa.I5 rfl rfl rfl rfl (Src.ofArr Try.underlying73 (H3.arrR (i := 3) rfl)) (one_mapM (fun _ => rfl)) (by omega) (by omega) (fun v4 w4 H4 => ?_))
  refine WL.op rfl rfl (op_assign rfl ?_)
  refine WL.nil ?_
  refine WQ.next ?_
  refine WC.seq ?_
  refine WC.block ?_
  refine WC.loop (α := Nat × Value) (fun (k, t) => [(0, (ptr q 0)), (3, t)]) (fun (k, t) w' => (k ≤ padZ all.length) ∧ Own [] w w' [Ent.bo q [(vU32 (hst all).a), (vU32 (hst all).b), (vU32 (hst all).c), (vU32 (hst all).d), (vU32 (hst all).e), (vU32 (hst all).f), (vU32 (hst all).g), (vU32 (hst all).h), v, (vN all.length)], Ent.ar v 1 (hrest all).length (List.map vU8 (hrest all)), .row t 5 1 ((0 + (hrest all).length) + 1 + k) (List.map vU8 (hrest all ++ [128] ++ List.replicate k 0)), .row (.slice (some ⟨b3, 0, none⟩) 1 1) 5 1 1 (List.map vU8 [128])]) (fun (k, t) => padZ all.length - k) (0, v4) ⟨(by omega), (by have h := (show Own [] w w4 [Ent.bo q [(vU32 (hst all).a), (vU32 (hst all).b), (vU32 (hst all).c), (vU32 (hst all).d), (vU32 (hst all).e), (vU32 (hst all).f), (vU32 (hst all).g), (vU32 (hst all).h), v, (vN all.length)], Ent.ar v 1 (hrest all).length (List.map vU8 (hrest all)), .row v4 5 1 ((0 + (hrest all).length) + 1) (List.map vU8 (([] ++ (hrest all)) ++ [128])), .row (.slice (some ⟨b3, 0, none⟩) 1 1) 5 1 1 (List.map vU8 [128])] from H4); simpa using h)⟩ ⟨rfl, rfl, trivial⟩ ?_
  rintro ⟨k, t⟩ w5 ⟨hinv, H5⟩
  show WC _ _ _ _ _ [(0, (ptr q 0)), (3, t)] _
  refine WC.seq ?_
  refine WC.seq ?_
  refine WC.region ?_
  refine WL.op rfl rfl (op_move rfl ?_)
  refine WL.op rfl rfl (op_lenA Try.underlying73 rfl (H5.arrR (i := 2) rfl) ?_)
  refine WL.op rfl rfl (op_remN (b := 64) rfl rfl (by omega) ?_)
  refine WL.op rfl rfl (op_neqN (b := 56) rfl rfl ?_)
  refine WL.nil ?_
  refine WQ.next ?_
  refine WC.cond rfl (fun (hb6 : (decide ((((0 + (hrest all).length) + 1 + k) % 64) ≠ 56)) = true) => ?_) (fun (hb6 : (decide ((((0 + (hrest all).length) + 1 + k) % 64) ≠ 56)) = false) => ?_)
  ·
    have hc6 := of_decide_eq_true hb6
    refine WC.skip ?_
    refine WQ.next ?_
    refine WC.block ?_
    refine WC.region ?_
    refine WL.op rfl rfl (op_move rfl ?_)
    refine WL.op rfl rfl (op_buildSlice (cs := [_]) H5 Try.underlying73 Fa.I5 rfl rfl rfl rfl (by decide) (by decide) (fun b7 w7 H7 => ?_))
    refine WL.op rfl rfl (op_appendM (f := vU8) (l := (hrest all ++ [128] ++ List.replicate k 0)) (l' := [0]) (i := 2) H7 Try.underlying73 Fa.I5 rfl rfl rfl rfl (Src.ofArr Try.underlying73 (H7.arrR (i := 4) rfl)) (one_mapM (fun _ => rfl)) (by omega) (by omega) (fun v8 w8 H8 => ?_))
    refine WL.op rfl rfl (op_assign rfl ?_)
    refine WL.nil ?_
    refine WQ.inNormal ?_
    exact WQ.round (k + 1, v8) ⟨(by omega), (by have h := (show Own [] w w8 [Ent.bo q [(vU32 (hst all).a), (vU32 (hst all).b), (vU32 (hst all).c), (vU32 (hst all).d), (vU32 (hst all).e), (vU32 (hst all).f), (vU32 (hst all).g), (vU32 (hst all).h), v, (vN all.length)], Ent.ar v 1 (hrest all).length (List.map vU8 (hrest all)), .row v8 5 1 (((0 + (hrest all).length) + 1 + k) + 1) (List.map vU8 ((hrest all ++ [128] ++ List.replicate k 0) ++ [0])), .row (.slice (some ⟨b3, 0, none⟩) 1 1) 5 1 1 (List.map vU8 [128])] from (H8.take 4)); rw [padStep] at h; exact h)⟩ ⟨rfl, rfl, trivial⟩ (by show padZ all.length - (k + 1) < padZ all.length - k; omega)
  ·
    have hc6 := of_decide_eq_false hb6
    have hk : k = padZ all.length := (by omega)
    refine WC.exit ?_
    refine WQ.thenExit ?_
    refine WQ.thenExit ?_
    refine WQ.inHere ?_
    refine WQ.next ?_
    refine WC.seq ?_
    refine WC.region ?_
    refine WL.op rfl rfl (op_move rfl ?_)
    refine WL.op rfl rfl (op_nilCheck rfl ?_)
    refine WL.op rfl rfl (op_fieldAddr rfl Fa.F198_2 ?_)
    refine WL.op rfl rfl (op_load rfl (H5.cellO (i := 0) rfl rfl) Try.underlying3 rfl ?_)
    refine WL.op rfl rfl (op_convNU64 (hs := Try.underlying3) (hd := Try.underlying116) rfl ?_)
    refine WL.op rfl rfl (op_mulU64 (a := 8) rfl rfl ?_)
    refine WL.op rfl rfl (op_assign rfl ?_)
    refine WL.nil ?_
    refine WQ.next ?_
    refine WC.seq ?_
    refine WC.seq ?_
    refine WC.region ?_
    refine WL.op rfl rfl (op_assign rfl ?_)
    refine WL.nil ?_
    refine WQ.next ?_
    refine WC.block ?_
    refine WC.loop (α := Nat × Value) (fun (j, t) => [(0, (ptr q 0)), (3, t), (4, (vU64 ((8 : UInt64) * (UInt64.ofNat all.length)))), (5, (vI ((56 : Int) - ((8 * j : Nat) : Int))))]) (fun (j, t) w' => (j ≤ 8) ∧ Own [] w w' [Ent.bo q [(vU32 (hst all).a), (vU32 (hst all).b), (vU32 (hst all).c), (vU32 (hst all).d), (vU32 (hst all).e), (vU32 (hst all).f), (vU32 (hst all).g), (vU32 (hst all).h), v, (vN all.length)], Ent.ar v 1 (hrest all).length (List.map vU8 (hrest all)), .row t 5 1 ((hrest all).length + 1 + padZ all.length + j) (List.map vU8 (hrest all ++ ([128] ++ List.replicate (padZ all.length) 0 ++ lenTo all.length j))), .row (.slice (some ⟨b3, 0, none⟩) 1 1) 5 1 1 (List.map vU8 [128])]) (fun (j, t) => 8 - j) (0, t) ⟨(by omega), (by have h := (show Own [] w w5 [Ent.bo q [(vU32 (hst all).a), (vU32 (hst all).b), (vU32 (hst all).c), (vU32 (hst all).d), (vU32 (hst all).e), (vU32 (hst all).f), (vU32 (hst all).g), (vU32 (hst all).h), v, (vN all.length)], Ent.ar v 1 (hrest all).length (List.map vU8 (hrest all)), .row t 5 1 ((0 + (hrest all).length) + 1 + k) (List.map vU8 (hrest all ++ [128] ++ List.replicate k 0)), .row (.slice (some ⟨b3, 0, none⟩) 1 1) 5 1 1 (List.map vU8 [128])] from H5); rw [hk] at h; simpa [lenTo, Nat.add_assoc] using h)⟩ ⟨rfl, rfl, rfl, rfl, trivial⟩ ?_
    rintro ⟨j, t⟩ w9 ⟨hinv, H9⟩
    show WC _ _ _ _ _ [(0, (ptr q 0)), (3, t), (4, (vU64 ((8 : UInt64) * (UInt64.ofNat all.length)))), (5, (vI ((56 : Int) - ((8 * j : Nat) : Int))))] _
    refine WC.seq ?_
    refine WC.seq ?_
    refine WC.region ?_
    refine WL.op rfl rfl (op_move rfl ?_)
    refine WL.op rfl rfl (op_geqI (b := (0 : Int)) rfl rfl ?_)
    refine WL.nil ?_
    refine WQ.next ?_
    refine WC.cond rfl (fun (hb10 : (decide (((56 : Int) - ((8 * j : Nat) : Int)) ≥ (0 : Int))) = true) => ?_) (fun (hb10 : (decide (((56 : Int) - ((8 * j : Nat) : Int)) ≥ (0 : Int))) = false) => ?_)
    ·
      have hc10 := of_decide_eq_true hb10
      rw [show ((56 : Int) - ((8 * j : Nat) : Int)) = ((56 - 8 * j : Nat) : Int) from by omega]
      refine WC.skip ?_
      refine WQ.next ?_
      refine WC.seq ?_
      refine WC.block ?_
      refine WC.region ?_
      refine WL.op rfl rfl (op_move rfl ?_)
      refine WL.op rfl rfl (op_move rfl ?_)
      refine WL.op rfl rfl (op_move rfl ?_)
      refine WL.op rfl rfl (op_shrU64 rfl rfl ?_)
      refine WL.op rfl rfl (op_convU64U8 (hs := Try.underlying116) (hd := Try.underlying5) rfl ?_)
      refine WL.op rfl rfl (op_buildSlice (cs := [_]) H9 Try.underlying73 Fa.I5 rfl rfl rfl rfl (by decide) (by decide) (fun b11 w11 H11 => ?_))
      refine WL.op rfl rfl (op_appendM (f := vU8) (l := (hrest all ++ ([128] ++ List.replicate (padZ all.length) 0 ++ lenTo all.length j))) (l' := [(UInt8.ofNat (shrU64 ((8 : UInt64) * (UInt64.ofNat all.length)) (56 - 8 * j)).toNat)]) (i := 2) H11 Try.underlying73 Fa.I5 rfl rfl rfl rfl (Src.ofArr Try.underlying73 (H11.arrR (i := 4) rfl)) (one_mapM (fun _ => rfl)) (by omega) (by omega) (fun v12 w12 H12 => ?_))
      refine WL.op rfl rfl (op_assign rfl ?_)
      refine WL.nil ?_
      refine WQ.inNormal ?_
      refine WQ.next ?_
      refine WC.region ?_
      refine WL.op rfl rfl (op_move rfl ?_)
      refine WL.op rfl rfl (op_subI (a := (((56 - 8 * j) : Nat) : Int)) (b := ((8 : Nat) : Int)) rfl rfl (by omega) ?_)
      refine WL.op rfl rfl (op_assign rfl ?_)
      refine WL.nil ?_
      exact WQ.round (j + 1, v12) ⟨(by omega), (by have h := (show Own [] w w12 [Ent.bo q [(vU32 (hst all).a), (vU32 (hst all).b), (vU32 (hst all).c), (vU32 (hst all).d), (vU32 (hst all).e), (vU32 (hst all).f), (vU32 (hst all).g), (vU32 (hst all).h), v, (vN all.length)], Ent.ar v 1 (hrest all).length (List.map vU8 (hrest all)), .row v12 5 1 (((hrest all).length + 1 + padZ all.length + j) + 1) (List.map vU8 ((hrest all ++ ([128] ++ List.replicate (padZ all.length) 0 ++ lenTo all.length j)) ++ [(UInt8.ofNat (shrU64 ((8 : UInt64) * (UInt64.ofNat all.length)) (56 - 8 * j)).toNat)])), .row (.slice (some ⟨b3, 0, none⟩) 1 1) 5 1 1 (List.map vU8 [128])] from (H12.take 4)); rw [lenStep] at h; exact h)⟩ ⟨rfl, rfl, rfl, (by show some (vI (((56 - 8 * j : Nat) : Int) - 8)) = some (vI ((56 : Int) - ((8 * (j + 1) : Nat) : Int))); congr 2; omega), trivial⟩ (by show 8 - (j + 1) < 8 - j; omega)
    ·
      have hc10 := of_decide_eq_false hb10
      refine WC.exit ?_
      refine WQ.thenExit ?_
      refine WQ.thenExit ?_
      refine WQ.inHere ?_
      refine WQ.next ?_
      refine WC.seq ?_
      refine WC.region ?_
      refine WL.op rfl rfl (op_move rfl ?_)
      refine WL.op rfl rfl (op_nilCheck rfl ?_)
      refine WL.op rfl rfl (op_fieldAddr rfl Fa.F198_0 ?_)
      refine WL.op rfl rfl (op_loadS (vs := [_, _, _, _, _, _, _, _]) rfl (H9.cellsO (i := 0) rfl rfl) Try.underlying195 rfl Fa.I195 rfl ?_)
      refine WL.op rfl rfl (op_alloc H9 Fa.I195 (fun b13 w13 H13 => ?_))
      refine WL.op rfl rfl (op_storeBW (i := 4) H13 rfl rfl rfl rfl rfl Fa.I195 (fun w14 H14 => ?_))
      refine WL.nil ?_
      refine WQ.next ?_
      refine WC.seq ?_
      refine WC.block ?_
      refine WC.loop (α := Nat × Value) (fun (j, t) => [(3, t), (6, (ptr b13 0))]) (fun (j, t) w' => (64 * j ≤ (hrest all ++ pads all.length).length) ∧ Own [] w w' [Ent.bo q [(vU32 (hst all).a), (vU32 (hst all).b), (vU32 (hst all).c), (vU32 (hst all).d), (vU32 (hst all).e), (vU32 (hst all).f), (vU32 (hst all).g), (vU32 (hst all).h), v, (vN all.length)], Ent.ar v 1 (hrest all).length (List.map vU8 (hrest all)), .row t 5 1 (brest (hrest all ++ pads all.length) j).length (List.map vU8 (brest (hrest all ++ pads all.length) j)), .row (.slice (some ⟨b3, 0, none⟩) 1 1) 5 1 1 (List.map vU8 [128]), .blk b13 [(vU32 (bst (hst all) (hrest all ++ pads all.length) j).a), (vU32 (bst (hst all) (hrest all ++ pads all.length) j).b), (vU32 (bst (hst all) (hrest all ++ pads all.length) j).c), (vU32 (bst (hst all) (hrest all ++ pads all.length) j).d), (vU32 (bst (hst all) (hrest all ++ pads all.length) j).e), (vU32 (bst (hst all) (hrest all ++ pads all.length) j).f), (vU32 (bst (hst all) (hrest all ++ pads all.length) j).g), (vU32 (bst (hst all) (hrest all ++ pads all.length) j).h)] 195]) (fun (j, t) => (hrest all ++ pads all.length).length - 64 * j) (0, t) ⟨(by omega), (by have hj : j = 8 := (by omega); have h := (show Own [] w w14 [Ent.bo q [(vU32 (hst all).a), (vU32 (hst all).b), (vU32 (hst all).c), (vU32 (hst all).d), (vU32 (hst all).e), (vU32 (hst all).f), (vU32 (hst all).g), (vU32 (hst all).h), v, (vN all.length)], Ent.ar v 1 (hrest all).length (List.map vU8 (hrest all)), .row t 5 1 ((hrest all).length + 1 + padZ all.length + j) (List.map vU8 (hrest all ++ ([128] ++ List.replicate (padZ all.length) 0 ++ lenTo all.length j))), .row (.slice (some ⟨b3, 0, none⟩) 1 1) 5 1 1 (List.map vU8 [128]), .blk b13 [(vU32 (hst all).a), (vU32 (hst all).b), (vU32 (hst all).c), (vU32 (hst all).d), (vU32 (hst all).e), (vU32 (hst all).f), (vU32 (hst all).g), (vU32 (hst all).h)] 195] from H14); rw [hj] at h; have e : (hrest all).length + 1 + padZ all.length + 8 = (brest (hrest all ++ pads all.length) 0).length := (by simp [brest, pads, lenTo_length]; omega); rw [e] at h; exact h)⟩ ⟨rfl, rfl, trivial⟩ ?_
      rintro ⟨j, t⟩ w15 ⟨hinv, H15⟩
      show WC _ _ _ _ _ [(3, t), (6, (ptr b13 0))] _
      have hb0 := brest_length (hrest all ++ pads all.length) j
      have hP := padAll all
      refine WC.seq ?_
      refine WC.seq ?_
      refine WC.region ?_
      refine WL.op rfl rfl (op_move rfl ?_)
      refine WL.op rfl rfl (op_lenA Try.underlying73 rfl (H15.arrR (i := 2) rfl) ?_)
      refine WL.op rfl rfl (op_gtrN (b := 0) rfl rfl ?_)
      refine WL.nil ?_
      refine WQ.next ?_
      refine WC.cond rfl (fun (hb16 : (decide ((brest (hrest all ++ pads all.length) j).length > 0)) = true) => ?_) (fun (hb16 : (decide ((brest (hrest all ++ pads all.length) j).length > 0)) = false) => ?_)
      ·
        have hc16 := of_decide_eq_true hb16
        refine WC.skip ?_
        refine WQ.next ?_
        refine WC.seq ?_
        refine WC.block ?_
        refine WC.draw 4 Fa.M H15 (HW.op rfl (fun w1 H1 => op_loadS (vs := [_, _, _, _, _, _, _, _]) rfl (H1.cells (i := 4) rfl rfl) Try.underlying195 rfl Fa.I195 rfl ⟨rfl, Fr.refl _ _⟩) (HW.op rfl (fun w1 H1 => op_move rfl ⟨rfl, Fr.refl _ _⟩) (HW.op rfl (fun w1 H1 => op_cutHi (b := 64) Try.underlying73 Fa.I5 rfl (H1.arrR (i := 2) rfl) rfl (by omega) ⟨rfl, Fr.refl _ _⟩) (HW.op rfl (fun w1 H1 => op_callF Fa.C145 rfl ((block_ok (bst (hst all) (hrest all ++ pads all.length) j) _ ((brest (hrest all ++ pads all.length) j).take 64) _ (by rw [List.length_take]; omega) (((H1.arrR (i := 2) rfl)).cutHiM (f := vU8) (l := (brest (hrest all ++ pads all.length) j)) (b := 64) (by omega))).mono (fun e w2 hq => ⟨_, hq.1, rfl, hq.2⟩)))  HW.nil)))) (by kernel_rfl) ?_
        intro β18 w18 H18
        refine WL.op rfl rfl (op_storeBW (i := 4) H18 rfl rfl rfl rfl rfl Fa.I195 (fun w19 H19 => ?_))
        refine WL.nil ?_
        refine WQ.inNormal ?_
        refine WQ.next ?_
        refine WC.region ?_
        refine WL.op rfl rfl (op_move rfl ?_)
        refine WL.op rfl rfl (op_cutLo (a := 64) Try.underlying73 Fa.I5 rfl (H19.arrR (i := 2) rfl) rfl (by omega) ?_)
        have H20 := H19.cutLoM (f := vU8) (l := (brest (hrest all ++ pads all.length) j)) (a := 64) (i := 2) rfl (by omega)
        refine WL.op rfl rfl (op_assign rfl ?_)
        refine WL.nil ?_
        exact WQ.round (j + 1, (cutV t 64 (brest (hrest all ++ pads all.length) j).length 1)) ⟨(by omega), (by have h := (show Own [] w w19 [Ent.bo q [(vU32 (hst all).a), (vU32 (hst all).b), (vU32 (hst all).c), (vU32 (hst all).d), (vU32 (hst all).e), (vU32 (hst all).f), (vU32 (hst all).g), (vU32 (hst all).h), v, (vN all.length)], Ent.ar v 1 (hrest all).length (List.map vU8 (hrest all)), .row (cutV t 64 (brest (hrest all ++ pads all.length) j).length 1) 5 1 ((brest (hrest all ++ pads all.length) j).length - 64) (List.map vU8 ((brest (hrest all ++ pads all.length) j).drop 64)), .row (.slice (some ⟨b3, 0, none⟩) 1 1) 5 1 1 (List.map vU8 [128]), .blk b13 [(vU32 (blockS (bst (hst all) (hrest all ++ pads all.length) j) ((brest (hrest all ++ pads all.length) j).take 64)).a), (vU32 (blockS (bst (hst all) (hrest all ++ pads all.length) j) ((brest (hrest all ++ pads all.length) j).take 64)).b), (vU32 (blockS (bst (hst all) (hrest all ++ pads all.length) j) ((brest (hrest all ++ pads all.length) j).take 64)).c), (vU32 (blockS (bst (hst all) (hrest all ++ pads all.length) j) ((brest (hrest all ++ pads all.length) j).take 64)).d), (vU32 (blockS (bst (hst all) (hrest all ++ pads all.length) j) ((brest (hrest all ++ pads all.length) j).take 64)).e), (vU32 (blockS (bst (hst all) (hrest all ++ pads all.length) j) ((brest (hrest all ++ pads all.length) j).take 64)).f), (vU32 (blockS (bst (hst all) (hrest all ++ pads all.length) j) ((brest (hrest all ++ pads all.length) j).take 64)).g), (vU32 (blockS (bst (hst all) (hrest all ++ pads all.length) j) ((brest (hrest all ++ pads all.length) j).take 64)).h)] 195] from H20); rw [← List.length_drop] at h; exact h)⟩ ⟨rfl, rfl, trivial⟩ (by show (hrest all ++ pads all.length).length - 64 * (j + 1) < (hrest all ++ pads all.length).length - 64 * j; omega)
      ·
        have hc16 := of_decide_eq_false hb16
        refine WC.exit ?_
        refine WQ.thenExit ?_
        refine WQ.thenExit ?_
        refine WQ.inHere ?_
        refine WQ.next ?_
        refine WC.seq ?_
        refine WC.region ?_
        refine WL.op rfl rfl (op_assign rfl ?_)
        have H21 := H15.nilRow 5 1
        refine WL.nil ?_
        refine WQ.next ?_
        refine WC.seq ?_
        refine WC.seq ?_
        refine WC.region ?_
        refine WL.op rfl rfl (op_loadS (vs := [_, _, _, _, _, _, _, _]) rfl (H21.cells (i := 4) rfl rfl) Try.underlying195 rfl Fa.I195 rfl ?_)
        refine WL.op rfl rfl (op_move rfl ?_)
        refine WL.nil ?_
        refine WQ.next ?_
        refine WC.block ?_
        refine WC.loop (α := Nat × Value) (fun (k, t2) => [(7, t2), (56, (.agg #[(vU32 (bst (hst all) (hrest all ++ pads all.length) j).a), (vU32 (bst (hst all) (hrest all ++ pads all.length) j).b), (vU32 (bst (hst all) (hrest all ++ pads all.length) j).c), (vU32 (bst (hst all) (hrest all ++ pads all.length) j).d), (vU32 (bst (hst all) (hrest all ++ pads all.length) j).e), (vU32 (bst (hst all) (hrest all ++ pads all.length) j).f), (vU32 (bst (hst all) (hrest all ++ pads all.length) j).g), (vU32 (bst (hst all) (hrest all ++ pads all.length) j).h)])), (57, (vN k))]) (fun (k, t2) w' => (k ≤ 8) ∧ Own [] w w' [Ent.bo q [(vU32 (hst all).a), (vU32 (hst all).b), (vU32 (hst all).c), (vU32 (hst all).d), (vU32 (hst all).e), (vU32 (hst all).f), (vU32 (hst all).g), (vU32 (hst all).h), v, (vN all.length)], Ent.ar v 1 (hrest all).length (List.map vU8 (hrest all)), .row t 5 1 (brest (hrest all ++ pads all.length) j).length (List.map vU8 (brest (hrest all ++ pads all.length) j)), .row (.slice (some ⟨b3, 0, none⟩) 1 1) 5 1 1 (List.map vU8 [128]), .blk b13 [(vU32 (bst (hst all) (hrest all ++ pads all.length) j).a), (vU32 (bst (hst all) (hrest all ++ pads all.length) j).b), (vU32 (bst (hst all) (hrest all ++ pads all.length) j).c), (vU32 (bst (hst all) (hrest all ++ pads all.length) j).d), (vU32 (bst (hst all) (hrest all ++ pads all.length) j).e), (vU32 (bst (hst all) (hrest all ++ pads all.length) j).f), (vU32 (bst (hst all) (hrest all ++ pads all.length) j).g), (vU32 (bst (hst all) (hrest all ++ pads all.length) j).h)] 195, .row t2 5 1 (4 * k) (List.map vU8 (outTo (bst (hst all) (hrest all ++ pads all.length) j) k))]) (fun (k, t2) => 8 - k) (0, (.slice none 0 0)) ⟨(by omega), H21⟩ ⟨rfl, rfl, rfl, trivial⟩ ?_
        rintro ⟨k, t2⟩ w22 ⟨hinv, H22⟩
        show WC _ _ _ _ _ [(7, t2), (56, (.agg #[(vU32 (bst (hst all) (hrest all ++ pads all.length) j).a), (vU32 (bst (hst all) (hrest all ++ pads all.length) j).b), (vU32 (bst (hst all) (hrest all ++ pads all.length) j).c), (vU32 (bst (hst all) (hrest all ++ pads all.length) j).d), (vU32 (bst (hst all) (hrest all ++ pads all.length) j).e), (vU32 (bst (hst all) (hrest all ++ pads all.length) j).f), (vU32 (bst (hst all) (hrest all ++ pads all.length) j).g), (vU32 (bst (hst all) (hrest all ++ pads all.length) j).h)])), (57, (vN k))] _
        refine WC.seq ?_
        refine WC.region ?_
        refine WL.op rfl rfl (op_lssN (b := 8) rfl rfl ?_)
        refine WL.nil ?_
        refine WQ.next ?_
        refine WC.seq ?_
        refine WC.cond rfl (fun (hb23 : (decide (k < 8)) = true) => ?_) (fun (hb23 : (decide (k < 8)) = false) => ?_)
        ·
          have hc23 := of_decide_eq_true hb23
          refine WC.skip ?_
          refine WQ.next ?_
          refine WC.seq ?_
          refine WC.block ?_
          refine WC.seq ?_
          refine WC.region ?_
          refine WL.op rfl rfl (op_indexA1 (cs := _) Try.underlying195 Fa.I22 Try.underlying22 rfl rfl rfl (by omega) (get_map (l := (bst (hst all) (hrest all ++ pads all.length) j).vals) vU32 0 (by rw [vals_length]; omega)) ?_)
          refine WL.op rfl rfl (op_assign rfl ?_)
          refine WL.nil ?_
          refine WQ.next ?_
          refine WC.region ?_
          refine WL.op rfl rfl (op_move rfl ?_)
          refine WL.op rfl rfl (op_move rfl ?_)
          refine WL.op rfl rfl (op_shrU32 (s := 24) rfl rfl ?_)
          refine WL.op rfl rfl (op_convU32U8 (hs := Try.underlying22) (hd := Try.underlying5) rfl ?_)
          refine WL.op rfl rfl (op_move rfl ?_)
          refine WL.op rfl rfl (op_shrU32 (s := 16) rfl rfl ?_)
          refine WL.op rfl rfl (op_convU32U8 (hs := Try.underlying22) (hd := Try.underlying5) rfl ?_)
          refine WL.op rfl rfl (op_move rfl ?_)
          refine WL.op rfl rfl (op_shrU32 (s := 8) rfl rfl ?_)
          refine WL.op rfl rfl (op_convU32U8 (hs := Try.underlying22) (hd := Try.underlying5) rfl ?_)
          refine WL.op rfl rfl (op_move rfl ?_)
          refine WL.op rfl rfl (op_convU32U8 (hs := Try.underlying22) (hd := Try.underlying5) rfl ?_)
          refine WL.op rfl rfl (op_buildSlice (cs := [_, _, _, _]) H22 Try.underlying73 Fa.I5 rfl rfl rfl rfl (by decide) (by decide) (fun b24 w24 H24 => ?_))
          refine WL.op rfl rfl (op_appendM (f := vU8) (l := (outTo (bst (hst all) (hrest all ++ pads all.length) j) k)) (l' := [(UInt8.ofNat (shrU32 ((bst (hst all) (hrest all ++ pads all.length) j).vals.getD k 0) 24).toNat), (UInt8.ofNat (shrU32 ((bst (hst all) (hrest all ++ pads all.length) j).vals.getD k 0) 16).toNat), (UInt8.ofNat (shrU32 ((bst (hst all) (hrest all ++ pads all.length) j).vals.getD k 0) 8).toNat), (UInt8.ofNat ((bst (hst all) (hrest all ++ pads all.length) j).vals.getD k 0).toNat)]) (i := 5) H24 Try.underlying73 Fa.I5 rfl rfl rfl rfl (Src.ofArr Try.underlying73 (H24.arrR (i := 6) rfl)) (one_mapM (fun _ => rfl)) (by omega) (by omega) (fun v25 w25 H25 => ?_))
          refine WL.op rfl rfl (op_assign rfl ?_)
          refine WL.nil ?_
          refine WQ.inNormal ?_
          refine WQ.next ?_
          refine WC.region ?_
          refine WL.op rfl rfl (op_addN (b := 1) rfl rfl (by omega) ?_)
          refine WL.op rfl rfl (op_move rfl ?_)
          refine WL.nil ?_
          exact WQ.round (k + 1, v25) ⟨(by omega), (H25.take 6)⟩ ⟨rfl, rfl, rfl, trivial⟩ (by show 8 - (k + 1) < 8 - k; omega)
        ·
          have hc23 := of_decide_eq_false hb23
          refine WC.exit ?_
          refine WQ.thenExit ?_
          refine WQ.thenExit ?_
          refine WQ.inHere ?_
          refine WQ.next ?_
          refine WC.seq ?_
          refine WC.region ?_
          refine WL.op rfl rfl (op_move rfl ?_)
          refine WL.op rfl rfl (op_bytesStr (l := (outTo (bst (hst all) (hrest all ++ pads all.length) j) k)) Try.underlying73 Try.underlying5 Try.underlying9 rfl (H22.arrR (i := 5) rfl) rfl ?_)
          refine WL.op rfl rfl (op_assign rfl ?_)
          refine WL.nil ?_
          refine WQ.next ?_
          refine WC.ret ?_
          refine WQ.out (.tmp rfl .nil) ?_
          exact ⟨(by have hk : k = 8 := (by omega); subst hk; rw [sumEnd all j (by omega) (by rw [← List.length_append]; omega)]; rfl), H22.fr⟩
end Go.Proofs.Ytpnghdalnghpcaa
/-! from WSha2 -/
namespace Go.Proofs.Ytpnghdalnghpcaa
open Go.Owl Go.Spec
set_option maxRecDepth 100000 in
theorem ssum_ok (s : List UInt8) (w : World) (hs : s.length < 2 ^ 40) :
    Calls Try.prog 144 #[(str s)] w (fun e w' => e = .returned (str (sha s)) ∧ Fr [] w w') := by
  refine enter (args := [(str s)]) Try.func144 rfl rfl ?_
  have H0 : Own [] w w [] := Own.start w []
  refine WC.seq ?_
  refine WC.region ?_
  refine WL.op rfl rfl (op_assign rfl ?_)
  refine WL.nil ?_
  refine WQ.next ?_
  refine WC.seq ?_
  refine WC.region ?_
  refine WL.op rfl rfl (op_callF Fa.C131 rfl ((new_ok _).mono (fun e w1 hq => ?_)))
  obtain ⟨q1, rfl, hq1⟩ := hq
  refine ⟨_, rfl, ?_⟩
  have H1 : Own [] w w1 [.blk q1 [(vU32 (hst ([] : List UInt8)).a), (vU32 (hst ([] : List UInt8)).b), (vU32 (hst ([] : List UInt8)).c), (vU32 (hst ([] : List UInt8)).d), (vU32 (hst ([] : List UInt8)).e), (vU32 (hst ([] : List UInt8)).f), (vU32 (hst ([] : List UInt8)).g), (vU32 (hst ([] : List UInt8)).h), (.slice none 0 0), (vN ([] : List UInt8).length)] 198, .row (.slice none 0 0) 5 1 (hrest ([] : List UInt8)).length (List.map vU8 (hrest ([] : List UInt8)))] := H0.splice [] [] [.blk q1 [(vU32 (hst ([] : List UInt8)).a), (vU32 (hst ([] : List UInt8)).b), (vU32 (hst ([] : List UInt8)).c), (vU32 (hst ([] : List UInt8)).d), (vU32 (hst ([] : List UInt8)).e), (vU32 (hst ([] : List UInt8)).f), (vU32 (hst ([] : List UInt8)).g), (vU32 (hst ([] : List UInt8)).h), (.slice none 0 0), (vN ([] : List UInt8).length)] 198, .row (.slice none 0 0) 5 1 (hrest ([] : List UInt8)).length (List.map vU8 (hrest ([] : List UInt8)))] rfl rfl hq1 (Fits.solid True.intro (Fits.solid True.intro Fits.nil))
  refine WL.op rfl rfl (op_assign rfl ?_)
  refine WL.nil ?_
  refine WQ.next ?_
  refine WC.seq ?_
  refine WC.region ?_
  refine WL.op rfl rfl (op_move rfl ?_)
  refine WL.op rfl rfl (op_move rfl ?_)
  refine WL.op rfl rfl (op_buildSlice (cs := [_]) H1 Try.underlying23 Fa.I9 rfl rfl rfl rfl (by decide) (by decide) (fun b2 w2 H2 => ?_))
  refine WL.op rfl rfl (op_callF Fa.C133 rfl ((write_ok q1 (.slice none 0 0) (.slice (some ⟨b2, 0, none⟩) 1 1) ([] : List UInt8) ([s]) _ _ (H2.part [0, 1] rfl rfl) (H2.stayR (I := [0, 1]) (k := 2) rfl rfl rfl) (by simpa using hs) (by simp)).mono (fun e w3 hq => ?_)))
  obtain ⟨v3, rfl, hq3⟩ := hq
  refine ⟨_, rfl, ?_⟩
  have H3 : Own [] w w3 [.blk q1 [(vU32 (hst (([] : List UInt8) ++ [s].flatten)).a), (vU32 (hst (([] : List UInt8) ++ [s].flatten)).b), (vU32 (hst (([] : List UInt8) ++ [s].flatten)).c), (vU32 (hst (([] : List UInt8) ++ [s].flatten)).d), (vU32 (hst (([] : List UInt8) ++ [s].flatten)).e), (vU32 (hst (([] : List UInt8) ++ [s].flatten)).f), (vU32 (hst (([] : List UInt8) ++ [s].flatten)).g), (vU32 (hst (([] : List UInt8) ++ [s].flatten)).h), v3, (vN (([] : List UInt8) ++ [s].flatten).length)] 198, .row v3 5 1 (hrest (([] : List UInt8) ++ [s].flatten)).length (List.map vU8 (hrest (([] : List UInt8) ++ [s].flatten))), .row (.slice (some ⟨b2, 0, none⟩) 1 1) 9 1 1 (List.map str [s])] := H2.splice [0, 1] [.blk q1 [(vU32 (hst (([] : List UInt8) ++ [s].flatten)).a), (vU32 (hst (([] : List UInt8) ++ [s].flatten)).b), (vU32 (hst (([] : List UInt8) ++ [s].flatten)).c), (vU32 (hst (([] : List UInt8) ++ [s].flatten)).d), (vU32 (hst (([] : List UInt8) ++ [s].flatten)).e), (vU32 (hst (([] : List UInt8) ++ [s].flatten)).f), (vU32 (hst (([] : List UInt8) ++ [s].flatten)).g), (vU32 (hst (([] : List UInt8) ++ [s].flatten)).h), v3, (vN (([] : List UInt8) ++ [s].flatten).length)] 198, .row v3 5 1 (hrest (([] : List UInt8) ++ [s].flatten)).length (List.map vU8 (hrest (([] : List UInt8) ++ [s].flatten)))] [] rfl rfl hq3 (Fits.solid True.intro (Fits.solid True.intro Fits.nil))
  refine WL.nil ?_
  refine WQ.next ?_
  refine WC.seq ?_
  refine WC.region ?_
  refine WL.op rfl rfl (op_move rfl ?_)
  refine WL.op rfl rfl (op_callF Fa.C135 rfl ((hsum_ok q1 v3 (([] : List UInt8) ++ [s].flatten) _ (H3.cellsAt (i := 0) rfl) (H3.arrR (i := 1) rfl) (by simpa using hs)).mono (fun e w4 hq => ?_)))
  obtain ⟨rfl, hf4⟩ := hq
  refine ⟨_, rfl, ?_⟩
  have H4 := H3.fr' hf4
  refine WL.op rfl rfl (op_assign rfl ?_)
  refine WL.nil ?_
  refine WQ.next ?_
  refine WC.ret ?_
  refine WQ.out (.tmp rfl .nil) ?_
  exact ⟨by simp [tup], H4.fr⟩
end Go.Proofs.Ytpnghdalnghpcaa
