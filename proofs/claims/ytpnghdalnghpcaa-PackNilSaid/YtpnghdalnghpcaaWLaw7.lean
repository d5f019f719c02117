import Derived.Test.YtpnghdalnghpcaaWPack2
namespace Go.Proofs.Ytpnghdalnghpcaa
open Go.Owl Go.Spec
set_option maxRecDepth 100000 in
theorem packNil_ok (n : Int) (w : World) :
    Calls Try.prog 6 #[(vI n)] w (fun e w' => e = .returned (.bool true) ∧ Fr [] w w') := by
  refine enter (args := [(vI n)]) Try.func6 rfl rfl ?_
  have H0 : Own [] w w [] := Own.start w []
  refine WC.seq ?_
  refine WC.region ?_
  refine WL.op rfl rfl (op_assign rfl ?_)
  refine WL.nil ?_
  refine WQ.next ?_
  refine WC.seq ?_
  refine WC.region ?_
  refine WL.op rfl rfl (op_assign rfl ?_)
  refine WL.nil ?_
  refine WQ.next ?_
  refine WC.seq ?_
  refine WC.region ?_
  refine WL.op rfl rfl (op_move rfl ?_)
  refine WL.op rfl rfl (op_move rfl ?_)
  refine WL.op rfl rfl (op_callF Fa.C30 rfl ((takeNil_ok (n) _).mono (fun e w1 hq => ?_)))
  obtain ⟨rfl, hf1⟩ := hq
  refine ⟨_, rfl, ?_⟩
  have H1 := H0.fr' hf1
  refine WL.op rfl rfl (op_move rfl ?_)
  refine WL.op rfl rfl (op_extract rfl rfl ?_)
  refine WL.op rfl rfl (op_extract rfl rfl ?_)
  refine WL.op rfl rfl (op_assign rfl ?_)
  refine WL.op rfl rfl (op_assign rfl ?_)
  refine WL.nil ?_
  refine WQ.next ?_
  refine WC.seq ?_
  refine WC.region ?_
  refine WL.op rfl rfl (op_move rfl ?_)
  refine WL.op rfl rfl (op_move rfl ?_)
  refine WL.op rfl rfl (op_callF Fa.C25 rfl ((rdnumNil_ok (n) _).mono (fun e w2 hq => ?_)))
  obtain ⟨rfl, hf2⟩ := hq
  refine ⟨_, rfl, ?_⟩
  have H2 := H1.fr' hf2
  refine WL.op rfl rfl (op_move rfl ?_)
  refine WL.op rfl rfl (op_extract rfl rfl ?_)
  refine WL.op rfl rfl (op_extract rfl rfl ?_)
  refine WL.op rfl rfl (op_assign rfl ?_)
  refine WL.op rfl rfl (op_assign rfl ?_)
  refine WL.nil ?_
  refine WQ.next ?_
  refine WC.seq ?_
  refine WC.region ?_
  refine WL.op rfl rfl (op_move rfl ?_)
  refine WL.op rfl rfl (op_callF Fa.C26 rfl ((rdtextNil_ok _).mono (fun e w3 hq => ?_)))
  obtain ⟨rfl, hf3⟩ := hq
  refine ⟨_, rfl, ?_⟩
  have H3 := H2.fr' hf3
  refine WL.op rfl rfl (op_move rfl ?_)
  refine WL.op rfl rfl (op_extract rfl rfl ?_)
  refine WL.op rfl rfl (op_extract rfl rfl ?_)
  refine WL.op rfl rfl (op_assign rfl ?_)
  refine WL.op rfl rfl (op_assign rfl ?_)
  refine WL.nil ?_
  refine WQ.next ?_
  refine WC.seq ?_
  refine WC.region ?_
  refine WL.op rfl rfl (op_move rfl ?_)
  refine WL.op rfl rfl (op_callF Fa.C27 rfl ((rdtextsNil_ok _).mono (fun e w4 hq => ?_)))
  obtain ⟨rfl, hf4⟩ := hq
  refine ⟨_, rfl, ?_⟩
  have H4 := H3.fr' hf4
  refine WL.op rfl rfl (op_move rfl ?_)
  refine WL.op rfl rfl (op_extract rfl rfl ?_)
  refine WL.op rfl rfl (op_extract rfl rfl ?_)
  refine WL.op rfl rfl (op_assign rfl ?_)
  refine WL.op rfl rfl (op_assign rfl ?_)
  refine WL.nil ?_
  refine WQ.next ?_
  refine WC.seq ?_
  refine WC.region ?_
  refine WL.op rfl rfl (op_move rfl ?_)
  refine WL.op rfl rfl (op_eqlStr rfl rfl ?_)
  refine WL.op rfl rfl (op_move rfl ?_)
  refine WL.yes rfl rfl rfl (by kernel_rfl) rfl (op_move rfl ?_)
  refine WL.yes rfl rfl rfl (by kernel_rfl) rfl (op_eqlN (b := 1) rfl rfl ?_)
  refine WL.op rfl rfl (op_pickT rfl (by kernel_rfl) rfl ?_)
  refine WL.op rfl rfl (op_move rfl ?_)
  refine WL.yes rfl rfl rfl (by decide) rfl (op_move rfl ?_)
  refine WL.yes rfl rfl rfl (by decide) rfl (op_eqlU32 (b := 0) rfl rfl ?_)
  refine WL.op rfl rfl (op_pickT rfl (by decide) rfl ?_)
  refine WL.op rfl rfl (op_move rfl ?_)
  refine WL.yes rfl rfl rfl (by kernel_rfl) rfl (op_move rfl ?_)
  refine WL.yes rfl rfl rfl (by kernel_rfl) rfl (op_eqlN (b := 1) rfl rfl ?_)
  refine WL.op rfl rfl (op_pickT rfl (by kernel_rfl) rfl ?_)
  refine WL.op rfl rfl (op_move rfl ?_)
  refine WL.yes rfl rfl rfl (by decide) rfl (op_move rfl ?_)
  refine WL.yes rfl rfl rfl (by decide) rfl (op_eqlStr rfl rfl ?_)
  refine WL.op rfl rfl (op_pickT rfl (by decide) rfl ?_)
  refine WL.op rfl rfl (op_move rfl ?_)
  refine WL.yes rfl rfl rfl (by kernel_rfl) rfl (op_move rfl ?_)
  refine WL.yes rfl rfl rfl (by kernel_rfl) rfl (op_eqlN (b := 1) rfl rfl ?_)
  refine WL.op rfl rfl (op_pickT rfl (by kernel_rfl) rfl ?_)
  refine WL.op rfl rfl (op_move rfl ?_)
  refine WL.yes rfl rfl rfl (by decide) rfl (op_move rfl ?_)
  refine WL.yes rfl rfl rfl (by decide) rfl (op_lenA Try.underlying23 rfl (Arr.nil _ 1) ?_)
  refine WL.yes rfl rfl rfl (by decide) rfl (op_eqlN (b := 0) rfl rfl ?_)
  refine WL.op rfl rfl (op_pickT rfl (by decide) rfl ?_)
  refine WL.op rfl rfl (op_move rfl ?_)
  refine WL.yes rfl rfl rfl (by decide) rfl (op_move rfl ?_)
  refine WL.yes rfl rfl rfl (by decide) rfl (op_eqlN (b := 1) rfl rfl ?_)
  refine WL.op rfl rfl (op_pickT rfl (by decide) rfl ?_)
  refine WL.op rfl rfl (op_move rfl ?_)
  refine WL.yes rfl rfl rfl (by decide) rfl (op_move rfl ?_)
  refine WL.yes rfl rfl rfl (by decide) rfl (op_callF Fa.C28 rfl ((rleftNil_ok _).mono (fun e w5 hq => ?_)))
  obtain ⟨rfl, hf5⟩ := hq
  refine ⟨_, rfl, ?_⟩
  have H5 := H4.fr' hf5
  refine WL.yes rfl rfl rfl (by decide) rfl (op_eqlN (b := 0) rfl rfl ?_)
  refine WL.op rfl rfl (op_pickT rfl (by decide) rfl ?_)
  refine WL.op rfl rfl (op_move rfl ?_)
  refine WL.yes rfl rfl rfl (by decide) rfl (op_move rfl ?_)
  refine WL.yes rfl rfl rfl (by decide) rfl (op_callF Fa.C29 rfl ((rdendNil_ok _).mono (fun e w6 hq => ?_)))
  obtain ⟨rfl, hf6⟩ := hq
  refine ⟨_, rfl, ?_⟩
  have H6 := H5.fr' hf6
  refine WL.yes rfl rfl rfl (by decide) rfl (op_eqlN (b := 1) rfl rfl ?_)
  refine WL.op rfl rfl (op_pickT rfl (by decide) rfl ?_)
  refine WL.op rfl rfl (op_move rfl ?_)
  refine WL.yes rfl rfl rfl (by decide) rfl (op_move rfl ?_)
  refine WL.yes rfl rfl rfl (by decide) rfl (op_callF Fa.C36 rfl ((faultNil_ok _).mono (fun e w7 hq => ?_)))
  obtain ⟨rfl, hf7⟩ := hq
  refine ⟨_, rfl, ?_⟩
  have H7 := H6.fr' hf7
  refine WL.yes rfl rfl rfl (by decide) rfl (op_eqlN (b := 1) rfl rfl ?_)
  refine WL.op rfl rfl (op_pickT rfl (by decide) rfl ?_)
  refine WL.op rfl rfl (op_move rfl ?_)
  refine WL.yes rfl rfl rfl (by decide) rfl (op_callF Fa.C16 rfl ((alive07_ok _).mono (fun e w8 hq => ?_)))
  obtain ⟨rfl, hf8⟩ := hq
  refine ⟨_, rfl, ?_⟩
  have H8 := H7.fr' hf8
  refine WL.op rfl rfl (op_pickT rfl (by decide) rfl ?_)
  refine WL.op rfl rfl (op_assign rfl ?_)
  refine WL.nil ?_
  refine WQ.next ?_
  refine WC.ret ?_
  refine WQ.out (.tmp rfl .nil) ?_
  exact ⟨rfl, H8.fr⟩
set_option maxRecDepth 100000 in
theorem packPuts_ok (v : UInt32) (n : Int) (s : List UInt8) (lv : Value) (l : List (List UInt8)) (w : World) (hA : Arr w lv 1 l.length (List.map str l)) (hB : ∀ x ∈ l, x.length ≤ 140737488351232) (hn : l.length < 2 ^ 50) (hs : s.length ≤ 140737488351232) :
    Calls Try.prog 3 #[(vU32 v), (vI n), (str s), lv] w (fun e w' => e = .returned (.bool true) ∧ Fr [] w w') := by
  refine enter (args := [(vU32 v), (vI n), (str s), lv]) Try.func3 rfl rfl ?_
  have H0 : Own [] w w [] := Own.start w []
  refine WC.seq ?_
  refine WC.region ?_
  refine WL.op rfl rfl (op_assign rfl ?_)
  refine WL.nil ?_
  refine WQ.next ?_
  refine WC.seq ?_
  refine WC.seq ?_
  refine WC.region ?_
  refine WL.op rfl rfl (op_move rfl ?_)
  refine WL.op rfl rfl (op_callF Fa.C15 rfl ((large07_ok _ l _ _ (H0.arr hA) hB (by omega)).mono (fun e w1 hq => ?_)))
  obtain ⟨rfl, hf1⟩ := hq
  refine ⟨_, rfl, ?_⟩
  have H1 := H0.fr' hf1
  refine WL.op rfl rfl (op_move rfl ?_)
  refine WL.split (t := 24) rfl (fun (hb2 : (large07 l) = true) => ?_) (fun (hb2 : (large07 l) = false) => ?_)
  ·
    refine WL.no rfl rfl rfl hb2 rfl ?_
    refine WL.no rfl rfl rfl hb2 rfl ?_
    refine WL.no rfl rfl rfl hb2 rfl ?_
    refine WL.op rfl rfl (op_pickT rfl hb2 rfl ?_)
    refine WL.nil ?_
    refine WQ.next ?_
    refine WC.yes rfl rfl ?_
    refine WC.seq ?_
    refine WC.region ?_
    refine WL.op rfl rfl (op_callF Fa.C16 rfl ((alive07_ok _).mono (fun e w3 hq => ?_)))
    obtain ⟨rfl, hf3⟩ := hq
    refine ⟨_, rfl, ?_⟩
    have H3 := H1.fr' hf3
    refine WL.op rfl rfl (op_assign rfl ?_)
    refine WL.nil ?_
    refine WQ.next ?_
    refine WC.ret ?_
    refine WQ.thenRet ?_
    refine WQ.out (.tmp rfl .nil) ?_
    exact ⟨rfl, H3.fr⟩
  ·
    have hlg := large07_no hb2
    refine WL.yes rfl rfl rfl hb2 rfl (op_move rfl ?_)
    refine WL.yes rfl rfl rfl hb2 rfl (op_lenStr Try.underlying9 rfl ?_)
    refine WL.yes rfl rfl rfl hb2 rfl (op_gtrN (b := 131072) rfl rfl ?_)
    refine WL.op rfl rfl (op_pickF rfl hb2 rfl ?_)
    refine WL.nil ?_
    refine WQ.next ?_
    refine WC.cond rfl (fun (hb4 : (decide (s.length > 131072)) = true) => ?_) (fun (hb4 : (decide (s.length > 131072)) = false) => ?_)
    ·
      have hc4 := of_decide_eq_true hb4
      refine WC.seq ?_
      refine WC.region ?_
      refine WL.op rfl rfl (op_callF Fa.C16 rfl ((alive07_ok _).mono (fun e w5 hq => ?_)))
      obtain ⟨rfl, hf5⟩ := hq
      refine ⟨_, rfl, ?_⟩
      have H5 := H1.fr' hf5
      refine WL.op rfl rfl (op_assign rfl ?_)
      refine WL.nil ?_
      refine WQ.next ?_
      refine WC.ret ?_
      refine WQ.thenRet ?_
      refine WQ.out (.tmp rfl .nil) ?_
      exact ⟨rfl, H5.fr⟩
    ·
      have hc4 := of_decide_eq_false hb4
      refine WC.skip ?_
      refine WQ.next ?_
      refine WC.seq ?_
      refine WC.region ?_
      refine WL.op rfl rfl (op_move rfl ?_)
      refine WL.op rfl rfl (op_move rfl ?_)
      refine WL.op rfl rfl (op_callF Fa.C17 rfl ((num_ok v (n) _).mono (fun e w6 hq => ?_)))
      obtain ⟨rfl, hf6⟩ := hq
      refine ⟨_, rfl, ?_⟩
      have H6 := H1.fr' hf6
      refine WL.op rfl rfl (op_move rfl ?_)
      refine WL.op rfl rfl (op_extract rfl rfl ?_)
      refine WL.op rfl rfl (op_extract rfl rfl ?_)
      refine WL.op rfl rfl (op_assign rfl ?_)
      refine WL.op rfl rfl (op_assign rfl ?_)
      refine WL.nil ?_
      refine WQ.next ?_
      refine WC.seq ?_
      refine WC.region ?_
      refine WL.op rfl rfl (op_move rfl ?_)
      refine WL.op rfl rfl (op_move rfl ?_)
      refine WL.op rfl rfl (op_callF Fa.C18 rfl ((rnum_ok v (n) _).mono (fun e w7 hq => ?_)))
      obtain ⟨rfl, hf7⟩ := hq
      refine ⟨_, rfl, ?_⟩
      have H7 := H6.fr' hf7
      refine WL.op rfl rfl (op_move rfl ?_)
      refine WL.op rfl rfl (op_extract rfl rfl ?_)
      refine WL.op rfl rfl (op_extract rfl rfl ?_)
      refine WL.op rfl rfl (op_assign rfl ?_)
      refine WL.op rfl rfl (op_assign rfl ?_)
      refine WL.nil ?_
      refine WQ.next ?_
      refine WC.seq ?_
      refine WC.region ?_
      refine WL.op rfl rfl (op_move rfl ?_)
      refine WL.op rfl rfl (op_callF Fa.C19 rfl ((ptext_ok s _ (by omega)).mono (fun e w8 hq => ?_)))
      obtain ⟨rfl, hf8⟩ := hq
      refine ⟨_, rfl, ?_⟩
      have H8 := H7.fr' hf8
      refine WL.op rfl rfl (op_move rfl ?_)
      refine WL.op rfl rfl (op_extract rfl rfl ?_)
      refine WL.op rfl rfl (op_extract rfl rfl ?_)
      refine WL.op rfl rfl (op_assign rfl ?_)
      refine WL.op rfl rfl (op_assign rfl ?_)
      refine WL.nil ?_
      refine WQ.next ?_
      refine WC.seq ?_
      refine WC.region ?_
      refine WL.op rfl rfl (op_move rfl ?_)
      refine WL.op rfl rfl (op_callF Fa.C20 rfl ((rtext_ok s _ (by omega)).mono (fun e w9 hq => ?_)))
      obtain ⟨rfl, hf9⟩ := hq
      refine ⟨_, rfl, ?_⟩
      have H9 := H8.fr' hf9
      refine WL.op rfl rfl (op_move rfl ?_)
      refine WL.op rfl rfl (op_extract rfl rfl ?_)
      refine WL.op rfl rfl (op_extract rfl rfl ?_)
      refine WL.op rfl rfl (op_assign rfl ?_)
      refine WL.op rfl rfl (op_assign rfl ?_)
      refine WL.nil ?_
      refine WQ.next ?_
      refine WC.seq ?_
      refine WC.region ?_
      refine WL.op rfl rfl (op_move rfl ?_)
      have H11 := H9.nilRow 9 1
      refine WL.op rfl rfl (op_appendM (f := str) (l := []) (l' := l) (i := 0) H11 Try.underlying23 Fa.I9 rfl rfl rfl rfl (Src.ofArr Try.underlying23 (H11.arr hA)) (one_mapM (fun _ => rfl)) (by omega) (by omega) (fun v10 w10 H10 => ?_))
      refine WL.op rfl rfl (op_assign rfl ?_)
      refine WL.nil ?_
      refine WQ.next ?_
      refine WC.seq ?_
      refine WC.region ?_
      refine WL.op rfl rfl (op_move rfl ?_)
      refine WL.op rfl rfl (op_callF Fa.C21 rfl ((ptexts_ok _ ([] ++ l) _ _ (H10.arrR (i := 0) rfl) ⟨by omega, fun x hx => Nat.lt_of_le_of_lt (hB x hx) (by decide)⟩).mono (fun e w12 hq => ?_)))
      obtain ⟨rfl, hf12⟩ := hq
      refine ⟨_, rfl, ?_⟩
      have H12 := H10.fr' hf12
      refine WL.op rfl rfl (op_move rfl ?_)
      refine WL.op rfl rfl (op_extract rfl rfl ?_)
      refine WL.op rfl rfl (op_extract rfl rfl ?_)
      refine WL.op rfl rfl (op_assign rfl ?_)
      refine WL.op rfl rfl (op_assign rfl ?_)
      refine WL.nil ?_
      refine WQ.next ?_
      refine WC.seq ?_
      refine WC.region ?_
      refine WL.op rfl rfl (op_move rfl ?_)
      refine WL.op rfl rfl (op_callF Fa.C22 rfl ((rtexts_ok _ l _ _ (H12.arr hA) ⟨by omega, fun x hx => Nat.lt_of_le_of_lt (hB x hx) (by decide)⟩).mono (fun e w13 hq => ?_)))
      obtain ⟨rfl, hf13⟩ := hq
      refine ⟨_, rfl, ?_⟩
      have H13 := H12.fr' hf13
      refine WL.op rfl rfl (op_move rfl ?_)
      refine WL.op rfl rfl (op_extract rfl rfl ?_)
      refine WL.op rfl rfl (op_extract rfl rfl ?_)
      refine WL.op rfl rfl (op_assign rfl ?_)
      refine WL.op rfl rfl (op_assign rfl ?_)
      refine WL.nil ?_
      refine WQ.next ?_
      refine WC.seq ?_
      refine WC.region ?_
      refine WL.op rfl rfl (op_move rfl ?_)
      refine WL.op rfl rfl (op_move rfl ?_)
      refine WL.op rfl rfl (op_eqlStr rfl rfl ?_)
      refine WL.op rfl rfl (op_move rfl ?_)
      refine WL.yes rfl rfl rfl (decide_eq_true rfl) rfl (op_move rfl ?_)
      refine WL.yes rfl rfl rfl (decide_eq_true rfl) rfl (op_move rfl ?_)
      refine WL.yes rfl rfl rfl (decide_eq_true rfl) rfl (op_eqlN rfl rfl ?_)
      refine WL.op rfl rfl (op_pickT rfl (decide_eq_true rfl) rfl ?_)
      refine WL.op rfl rfl (op_move rfl ?_)
      refine WL.yes rfl rfl rfl (decide_eq_true rfl) rfl (op_move rfl ?_)
      refine WL.yes rfl rfl rfl (decide_eq_true rfl) rfl (op_move rfl ?_)
      refine WL.yes rfl rfl rfl (decide_eq_true rfl) rfl (op_eqlStr rfl rfl ?_)
      refine WL.op rfl rfl (op_pickT rfl (decide_eq_true rfl) rfl ?_)
      refine WL.op rfl rfl (op_move rfl ?_)
      refine WL.yes rfl rfl rfl (decide_eq_true rfl) rfl (op_move rfl ?_)
      refine WL.yes rfl rfl rfl (decide_eq_true rfl) rfl (op_move rfl ?_)
      refine WL.yes rfl rfl rfl (decide_eq_true rfl) rfl (op_eqlN rfl rfl ?_)
      refine WL.op rfl rfl (op_pickT rfl (decide_eq_true rfl) rfl ?_)
      refine WL.op rfl rfl (op_move rfl ?_)
      refine WL.yes rfl rfl rfl (decide_eq_true rfl) rfl (op_move rfl ?_)
      refine WL.yes rfl rfl rfl (decide_eq_true rfl) rfl (op_move rfl ?_)
      refine WL.yes rfl rfl rfl (decide_eq_true rfl) rfl (op_eqlStr rfl rfl ?_)
      refine WL.op rfl rfl (op_pickT rfl (decide_eq_true rfl) rfl ?_)
      refine WL.op rfl rfl (op_move rfl ?_)
      refine WL.yes rfl rfl rfl (decide_eq_true rfl) rfl (op_move rfl ?_)
      refine WL.yes rfl rfl rfl (decide_eq_true rfl) rfl (op_move rfl ?_)
      refine WL.yes rfl rfl rfl (decide_eq_true rfl) rfl (op_eqlN rfl rfl ?_)
      refine WL.op rfl rfl (op_pickT rfl (decide_eq_true rfl) rfl ?_)
      refine WL.op rfl rfl (op_move rfl ?_)
      refine WL.yes rfl rfl rfl (decide_eq_true rfl) rfl (op_move rfl ?_)
      refine WL.yes rfl rfl rfl (decide_eq_true rfl) rfl (op_move rfl ?_)
      refine WL.yes rfl rfl rfl (decide_eq_true rfl) rfl (op_callF Fa.C23 rfl ((same07_ok _ _ ([] ++ l) l _ _ _ (H13.arrR (i := 0) rfl) (H13.arr hA) (by omega)).mono (fun e w14 hq => ?_)))
      obtain ⟨rfl, hf14⟩ := hq
      refine ⟨_, rfl, ?_⟩
      have H14 := H13.fr' hf14
      refine WL.op rfl rfl (op_pickT rfl (decide_eq_true rfl) rfl ?_)
      refine WL.op rfl rfl (op_move rfl ?_)
      refine WL.yes rfl rfl rfl (decide_eq_true rfl) rfl (op_callF Fa.C16 rfl ((alive07_ok _).mono (fun e w15 hq => ?_)))
      obtain ⟨rfl, hf15⟩ := hq
      refine ⟨_, rfl, ?_⟩
      have H15 := H14.fr' hf15
      refine WL.op rfl rfl (op_pickT rfl (decide_eq_true rfl) rfl ?_)
      refine WL.op rfl rfl (op_assign rfl ?_)
      refine WL.nil ?_
      refine WQ.next ?_
      refine WC.ret ?_
      refine WQ.out (.tmp rfl .nil) ?_
      exact ⟨rfl, H15.fr⟩
set_option maxRecDepth 100000 in
theorem packReads_ok (s : List UInt8) (lv : Value) (l : List Stp) (w : World) (hA : Arr w lv 2 l.length (l.flatMap stp)) :
    Calls Try.prog 5 #[(str s), lv] w (fun e w' => e = .returned (.bool true) ∧ Fr [] w w') := by
  refine enter (args := [(str s), lv]) Try.func5 rfl rfl ?_
  have H0 : Own [] w w [] := Own.start w []
  refine WC.seq ?_
  refine WC.region ?_
  refine WL.op rfl rfl (op_assign rfl ?_)
  refine WL.nil ?_
  refine WQ.next ?_
  refine WC.seq ?_
  refine WC.seq ?_
  refine WC.region ?_
  refine WL.op rfl rfl (op_move rfl ?_)
  refine WL.op rfl rfl (op_lenStr Try.underlying9 rfl ?_)
  refine WL.op rfl rfl (op_gtrN (b := 65536) rfl rfl ?_)
  refine WL.op rfl rfl (op_move rfl ?_)
  refine WL.split (t := 28) rfl (fun (hb1 : (decide (s.length > 65536)) = true) => ?_) (fun (hb1 : (decide (s.length > 65536)) = false) => ?_)
  ·
    have hc1 := of_decide_eq_true hb1
    refine WL.no rfl rfl rfl hb1 rfl ?_
    refine WL.no rfl rfl rfl hb1 rfl ?_
    refine WL.no rfl rfl rfl hb1 rfl ?_
    refine WL.op rfl rfl (op_pickT rfl hb1 rfl ?_)
    refine WL.nil ?_
    refine WQ.next ?_
    refine WC.yes rfl rfl ?_
    refine WC.seq ?_
    refine WC.region ?_
    refine WL.op rfl rfl (op_callF Fa.C16 rfl ((alive07_ok _).mono (fun e w2 hq => ?_)))
    obtain ⟨rfl, hf2⟩ := hq
    refine ⟨_, rfl, ?_⟩
    have H2 := H0.fr' hf2
    refine WL.op rfl rfl (op_assign rfl ?_)
    refine WL.nil ?_
    refine WQ.next ?_
    refine WC.ret ?_
    refine WQ.thenRet ?_
    refine WQ.out (.tmp rfl .nil) ?_
    exact ⟨rfl, H2.fr⟩
  ·
    have hc1 := of_decide_eq_false hb1
    refine WL.yes rfl rfl rfl hb1 rfl (op_move rfl ?_)
    refine WL.yes rfl rfl rfl hb1 rfl (op_lenA Try.underlying44 rfl (H0.arr hA) ?_)
    refine WL.yes rfl rfl rfl hb1 rfl (op_gtrN (b := 200) rfl rfl ?_)
    refine WL.op rfl rfl (op_pickF rfl hb1 rfl ?_)
    refine WL.nil ?_
    refine WQ.next ?_
    refine WC.cond rfl (fun (hb3 : (decide (l.length > 200)) = true) => ?_) (fun (hb3 : (decide (l.length > 200)) = false) => ?_)
    ·
      have hc3 := of_decide_eq_true hb3
      refine WC.seq ?_
      refine WC.region ?_
      refine WL.op rfl rfl (op_callF Fa.C16 rfl ((alive07_ok _).mono (fun e w4 hq => ?_)))
      obtain ⟨rfl, hf4⟩ := hq
      refine ⟨_, rfl, ?_⟩
      have H4 := H0.fr' hf4
      refine WL.op rfl rfl (op_assign rfl ?_)
      refine WL.nil ?_
      refine WQ.next ?_
      refine WC.ret ?_
      refine WQ.thenRet ?_
      refine WQ.out (.tmp rfl .nil) ?_
      exact ⟨rfl, H4.fr⟩
    ·
      have hc3 := of_decide_eq_false hb3
      refine WC.skip ?_
      refine WQ.next ?_
      refine WC.seq ?_
      refine WC.region ?_
      refine WL.op rfl rfl (op_move rfl ?_)
      refine WL.op rfl rfl (op_callF Fa.C24 rfl ((rdnew_ok s _).mono (fun e w5 hq => ?_)))
      obtain ⟨q5, rfl, hq5⟩ := hq
      refine ⟨_, rfl, ?_⟩
      have H5 : Own [] w w5 [.blk q5 [(str s), (vN 0), (vN 0)] 107] := H0.splice [] [] [.blk q5 [(str s), (vN 0), (vN 0)] 107] rfl rfl hq5 (Fits.solid True.intro Fits.nil)
      refine WL.op rfl rfl (op_assign rfl ?_)
      refine WL.nil ?_
      refine WQ.next ?_
      refine WC.seq ?_
      refine WC.region ?_
      refine WL.op rfl rfl (op_move rfl ?_)
      refine WL.op rfl rfl (op_build (cs := [_, _]) Fa.I47 Fa.PL47 rfl rfl ?_)
      refine WL.op rfl rfl (op_box H5 rfl rfl (fun b6 w6 H6 => ?_))
      refine WL.op rfl rfl (op_assign rfl ?_)
      refine WL.nil ?_
      refine WQ.next ?_
      refine WC.seq ?_
      refine WC.seq ?_
      refine WC.region ?_
      refine WL.op rfl rfl (op_assign rfl ?_)
      refine WL.nil ?_
      refine WQ.next ?_
      refine WC.block ?_
      refine WC.loop (α := Nat × Rd) (fun (i, r) => [(1, lv), (5, (ptr q5 0)), (6, (ptr b6 0)), (7, (vN i))]) (fun (i, r) w' => (i ≤ l.length ∧ r.s.length ≤ 65536) ∧ Own [] w w' [.blk q5 [(str r.s), (vN r.at_), (vN r.f)] 107, .blk b6 [(str r.rest), (vN r.f)] 47]) (fun (i, r) => l.length - i) (0, Rd.mk s 0 0 (Nat.zero_le _)) ⟨⟨Nat.zero_le _, by show s.length ≤ 65536; omega⟩, H6⟩ ⟨rfl, rfl, rfl, rfl, trivial⟩ ?_
      rintro ⟨i, r⟩ w7 ⟨⟨hi1, hrs⟩, H7⟩
      show WC _ _ _ _ _ [(1, lv), (5, (ptr q5 0)), (6, (ptr b6 0)), (7, (vN i))] _
      refine WC.seq ?_
      refine WC.seq ?_
      refine WC.region ?_
      refine WL.op rfl rfl (op_move rfl ?_)
      refine WL.op rfl rfl (op_move rfl ?_)
      refine WL.op rfl rfl (op_lenA Try.underlying44 rfl (H7.arr hA) ?_)
      refine WL.op rfl rfl (op_lssN rfl rfl ?_)
      refine WL.nil ?_
      refine WQ.next ?_
      refine WC.cond rfl (fun (hb8 : (decide (i < l.length)) = true) => ?_) (fun (hb8 : (decide (i < l.length)) = false) => ?_)
      ·
        have hc8 := of_decide_eq_true hb8
        refine WC.skip ?_
        refine WQ.next ?_
        refine WC.seq ?_
        refine WC.block ?_
        refine WC.seq ?_
        refine WC.region ?_
        refine WL.op rfl rfl (op_assign rfl ?_)
        refine WL.nil ?_
        refine WQ.next ?_
        refine WC.cut (α := Rd) (fun r2 => [(1, lv), (5, (ptr q5 0)), (6, (ptr b6 0)), (7, (vN i)), (8, (.bool true))]) (fun r2 w' => (r2.s.length ≤ 65536) ∧ Own [] w w' [.blk q5 [(str r2.s), (vN r2.at_), (vN r2.f)] 107, .blk b6 [(str r2.rest), (vN r2.f)] 47]) ?_ ?_
        ·
          refine WC.seq ?_
          refine WC.region ?_
          refine WL.op rfl rfl (op_move rfl ?_)
          refine WL.op rfl rfl (op_move rfl ?_)
          refine WL.op rfl rfl (op_indexAddr Try.underlying44 Fa.I49 rfl (H7.arr hA) rfl (by omega) ?_)
          refine WL.op rfl rfl (op_fieldAddrS rfl Fa.F49_0 ?_)
          refine WL.op rfl rfl (op_load rfl (Arr.atF (k := 0) (H7.arr hA) (fun _ => rfl) (by decide) Stp.zero (by omega) rfl) Try.underlying3 rfl ?_)
          refine WL.nil ?_
          refine WQ.next ?_
          refine WC.block ?_
          refine WC.seq ?_
          refine WC.region ?_
          refine WL.op rfl rfl (op_eqlI (b := (0 : Int)) rfl rfl ?_)
          refine WL.op rfl rfl (op_assign rfl ?_)
          refine WL.nil ?_
          refine WQ.next ?_
          refine WC.cond rfl (fun (hb9 : (decide ((l.getD i Stp.zero).d = (0 : Int))) = true) => ?_) (fun (hb9 : (decide ((l.getD i Stp.zero).d = (0 : Int))) = false) => ?_)
          ·
            have hc9 := of_decide_eq_true hb9
            refine WC.seq ?_
            refine WC.region ?_
            refine WL.op rfl rfl (op_move rfl ?_)
            refine WL.op rfl rfl (op_move rfl ?_)
            refine WL.op rfl rfl (op_move rfl ?_)
            refine WL.op rfl rfl (op_indexAddr Try.underlying44 Fa.I49 rfl (H7.arr hA) rfl (by omega) ?_)
            refine WL.op rfl rfl (op_fieldAddrS rfl Fa.F49_1 ?_)
            refine WL.op rfl rfl (op_load rfl (Arr.atF (k := 1) (H7.arr hA) (fun _ => rfl) (by decide) Stp.zero (by omega) rfl) Try.underlying3 rfl ?_)
            refine WL.op rfl rfl (op_callF Fa.C30 rfl ((take_ok q5 r ((l.getD i Stp.zero).n) 107 _ _ (H7.part [0] rfl rfl) (by first | omega | exact rest_lt (by omega) | (rw [textsR_s]; omega))).mono (fun e w10 hq => ?_)))
            obtain ⟨rfl, hq10⟩ := hq
            refine ⟨_, rfl, ?_⟩
            have H10 : Own [] w w10 [.blk q5 [(str ((takeR r ((l.getD i Stp.zero).n)).2).s), (vN ((takeR r ((l.getD i Stp.zero).n)).2).at_), (vN ((takeR r ((l.getD i Stp.zero).n)).2).f)] 107, .blk b6 [(str r.rest), (vN r.f)] 47] := H7.splice [0] [.blk q5 [(str ((takeR r ((l.getD i Stp.zero).n)).2).s), (vN ((takeR r ((l.getD i Stp.zero).n)).2).at_), (vN ((takeR r ((l.getD i Stp.zero).n)).2).f)] 107] [] rfl rfl hq10 (Fits.solid True.intro Fits.nil)
            refine WL.op rfl rfl (op_move rfl ?_)
            refine WL.op rfl rfl (op_extract rfl rfl ?_)
            refine WL.op rfl rfl (op_extract rfl rfl ?_)
            refine WL.op rfl rfl (op_assign rfl ?_)
            refine WL.op rfl rfl (op_assign rfl ?_)
            refine WL.nil ?_
            refine WQ.next ?_
            refine WC.seq ?_
            refine WC.region ?_
            refine WL.op rfl rfl (op_move rfl ?_)
            refine WL.op rfl rfl (op_move rfl ?_)
            refine WL.op rfl rfl (op_move rfl ?_)
            refine WL.op rfl rfl (op_indexAddr Try.underlying44 Fa.I49 rfl (H10.arr hA) rfl (by omega) ?_)
            refine WL.op rfl rfl (op_fieldAddrS rfl Fa.F49_1 ?_)
            refine WL.op rfl rfl (op_load rfl (Arr.atF (k := 1) (H10.arr hA) (fun _ => rfl) (by decide) Stp.zero (by omega) rfl) Try.underlying3 rfl ?_)
            refine WL.op rfl rfl (op_callF Fa.C31 rfl ((ftake_ok b6 r.rest r.f ((l.getD i Stp.zero).n) _ _ (H10.part [1] rfl rfl) (by first | omega | exact rest_lt (by omega) | (rw [textsR_s]; omega))).mono (fun e w11 hq => ?_)))
            obtain ⟨rfl, hq11⟩ := hq
            refine ⟨_, rfl, ?_⟩
            have H11 : Own [] w w11 [.blk q5 [(str ((takeR r ((l.getD i Stp.zero).n)).2).s), (vN ((takeR r ((l.getD i Stp.zero).n)).2).at_), (vN ((takeR r ((l.getD i Stp.zero).n)).2).f)] 107, .blk b6 [(str (takeR (Rd.mk r.rest 0 r.f (Nat.zero_le _)) ((l.getD i Stp.zero).n)).2.rest), (vN (takeR (Rd.mk r.rest 0 r.f (Nat.zero_le _)) ((l.getD i Stp.zero).n)).2.f)] 47] := H10.splice [1] [.blk b6 [(str (takeR (Rd.mk r.rest 0 r.f (Nat.zero_le _)) ((l.getD i Stp.zero).n)).2.rest), (vN (takeR (Rd.mk r.rest 0 r.f (Nat.zero_le _)) ((l.getD i Stp.zero).n)).2.f)] 47] [] rfl rfl hq11 (Fits.solid True.intro Fits.nil)
            refine WL.op rfl rfl (op_move rfl ?_)
            refine WL.op rfl rfl (op_extract rfl rfl ?_)
            refine WL.op rfl rfl (op_extract rfl rfl ?_)
            refine WL.op rfl rfl (op_assign rfl ?_)
            refine WL.op rfl rfl (op_assign rfl ?_)
            refine WL.nil ?_
            refine WQ.next ?_
            refine WC.region ?_
            refine WL.op rfl rfl (op_move rfl ?_)
            refine WL.op rfl rfl (op_move rfl ?_)
            refine WL.op rfl rfl (op_eqlStr rfl rfl ?_)
            refine WL.op rfl rfl (op_move rfl ?_)
            refine WL.yes rfl rfl rfl (decide_eq_true (congrArg Prod.fst (Eq.symm (((Like.re r).take _).1)))) rfl (op_move rfl ?_)
            refine WL.yes rfl rfl rfl (decide_eq_true (congrArg Prod.fst (Eq.symm (((Like.re r).take _).1)))) rfl (op_move rfl ?_)
            refine WL.yes rfl rfl rfl (decide_eq_true (congrArg Prod.fst (Eq.symm (((Like.re r).take _).1)))) rfl (op_eqlN rfl rfl ?_)
            refine WL.op rfl rfl (op_pickT rfl (decide_eq_true (congrArg Prod.fst (Eq.symm (((Like.re r).take _).1)))) rfl ?_)
            refine WL.op rfl rfl (op_assign rfl ?_)
            refine WL.nil ?_
            refine WQ.inNormal ?_
            exact WQ.here (takeR r (l.getD i Stp.zero).n).2 ⟨(by rw [takeR_s]; exact hrs), (by have h := (show Own [] w w11 [.blk q5 [(str ((takeR r ((l.getD i Stp.zero).n)).2).s), (vN ((takeR r ((l.getD i Stp.zero).n)).2).at_), (vN ((takeR r ((l.getD i Stp.zero).n)).2).f)] 107, .blk b6 [(str (takeR (Rd.mk r.rest 0 r.f (Nat.zero_le _)) ((l.getD i Stp.zero).n)).2.rest), (vN (takeR (Rd.mk r.rest 0 r.f (Nat.zero_le _)) ((l.getD i Stp.zero).n)).2.f)] 47] from H11); have hl := ((Like.re r).take (l.getD i Stp.zero).n); rw [show (Rd.mk r.rest 0 r.f (Nat.zero_le _)) = r.re from rfl, hl.2.1, hl.2.2] at h; exact h)⟩ ⟨rfl, rfl, rfl, rfl, (congrArg (fun b => some (Value.bool b)) (decide_eq_true (congrArg Prod.snd (Eq.symm (((Like.re r).take _).1))))), trivial⟩
          ·
            have hc9 := of_decide_eq_false hb9
            refine WC.seq ?_
            refine WC.region ?_
            refine WL.op rfl rfl (op_eqlI (b := (1 : Int)) rfl rfl ?_)
            refine WL.op rfl rfl (op_assign rfl ?_)
            refine WL.nil ?_
            refine WQ.next ?_
            refine WC.cond rfl (fun (hb12 : (decide ((l.getD i Stp.zero).d = (1 : Int))) = true) => ?_) (fun (hb12 : (decide ((l.getD i Stp.zero).d = (1 : Int))) = false) => ?_)
            ·
              have hc12 := of_decide_eq_true hb12
              refine WC.seq ?_
              refine WC.region ?_
              refine WL.op rfl rfl (op_move rfl ?_)
              refine WL.op rfl rfl (op_move rfl ?_)
              refine WL.op rfl rfl (op_move rfl ?_)
              refine WL.op rfl rfl (op_indexAddr Try.underlying44 Fa.I49 rfl (H7.arr hA) rfl (by omega) ?_)
              refine WL.op rfl rfl (op_fieldAddrS rfl Fa.F49_1 ?_)
              refine WL.op rfl rfl (op_load rfl (Arr.atF (k := 1) (H7.arr hA) (fun _ => rfl) (by decide) Stp.zero (by omega) rfl) Try.underlying3 rfl ?_)
              refine WL.op rfl rfl (op_callF Fa.C25 rfl ((rdnum_ok q5 r ((l.getD i Stp.zero).n) 107 _ _ (H7.part [0] rfl rfl) (by first | omega | exact rest_lt (by omega) | (rw [textsR_s]; omega))).mono (fun e w13 hq => ?_)))
              obtain ⟨rfl, hq13⟩ := hq
              refine ⟨_, rfl, ?_⟩
              have H13 : Own [] w w13 [.blk q5 [(str ((numR r ((l.getD i Stp.zero).n)).2).s), (vN ((numR r ((l.getD i Stp.zero).n)).2).at_), (vN ((numR r ((l.getD i Stp.zero).n)).2).f)] 107, .blk b6 [(str r.rest), (vN r.f)] 47] := H7.splice [0] [.blk q5 [(str ((numR r ((l.getD i Stp.zero).n)).2).s), (vN ((numR r ((l.getD i Stp.zero).n)).2).at_), (vN ((numR r ((l.getD i Stp.zero).n)).2).f)] 107] [] rfl rfl hq13 (Fits.solid True.intro Fits.nil)
              refine WL.op rfl rfl (op_move rfl ?_)
              refine WL.op rfl rfl (op_extract rfl rfl ?_)
              refine WL.op rfl rfl (op_extract rfl rfl ?_)
              refine WL.op rfl rfl (op_assign rfl ?_)
              refine WL.op rfl rfl (op_assign rfl ?_)
              refine WL.nil ?_
              refine WQ.next ?_
              refine WC.seq ?_
              refine WC.region ?_
              refine WL.op rfl rfl (op_move rfl ?_)
              refine WL.op rfl rfl (op_move rfl ?_)
              refine WL.op rfl rfl (op_move rfl ?_)
              refine WL.op rfl rfl (op_indexAddr Try.underlying44 Fa.I49 rfl (H13.arr hA) rfl (by omega) ?_)
              refine WL.op rfl rfl (op_fieldAddrS rfl Fa.F49_1 ?_)
              refine WL.op rfl rfl (op_load rfl (Arr.atF (k := 1) (H13.arr hA) (fun _ => rfl) (by decide) Stp.zero (by omega) rfl) Try.underlying3 rfl ?_)
              refine WL.op rfl rfl (op_callF Fa.C32 rfl ((fnum_ok b6 r.rest r.f ((l.getD i Stp.zero).n) _ _ (H13.part [1] rfl rfl) (by first | omega | exact rest_lt (by omega) | (rw [textsR_s]; omega))).mono (fun e w14 hq => ?_)))
              obtain ⟨rfl, hq14⟩ := hq
              refine ⟨_, rfl, ?_⟩
              have H14 : Own [] w w14 [.blk q5 [(str ((numR r ((l.getD i Stp.zero).n)).2).s), (vN ((numR r ((l.getD i Stp.zero).n)).2).at_), (vN ((numR r ((l.getD i Stp.zero).n)).2).f)] 107, .blk b6 [(str (numR (Rd.mk r.rest 0 r.f (Nat.zero_le _)) ((l.getD i Stp.zero).n)).2.rest), (vN (numR (Rd.mk r.rest 0 r.f (Nat.zero_le _)) ((l.getD i Stp.zero).n)).2.f)] 47] := H13.splice [1] [.blk b6 [(str (numR (Rd.mk r.rest 0 r.f (Nat.zero_le _)) ((l.getD i Stp.zero).n)).2.rest), (vN (numR (Rd.mk r.rest 0 r.f (Nat.zero_le _)) ((l.getD i Stp.zero).n)).2.f)] 47] [] rfl rfl hq14 (Fits.solid True.intro Fits.nil)
              refine WL.op rfl rfl (op_move rfl ?_)
              refine WL.op rfl rfl (op_extract rfl rfl ?_)
              refine WL.op rfl rfl (op_extract rfl rfl ?_)
              refine WL.op rfl rfl (op_assign rfl ?_)
              refine WL.op rfl rfl (op_assign rfl ?_)
              refine WL.nil ?_
              refine WQ.next ?_
              refine WC.region ?_
              refine WL.op rfl rfl (op_move rfl ?_)
              refine WL.op rfl rfl (op_move rfl ?_)
              refine WL.op rfl rfl (op_eqlU32 rfl rfl ?_)
              refine WL.op rfl rfl (op_move rfl ?_)
              refine WL.yes rfl rfl rfl (decide_eq_true (congrArg Prod.fst (Eq.symm (((Like.re r).num _).1)))) rfl (op_move rfl ?_)
              refine WL.yes rfl rfl rfl (decide_eq_true (congrArg Prod.fst (Eq.symm (((Like.re r).num _).1)))) rfl (op_move rfl ?_)
              refine WL.yes rfl rfl rfl (decide_eq_true (congrArg Prod.fst (Eq.symm (((Like.re r).num _).1)))) rfl (op_eqlN rfl rfl ?_)
              refine WL.op rfl rfl (op_pickT rfl (decide_eq_true (congrArg Prod.fst (Eq.symm (((Like.re r).num _).1)))) rfl ?_)
              refine WL.op rfl rfl (op_assign rfl ?_)
              refine WL.nil ?_
              refine WQ.inNormal ?_
              exact WQ.here (numR r (l.getD i Stp.zero).n).2 ⟨(by rw [numR_s]; exact hrs), (by have h := (show Own [] w w14 [.blk q5 [(str ((numR r ((l.getD i Stp.zero).n)).2).s), (vN ((numR r ((l.getD i Stp.zero).n)).2).at_), (vN ((numR r ((l.getD i Stp.zero).n)).2).f)] 107, .blk b6 [(str (numR (Rd.mk r.rest 0 r.f (Nat.zero_le _)) ((l.getD i Stp.zero).n)).2.rest), (vN (numR (Rd.mk r.rest 0 r.f (Nat.zero_le _)) ((l.getD i Stp.zero).n)).2.f)] 47] from H14); have hl := ((Like.re r).num (l.getD i Stp.zero).n); rw [show (Rd.mk r.rest 0 r.f (Nat.zero_le _)) = r.re from rfl, hl.2.1, hl.2.2] at h; exact h)⟩ ⟨rfl, rfl, rfl, rfl, (congrArg (fun b => some (Value.bool b)) (decide_eq_true (congrArg Prod.snd (Eq.symm (((Like.re r).num _).1))))), trivial⟩
            ·
              have hc12 := of_decide_eq_false hb12
              refine WC.seq ?_
              refine WC.region ?_
              refine WL.op rfl rfl (op_eqlI (b := (2 : Int)) rfl rfl ?_)
              refine WL.op rfl rfl (op_assign rfl ?_)
              refine WL.nil ?_
              refine WQ.next ?_
              refine WC.cond rfl (fun (hb15 : (decide ((l.getD i Stp.zero).d = (2 : Int))) = true) => ?_) (fun (hb15 : (decide ((l.getD i Stp.zero).d = (2 : Int))) = false) => ?_)
              ·
                have hc15 := of_decide_eq_true hb15
                refine WC.seq ?_
                refine WC.region ?_
                refine WL.op rfl rfl (op_move rfl ?_)
                refine WL.op rfl rfl (op_callF Fa.C26 rfl ((rdtext_ok q5 r  107 _ _ (H7.part [0] rfl rfl) (by first | omega | exact rest_lt (by omega) | (rw [textsR_s]; omega))).mono (fun e w16 hq => ?_)))
                obtain ⟨rfl, hq16⟩ := hq
                refine ⟨_, rfl, ?_⟩
                have H16 : Own [] w w16 [.blk q5 [(str ((textR r).2).s), (vN ((textR r).2).at_), (vN ((textR r).2).f)] 107, .blk b6 [(str r.rest), (vN r.f)] 47] := H7.splice [0] [.blk q5 [(str ((textR r).2).s), (vN ((textR r).2).at_), (vN ((textR r).2).f)] 107] [] rfl rfl hq16 (Fits.solid True.intro Fits.nil)
                refine WL.op rfl rfl (op_move rfl ?_)
                refine WL.op rfl rfl (op_extract rfl rfl ?_)
                refine WL.op rfl rfl (op_extract rfl rfl ?_)
                refine WL.op rfl rfl (op_assign rfl ?_)
                refine WL.op rfl rfl (op_assign rfl ?_)
                refine WL.nil ?_
                refine WQ.next ?_
                refine WC.seq ?_
                refine WC.region ?_
                refine WL.op rfl rfl (op_move rfl ?_)
                refine WL.op rfl rfl (op_callF Fa.C33 rfl ((ftext_ok b6 r.rest r.f  _ _ (H16.part [1] rfl rfl) (by first | omega | exact rest_lt (by omega) | (rw [textsR_s]; omega))).mono (fun e w17 hq => ?_)))
                obtain ⟨rfl, hq17⟩ := hq
                refine ⟨_, rfl, ?_⟩
                have H17 : Own [] w w17 [.blk q5 [(str ((textR r).2).s), (vN ((textR r).2).at_), (vN ((textR r).2).f)] 107, .blk b6 [(str (textR (Rd.mk r.rest 0 r.f (Nat.zero_le _))).2.rest), (vN (textR (Rd.mk r.rest 0 r.f (Nat.zero_le _))).2.f)] 47] := H16.splice [1] [.blk b6 [(str (textR (Rd.mk r.rest 0 r.f (Nat.zero_le _))).2.rest), (vN (textR (Rd.mk r.rest 0 r.f (Nat.zero_le _))).2.f)] 47] [] rfl rfl hq17 (Fits.solid True.intro Fits.nil)
                refine WL.op rfl rfl (op_move rfl ?_)
                refine WL.op rfl rfl (op_extract rfl rfl ?_)
                refine WL.op rfl rfl (op_extract rfl rfl ?_)
                refine WL.op rfl rfl (op_assign rfl ?_)
                refine WL.op rfl rfl (op_assign rfl ?_)
                refine WL.nil ?_
                refine WQ.next ?_
                refine WC.region ?_
                refine WL.op rfl rfl (op_move rfl ?_)
                refine WL.op rfl rfl (op_move rfl ?_)
                refine WL.op rfl rfl (op_eqlStr rfl rfl ?_)
                refine WL.op rfl rfl (op_move rfl ?_)
                refine WL.yes rfl rfl rfl (decide_eq_true (congrArg Prod.fst (Eq.symm ((Like.re r).text.1)))) rfl (op_move rfl ?_)
                refine WL.yes rfl rfl rfl (decide_eq_true (congrArg Prod.fst (Eq.symm ((Like.re r).text.1)))) rfl (op_move rfl ?_)
                refine WL.yes rfl rfl rfl (decide_eq_true (congrArg Prod.fst (Eq.symm ((Like.re r).text.1)))) rfl (op_eqlN rfl rfl ?_)
                refine WL.op rfl rfl (op_pickT rfl (decide_eq_true (congrArg Prod.fst (Eq.symm ((Like.re r).text.1)))) rfl ?_)
                refine WL.op rfl rfl (op_assign rfl ?_)
                refine WL.nil ?_
                refine WQ.inNormal ?_
                exact WQ.here (textR r).2 ⟨(by rw [textR_s]; exact hrs), (by have h := (show Own [] w w17 [.blk q5 [(str ((textR r).2).s), (vN ((textR r).2).at_), (vN ((textR r).2).f)] 107, .blk b6 [(str (textR (Rd.mk r.rest 0 r.f (Nat.zero_le _))).2.rest), (vN (textR (Rd.mk r.rest 0 r.f (Nat.zero_le _))).2.f)] 47] from H17); have hl := (Like.re r).text; rw [show (Rd.mk r.rest 0 r.f (Nat.zero_le _)) = r.re from rfl, hl.2.1, hl.2.2] at h; exact h)⟩ ⟨rfl, rfl, rfl, rfl, (congrArg (fun b => some (Value.bool b)) (decide_eq_true (congrArg Prod.snd (Eq.symm ((Like.re r).text.1))))), trivial⟩
              ·
                have hc15 := of_decide_eq_false hb15
                refine WC.seq ?_
                refine WC.region ?_
                refine WL.op rfl rfl (op_eqlI (b := (3 : Int)) rfl rfl ?_)
                refine WL.op rfl rfl (op_assign rfl ?_)
                refine WL.nil ?_
                refine WQ.next ?_
                refine WC.cond rfl (fun (hb18 : (decide ((l.getD i Stp.zero).d = (3 : Int))) = true) => ?_) (fun (hb18 : (decide ((l.getD i Stp.zero).d = (3 : Int))) = false) => ?_)
                ·
                  have hc18 := of_decide_eq_true hb18
                  refine WC.seq ?_
                  refine WC.region ?_
                  refine WL.op rfl rfl (op_move rfl ?_)
                  refine WL.op rfl rfl (op_callF Fa.C27 rfl ((rdtexts_ok q5 r 107 _ _ (H7.part [0] rfl rfl) (by first | omega | exact rest_lt (by omega) | (rw [textsR_s]; omega))).mono (fun e w19 hq => ?_)))
                  obtain ⟨v19, rfl, hq19⟩ := hq
                  refine ⟨_, rfl, ?_⟩
                  have H19 : Own [] w w19 [.blk q5 [(str ((textsR r).2).s), (vN ((textsR r).2).at_), (vN ((textsR r).2).f)] 107, .blk b6 [(str r.rest), (vN r.f)] 47, .row v19 9 1 (textsR r).1.1.length (List.map str (textsR r).1.1)] := H7.splice [0] [.blk q5 [(str ((textsR r).2).s), (vN ((textsR r).2).at_), (vN ((textsR r).2).f)] 107] [.row v19 9 1 (textsR r).1.1.length (List.map str (textsR r).1.1)] rfl rfl hq19 (Fits.solid True.intro (Fits.solid True.intro Fits.nil))
                  refine WL.op rfl rfl (op_move rfl ?_)
                  refine WL.op rfl rfl (op_extract rfl rfl ?_)
                  refine WL.op rfl rfl (op_extract rfl rfl ?_)
                  refine WL.op rfl rfl (op_assign rfl ?_)
                  refine WL.op rfl rfl (op_assign rfl ?_)
                  refine WL.nil ?_
                  refine WQ.next ?_
                  refine WC.seq ?_
                  refine WC.region ?_
                  refine WL.op rfl rfl (op_move rfl ?_)
                  refine WL.op rfl rfl (op_callF Fa.C34 rfl ((ftexts_ok b6 r.rest r.f _ _ (H19.part [1] rfl rfl) (by first | omega | exact rest_lt (by omega) | (rw [textsR_s]; omega))).mono (fun e w20 hq => ?_)))
                  obtain ⟨v20, rfl, hq20⟩ := hq
                  refine ⟨_, rfl, ?_⟩
                  have H20 : Own [] w w20 [.blk q5 [(str ((textsR r).2).s), (vN ((textsR r).2).at_), (vN ((textsR r).2).f)] 107, .blk b6 [(str (textsR (Rd.mk r.rest 0 r.f (Nat.zero_le _))).2.rest), (vN (textsR (Rd.mk r.rest 0 r.f (Nat.zero_le _))).2.f)] 47, .row v19 9 1 (textsR r).1.1.length (List.map str (textsR r).1.1), .row v20 9 1 (textsR (Rd.mk r.rest 0 r.f (Nat.zero_le _))).1.1.length (List.map str (textsR (Rd.mk r.rest 0 r.f (Nat.zero_le _))).1.1)] := H19.splice [1] [.blk b6 [(str (textsR (Rd.mk r.rest 0 r.f (Nat.zero_le _))).2.rest), (vN (textsR (Rd.mk r.rest 0 r.f (Nat.zero_le _))).2.f)] 47] [.row v20 9 1 (textsR (Rd.mk r.rest 0 r.f (Nat.zero_le _))).1.1.length (List.map str (textsR (Rd.mk r.rest 0 r.f (Nat.zero_le _))).1.1)] rfl rfl hq20 (Fits.solid True.intro (Fits.solid True.intro Fits.nil))
                  refine WL.op rfl rfl (op_move rfl ?_)
                  refine WL.op rfl rfl (op_extract rfl rfl ?_)
                  refine WL.op rfl rfl (op_extract rfl rfl ?_)
                  refine WL.op rfl rfl (op_assign rfl ?_)
                  refine WL.op rfl rfl (op_assign rfl ?_)
                  refine WL.nil ?_
                  refine WQ.next ?_
                  refine WC.region ?_
                  refine WL.op rfl rfl (op_move rfl ?_)
                  refine WL.op rfl rfl (op_move rfl ?_)
                  refine WL.op rfl rfl (op_callF Fa.C23 rfl ((same07_ok _ _ ((textsR r).1.1) ((textsR (Rd.mk r.rest 0 r.f (Nat.zero_le _))).1.1) _ _ _ (H20.arrR (i := 2) rfl) (H20.arrR (i := 3) rfl) (textsR_len _)).mono (fun e w21 hq => ?_)))
                  obtain ⟨rfl, hf21⟩ := hq
                  refine ⟨_, rfl, ?_⟩
                  have H21 := H20.fr' hf21
                  refine WL.op rfl rfl (op_move rfl ?_)
                  refine WL.yes rfl rfl rfl (decide_eq_true (congrArg Prod.fst (Eq.symm ((Like.re r).texts.1)))) rfl (op_move rfl ?_)
                  refine WL.yes rfl rfl rfl (decide_eq_true (congrArg Prod.fst (Eq.symm ((Like.re r).texts.1)))) rfl (op_move rfl ?_)
                  refine WL.yes rfl rfl rfl (decide_eq_true (congrArg Prod.fst (Eq.symm ((Like.re r).texts.1)))) rfl (op_eqlN rfl rfl ?_)
                  refine WL.op rfl rfl (op_pickT rfl (decide_eq_true (congrArg Prod.fst (Eq.symm ((Like.re r).texts.1)))) rfl ?_)
                  refine WL.op rfl rfl (op_assign rfl ?_)
                  refine WL.nil ?_
                  refine WQ.inNormal ?_
                  exact WQ.here (textsR r).2 ⟨(by rw [textsR_s]; exact hrs), (by have h := (show Own [] w w21 [.blk q5 [(str ((textsR r).2).s), (vN ((textsR r).2).at_), (vN ((textsR r).2).f)] 107, .blk b6 [(str (textsR (Rd.mk r.rest 0 r.f (Nat.zero_le _))).2.rest), (vN (textsR (Rd.mk r.rest 0 r.f (Nat.zero_le _))).2.f)] 47] from (H21.take 2)); have hl := (Like.re r).texts; rw [show (Rd.mk r.rest 0 r.f (Nat.zero_le _)) = r.re from rfl, hl.2.1, hl.2.2] at h; exact h)⟩ ⟨rfl, rfl, rfl, rfl, (congrArg (fun b => some (Value.bool b)) (decide_eq_true (congrArg Prod.snd (Eq.symm ((Like.re r).texts.1))))), trivial⟩
                ·
                  have hc18 := of_decide_eq_false hb18
                  refine WC.region ?_
                  refine WL.op rfl rfl (op_move rfl ?_)
                  refine WL.op rfl rfl (op_callF Fa.C29 rfl ((rdend_ok q5 r  107 _ _ (H7.part [0] rfl rfl) (by first | omega | exact rest_lt (by omega) | (rw [textsR_s]; omega))).mono (fun e w22 hq => ?_)))
                  obtain ⟨rfl, hq22⟩ := hq
                  refine ⟨_, rfl, ?_⟩
                  have H22 : Own [] w w22 [.blk q5 [(str ((endR r).2).s), (vN ((endR r).2).at_), (vN ((endR r).2).f)] 107, .blk b6 [(str r.rest), (vN r.f)] 47] := H7.splice [0] [.blk q5 [(str ((endR r).2).s), (vN ((endR r).2).at_), (vN ((endR r).2).f)] 107] [] rfl rfl hq22 (Fits.solid True.intro Fits.nil)
                  refine WL.op rfl rfl (op_move rfl ?_)
                  refine WL.op rfl rfl (op_callF Fa.C35 rfl ((fend_ok b6 r.rest r.f  _ _ (H22.part [1] rfl rfl) (by first | omega | exact rest_lt (by omega) | (rw [textsR_s]; omega))).mono (fun e w23 hq => ?_)))
                  obtain ⟨rfl, hq23⟩ := hq
                  refine ⟨_, rfl, ?_⟩
                  have H23 : Own [] w w23 [.blk q5 [(str ((endR r).2).s), (vN ((endR r).2).at_), (vN ((endR r).2).f)] 107, .blk b6 [(str (endR (Rd.mk r.rest 0 r.f (Nat.zero_le _))).2.rest), (vN (endR (Rd.mk r.rest 0 r.f (Nat.zero_le _))).2.f)] 47] := H22.splice [1] [.blk b6 [(str (endR (Rd.mk r.rest 0 r.f (Nat.zero_le _))).2.rest), (vN (endR (Rd.mk r.rest 0 r.f (Nat.zero_le _))).2.f)] 47] [] rfl rfl hq23 (Fits.solid True.intro Fits.nil)
                  refine WL.op rfl rfl (op_eqlN rfl rfl ?_)
                  refine WL.op rfl rfl (op_assign rfl ?_)
                  refine WL.nil ?_
                  refine WQ.inNormal ?_
                  exact WQ.here (endR r).2 ⟨(by rw [endR_s]; exact hrs), (by have h := (show Own [] w w23 [.blk q5 [(str ((endR r).2).s), (vN ((endR r).2).at_), (vN ((endR r).2).f)] 107, .blk b6 [(str (endR (Rd.mk r.rest 0 r.f (Nat.zero_le _))).2.rest), (vN (endR (Rd.mk r.rest 0 r.f (Nat.zero_le _))).2.f)] 47] from H23); have hl := (Like.re r).end_; rw [show (Rd.mk r.rest 0 r.f (Nat.zero_le _)) = r.re from rfl, hl.2.1, hl.2.2] at h; exact h)⟩ ⟨rfl, rfl, rfl, rfl, (congrArg (fun b => some (Value.bool b)) (decide_eq_true (Eq.symm (Like.re r).end_.1))), trivial⟩
        ·
          rintro r2 w24 ⟨hrs2, H24⟩
          show WC _ _ _ _ _ [(1, lv), (5, (ptr q5 0)), (6, (ptr b6 0)), (7, (vN i)), (8, (.bool true))] _
          refine WC.seq ?_
          refine WC.draw 21 Fa.M H24 (HW.op rfl (fun w1 H1 => op_move rfl ⟨rfl, Fr.refl _ _⟩) (HW.op rfl (fun w1 H1 => op_not rfl ⟨rfl, Fr.refl _ _⟩) (HW.op rfl (fun w1 H1 => op_move rfl ⟨rfl, Fr.refl _ _⟩) (HW.yes rfl rfl rfl (congrArg Bool.not rfl) (fun w1 H1 => op_move rfl ⟨rfl, Fr.refl _ _⟩) (HW.yes rfl rfl rfl (congrArg Bool.not rfl) (fun w1 H1 => op_callF Fa.C28 rfl ((rleft_ok q5 r2 _ (H1.cellsAt (i := 0) rfl) (by first | omega | exact rest_lt (by omega) | (rw [textsR_s]; omega))).mono (fun e w2 hq => ⟨_, hq.1, rfl, hq.2⟩))) (HW.yes rfl rfl rfl (congrArg Bool.not rfl) (fun w1 H1 => op_move rfl ⟨rfl, Fr.refl _ _⟩) (HW.yes rfl rfl rfl (congrArg Bool.not rfl) (fun w1 H1 => op_nilCheck rfl ⟨rfl, Fr.refl _ _⟩) (HW.yes rfl rfl rfl (congrArg Bool.not rfl) (fun w1 H1 => op_fieldAddr rfl Fa.F47_0 ⟨rfl, Fr.refl _ _⟩) (HW.yes rfl rfl rfl (congrArg Bool.not rfl) (fun w1 H1 => op_load rfl (H1.cell (i := 1) rfl rfl) Try.underlying9 rfl ⟨rfl, Fr.refl _ _⟩) (HW.yes rfl rfl rfl (congrArg Bool.not rfl) (fun w1 H1 => op_lenStr Try.underlying9 rfl ⟨rfl, Fr.refl _ _⟩) (HW.yes rfl rfl rfl (congrArg Bool.not rfl) (fun w1 H1 => op_neqN rfl rfl ⟨rfl, Fr.refl _ _⟩) (HW.op rfl (fun w1 H1 => op_pickF rfl (congrArg Bool.not rfl) rfl ⟨rfl, Fr.refl _ _⟩) (HW.op rfl (fun w1 H1 => op_move rfl ⟨rfl, Fr.refl _ _⟩) (HW.yes rfl rfl rfl (decide_eq_false (fun h => h (by rw [Rd.rest, List.length_drop]))) (fun w1 H1 => op_move rfl ⟨rfl, Fr.refl _ _⟩) (HW.yes rfl rfl rfl (decide_eq_false (fun h => h (by rw [Rd.rest, List.length_drop]))) (fun w1 H1 => op_callF Fa.C36 rfl ((fault_ok q5 r2 _ (H1.cellsAt (i := 0) rfl)).mono (fun e w2 hq => ⟨_, hq.1, rfl, hq.2⟩))) (HW.yes rfl rfl rfl (decide_eq_false (fun h => h (by rw [Rd.rest, List.length_drop]))) (fun w1 H1 => op_move rfl ⟨rfl, Fr.refl _ _⟩) (HW.yes rfl rfl rfl (decide_eq_false (fun h => h (by rw [Rd.rest, List.length_drop]))) (fun w1 H1 => op_nilCheck rfl ⟨rfl, Fr.refl _ _⟩) (HW.yes rfl rfl rfl (decide_eq_false (fun h => h (by rw [Rd.rest, List.length_drop]))) (fun w1 H1 => op_fieldAddr rfl Fa.F47_1 ⟨rfl, Fr.refl _ _⟩) (HW.yes rfl rfl rfl (decide_eq_false (fun h => h (by rw [Rd.rest, List.length_drop]))) (fun w1 H1 => op_load rfl (H1.cell (i := 1) rfl rfl) Try.underlying26 rfl ⟨rfl, Fr.refl _ _⟩) (HW.yes rfl rfl rfl (decide_eq_false (fun h => h (by rw [Rd.rest, List.length_drop]))) (fun w1 H1 => op_neqN rfl rfl ⟨rfl, Fr.refl _ _⟩) (HW.op rfl (fun w1 H1 => op_pickF rfl (decide_eq_false (fun h => h (by rw [Rd.rest, List.length_drop]))) rfl ⟨rfl, Fr.refl _ _⟩)  HW.nil))))))))))))))))))))) (by kernel_rfl) ?_
          intro β27 w27 H27
          refine WL.nil ?_
          refine WQ.next ?_
          refine WC.no rfl (decide_eq_false (fun h => h rfl)) ?_
          refine WC.skip ?_
          refine WQ.inNormal ?_
          refine WQ.next ?_
          refine WC.region ?_
          refine WL.op rfl rfl (op_move rfl ?_)
          refine WL.op rfl rfl (op_addN (b := 1) rfl rfl (by omega) ?_)
          refine WL.op rfl rfl (op_assign rfl ?_)
          refine WL.nil ?_
          exact WQ.round (i + 1, r2) ⟨⟨by omega, hrs2⟩, H27⟩ ⟨rfl, rfl, rfl, rfl, trivial⟩ (by show l.length - (i + 1) < l.length - i; omega)
      ·
        have hc8 := of_decide_eq_false hb8
        refine WC.exit ?_
        refine WQ.thenExit ?_
        refine WQ.thenExit ?_
        refine WQ.inHere ?_
        refine WQ.next ?_
        refine WC.seq ?_
        refine WC.region ?_
        refine WL.op rfl rfl (op_callF Fa.C16 rfl ((alive07_ok _).mono (fun e w28 hq => ?_)))
        obtain ⟨rfl, hf28⟩ := hq
        refine ⟨_, rfl, ?_⟩
        have H28 := H7.fr' hf28
        refine WL.op rfl rfl (op_assign rfl ?_)
        refine WL.nil ?_
        refine WQ.next ?_
        refine WC.ret ?_
        refine WQ.out (.tmp rfl .nil) ?_
        exact ⟨rfl, H28.fr⟩
end Go.Proofs.Ytpnghdalnghpcaa
