import Derived.Test.YtfdlkkhhakjgeaaWRef2
import Derived.Test.YtfdlkkhhakjgeaaSpecMac
namespace Go.Proofs.Ytfdlkkhhakjgeaa
open Go.Owl Go.Spec
set_option maxRecDepth 100000 in
theorem mblock_ok (key : List UInt8) (w : World) (hk : key.length < 2 ^ 40) :
    Calls Try.prog 53 #[(str key)] w (fun e w' => e = .returned (str (blockM key)) ∧ Fr [] w w') := by
  refine enter (args := [(str key)]) Try.func53 rfl rfl ?_
  have H0 : Own [] w w [] := Own.start w []
  refine WC.seq ?_
  refine WC.region ?_
  refine WL.op rfl rfl (op_assign rfl ?_)
  refine WL.nil ?_
  refine WQ.next ?_
  refine WC.seq ?_
  refine WC.seq ?_
  refine WC.region ?_
  refine WL.op rfl rfl (op_move rfl ?_)
  refine WL.op rfl rfl (op_lenStr Try.underlying9 rfl ?_)
  refine WL.op rfl rfl (op_gtrN (b := 64) rfl rfl ?_)
  refine WL.nil ?_
  refine WQ.next ?_
  refine WC.cond rfl (fun (hb1 : (decide (key.length > 64)) = true) => ?_) (fun (hb1 : (decide (key.length > 64)) = false) => ?_)
  ·
    have hc1 := of_decide_eq_true hb1
    have hl := sha_length key
    refine WC.region ?_
    refine WL.op rfl rfl (op_move rfl ?_)
    refine WL.op rfl rfl (op_callF Fa.C21 rfl ((ssum_ok key _ hk).mono (fun e w2 hq => ?_)))
    obtain ⟨rfl, hf2⟩ := hq
    refine ⟨_, rfl, ?_⟩
    have H2 := H0.fr' hf2
    refine WL.op rfl rfl (op_assign rfl ?_)
    refine WL.nil ?_
    refine WQ.next ?_
    refine WC.seq ?_
    refine WC.region ?_
    refine WL.op rfl rfl (op_move rfl ?_)
    refine WL.op rfl rfl (op_move rfl ?_)
    refine WL.op rfl rfl (op_lenStr Try.underlying9 rfl ?_)
    refine WL.op rfl rfl (op_subN (a := 64) rfl rfl (by omega) (by omega) ?_)
    refine WL.op rfl rfl (op_makeSliceM (f := vU8) (c := 0) H2 Try.underlying31 Fa.I5 rfl rfl (by omega) (by omega) (fun b3 w3 H3 => ?_))
    refine WL.op rfl rfl (op_bytesStr (l := (List.replicate (64 - (sha key).length) 0)) Try.underlying31 Try.underlying5 Try.underlying9 rfl (H3.arrR (i := 0) rfl) rfl ?_)
    refine WL.op rfl rfl (op_addStr rfl rfl (by first | omega | (rw [List.length_append]; omega) | (simp; omega)) ?_)
    refine WL.op rfl rfl (op_assign rfl ?_)
    refine WL.nil ?_
    refine WQ.next ?_
    refine WC.ret ?_
    refine WQ.out (.tmp rfl .nil) ?_
    exact ⟨by rw [blockM, keyB, if_pos hc1]; rfl, H3.fr⟩
  ·
    have hc1 := of_decide_eq_false hb1
    refine WC.skip ?_
    refine WQ.next ?_
    refine WC.seq ?_
    refine WC.region ?_
    refine WL.op rfl rfl (op_move rfl ?_)
    refine WL.op rfl rfl (op_move rfl ?_)
    refine WL.op rfl rfl (op_lenStr Try.underlying9 rfl ?_)
    refine WL.op rfl rfl (op_subN (a := 64) rfl rfl (by omega) (by omega) ?_)
    refine WL.op rfl rfl (op_makeSliceM (f := vU8) (c := 0) H0 Try.underlying31 Fa.I5 rfl rfl (by omega) (by omega) (fun b4 w4 H4 => ?_))
    refine WL.op rfl rfl (op_bytesStr (l := (List.replicate (64 - key.length) 0)) Try.underlying31 Try.underlying5 Try.underlying9 rfl (H4.arrR (i := 0) rfl) rfl ?_)
    refine WL.op rfl rfl (op_addStr rfl rfl (by first | omega | (rw [List.length_append]; omega) | (simp; omega)) ?_)
    refine WL.op rfl rfl (op_assign rfl ?_)
    refine WL.nil ?_
    refine WQ.next ?_
    refine WC.ret ?_
    refine WQ.out (.tmp rfl .nil) ?_
    exact ⟨by rw [blockM, keyB, if_neg hc1]; rfl, H4.fr⟩
set_option maxRecDepth 100000 in
theorem padded_ok (s : List UInt8) (c : UInt8) (w : World) (hs : s.length < 2 ^ 40) :
    Calls Try.prog 54 #[(str s), (vU8 c)] w (fun e w' => e = .returned (str (xorL s c)) ∧ Fr [] w w') := by
  refine enter (args := [(str s), (vU8 c)]) Try.func54 rfl rfl ?_
  have H0 : Own [] w w [] := Own.start w []
  refine WC.seq ?_
  refine WC.region ?_
  refine WL.op rfl rfl (op_assign rfl ?_)
  refine WL.nil ?_
  refine WQ.next ?_
  refine WC.seq ?_
  refine WC.region ?_
  refine WL.op rfl rfl (op_move rfl ?_)
  refine WL.op rfl rfl (op_strBytes H0 Try.underlying9 Try.underlying5 Try.underlying31 rfl (by omega) (fun v1 w1 H1 => ?_))
  refine WL.op rfl rfl (op_assign rfl ?_)
  refine WL.nil ?_
  refine WQ.next ?_
  refine WC.seq ?_
  refine WC.seq ?_
  refine WC.region ?_
  refine WL.op rfl rfl (op_move rfl ?_)
  refine WL.op rfl rfl (op_lenA Try.underlying31 rfl (H1.arrR (i := 0) rfl) ?_)
  refine WL.op rfl rfl (op_move rfl ?_)
  refine WL.nil ?_
  refine WQ.next ?_
  refine WC.block ?_
  refine WC.loop (α := Nat) (fun k => [(1, (vU8 c)), (5, v1), (10, (vN s.length)), (11, (vN k))]) (fun k w' => (k ≤ s.length) ∧ Own [] w w' [.row v1 5 1 s.length (List.map vU8 (xorTo s c k))]) (fun k => s.length - k) 0 ⟨(by omega), H1⟩ ⟨rfl, rfl, rfl, rfl, trivial⟩ ?_
  rintro k w2 ⟨hinv, H2⟩
  show WC _ _ _ _ _ [(1, (vU8 c)), (5, v1), (10, (vN s.length)), (11, (vN k))] _
  refine WC.seq ?_
  refine WC.region ?_
  refine WL.op rfl rfl (op_lssN rfl rfl ?_)
  refine WL.nil ?_
  refine WQ.next ?_
  refine WC.seq ?_
  refine WC.cond rfl (fun (hb3 : (decide (k < s.length)) = true) => ?_) (fun (hb3 : (decide (k < s.length)) = false) => ?_)
  ·
    have hc3 := of_decide_eq_true hb3
    refine WC.skip ?_
    refine WQ.next ?_
    refine WC.seq ?_
    refine WC.block ?_
    refine WC.seq ?_
    refine WC.region ?_
    refine WL.op rfl rfl (op_move rfl ?_)
    refine WL.op rfl rfl (op_assign rfl ?_)
    refine WL.nil ?_
    refine WQ.next ?_
    refine WC.region ?_
    refine WL.op rfl rfl (op_move rfl ?_)
    refine WL.op rfl rfl (op_move rfl ?_)
    refine WL.op rfl rfl (op_indexAddr1 Try.underlying31 Fa.I5 rfl (H2.arrR (i := 0) rfl) rfl (by omega) ?_)
    refine WL.op rfl rfl (op_load rfl ((H2.arrR (i := 0) rfl).at (get_map vU8 0 (Arr.ltM (H2.arrR (i := 0) rfl) (by omega)))) Try.underlying5 rfl ?_)
    refine WL.op rfl rfl (op_move rfl ?_)
    refine WL.op rfl rfl (op_xorU8 rfl rfl ?_)
    refine WL.op rfl rfl (op_indexAddr1 Try.underlying31 Fa.I5 rfl (H2.arrR (i := 0) rfl) rfl (by omega) ?_)
    refine WL.op rfl rfl (op_storeRM (i := 0) (f := vU8) (l := (xorTo s c k)) (c := (((xorTo s c k).getD k 0) ^^^ c)) H2 rfl rfl rfl (by omega) rfl Fa.I5 (fun w4 H4 => ?_))
    refine WL.nil ?_
    refine WQ.inNormal ?_
    refine WQ.next ?_
    refine WC.region ?_
    refine WL.op rfl rfl (op_addN (b := 1) rfl rfl (by omega) ?_)
    refine WL.op rfl rfl (op_move rfl ?_)
    refine WL.nil ?_
    exact WQ.round (k + 1) ⟨(by omega), (Own.rowEq (i := 0) (f := vU8) H4 rfl (xorTo_step s c (by omega)))⟩ ⟨rfl, rfl, rfl, rfl, trivial⟩ (by omega)
  ·
    have hc3 := of_decide_eq_false hb3
    refine WC.exit ?_
    refine WQ.thenExit ?_
    refine WQ.thenExit ?_
    refine WQ.inHere ?_
    refine WQ.next ?_
    refine WC.seq ?_
    refine WC.region ?_
    refine WL.op rfl rfl (op_move rfl ?_)
    refine WL.op rfl rfl (op_bytesStr (l := (xorTo s c k)) Try.underlying31 Try.underlying5 Try.underlying9 rfl (H2.arrR (i := 0) rfl) rfl ?_)
    refine WL.op rfl rfl (op_assign rfl ?_)
    refine WL.nil ?_
    refine WQ.next ?_
    refine WC.ret ?_
    refine WQ.out (.tmp rfl .nil) ?_
    exact ⟨by have hk : k = s.length := (by omega); subst hk; rw [xorTo_end]; rfl, H2.fr⟩
set_option maxRecDepth 100000 in
theorem macnew_ok (key : List UInt8) (w : World) (hk : key.length < 2 ^ 40) :
    Calls Try.prog 33 #[(str key)] w (fun e w' => ∃ m q v, e = .returned (ptr m 0) ∧ Own [] w w' [.blk m [(ptr q 0), (str (blockM key))] 88, .blk q [(vU32 (hst (xorL (blockM key) 54)).a), (vU32 (hst (xorL (blockM key) 54)).b), (vU32 (hst (xorL (blockM key) 54)).c), (vU32 (hst (xorL (blockM key) 54)).d), (vU32 (hst (xorL (blockM key) 54)).e), (vU32 (hst (xorL (blockM key) 54)).f), (vU32 (hst (xorL (blockM key) 54)).g), (vU32 (hst (xorL (blockM key) 54)).h), v, (vN (xorL (blockM key) 54).length)] 76, .row v 5 1 (hrest (xorL (blockM key) 54)).length ((hrest (xorL (blockM key) 54)).map vU8)]) := by
  refine enter (args := [(str key)]) Try.func33 rfl rfl ?_
  have H0 : Own [] w w [] := Own.start w []
  refine WC.seq ?_
  refine WC.region ?_
  refine WL.op rfl rfl (op_assign rfl ?_)
  refine WL.nil ?_
  refine WQ.next ?_
  refine WC.seq ?_
  refine WC.region ?_
  refine WL.op rfl rfl (op_callF Fa.C24 rfl ((new_ok _).mono (fun e w1 hq => ?_)))
  obtain ⟨q1, rfl, hq1⟩ := hq
  refine ⟨_, rfl, ?_⟩
  have H1 : Own [] w w1 [.blk q1 [(vU32 (hst ([] : List UInt8)).a), (vU32 (hst ([] : List UInt8)).b), (vU32 (hst ([] : List UInt8)).c), (vU32 (hst ([] : List UInt8)).d), (vU32 (hst ([] : List UInt8)).e), (vU32 (hst ([] : List UInt8)).f), (vU32 (hst ([] : List UInt8)).g), (vU32 (hst ([] : List UInt8)).h), (.slice none 0 0), (vN ([] : List UInt8).length)] 76, .row (.slice none 0 0) 5 1 (hrest ([] : List UInt8)).length (List.map vU8 (hrest ([] : List UInt8)))] := H0.splice [] [] [.blk q1 [(vU32 (hst ([] : List UInt8)).a), (vU32 (hst ([] : List UInt8)).b), (vU32 (hst ([] : List UInt8)).c), (vU32 (hst ([] : List UInt8)).d), (vU32 (hst ([] : List UInt8)).e), (vU32 (hst ([] : List UInt8)).f), (vU32 (hst ([] : List UInt8)).g), (vU32 (hst ([] : List UInt8)).h), (.slice none 0 0), (vN ([] : List UInt8).length)] 76, .row (.slice none 0 0) 5 1 (hrest ([] : List UInt8)).length (List.map vU8 (hrest ([] : List UInt8)))] rfl rfl hq1 (Fits.solid True.intro (Fits.solid True.intro Fits.nil))
  refine WL.op rfl rfl (op_move rfl ?_)
  refine WL.op rfl rfl (op_callF Fa.C53 rfl ((mblock_ok key _ hk).mono (fun e w2 hq => ?_)))
  obtain ⟨rfl, hf2⟩ := hq
  refine ⟨_, rfl, ?_⟩
  have H2 := H1.fr' hf2
  refine WL.op rfl rfl (op_build (cs := [_, _]) Fa.I88 Fa.PL88 rfl rfl ?_)
  refine WL.op rfl rfl (op_box H2 rfl rfl (fun b3 w3 H3 => ?_))
  refine WL.op rfl rfl (op_assign rfl ?_)
  refine WL.nil ?_
  refine WQ.next ?_
  refine WC.seq ?_
  refine WC.draw 10 Fa.M H3 (HW.op rfl (fun w1 H1 => op_move rfl ⟨rfl, Fr.refl _ _⟩) (HW.op rfl (fun w1 H1 => op_nilCheck rfl ⟨rfl, Fr.refl _ _⟩) (HW.op rfl (fun w1 H1 => op_fieldAddr rfl Fa.F88_0 ⟨rfl, Fr.refl _ _⟩) (HW.op rfl (fun w1 H1 => op_load rfl (H1.cell (i := 2) rfl rfl) Try.underlying45 rfl ⟨rfl, Fr.refl _ _⟩) (HW.op rfl (fun w1 H1 => op_move rfl ⟨rfl, Fr.refl _ _⟩) (HW.op rfl (fun w1 H1 => op_nilCheck rfl ⟨rfl, Fr.refl _ _⟩) (HW.op rfl (fun w1 H1 => op_fieldAddr rfl Fa.F88_1 ⟨rfl, Fr.refl _ _⟩) (HW.op rfl (fun w1 H1 => op_load rfl (H1.cell (i := 2) rfl rfl) Try.underlying9 rfl ⟨rfl, Fr.refl _ _⟩) (HW.op rfl (fun w1 H1 => op_callF Fa.C54 rfl ((padded_ok (blockM key) 54 _ (by rw [blockM_length]; decide)).mono (fun e w2 hq => ⟨_, hq.1, rfl, hq.2⟩))) (HW.flt (mk := fun bq => .slice (some ⟨bq, 0, none⟩) 1 1) (ent := fun bq => .row (.slice (some ⟨bq, 0, none⟩) 1 1) _ _ _ _) rfl (fun w1 => op_buildSlice (cs := [_]) (Own.start w1 []) Try.underlying44 Fa.I9 rfl rfl rfl rfl (by decide) (by decide) (fun bq w2 H2 => ⟨bq, rfl, H2, True.intro⟩))  HW.nil)))))))))) (by kernel_rfl) ?_
  intro β5 w5 H5
  refine WL.op rfl rfl (op_callF Fa.C25 rfl ((write_ok q1 (.slice none 0 0) (.slice (some ⟨(β5 9), 0, none⟩) 1 1) ([] : List UInt8) ([(xorL (blockM key) 54)]) _ _ (H5.part [0, 1] rfl rfl) (H5.stayR (I := [0, 1]) (k := 3) rfl rfl rfl) (by simp [xorL_length, blockM_length]) (by simp)).mono (fun e w6 hq => ?_)))
  obtain ⟨v6, rfl, hq6⟩ := hq
  refine ⟨_, rfl, ?_⟩
  have H6 : Own [] w w6 [.blk q1 [(vU32 (hst (([] : List UInt8) ++ [(xorL (blockM key) 54)].flatten)).a), (vU32 (hst (([] : List UInt8) ++ [(xorL (blockM key) 54)].flatten)).b), (vU32 (hst (([] : List UInt8) ++ [(xorL (blockM key) 54)].flatten)).c), (vU32 (hst (([] : List UInt8) ++ [(xorL (blockM key) 54)].flatten)).d), (vU32 (hst (([] : List UInt8) ++ [(xorL (blockM key) 54)].flatten)).e), (vU32 (hst (([] : List UInt8) ++ [(xorL (blockM key) 54)].flatten)).f), (vU32 (hst (([] : List UInt8) ++ [(xorL (blockM key) 54)].flatten)).g), (vU32 (hst (([] : List UInt8) ++ [(xorL (blockM key) 54)].flatten)).h), v6, (vN (([] : List UInt8) ++ [(xorL (blockM key) 54)].flatten).length)] 76, .row v6 5 1 (hrest (([] : List UInt8) ++ [(xorL (blockM key) 54)].flatten)).length (List.map vU8 (hrest (([] : List UInt8) ++ [(xorL (blockM key) 54)].flatten))), .blk b3 [(ptr q1 0), (str (blockM key))] 88, .row (.slice (some ⟨(β5 9), 0, none⟩) 1 1) 9 1 1 (List.map str [(xorL (blockM key) 54)])] := H5.splice [0, 1] [.blk q1 [(vU32 (hst (([] : List UInt8) ++ [(xorL (blockM key) 54)].flatten)).a), (vU32 (hst (([] : List UInt8) ++ [(xorL (blockM key) 54)].flatten)).b), (vU32 (hst (([] : List UInt8) ++ [(xorL (blockM key) 54)].flatten)).c), (vU32 (hst (([] : List UInt8) ++ [(xorL (blockM key) 54)].flatten)).d), (vU32 (hst (([] : List UInt8) ++ [(xorL (blockM key) 54)].flatten)).e), (vU32 (hst (([] : List UInt8) ++ [(xorL (blockM key) 54)].flatten)).f), (vU32 (hst (([] : List UInt8) ++ [(xorL (blockM key) 54)].flatten)).g), (vU32 (hst (([] : List UInt8) ++ [(xorL (blockM key) 54)].flatten)).h), v6, (vN (([] : List UInt8) ++ [(xorL (blockM key) 54)].flatten).length)] 76, .row v6 5 1 (hrest (([] : List UInt8) ++ [(xorL (blockM key) 54)].flatten)).length (List.map vU8 (hrest (([] : List UInt8) ++ [(xorL (blockM key) 54)].flatten)))] [] rfl rfl hq6 (Fits.solid True.intro (Fits.solid True.intro Fits.nil))
  refine WL.nil ?_
  refine WQ.next ?_
  refine WC.seq ?_
  refine WC.region ?_
  refine WL.op rfl rfl (op_move rfl ?_)
  refine WL.op rfl rfl (op_assign rfl ?_)
  refine WL.nil ?_
  refine WQ.next ?_
  refine WC.ret ?_
  refine WQ.out (.tmp rfl .nil) ?_
  exact ⟨_, _, _, rfl, (by have h : Own [] w w6 [.blk b3 [(ptr q1 0), (str (blockM key))] 88, .blk q1 [(vU32 (hst (([] : List UInt8) ++ [(xorL (blockM key) 54)].flatten)).a), (vU32 (hst (([] : List UInt8) ++ [(xorL (blockM key) 54)].flatten)).b), (vU32 (hst (([] : List UInt8) ++ [(xorL (blockM key) 54)].flatten)).c), (vU32 (hst (([] : List UInt8) ++ [(xorL (blockM key) 54)].flatten)).d), (vU32 (hst (([] : List UInt8) ++ [(xorL (blockM key) 54)].flatten)).e), (vU32 (hst (([] : List UInt8) ++ [(xorL (blockM key) 54)].flatten)).f), (vU32 (hst (([] : List UInt8) ++ [(xorL (blockM key) 54)].flatten)).g), (vU32 (hst (([] : List UInt8) ++ [(xorL (blockM key) 54)].flatten)).h), v6, (vN (([] : List UInt8) ++ [(xorL (blockM key) 54)].flatten).length)] 76, .row v6 5 1 (hrest (([] : List UInt8) ++ [(xorL (blockM key) 54)].flatten)).length (List.map vU8 (hrest (([] : List UInt8) ++ [(xorL (blockM key) 54)].flatten)))] := H6.sel [2, 0, 1] rfl rfl; rw [show ([] : List UInt8) ++ [(xorL (blockM key) 54)].flatten = (xorL (blockM key) 54) from by simp] at h; exact h)⟩
theorem macw_ok (m q : Nat) (v lv : Value) (B A : List UInt8) (ls : List (List UInt8)) (T : List Nat) (w : World) (H : Own T w w [.blk m [(ptr q 0), (str B)] 88, .blk q [(vU32 (hst A).a), (vU32 (hst A).b), (vU32 (hst A).c), (vU32 (hst A).d), (vU32 (hst A).e), (vU32 (hst A).f), (vU32 (hst A).g), (vU32 (hst A).h), v, (vN A.length)] 76, .row v 5 1 (hrest A).length ((hrest A).map vU8)]) {nl : Nat} (hA : ∀ w1, Fr T w w1 → Arr w1 lv 1 nl (ls.map str)) (hb : (A ++ ls.flatten).length < 2 ^ 40) (hn : ls.length < 2 ^ 40) :
    Calls Try.prog 34 #[(ptr m 0), lv] w (fun e w' => ∃ v, e = .returned (vN 0) ∧ Own T w w' [.blk m [(ptr q 0), (str B)] 88, .blk q [(vU32 (hst (A ++ ls.flatten)).a), (vU32 (hst (A ++ ls.flatten)).b), (vU32 (hst (A ++ ls.flatten)).c), (vU32 (hst (A ++ ls.flatten)).d), (vU32 (hst (A ++ ls.flatten)).e), (vU32 (hst (A ++ ls.flatten)).f), (vU32 (hst (A ++ ls.flatten)).g), (vU32 (hst (A ++ ls.flatten)).h), v, (vN (A ++ ls.flatten).length)] 76, .row v 5 1 (hrest (A ++ ls.flatten)).length ((hrest (A ++ ls.flatten)).map vU8)]) := by
  refine enter (args := [(ptr m 0), lv]) Try.func34 rfl rfl ?_
  refine WC.seq ?_
  refine WC.region ?_
  refine WL.op rfl rfl (op_assign rfl ?_)
  refine WL.nil ?_
  refine WQ.next ?_
  refine WC.seq ?_
  refine WC.seq ?_
  refine WC.region ?_
  refine WL.op rfl rfl (op_move rfl ?_)
  refine WL.op rfl rfl (op_eqlPN Fa.PT56 rfl rfl ?_)
  refine WL.nil ?_
  refine WQ.next ?_
  refine WC.no rfl rfl ?_
  refine WC.skip ?_
  refine WQ.next ?_
  refine WC.seq ?_
  refine WC.region ?_
  refine WL.op rfl rfl (op_move rfl ?_)
  refine WL.op rfl rfl (op_nilCheck rfl ?_)
  refine WL.op rfl rfl (op_fieldAddr rfl Fa.F88_0 ?_)
  refine WL.op rfl rfl (op_load rfl (H.cell (i := 0) rfl rfl) Try.underlying45 rfl ?_)
  refine WL.op rfl rfl (op_move rfl ?_)
  refine WL.op rfl rfl (op_callF Fa.C25 rfl ((write_ok q v lv A ls _ _ (H.part [1, 2] rfl rfl) (fun w1 hf => (hA) w1 (H.frPart (I := [1, 2]) rfl hf)) hb hn).mono (fun e w1 hq => ?_)))
  obtain ⟨v1, rfl, hq1⟩ := hq
  refine ⟨_, rfl, ?_⟩
  have H1 : Own T w w1 [.blk m [(ptr q 0), (str B)] 88, .blk q [(vU32 (hst (A ++ ls.flatten)).a), (vU32 (hst (A ++ ls.flatten)).b), (vU32 (hst (A ++ ls.flatten)).c), (vU32 (hst (A ++ ls.flatten)).d), (vU32 (hst (A ++ ls.flatten)).e), (vU32 (hst (A ++ ls.flatten)).f), (vU32 (hst (A ++ ls.flatten)).g), (vU32 (hst (A ++ ls.flatten)).h), v1, (vN (A ++ ls.flatten).length)] 76, .row v1 5 1 (hrest (A ++ ls.flatten)).length (List.map vU8 (hrest (A ++ ls.flatten)))] := H.splice [1, 2] [.blk q [(vU32 (hst (A ++ ls.flatten)).a), (vU32 (hst (A ++ ls.flatten)).b), (vU32 (hst (A ++ ls.flatten)).c), (vU32 (hst (A ++ ls.flatten)).d), (vU32 (hst (A ++ ls.flatten)).e), (vU32 (hst (A ++ ls.flatten)).f), (vU32 (hst (A ++ ls.flatten)).g), (vU32 (hst (A ++ ls.flatten)).h), v1, (vN (A ++ ls.flatten).length)] 76, .row v1 5 1 (hrest (A ++ ls.flatten)).length (List.map vU8 (hrest (A ++ ls.flatten)))] [] rfl rfl hq1 (Fits.solid True.intro (Fits.solid True.intro Fits.nil))
  refine WL.op rfl rfl (op_assign rfl ?_)
  refine WL.nil ?_
  refine WQ.next ?_
  refine WC.ret ?_
  refine WQ.out (.tmp rfl .nil) ?_
  exact ⟨_, rfl, H1⟩
set_option maxRecDepth 100000 in
theorem macs_ok (m q : Nat) (v : Value) (B A : List UInt8) (w : World) (hM : cellsAt w m [(ptr q 0), (str B)]) (hQ : cellsAt w q [(vU32 (hst A).a), (vU32 (hst A).b), (vU32 (hst A).c), (vU32 (hst A).d), (vU32 (hst A).e), (vU32 (hst A).f), (vU32 (hst A).g), (vU32 (hst A).h), v, (vN A.length)]) (hV : Arr w v 1 (hrest A).length (List.map vU8 (hrest A))) (hb : A.length < 2 ^ 40) (hB : B.length < 2 ^ 30) :
    Calls Try.prog 35 #[(ptr m 0)] w (fun e w' => e = .returned (str (sha (xorL B 92 ++ sha A))) ∧ Fr [] w w') := by
  refine enter (args := [(ptr m 0)]) Try.func35 rfl rfl ?_
  have H0 : Own [] w w [Ent.bo m [(ptr q 0), (str B)], Ent.bo q [(vU32 (hst A).a), (vU32 (hst A).b), (vU32 (hst A).c), (vU32 (hst A).d), (vU32 (hst A).e), (vU32 (hst A).f), (vU32 (hst A).g), (vU32 (hst A).h), v, (vN A.length)], Ent.ar v 1 (hrest A).length (List.map vU8 (hrest A))] := ((((Own.start w []).oldB hM).oldB hQ).oldA hV)
  refine WC.seq ?_
  refine WC.region ?_
  refine WL.op rfl rfl (op_assign rfl ?_)
  refine WL.nil ?_
  refine WQ.next ?_
  refine WC.seq ?_
  refine WC.seq ?_
  refine WC.region ?_
  refine WL.op rfl rfl (op_move rfl ?_)
  refine WL.op rfl rfl (op_eqlPN Fa.PT56 rfl rfl ?_)
  refine WL.nil ?_
  refine WQ.next ?_
  refine WC.no rfl rfl ?_
  refine WC.skip ?_
  refine WQ.next ?_
  refine WC.seq ?_
  refine WC.region ?_
  refine WL.op rfl rfl (op_callF Fa.C24 rfl ((new_ok _).mono (fun e w1 hq => ?_)))
  obtain ⟨q1, rfl, hq1⟩ := hq
  refine ⟨_, rfl, ?_⟩
  have H1 : Own [] w w1 [Ent.bo m [(ptr q 0), (str B)], Ent.bo q [(vU32 (hst A).a), (vU32 (hst A).b), (vU32 (hst A).c), (vU32 (hst A).d), (vU32 (hst A).e), (vU32 (hst A).f), (vU32 (hst A).g), (vU32 (hst A).h), v, (vN A.length)], Ent.ar v 1 (hrest A).length (List.map vU8 (hrest A)), .blk q1 [(vU32 (hst ([] : List UInt8)).a), (vU32 (hst ([] : List UInt8)).b), (vU32 (hst ([] : List UInt8)).c), (vU32 (hst ([] : List UInt8)).d), (vU32 (hst ([] : List UInt8)).e), (vU32 (hst ([] : List UInt8)).f), (vU32 (hst ([] : List UInt8)).g), (vU32 (hst ([] : List UInt8)).h), (.slice none 0 0), (vN ([] : List UInt8).length)] 76, .row (.slice none 0 0) 5 1 (hrest ([] : List UInt8)).length (List.map vU8 (hrest ([] : List UInt8)))] := H0.splice [] [] [.blk q1 [(vU32 (hst ([] : List UInt8)).a), (vU32 (hst ([] : List UInt8)).b), (vU32 (hst ([] : List UInt8)).c), (vU32 (hst ([] : List UInt8)).d), (vU32 (hst ([] : List UInt8)).e), (vU32 (hst ([] : List UInt8)).f), (vU32 (hst ([] : List UInt8)).g), (vU32 (hst ([] : List UInt8)).h), (.slice none 0 0), (vN ([] : List UInt8).length)] 76, .row (.slice none 0 0) 5 1 (hrest ([] : List UInt8)).length (List.map vU8 (hrest ([] : List UInt8)))] rfl rfl hq1 (Fits.solid True.intro (Fits.solid True.intro Fits.nil))
  refine WL.op rfl rfl (op_assign rfl ?_)
  refine WL.nil ?_
  refine WQ.next ?_
  refine WC.seq ?_
  refine WC.draw 12 Fa.M H1 (HW.op rfl (fun w1 H1 => op_move rfl ⟨rfl, Fr.refl _ _⟩) (HW.op rfl (fun w1 H1 => op_move rfl ⟨rfl, Fr.refl _ _⟩) (HW.op rfl (fun w1 H1 => op_nilCheck rfl ⟨rfl, Fr.refl _ _⟩) (HW.op rfl (fun w1 H1 => op_fieldAddr rfl Fa.F88_1 ⟨rfl, Fr.refl _ _⟩) (HW.op rfl (fun w1 H1 => op_load rfl (H1.cellO (i := 0) rfl rfl) Try.underlying9 rfl ⟨rfl, Fr.refl _ _⟩) (HW.op rfl (fun w1 H1 => op_callF Fa.C54 rfl ((padded_ok B 92 _ (by omega)).mono (fun e w2 hq => ⟨_, hq.1, rfl, hq.2⟩))) (HW.op rfl (fun w1 H1 => op_move rfl ⟨rfl, Fr.refl _ _⟩) (HW.op rfl (fun w1 H1 => op_nilCheck rfl ⟨rfl, Fr.refl _ _⟩) (HW.op rfl (fun w1 H1 => op_fieldAddr rfl Fa.F88_0 ⟨rfl, Fr.refl _ _⟩) (HW.op rfl (fun w1 H1 => op_load rfl (H1.cellO (i := 0) rfl rfl) Try.underlying45 rfl ⟨rfl, Fr.refl _ _⟩) (HW.op rfl (fun w1 H1 => op_callF Fa.C27 rfl ((hsum_ok q v A _ (H1.cellsAtO (i := 1) rfl) (H1.arrO (i := 2) rfl) (by first | exact hb | (simp [xorL_length, sha_length]; omega))).mono (fun e w2 hq => ⟨_, hq.1, rfl, hq.2⟩))) (HW.flt (mk := fun bq => .slice (some ⟨bq, 0, none⟩) 2 2) (ent := fun bq => .row (.slice (some ⟨bq, 0, none⟩) 2 2) _ _ _ _) rfl (fun w1 => op_buildSlice (cs := [_, _]) (Own.start w1 []) Try.underlying44 Fa.I9 rfl rfl rfl rfl (by decide) (by decide) (fun bq w2 H2 => ⟨bq, rfl, H2, True.intro⟩))  HW.nil)))))))))))) (by kernel_rfl) ?_
  intro β4 w4 H4
  refine WL.op rfl rfl (op_callF Fa.C25 rfl ((write_ok q1 (.slice none 0 0) (.slice (some ⟨(β4 11), 0, none⟩) 2 2) ([] : List UInt8) ([(xorL B 92), (sha A)]) _ _ (H4.part [3, 4] rfl rfl) (H4.stayR (I := [3, 4]) (k := 5) rfl rfl rfl) (by simp [xorL_length, sha_length]; omega) (by simp)).mono (fun e w5 hq => ?_)))
  obtain ⟨v5, rfl, hq5⟩ := hq
  refine ⟨_, rfl, ?_⟩
  have H5 : Own [] w w5 [Ent.bo m [(ptr q 0), (str B)], Ent.bo q [(vU32 (hst A).a), (vU32 (hst A).b), (vU32 (hst A).c), (vU32 (hst A).d), (vU32 (hst A).e), (vU32 (hst A).f), (vU32 (hst A).g), (vU32 (hst A).h), v, (vN A.length)], Ent.ar v 1 (hrest A).length (List.map vU8 (hrest A)), .blk q1 [(vU32 (hst (([] : List UInt8) ++ [(xorL B 92), (sha A)].flatten)).a), (vU32 (hst (([] : List UInt8) ++ [(xorL B 92), (sha A)].flatten)).b), (vU32 (hst (([] : List UInt8) ++ [(xorL B 92), (sha A)].flatten)).c), (vU32 (hst (([] : List UInt8) ++ [(xorL B 92), (sha A)].flatten)).d), (vU32 (hst (([] : List UInt8) ++ [(xorL B 92), (sha A)].flatten)).e), (vU32 (hst (([] : List UInt8) ++ [(xorL B 92), (sha A)].flatten)).f), (vU32 (hst (([] : List UInt8) ++ [(xorL B 92), (sha A)].flatten)).g), (vU32 (hst (([] : List UInt8) ++ [(xorL B 92), (sha A)].flatten)).h), v5, (vN (([] : List UInt8) ++ [(xorL B 92), (sha A)].flatten).length)] 76, .row v5 5 1 (hrest (([] : List UInt8) ++ [(xorL B 92), (sha A)].flatten)).length (List.map vU8 (hrest (([] : List UInt8) ++ [(xorL B 92), (sha A)].flatten))), .row (.slice (some ⟨(β4 11), 0, none⟩) 2 2) 9 1 2 (List.map str [(xorL B 92), (sha A)])] := H4.splice [3, 4] [.blk q1 [(vU32 (hst (([] : List UInt8) ++ [(xorL B 92), (sha A)].flatten)).a), (vU32 (hst (([] : List UInt8) ++ [(xorL B 92), (sha A)].flatten)).b), (vU32 (hst (([] : List UInt8) ++ [(xorL B 92), (sha A)].flatten)).c), (vU32 (hst (([] : List UInt8) ++ [(xorL B 92), (sha A)].flatten)).d), (vU32 (hst (([] : List UInt8) ++ [(xorL B 92), (sha A)].flatten)).e), (vU32 (hst (([] : List UInt8) ++ [(xorL B 92), (sha A)].flatten)).f), (vU32 (hst (([] : List UInt8) ++ [(xorL B 92), (sha A)].flatten)).g), (vU32 (hst (([] : List UInt8) ++ [(xorL B 92), (sha A)].flatten)).h), v5, (vN (([] : List UInt8) ++ [(xorL B 92), (sha A)].flatten).length)] 76, .row v5 5 1 (hrest (([] : List UInt8) ++ [(xorL B 92), (sha A)].flatten)).length (List.map vU8 (hrest (([] : List UInt8) ++ [(xorL B 92), (sha A)].flatten)))] [] rfl rfl hq5 (Fits.solid True.intro (Fits.solid True.intro Fits.nil))
  refine WL.nil ?_
  refine WQ.next ?_
  refine WC.seq ?_
  refine WC.region ?_
  refine WL.op rfl rfl (op_move rfl ?_)
  refine WL.op rfl rfl (op_callF Fa.C27 rfl ((hsum_ok q1 v5 (([] : List UInt8) ++ [(xorL B 92), (sha A)].flatten) _ (H5.cellsAt (i := 3) rfl) (H5.arrR (i := 4) rfl) (by first | exact hb | (simp [xorL_length, sha_length]; omega))).mono (fun e w6 hq => ?_)))
  obtain ⟨rfl, hf6⟩ := hq
  refine ⟨_, rfl, ?_⟩
  have H6 := H5.fr' hf6
  refine WL.op rfl rfl (op_assign rfl ?_)
  refine WL.nil ?_
  refine WQ.next ?_
  refine WC.ret ?_
  refine WQ.out (.tmp rfl .nil) ?_
  exact ⟨by simp [tup], H6.fr⟩
set_option maxRecDepth 100000 in
theorem macwNil_ok (lv : Value) (w : World) :
    Calls Try.prog 34 #[(.pointer none), lv] w (fun e w' => e = .returned (vN 1) ∧ Fr [] w w') := by
  refine enter (args := [(.pointer none), lv]) Try.func34 rfl rfl ?_
  have H0 : Own [] w w [] := Own.start w []
  refine WC.seq ?_
  refine WC.region ?_
  refine WL.op rfl rfl (op_assign rfl ?_)
  refine WL.nil ?_
  refine WQ.next ?_
  refine WC.seq ?_
  refine WC.seq ?_
  refine WC.region ?_
  refine WL.op rfl rfl (op_move rfl ?_)
  refine WL.op rfl rfl (op_eqlPN Fa.PT56 rfl rfl ?_)
  refine WL.nil ?_
  refine WQ.next ?_
  refine WC.yes rfl rfl ?_
  refine WC.seq ?_
  refine WC.region ?_
  refine WL.op rfl rfl (op_assign rfl ?_)
  refine WL.nil ?_
  refine WQ.next ?_
  refine WC.ret ?_
  refine WQ.thenRet ?_
  refine WQ.out (.tmp rfl .nil) ?_
  exact ⟨rfl, H0.fr⟩
set_option maxRecDepth 100000 in
theorem macsNil_ok  (w : World) :
    Calls Try.prog 35 #[(.pointer none)] w (fun e w' => e = .returned (str []) ∧ Fr [] w w') := by
  refine enter (args := [(.pointer none)]) Try.func35 rfl rfl ?_
  have H0 : Own [] w w [] := Own.start w []
  refine WC.seq ?_
  refine WC.region ?_
  refine WL.op rfl rfl (op_assign rfl ?_)
  refine WL.nil ?_
  refine WQ.next ?_
  refine WC.seq ?_
  refine WC.seq ?_
  refine WC.region ?_
  refine WL.op rfl rfl (op_move rfl ?_)
  refine WL.op rfl rfl (op_eqlPN Fa.PT56 rfl rfl ?_)
  refine WL.nil ?_
  refine WQ.next ?_
  refine WC.yes rfl rfl ?_
  refine WC.seq ?_
  refine WC.region ?_
  refine WL.op rfl rfl (op_assign rfl ?_)
  refine WL.nil ?_
  refine WQ.next ?_
  refine WC.ret ?_
  refine WQ.thenRet ?_
  refine WQ.out (.tmp rfl .nil) ?_
  exact ⟨rfl, H0.fr⟩
set_option maxRecDepth 100000 in
theorem msum_ok (key text : List UInt8) (w : World) (hk : key.length < 2 ^ 40) (ht : text.length < 2 ^ 39) :
    Calls Try.prog 31 #[(str key), (str text)] w (fun e w' => e = .returned (str (mac key text)) ∧ Fr [] w w') := by
  refine enter (args := [(str key), (str text)]) Try.func31 rfl rfl ?_
  have H0 : Own [] w w [] := Own.start w []
  refine WC.seq ?_
  refine WC.region ?_
  refine WL.op rfl rfl (op_assign rfl ?_)
  refine WL.nil ?_
  refine WQ.next ?_
  refine WC.seq ?_
  refine WC.region ?_
  refine WL.op rfl rfl (op_move rfl ?_)
  refine WL.op rfl rfl (op_callF Fa.C33 rfl ((macnew_ok key _ hk).mono (fun e w1 hq => ?_)))
  obtain ⟨m1, q1, v1, rfl, hq1⟩ := hq
  refine ⟨_, rfl, ?_⟩
  have H1 : Own [] w w1 [.blk m1 [(ptr q1 0), (str (blockM key))] 88, .blk q1 [(vU32 (hst (xorL (blockM key) 54)).a), (vU32 (hst (xorL (blockM key) 54)).b), (vU32 (hst (xorL (blockM key) 54)).c), (vU32 (hst (xorL (blockM key) 54)).d), (vU32 (hst (xorL (blockM key) 54)).e), (vU32 (hst (xorL (blockM key) 54)).f), (vU32 (hst (xorL (blockM key) 54)).g), (vU32 (hst (xorL (blockM key) 54)).h), v1, (vN (xorL (blockM key) 54).length)] 76, .row v1 5 1 (hrest (xorL (blockM key) 54)).length (List.map vU8 (hrest (xorL (blockM key) 54)))] := H0.splice [] [] [.blk m1 [(ptr q1 0), (str (blockM key))] 88, .blk q1 [(vU32 (hst (xorL (blockM key) 54)).a), (vU32 (hst (xorL (blockM key) 54)).b), (vU32 (hst (xorL (blockM key) 54)).c), (vU32 (hst (xorL (blockM key) 54)).d), (vU32 (hst (xorL (blockM key) 54)).e), (vU32 (hst (xorL (blockM key) 54)).f), (vU32 (hst (xorL (blockM key) 54)).g), (vU32 (hst (xorL (blockM key) 54)).h), v1, (vN (xorL (blockM key) 54).length)] 76, .row v1 5 1 (hrest (xorL (blockM key) 54)).length (List.map vU8 (hrest (xorL (blockM key) 54)))] rfl rfl hq1 (Fits.solid True.intro (Fits.solid True.intro (Fits.solid True.intro Fits.nil)))
  refine WL.op rfl rfl (op_assign rfl ?_)
  refine WL.nil ?_
  refine WQ.next ?_
  refine WC.seq ?_
  refine WC.region ?_
  refine WL.op rfl rfl (op_move rfl ?_)
  refine WL.op rfl rfl (op_move rfl ?_)
  refine WL.op rfl rfl (op_buildSlice (cs := [_]) H1 Try.underlying44 Fa.I9 rfl rfl rfl rfl (by decide) (by decide) (fun b2 w2 H2 => ?_))
  refine WL.op rfl rfl (op_callF Fa.C34 rfl ((macw_ok m1 q1 v1 (.slice (some ⟨b2, 0, none⟩) 1 1) (blockM key) (xorL (blockM key) 54) ([text]) _ _ (H2.part [0, 1, 2] rfl rfl) (H2.stayR (I := [0, 1, 2]) (k := 3) rfl rfl rfl) (by simp [xorL_length, blockM_length]; omega) (by simp)).mono (fun e w3 hq => ?_)))
  obtain ⟨v3, rfl, hq3⟩ := hq
  refine ⟨_, rfl, ?_⟩
  have H3 : Own [] w w3 [.blk m1 [(ptr q1 0), (str (blockM key))] 88, .blk q1 [(vU32 (hst ((xorL (blockM key) 54) ++ [text].flatten)).a), (vU32 (hst ((xorL (blockM key) 54) ++ [text].flatten)).b), (vU32 (hst ((xorL (blockM key) 54) ++ [text].flatten)).c), (vU32 (hst ((xorL (blockM key) 54) ++ [text].flatten)).d), (vU32 (hst ((xorL (blockM key) 54) ++ [text].flatten)).e), (vU32 (hst ((xorL (blockM key) 54) ++ [text].flatten)).f), (vU32 (hst ((xorL (blockM key) 54) ++ [text].flatten)).g), (vU32 (hst ((xorL (blockM key) 54) ++ [text].flatten)).h), v3, (vN ((xorL (blockM key) 54) ++ [text].flatten).length)] 76, .row v3 5 1 (hrest ((xorL (blockM key) 54) ++ [text].flatten)).length (List.map vU8 (hrest ((xorL (blockM key) 54) ++ [text].flatten))), .row (.slice (some ⟨b2, 0, none⟩) 1 1) 9 1 1 (List.map str [text])] := H2.splice [0, 1, 2] [.blk m1 [(ptr q1 0), (str (blockM key))] 88, .blk q1 [(vU32 (hst ((xorL (blockM key) 54) ++ [text].flatten)).a), (vU32 (hst ((xorL (blockM key) 54) ++ [text].flatten)).b), (vU32 (hst ((xorL (blockM key) 54) ++ [text].flatten)).c), (vU32 (hst ((xorL (blockM key) 54) ++ [text].flatten)).d), (vU32 (hst ((xorL (blockM key) 54) ++ [text].flatten)).e), (vU32 (hst ((xorL (blockM key) 54) ++ [text].flatten)).f), (vU32 (hst ((xorL (blockM key) 54) ++ [text].flatten)).g), (vU32 (hst ((xorL (blockM key) 54) ++ [text].flatten)).h), v3, (vN ((xorL (blockM key) 54) ++ [text].flatten).length)] 76, .row v3 5 1 (hrest ((xorL (blockM key) 54) ++ [text].flatten)).length (List.map vU8 (hrest ((xorL (blockM key) 54) ++ [text].flatten)))] [] rfl rfl hq3 (Fits.solid True.intro (Fits.solid True.intro (Fits.solid True.intro Fits.nil)))
  refine WL.nil ?_
  refine WQ.next ?_
  refine WC.seq ?_
  refine WC.region ?_
  refine WL.op rfl rfl (op_move rfl ?_)
  refine WL.op rfl rfl (op_callF Fa.C35 rfl ((macs_ok m1 q1 v3 (blockM key) ((xorL (blockM key) 54) ++ [text].flatten) _ (H3.cellsAt (i := 0) rfl) (H3.cellsAt (i := 1) rfl) (H3.arrR (i := 2) rfl) (by simp [xorL_length, blockM_length]; omega) (by rw [blockM_length]; decide)).mono (fun e w4 hq => ?_)))
  obtain ⟨rfl, hf4⟩ := hq
  refine ⟨_, rfl, ?_⟩
  have H4 := H3.fr' hf4
  refine WL.op rfl rfl (op_assign rfl ?_)
  refine WL.nil ?_
  refine WQ.next ?_
  refine WC.ret ?_
  refine WQ.out (.tmp rfl .nil) ?_
  exact ⟨by simp [tup, mac], H4.fr⟩
set_option maxRecDepth 100000 in
theorem mcheck_ok (key text s : List UInt8) (w : World) (hk : key.length < 2 ^ 40) (ht : text.length < 2 ^ 39) :
    Calls Try.prog 32 #[(str key), (str text), (str s)] w (fun e w' => e = .returned (.bool (decide (s = mac key text))) ∧ Fr [] w w') := by
  refine enter (args := [(str key), (str text), (str s)]) Try.func32 rfl rfl ?_
  have H0 : Own [] w w [] := Own.start w []
  have hl := mac_length key text
  refine WC.seq ?_
  refine WC.region ?_
  refine WL.op rfl rfl (op_assign rfl ?_)
  refine WL.nil ?_
  refine WQ.next ?_
  refine WC.seq ?_
  refine WC.region ?_
  refine WL.op rfl rfl (op_move rfl ?_)
  refine WL.op rfl rfl (op_move rfl ?_)
  refine WL.op rfl rfl (op_callF Fa.C31 rfl ((msum_ok key text _ hk ht).mono (fun e w1 hq => ?_)))
  obtain ⟨rfl, hf1⟩ := hq
  refine ⟨_, rfl, ?_⟩
  have H1 := H0.fr' hf1
  refine WL.op rfl rfl (op_assign rfl ?_)
  refine WL.nil ?_
  refine WQ.next ?_
  refine WC.seq ?_
  refine WC.seq ?_
  refine WC.region ?_
  refine WL.op rfl rfl (op_move rfl ?_)
  refine WL.op rfl rfl (op_lenStr Try.underlying9 rfl ?_)
  refine WL.op rfl rfl (op_move rfl ?_)
  refine WL.op rfl rfl (op_lenStr Try.underlying9 rfl ?_)
  refine WL.op rfl rfl (op_neqN rfl rfl ?_)
  refine WL.nil ?_
  refine WQ.next ?_
  refine WC.cond rfl (fun (hb2 : (decide (s.length ≠ (mac key text).length)) = true) => ?_) (fun (hb2 : (decide (s.length ≠ (mac key text).length)) = false) => ?_)
  ·
    have hc2 := of_decide_eq_true hb2
    refine WC.seq ?_
    refine WC.region ?_
    refine WL.op rfl rfl (op_assign rfl ?_)
    refine WL.nil ?_
    refine WQ.next ?_
    refine WC.ret ?_
    refine WQ.thenRet ?_
    refine WQ.out (.tmp rfl .nil) ?_
    exact ⟨by rw [ne_of_length hc2]; rfl, H1.fr⟩
  ·
    have hc2 := of_decide_eq_false hb2
    refine WC.skip ?_
    refine WQ.next ?_
    refine WC.seq ?_
    refine WC.region ?_
    refine WL.op rfl rfl (op_assign rfl ?_)
    refine WL.nil ?_
    refine WQ.next ?_
    refine WC.seq ?_
    refine WC.seq ?_
    refine WC.region ?_
    refine WL.op rfl rfl (op_move rfl ?_)
    refine WL.op rfl rfl (op_lenStr Try.underlying9 rfl ?_)
    refine WL.op rfl rfl (op_move rfl ?_)
    refine WL.nil ?_
    refine WQ.next ?_
    refine WC.block ?_
    refine WC.loop (α := Nat) (fun k => [(2, (str s)), (7, (str (mac key text))), (8, (vU8 (orTo s (mac key text) k))), (19, (vN (mac key text).length)), (20, (vN k))]) (fun k w' => (k ≤ (mac key text).length) ∧ Own [] w w' []) (fun k => (mac key text).length - k) 0 ⟨(by omega), H1⟩ ⟨rfl, rfl, rfl, rfl, rfl, trivial⟩ ?_
    rintro k w3 ⟨hinv, H3⟩
    show WC _ _ _ _ _ [(2, (str s)), (7, (str (mac key text))), (8, (vU8 (orTo s (mac key text) k))), (19, (vN (mac key text).length)), (20, (vN k))] _
    refine WC.seq ?_
    refine WC.region ?_
    refine WL.op rfl rfl (op_lssN rfl rfl ?_)
    refine WL.nil ?_
    refine WQ.next ?_
    refine WC.seq ?_
    refine WC.cond rfl (fun (hb4 : (decide (k < (mac key text).length)) = true) => ?_) (fun (hb4 : (decide (k < (mac key text).length)) = false) => ?_)
    ·
      have hc4 := of_decide_eq_true hb4
      refine WC.skip ?_
      refine WQ.next ?_
      refine WC.seq ?_
      refine WC.block ?_
      refine WC.seq ?_
      refine WC.region ?_
      refine WL.op rfl rfl (op_move rfl ?_)
      refine WL.op rfl rfl (op_assign rfl ?_)
      refine WL.nil ?_
      refine WQ.next ?_
      refine WC.draw 10 Fa.M H3 (HW.op rfl (fun w1 H1 => op_move rfl ⟨rfl, Fr.refl _ _⟩) (HW.op rfl (fun w1 H1 => op_move rfl ⟨rfl, Fr.refl _ _⟩) (HW.op rfl (fun w1 H1 => op_move rfl ⟨rfl, Fr.refl _ _⟩) (HW.op rfl (fun w1 H1 => op_indexStrD Try.underlying9 rfl rfl (by omega) ⟨rfl, Fr.refl _ _⟩) (HW.op rfl (fun w1 H1 => op_move rfl ⟨rfl, Fr.refl _ _⟩) (HW.op rfl (fun w1 H1 => op_move rfl ⟨rfl, Fr.refl _ _⟩) (HW.op rfl (fun w1 H1 => op_indexStrD Try.underlying9 rfl rfl (by omega) ⟨rfl, Fr.refl _ _⟩) (HW.op rfl (fun w1 H1 => op_xorU8 rfl rfl ⟨rfl, Fr.refl _ _⟩) (HW.op rfl (fun w1 H1 => op_orU8 rfl rfl ⟨rfl, Fr.refl _ _⟩) (HW.op rfl (fun w1 H1 => op_assign rfl ⟨rfl, Fr.refl _ _⟩)  HW.nil)))))))))) (by kernel_rfl) ?_
      intro β5 w5 H5
      refine WL.nil ?_
      refine WQ.inNormal ?_
      refine WQ.next ?_
      refine WC.region ?_
      refine WL.op rfl rfl (op_addN (b := 1) rfl rfl (by omega) ?_)
      refine WL.op rfl rfl (op_move rfl ?_)
      refine WL.nil ?_
      exact WQ.round (k + 1) ⟨(by omega), H5⟩ ⟨rfl, rfl, rfl, rfl, rfl, trivial⟩ (by omega)
    ·
      have hc4 := of_decide_eq_false hb4
      refine WC.exit ?_
      refine WQ.thenExit ?_
      refine WQ.thenExit ?_
      refine WQ.inHere ?_
      refine WQ.next ?_
      refine WC.seq ?_
      refine WC.region ?_
      refine WL.op rfl rfl (op_move rfl ?_)
      refine WL.op rfl rfl (op_eqlU8 (b := 0) rfl rfl ?_)
      refine WL.op rfl rfl (op_assign rfl ?_)
      refine WL.nil ?_
      refine WQ.next ?_
      refine WC.ret ?_
      refine WQ.out (.tmp rfl .nil) ?_
      exact ⟨by have hk2 : k = (mac key text).length := (by omega); subst hk2; rw [orTo_eq (by omega)]; rfl, H3.fr⟩
set_option maxRecDepth 100000 in
theorem rBlock_ok (key : List UInt8) (w : World) (hk : key.length < 2 ^ 40) :
    Calls Try.prog 51 #[(str key)] w (fun e w' => e = .returned (str (blockM key)) ∧ Fr [] w w') := by
  refine enter (args := [(str key)]) Try.func51 rfl rfl ?_
  have H0 : Own [] w w [] := Own.start w []
  refine WC.seq ?_
  refine WC.region ?_
  refine WL.op rfl rfl (op_assign rfl ?_)
  refine WL.nil ?_
  refine WQ.next ?_
  refine WC.seq ?_
  refine WC.seq ?_
  refine WC.region ?_
  refine WL.op rfl rfl (op_move rfl ?_)
  refine WL.op rfl rfl (op_lenStr Try.underlying9 rfl ?_)
  refine WL.op rfl rfl (op_gtrN (b := 64) rfl rfl ?_)
  refine WL.nil ?_
  refine WQ.next ?_
  refine WC.cond rfl (fun (hb1 : (decide (key.length > 64)) = true) => ?_) (fun (hb1 : (decide (key.length > 64)) = false) => ?_)
  ·
    have hc1 := of_decide_eq_true hb1
    have hl := sha_length key
    refine WC.region ?_
    refine WL.op rfl rfl (op_move rfl ?_)
    refine WL.op rfl rfl (op_callF Fa.C22 rfl ((rsum_ok key _ hk).mono (fun e w2 hq => ?_)))
    obtain ⟨rfl, hf2⟩ := hq
    refine ⟨_, rfl, ?_⟩
    have H2 := H0.fr' hf2
    refine WL.op rfl rfl (op_assign rfl ?_)
    refine WL.nil ?_
    refine WQ.next ?_
    refine WC.seq ?_
    refine WC.region ?_
    refine WL.op rfl rfl (op_move rfl ?_)
    refine WL.op rfl rfl (op_move rfl ?_)
    refine WL.op rfl rfl (op_lenStr Try.underlying9 rfl ?_)
    refine WL.op rfl rfl (op_subN (a := 64) rfl rfl (by omega) (by omega) ?_)
    refine WL.op rfl rfl (op_makeSliceM (f := vU8) (c := 0) H2 Try.underlying31 Fa.I5 rfl rfl (by omega) (by omega) (fun b3 w3 H3 => ?_))
    refine WL.op rfl rfl (op_bytesStr (l := (List.replicate (64 - (sha key).length) 0)) Try.underlying31 Try.underlying5 Try.underlying9 rfl (H3.arrR (i := 0) rfl) rfl ?_)
    refine WL.op rfl rfl (op_addStr rfl rfl (by first | omega | (rw [List.length_append]; omega) | (simp; omega)) ?_)
    refine WL.op rfl rfl (op_assign rfl ?_)
    refine WL.nil ?_
    refine WQ.next ?_
    refine WC.ret ?_
    refine WQ.out (.tmp rfl .nil) ?_
    exact ⟨by rw [blockM, keyB, if_pos hc1]; rfl, H3.fr⟩
  ·
    have hc1 := of_decide_eq_false hb1
    refine WC.skip ?_
    refine WQ.next ?_
    refine WC.seq ?_
    refine WC.region ?_
    refine WL.op rfl rfl (op_move rfl ?_)
    refine WL.op rfl rfl (op_move rfl ?_)
    refine WL.op rfl rfl (op_lenStr Try.underlying9 rfl ?_)
    refine WL.op rfl rfl (op_subN (a := 64) rfl rfl (by omega) (by omega) ?_)
    refine WL.op rfl rfl (op_makeSliceM (f := vU8) (c := 0) H0 Try.underlying31 Fa.I5 rfl rfl (by omega) (by omega) (fun b4 w4 H4 => ?_))
    refine WL.op rfl rfl (op_bytesStr (l := (List.replicate (64 - key.length) 0)) Try.underlying31 Try.underlying5 Try.underlying9 rfl (H4.arrR (i := 0) rfl) rfl ?_)
    refine WL.op rfl rfl (op_addStr rfl rfl (by first | omega | (rw [List.length_append]; omega) | (simp; omega)) ?_)
    refine WL.op rfl rfl (op_assign rfl ?_)
    refine WL.nil ?_
    refine WQ.next ?_
    refine WC.ret ?_
    refine WQ.out (.tmp rfl .nil) ?_
    exact ⟨by rw [blockM, keyB, if_neg hc1]; rfl, H4.fr⟩
set_option maxRecDepth 100000 in
theorem with_ok (s : List UInt8) (c : UInt8) (w : World) (hs : s.length < 2 ^ 40) :
    Calls Try.prog 52 #[(str s), (vU8 c)] w (fun e w' => e = .returned (str (xorL s c)) ∧ Fr [] w w') := by
  refine enter (args := [(str s), (vU8 c)]) Try.func52 rfl rfl ?_
  have H0 : Own [] w w [] := Own.start w []
  refine WC.seq ?_
  refine WC.region ?_
  refine WL.op rfl rfl (op_assign rfl ?_)
  refine WL.nil ?_
  refine WQ.next ?_
  refine WC.seq ?_
  refine WC.region ?_
  refine WL.op rfl rfl (op_assign rfl ?_)
  have H1 := H0.nilRow 5 1
  refine WL.nil ?_
  refine WQ.next ?_
  refine WC.seq ?_
  refine WC.seq ?_
  refine WC.region ?_
  refine WL.op rfl rfl (op_assign rfl ?_)
  refine WL.nil ?_
  refine WQ.next ?_
  refine WC.block ?_
  refine WC.loop (α := Nat × Value) (fun (k, v) => [(0, (str s)), (1, (vU8 c)), (5, v), (6, (vN k))]) (fun (k, v) w' => (k ≤ s.length) ∧ Own [] w w' [.row v 5 1 k (List.map vU8 (withTo s c k))]) (fun (k, v) => s.length - k) (0, (.slice none 0 0)) ⟨(by omega), H1⟩ ⟨rfl, rfl, rfl, rfl, trivial⟩ ?_
  rintro ⟨k, v⟩ w2 ⟨hinv, H2⟩
  show WC _ _ _ _ _ [(0, (str s)), (1, (vU8 c)), (5, v), (6, (vN k))] _
  refine WC.seq ?_
  refine WC.seq ?_
  refine WC.region ?_
  refine WL.op rfl rfl (op_move rfl ?_)
  refine WL.op rfl rfl (op_move rfl ?_)
  refine WL.op rfl rfl (op_lenStr Try.underlying9 rfl ?_)
  refine WL.op rfl rfl (op_lssN rfl rfl ?_)
  refine WL.nil ?_
  refine WQ.next ?_
  refine WC.cond rfl (fun (hb3 : (decide (k < s.length)) = true) => ?_) (fun (hb3 : (decide (k < s.length)) = false) => ?_)
  ·
    have hc3 := of_decide_eq_true hb3
    refine WC.skip ?_
    refine WQ.next ?_
    refine WC.seq ?_
    refine WC.block ?_
    refine WC.region ?_
    refine WL.op rfl rfl (op_move rfl ?_)
    refine WL.op rfl rfl (op_move rfl ?_)
    refine WL.op rfl rfl (op_move rfl ?_)
    refine WL.op rfl rfl (op_indexStrD Try.underlying9 rfl rfl (by omega) ?_)
    refine WL.op rfl rfl (op_move rfl ?_)
    refine WL.op rfl rfl (op_xorU8 rfl rfl ?_)
    refine WL.op rfl rfl (op_buildSlice (cs := [_]) H2 Try.underlying31 Fa.I5 rfl rfl rfl rfl (by decide) (by decide) (fun b4 w4 H4 => ?_))
    refine WL.op rfl rfl (op_appendM (f := vU8) (l := (withTo s c k)) (l' := [((s.getD k 0) ^^^ c)]) (i := 0) H4 Try.underlying31 Fa.I5 rfl rfl rfl rfl (Src.ofArr Try.underlying31 (H4.arrR (i := 1) rfl)) (one_mapM (fun _ => rfl)) (by omega) (by omega) (fun v5 w5 H5 => ?_))
    refine WL.op rfl rfl (op_assign rfl ?_)
    refine WL.nil ?_
    refine WQ.inNormal ?_
    refine WQ.next ?_
    refine WC.region ?_
    refine WL.op rfl rfl (op_move rfl ?_)
    refine WL.op rfl rfl (op_addN (b := 1) rfl rfl (by omega) ?_)
    refine WL.op rfl rfl (op_assign rfl ?_)
    refine WL.nil ?_
    exact WQ.round (k + 1, v5) ⟨(by omega), (H5.take 1)⟩ ⟨rfl, rfl, rfl, rfl, trivial⟩ (by show s.length - (k + 1) < s.length - k; omega)
  ·
    have hc3 := of_decide_eq_false hb3
    refine WC.exit ?_
    refine WQ.thenExit ?_
    refine WQ.thenExit ?_
    refine WQ.inHere ?_
    refine WQ.next ?_
    refine WC.seq ?_
    refine WC.region ?_
    refine WL.op rfl rfl (op_move rfl ?_)
    refine WL.op rfl rfl (op_bytesStr (l := (withTo s c k)) Try.underlying31 Try.underlying5 Try.underlying9 rfl (H2.arrR (i := 0) rfl) rfl ?_)
    refine WL.op rfl rfl (op_assign rfl ?_)
    refine WL.nil ?_
    refine WQ.next ?_
    refine WC.ret ?_
    refine WQ.out (.tmp rfl .nil) ?_
    exact ⟨by have hk : k = s.length := (by omega); subst hk; rw [withTo_end]; rfl, H2.fr⟩
set_option maxRecDepth 100000 in
theorem rmac_ok (key text : List UInt8) (w : World) (hk : key.length < 2 ^ 40) (ht : text.length < 2 ^ 39) :
    Calls Try.prog 30 #[(str key), (str text)] w (fun e w' => e = .returned (str (mac key text)) ∧ Fr [] w w') := by
  refine enter (args := [(str key), (str text)]) Try.func30 rfl rfl ?_
  have H0 : Own [] w w [] := Own.start w []
  refine WC.seq ?_
  refine WC.region ?_
  refine WL.op rfl rfl (op_assign rfl ?_)
  refine WL.nil ?_
  refine WQ.next ?_
  refine WC.seq ?_
  refine WC.region ?_
  refine WL.op rfl rfl (op_move rfl ?_)
  refine WL.op rfl rfl (op_callF Fa.C51 rfl ((rBlock_ok key _ hk).mono (fun e w1 hq => ?_)))
  obtain ⟨rfl, hf1⟩ := hq
  refine ⟨_, rfl, ?_⟩
  have H1 := H0.fr' hf1
  refine WL.op rfl rfl (op_assign rfl ?_)
  refine WL.nil ?_
  refine WQ.next ?_
  refine WC.seq ?_
  refine WC.region ?_
  refine WL.op rfl rfl (op_move rfl ?_)
  refine WL.op rfl rfl (op_callF Fa.C52 rfl ((with_ok (blockM key) 92 _ (by rw [blockM_length]; decide)).mono (fun e w2 hq => ?_)))
  obtain ⟨rfl, hf2⟩ := hq
  refine ⟨_, rfl, ?_⟩
  have H2 := H1.fr' hf2
  refine WL.op rfl rfl (op_move rfl ?_)
  refine WL.op rfl rfl (op_callF Fa.C52 rfl ((with_ok (blockM key) 54 _ (by rw [blockM_length]; decide)).mono (fun e w3 hq => ?_)))
  obtain ⟨rfl, hf3⟩ := hq
  refine ⟨_, rfl, ?_⟩
  have H3 := H2.fr' hf3
  refine WL.op rfl rfl (op_move rfl ?_)
  refine WL.op rfl rfl (op_addStr rfl rfl (by simp [xorL_length, blockM_length]; omega) ?_)
  refine WL.op rfl rfl (op_callF Fa.C22 rfl ((rsum_ok ((xorL (blockM key) 54) ++ text) _ (by first | (simp [xorL_length, blockM_length, sha_length]; omega) | (simp [xorL_length, blockM_length, sha_length]))).mono (fun e w4 hq => ?_)))
  obtain ⟨rfl, hf4⟩ := hq
  refine ⟨_, rfl, ?_⟩
  have H4 := H3.fr' hf4
  refine WL.op rfl rfl (op_addStr rfl rfl (by simp [xorL_length, blockM_length, sha_length]) ?_)
  refine WL.op rfl rfl (op_callF Fa.C22 rfl ((rsum_ok ((xorL (blockM key) 92) ++ (sha ((xorL (blockM key) 54) ++ text))) _ (by first | (simp [xorL_length, blockM_length, sha_length]; omega) | (simp [xorL_length, blockM_length, sha_length]))).mono (fun e w5 hq => ?_)))
  obtain ⟨rfl, hf5⟩ := hq
  refine ⟨_, rfl, ?_⟩
  have H5 := H4.fr' hf5
  refine WL.op rfl rfl (op_assign rfl ?_)
  refine WL.nil ?_
  refine WQ.next ?_
  refine WC.ret ?_
  refine WQ.out (.tmp rfl .nil) ?_
  exact ⟨rfl, H5.fr⟩
end Go.Proofs.Ytfdlkkhhakjgeaa
