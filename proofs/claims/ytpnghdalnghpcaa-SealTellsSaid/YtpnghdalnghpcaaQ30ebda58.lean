/- General lemmas and walks: WMac, WSeal, WSeal2, WImg14, WImg15, WSeal3. No condition but what each theorem names. -/
import Derived.Test.YtpnghdalnghpcaaQ932c4e59
import Derived.Test.YtpnghdalnghpcaaQ8b1839b4
import Derived.Test.YtpnghdalnghpcaaQcf708baf
import Derived.Test.YtpnghdalnghpcaaQ2f0be20b
/-! from WMac -/
namespace Go.Proofs.Ytpnghdalnghpcaa
open Go.Owl Go.Spec
set_option maxRecDepth 100000 in
theorem mblock_ok (key : List UInt8) (w : World) (hk : key.length < 2 ^ 40) :
    Calls Try.prog 132 #[(str key)] w (fun e w' => e = .returned (str (blockM key)) ∧ Fr [] w w') := by
  refine enter (args := [(str key)]) Try.func132 rfl rfl ?_
  have H0 : Own [] w w [] := Own.start w []
  refine WC.seq ?_
  refine WC.region ?_
  refine WL.op rfl rfl (op_assign rfl ?_)
  refine WL.nil ?_
  refine WQ.next ?_
  refine WC.seq ?_
  refine WC.seq ?_
  refine WC.region ?_
  refine WL.op rfl rfl (op_move rfl ?_)
  refine WL.op rfl rfl (op_lenStr Try.underlying9 rfl ?_)
  refine WL.op rfl rfl (op_gtrN (b := 64) rfl rfl ?_)
  refine WL.nil ?_
  refine WQ.next ?_
  refine WC.cond rfl (fun (hb1 : (decide (key.length > 64)) = true) => ?_) (fun (hb1 : (decide (key.length > 64)) = false) => ?_)
  ·
    have hc1 := of_decide_eq_true hb1
    have hl := sha_length key
    refine WC.region ?_
    refine WL.op rfl rfl (op_move rfl ?_)
    refine WL.op rfl rfl (op_callF Fa.C144 rfl ((ssum_ok key _ hk).mono (fun e w2 hq => ?_)))
    obtain ⟨rfl, hf2⟩ := hq
    refine ⟨_, rfl, ?_⟩
    have H2 := H0.fr' hf2
    refine WL.op rfl rfl (op_assign rfl ?_)
    refine WL.nil ?_
    refine WQ.next ?_
    refine WC.seq ?_
    refine WC.region ?_
    refine WL.op rfl rfl (op_move rfl ?_)
    refine WL.op rfl rfl (op_move rfl ?_)
    refine WL.op rfl rfl (op_lenStr Try.underlying9 rfl ?_)
    refine WL.op rfl rfl (op_subN (a := 64) rfl rfl (by omega) (by omega) ?_)
    refine WL.op rfl rfl (op_makeSliceM (f := vU8) (c := 0) H2 Try.underlying73 Fa.I5 rfl rfl (by omega) (by omega) (fun b3 w3 H3 => ?_))
    refine WL.op rfl rfl (op_bytesStr (l := (List.replicate (64 - (sha key).length) 0)) Try.underlying73 Try.underlying5 Try.underlying9 rfl (H3.arrR (i := 0) rfl) rfl ?_)
    refine WL.op rfl rfl (op_addStr rfl rfl (by first | omega | (rw [List.length_append]; omega) | (simp; omega)) ?_)
    refine WL.op rfl rfl (op_assign rfl ?_)
    refine WL.nil ?_
    refine WQ.next ?_
    refine WC.ret ?_
    refine WQ.out (.tmp rfl .nil) ?_
    exact ⟨by rw [blockM, keyB, if_pos hc1]; rfl, H3.fr⟩
  ·
    have hc1 := of_decide_eq_false hb1
    refine WC.skip ?_
    refine WQ.next ?_
    refine WC.seq ?_
    refine WC.region ?_
    refine WL.op rfl rfl (op_move rfl ?_)
    refine WL.op rfl rfl (op_move rfl ?_)
    refine WL.op rfl rfl (op_lenStr Try.underlying9 rfl ?_)
    refine WL.op rfl rfl (op_subN (a := 64) rfl rfl (by omega) (by omega) ?_)
    refine WL.op rfl rfl (op_makeSliceM (f := vU8) (c := 0) H0 Try.underlying73 Fa.I5 rfl rfl (by omega) (by omega) (fun b4 w4 H4 => ?_))
    refine WL.op rfl rfl (op_bytesStr (l := (List.replicate (64 - key.length) 0)) Try.underlying73 Try.underlying5 Try.underlying9 rfl (H4.arrR (i := 0) rfl) rfl ?_)
    refine WL.op rfl rfl (op_addStr rfl rfl (by first | omega | (rw [List.length_append]; omega) | (simp; omega)) ?_)
    refine WL.op rfl rfl (op_assign rfl ?_)
    refine WL.nil ?_
    refine WQ.next ?_
    refine WC.ret ?_
    refine WQ.out (.tmp rfl .nil) ?_
    exact ⟨by rw [blockM, keyB, if_neg hc1]; rfl, H4.fr⟩
set_option maxRecDepth 100000 in
theorem padded_ok (s : List UInt8) (c : UInt8) (w : World) (hs : s.length < 2 ^ 40) :
    Calls Try.prog 134 #[(str s), (vU8 c)] w (fun e w' => e = .returned (str (xorL s c)) ∧ Fr [] w w') := by
  refine enter (args := [(str s), (vU8 c)]) Try.func134 rfl rfl ?_
  have H0 : Own [] w w [] := Own.start w []
  refine WC.seq ?_
  refine WC.region ?_
  refine WL.op rfl rfl (op_assign rfl ?_)
  refine WL.nil ?_
  refine WQ.next ?_
  refine WC.seq ?_
  refine WC.region ?_
  refine WL.op rfl rfl (op_move rfl ?_)
  refine WL.op rfl rfl (op_strBytes H0 Try.underlying9 Try.underlying5 Try.underlying73 rfl (by omega) (fun v1 w1 H1 => ?_))
  refine WL.op rfl rfl (op_assign rfl ?_)
  refine WL.nil ?_
  refine WQ.next ?_
  refine WC.seq ?_
  refine WC.seq ?_
  refine WC.region ?_
  refine WL.op rfl rfl (op_move rfl ?_)
  refine WL.op rfl rfl (op_lenA Try.underlying73 rfl (H1.arrR (i := 0) rfl) ?_)
  refine WL.op rfl rfl (op_move rfl ?_)
  refine WL.nil ?_
  refine WQ.next ?_
  refine WC.block ?_
  refine WC.loop (α := Nat) (fun k => [(1, (vU8 c)), (5, v1), (10, (vN s.length)), (11, (vN k))]) (fun k w' => (k ≤ s.length) ∧ Own [] w w' [.row v1 5 1 s.length (List.map vU8 (xorTo s c k))]) (fun k => s.length - k) 0 ⟨(by omega), H1⟩ ⟨rfl, rfl, rfl, rfl, trivial⟩ ?_
  rintro k w2 ⟨hinv, H2⟩
  show WC _ _ _ _ _ [(1, (vU8 c)), (5, v1), (10, (vN s.length)), (11, (vN k))] _
  refine WC.seq ?_
  refine WC.region ?_
  refine WL.op rfl rfl (op_lssN rfl rfl ?_)
  refine WL.nil ?_
  refine WQ.next ?_
  refine WC.seq ?_
  refine WC.cond rfl (fun (hb3 : (decide (k < s.length)) = true) => ?_) (fun (hb3 : (decide (k < s.length)) = false) => ?_)
  ·
    have hc3 := of_decide_eq_true hb3
    refine WC.skip ?_
    refine WQ.next ?_
    refine WC.seq ?_
    refine WC.block ?_
    refine WC.seq ?_
    refine WC.region ?_
    refine WL.op rfl rfl (op_move rfl ?_)
    refine WL.op rfl rfl (op_assign rfl ?_)
    refine WL.nil ?_
    refine WQ.next ?_
    refine WC.region ?_
    refine WL.op rfl rfl (op_move rfl ?_)
    refine WL.op rfl rfl (op_move rfl ?_)
    refine WL.op rfl rfl (op_indexAddr1 Try.underlying73 Fa.I5 rfl (H2.arrR (i := 0) rfl) rfl (by omega) ?_)
    refine WL.op rfl rfl (op_load rfl ((H2.arrR (i := 0) rfl).at (get_map vU8 0 (Arr.ltM (H2.arrR (i := 0) rfl) (by omega)))) Try.underlying5 rfl ?_)
    refine WL.op rfl rfl (op_move rfl ?_)
    refine WL.op rfl rfl (op_xorU8 rfl rfl ?_)
    refine WL.op rfl rfl (op_indexAddr1 Try.underlying73 Fa.I5 rfl (H2.arrR (i := 0) rfl) rfl (by omega) ?_)
    refine WL.op rfl rfl (op_storeRM (i := 0) (f := vU8) (l := (xorTo s c k)) (c := (((xorTo s c k).getD k 0) ^^^ c)) H2 rfl rfl rfl (by omega) rfl Fa.I5 (fun w4 H4 => ?_))
    refine WL.nil ?_
    refine WQ.inNormal ?_
    refine WQ.next ?_
    refine WC.region ?_
    refine WL.op rfl rfl (op_addN (b := 1) rfl rfl (by omega) ?_)
    refine WL.op rfl rfl (op_move rfl ?_)
    refine WL.nil ?_
    exact WQ.round (k + 1) ⟨(by omega), (Own.rowEq (i := 0) (f := vU8) H4 rfl (xorTo_step s c (by omega)))⟩ ⟨rfl, rfl, rfl, rfl, trivial⟩ (by omega)
  ·
    have hc3 := of_decide_eq_false hb3
    refine WC.exit ?_
    refine WQ.thenExit ?_
    refine WQ.thenExit ?_
    refine WQ.inHere ?_
    refine WQ.next ?_
    refine WC.seq ?_
    refine WC.region ?_
    refine WL.op rfl rfl (op_move rfl ?_)
    refine WL.op rfl rfl (op_bytesStr (l := (xorTo s c k)) Try.underlying73 Try.underlying5 Try.underlying9 rfl (H2.arrR (i := 0) rfl) rfl ?_)
    refine WL.op rfl rfl (op_assign rfl ?_)
    refine WL.nil ?_
    refine WQ.next ?_
    refine WC.ret ?_
    refine WQ.out (.tmp rfl .nil) ?_
    exact ⟨by have hk : k = s.length := (by omega); subst hk; rw [xorTo_end]; rfl, H2.fr⟩
set_option maxRecDepth 100000 in
theorem macnew_ok (key : List UInt8) (w : World) (hk : key.length < 2 ^ 40) :
    Calls Try.prog 109 #[(str key)] w (fun e w' => ∃ m q v, e = .returned (ptr m 0) ∧ Own [] w w' [.blk m [(ptr q 0), (str (blockM key))] 185, .blk q [(vU32 (hst (xorL (blockM key) 54)).a), (vU32 (hst (xorL (blockM key) 54)).b), (vU32 (hst (xorL (blockM key) 54)).c), (vU32 (hst (xorL (blockM key) 54)).d), (vU32 (hst (xorL (blockM key) 54)).e), (vU32 (hst (xorL (blockM key) 54)).f), (vU32 (hst (xorL (blockM key) 54)).g), (vU32 (hst (xorL (blockM key) 54)).h), v, (vN (xorL (blockM key) 54).length)] 198, .row v 5 1 (hrest (xorL (blockM key) 54)).length ((hrest (xorL (blockM key) 54)).map vU8)]) := by
  refine enter (args := [(str key)]) Try.func109 rfl rfl ?_
  have H0 : Own [] w w [] := Own.start w []
  refine WC.seq ?_
  refine WC.region ?_
  refine WL.op rfl rfl (op_assign rfl ?_)
  refine WL.nil ?_
  refine WQ.next ?_
  refine WC.seq ?_
  refine WC.region ?_
  refine WL.op rfl rfl (op_callF Fa.C131 rfl ((new_ok _).mono (fun e w1 hq => ?_)))
  obtain ⟨q1, rfl, hq1⟩ := hq
  refine ⟨_, rfl, ?_⟩
  have H1 : Own [] w w1 [.blk q1 [(vU32 (hst ([] : List UInt8)).a), (vU32 (hst ([] : List UInt8)).b), (vU32 (hst ([] : List UInt8)).c), (vU32 (hst ([] : List UInt8)).d), (vU32 (hst ([] : List UInt8)).e), (vU32 (hst ([] : List UInt8)).f), (vU32 (hst ([] : List UInt8)).g), (vU32 (hst ([] : List UInt8)).h), (.slice none 0 0), (vN ([] : List UInt8).length)] 198, .row (.slice none 0 0) 5 1 (hrest ([] : List UInt8)).length (List.map vU8 (hrest ([] : List UInt8)))] := H0.splice [] [] [.blk q1 [(vU32 (hst ([] : List UInt8)).a), (vU32 (hst ([] : List UInt8)).b), (vU32 (hst ([] : List UInt8)).c), (vU32 (hst ([] : List UInt8)).d), (vU32 (hst ([] : List UInt8)).e), (vU32 (hst ([] : List UInt8)).f), (vU32 (hst ([] : List UInt8)).g), (vU32 (hst ([] : List UInt8)).h), (.slice none 0 0), (vN ([] : List UInt8).length)] 198, .row (.slice none 0 0) 5 1 (hrest ([] : List UInt8)).length (List.map vU8 (hrest ([] : List UInt8)))] rfl rfl hq1 (Fits.solid True.intro (Fits.solid True.intro Fits.nil))
  refine WL.op rfl rfl (op_move rfl ?_)
  refine WL.op rfl rfl (op_callF Fa.C132 rfl ((mblock_ok key _ hk).mono (fun e w2 hq => ?_)))
  obtain ⟨rfl, hf2⟩ := hq
  refine ⟨_, rfl, ?_⟩
  have H2 := H1.fr' hf2
  refine WL.op rfl rfl (op_build (cs := [_, _]) Fa.I185 Fa.PL185 rfl rfl ?_)
  refine WL.op rfl rfl (op_box H2 rfl rfl (fun b3 w3 H3 => ?_))
  refine WL.op rfl rfl (op_assign rfl ?_)
  refine WL.nil ?_
  refine WQ.next ?_
  refine WC.seq ?_
  refine WC.draw 10 Fa.M H3 (HW.op rfl (fun w1 H1 => op_move rfl ⟨rfl, Fr.refl _ _⟩) (HW.op rfl (fun w1 H1 => op_nilCheck rfl ⟨rfl, Fr.refl _ _⟩) (HW.op rfl (fun w1 H1 => op_fieldAddr rfl Fa.F185_0 ⟨rfl, Fr.refl _ _⟩) (HW.op rfl (fun w1 H1 => op_load rfl (H1.cell (i := 2) rfl rfl) Try.underlying182 rfl ⟨rfl, Fr.refl _ _⟩) (HW.op rfl (fun w1 H1 => op_move rfl ⟨rfl, Fr.refl _ _⟩) (HW.op rfl (fun w1 H1 => op_nilCheck rfl ⟨rfl, Fr.refl _ _⟩) (HW.op rfl (fun w1 H1 => op_fieldAddr rfl Fa.F185_1 ⟨rfl, Fr.refl _ _⟩) (HW.op rfl (fun w1 H1 => op_load rfl (H1.cell (i := 2) rfl rfl) Try.underlying9 rfl ⟨rfl, Fr.refl _ _⟩) (HW.op rfl (fun w1 H1 => op_callF Fa.C134 rfl ((padded_ok (blockM key) 54 _ (by rw [blockM_length]; decide)).mono (fun e w2 hq => ⟨_, hq.1, rfl, hq.2⟩))) (HW.flt (mk := fun bq => .slice (some ⟨bq.1, 0, none⟩) 1 1) (ent := fun bq => .row (.slice (some ⟨bq.1, 0, none⟩) 1 1) _ _ _ _) rfl (fun w1 _ => op_buildSlice (cs := [_]) (Own.start w1 []) Try.underlying23 Fa.I9 rfl rfl rfl rfl (by decide) (by decide) (fun bq w2 H2 => ⟨(bq, undef), rfl, H2, True.intro⟩))  HW.nil)))))))))) (by kernel_rfl) ?_
  intro β5 w5 H5
  refine WL.op rfl rfl (op_callF Fa.C133 rfl ((write_ok q1 (.slice none 0 0) (.slice (some ⟨(β5 9).1, 0, none⟩) 1 1) ([] : List UInt8) ([(xorL (blockM key) 54)]) _ _ (H5.part [0, 1] rfl rfl) (H5.stayR (I := [0, 1]) (k := 3) rfl rfl rfl) (by simp [xorL_length, blockM_length]) (by simp)).mono (fun e w6 hq => ?_)))
  obtain ⟨v6, rfl, hq6⟩ := hq
  refine ⟨_, rfl, ?_⟩
  have H6 : Own [] w w6 [.blk q1 [(vU32 (hst (([] : List UInt8) ++ [(xorL (blockM key) 54)].flatten)).a), (vU32 (hst (([] : List UInt8) ++ [(xorL (blockM key) 54)].flatten)).b), (vU32 (hst (([] : List UInt8) ++ [(xorL (blockM key) 54)].flatten)).c), (vU32 (hst (([] : List UInt8) ++ [(xorL (blockM key) 54)].flatten)).d), (vU32 (hst (([] : List UInt8) ++ [(xorL (blockM key) 54)].flatten)).e), (vU32 (hst (([] : List UInt8) ++ [(xorL (blockM key) 54)].flatten)).f), (vU32 (hst (([] : List UInt8) ++ [(xorL (blockM key) 54)].flatten)).g), (vU32 (hst (([] : List UInt8) ++ [(xorL (blockM key) 54)].flatten)).h), v6, (vN (([] : List UInt8) ++ [(xorL (blockM key) 54)].flatten).length)] 198, .row v6 5 1 (hrest (([] : List UInt8) ++ [(xorL (blockM key) 54)].flatten)).length (List.map vU8 (hrest (([] : List UInt8) ++ [(xorL (blockM key) 54)].flatten))), .blk b3 [(ptr q1 0), (str (blockM key))] 185, .row (.slice (some ⟨(β5 9).1, 0, none⟩) 1 1) 9 1 1 (List.map str [(xorL (blockM key) 54)])] := H5.splice [0, 1] [.blk q1 [(vU32 (hst (([] : List UInt8) ++ [(xorL (blockM key) 54)].flatten)).a), (vU32 (hst (([] : List UInt8) ++ [(xorL (blockM key) 54)].flatten)).b), (vU32 (hst (([] : List UInt8) ++ [(xorL (blockM key) 54)].flatten)).c), (vU32 (hst (([] : List UInt8) ++ [(xorL (blockM key) 54)].flatten)).d), (vU32 (hst (([] : List UInt8) ++ [(xorL (blockM key) 54)].flatten)).e), (vU32 (hst (([] : List UInt8) ++ [(xorL (blockM key) 54)].flatten)).f), (vU32 (hst (([] : List UInt8) ++ [(xorL (blockM key) 54)].flatten)).g), (vU32 (hst (([] : List UInt8) ++ [(xorL (blockM key) 54)].flatten)).h), v6, (vN (([] : List UInt8) ++ [(xorL (blockM key) 54)].flatten).length)] 198, .row v6 5 1 (hrest (([] : List UInt8) ++ [(xorL (blockM key) 54)].flatten)).length (List.map vU8 (hrest (([] : List UInt8) ++ [(xorL (blockM key) 54)].flatten)))] [] rfl rfl hq6 (Fits.solid True.intro (Fits.solid True.intro Fits.nil))
  refine WL.nil ?_
  refine WQ.next ?_
  refine WC.seq ?_
  refine WC.region ?_
  refine WL.op rfl rfl (op_move rfl ?_)
  refine WL.op rfl rfl (op_assign rfl ?_)
  refine WL.nil ?_
  refine WQ.next ?_
  refine WC.ret ?_
  refine WQ.out (.tmp rfl .nil) ?_
  exact ⟨_, _, _, rfl, (by have h : Own [] w w6 [.blk b3 [(ptr q1 0), (str (blockM key))] 185, .blk q1 [(vU32 (hst (([] : List UInt8) ++ [(xorL (blockM key) 54)].flatten)).a), (vU32 (hst (([] : List UInt8) ++ [(xorL (blockM key) 54)].flatten)).b), (vU32 (hst (([] : List UInt8) ++ [(xorL (blockM key) 54)].flatten)).c), (vU32 (hst (([] : List UInt8) ++ [(xorL (blockM key) 54)].flatten)).d), (vU32 (hst (([] : List UInt8) ++ [(xorL (blockM key) 54)].flatten)).e), (vU32 (hst (([] : List UInt8) ++ [(xorL (blockM key) 54)].flatten)).f), (vU32 (hst (([] : List UInt8) ++ [(xorL (blockM key) 54)].flatten)).g), (vU32 (hst (([] : List UInt8) ++ [(xorL (blockM key) 54)].flatten)).h), v6, (vN (([] : List UInt8) ++ [(xorL (blockM key) 54)].flatten).length)] 198, .row v6 5 1 (hrest (([] : List UInt8) ++ [(xorL (blockM key) 54)].flatten)).length (List.map vU8 (hrest (([] : List UInt8) ++ [(xorL (blockM key) 54)].flatten)))] := H6.sel [2, 0, 1] rfl rfl; rw [show ([] : List UInt8) ++ [(xorL (blockM key) 54)].flatten = (xorL (blockM key) 54) from by simp] at h; exact h)⟩
set_option maxRecDepth 100000 in
theorem macw_ok (m q : Nat) (v lv : Value) (B A : List UInt8) (ls : List (List UInt8)) (T : List Nat) (w : World) (H : Own T w w [.blk m [(ptr q 0), (str B)] 185, .blk q [(vU32 (hst A).a), (vU32 (hst A).b), (vU32 (hst A).c), (vU32 (hst A).d), (vU32 (hst A).e), (vU32 (hst A).f), (vU32 (hst A).g), (vU32 (hst A).h), v, (vN A.length)] 198, .row v 5 1 (hrest A).length ((hrest A).map vU8)]) {nl : Nat} (hA : ∀ w1, Fr T w w1 → Arr w1 lv 1 nl (ls.map str)) (hb : (A ++ ls.flatten).length < 2 ^ 40) (hn : ls.length < 2 ^ 40) :
    Calls Try.prog 110 #[(ptr m 0), lv] w (fun e w' => ∃ v, e = .returned (vN 0) ∧ Own T w w' [.blk m [(ptr q 0), (str B)] 185, .blk q [(vU32 (hst (A ++ ls.flatten)).a), (vU32 (hst (A ++ ls.flatten)).b), (vU32 (hst (A ++ ls.flatten)).c), (vU32 (hst (A ++ ls.flatten)).d), (vU32 (hst (A ++ ls.flatten)).e), (vU32 (hst (A ++ ls.flatten)).f), (vU32 (hst (A ++ ls.flatten)).g), (vU32 (hst (A ++ ls.flatten)).h), v, (vN (A ++ ls.flatten).length)] 198, .row v 5 1 (hrest (A ++ ls.flatten)).length ((hrest (A ++ ls.flatten)).map vU8)]) := by
  refine enter (args := [(ptr m 0), lv]) Try.func110 rfl rfl ?_
  refine WC.seq ?_
  refine WC.region ?_
  refine WL.op rfl rfl (op_assign rfl ?_)
  refine WL.nil ?_
  refine WQ.next ?_
  refine WC.seq ?_
  refine WC.seq ?_
  refine WC.region ?_
  refine WL.op rfl rfl (op_move rfl ?_)
  refine WL.op rfl rfl (op_eqlPN Fa.PT157 rfl rfl ?_)
  refine WL.nil ?_
  refine WQ.next ?_
  refine WC.no rfl rfl ?_
  refine WC.skip ?_
  refine WQ.next ?_
  refine WC.seq ?_
  refine WC.region ?_
  refine WL.op rfl rfl (op_move rfl ?_)
  refine WL.op rfl rfl (op_nilCheck rfl ?_)
  refine WL.op rfl rfl (op_fieldAddr rfl Fa.F185_0 ?_)
  refine WL.op rfl rfl (op_load rfl (H.cell (i := 0) rfl rfl) Try.underlying182 rfl ?_)
  refine WL.op rfl rfl (op_move rfl ?_)
  refine WL.op rfl rfl (op_callF Fa.C133 rfl ((write_ok q v lv A ls _ _ (H.part [1, 2] rfl rfl) (fun w1 hf => (hA) w1 (H.frPart (I := [1, 2]) rfl hf)) hb hn).mono (fun e w1 hq => ?_)))
  obtain ⟨v1, rfl, hq1⟩ := hq
  refine ⟨_, rfl, ?_⟩
  have H1 : Own T w w1 [.blk m [(ptr q 0), (str B)] 185, .blk q [(vU32 (hst (A ++ ls.flatten)).a), (vU32 (hst (A ++ ls.flatten)).b), (vU32 (hst (A ++ ls.flatten)).c), (vU32 (hst (A ++ ls.flatten)).d), (vU32 (hst (A ++ ls.flatten)).e), (vU32 (hst (A ++ ls.flatten)).f), (vU32 (hst (A ++ ls.flatten)).g), (vU32 (hst (A ++ ls.flatten)).h), v1, (vN (A ++ ls.flatten).length)] 198, .row v1 5 1 (hrest (A ++ ls.flatten)).length (List.map vU8 (hrest (A ++ ls.flatten)))] := H.splice [1, 2] [.blk q [(vU32 (hst (A ++ ls.flatten)).a), (vU32 (hst (A ++ ls.flatten)).b), (vU32 (hst (A ++ ls.flatten)).c), (vU32 (hst (A ++ ls.flatten)).d), (vU32 (hst (A ++ ls.flatten)).e), (vU32 (hst (A ++ ls.flatten)).f), (vU32 (hst (A ++ ls.flatten)).g), (vU32 (hst (A ++ ls.flatten)).h), v1, (vN (A ++ ls.flatten).length)] 198, .row v1 5 1 (hrest (A ++ ls.flatten)).length (List.map vU8 (hrest (A ++ ls.flatten)))] [] rfl rfl hq1 (Fits.solid True.intro (Fits.solid True.intro Fits.nil))
  refine WL.op rfl rfl (op_assign rfl ?_)
  refine WL.nil ?_
  refine WQ.next ?_
  refine WC.ret ?_
  refine WQ.out (.tmp rfl .nil) ?_
  exact ⟨_, rfl, H1⟩
set_option maxRecDepth 100000 in
theorem macs_ok (m q : Nat) (v : Value) (B A : List UInt8) (w : World) (hM : cellsAt w m [(ptr q 0), (str B)]) (hQ : cellsAt w q [(vU32 (hst A).a), (vU32 (hst A).b), (vU32 (hst A).c), (vU32 (hst A).d), (vU32 (hst A).e), (vU32 (hst A).f), (vU32 (hst A).g), (vU32 (hst A).h), v, (vN A.length)]) (hV : Arr w v 1 (hrest A).length (List.map vU8 (hrest A))) (hb : A.length < 2 ^ 40) (hB : B.length < 2 ^ 30) :
    Calls Try.prog 111 #[(ptr m 0)] w (fun e w' => e = .returned (str (sha (xorL B 92 ++ sha A))) ∧ Fr [] w w') := by
  refine enter (args := [(ptr m 0)]) Try.func111 rfl rfl ?_
  have H0 : Own [] w w [Ent.bo m [(ptr q 0), (str B)], Ent.bo q [(vU32 (hst A).a), (vU32 (hst A).b), (vU32 (hst A).c), (vU32 (hst A).d), (vU32 (hst A).e), (vU32 (hst A).f), (vU32 (hst A).g), (vU32 (hst A).h), v, (vN A.length)], Ent.ar v 1 (hrest A).length (List.map vU8 (hrest A))] := ((((Own.start w []).oldB hM).oldB hQ).oldA hV)
  refine WC.seq ?_
  refine WC.region ?_
  refine WL.op rfl rfl (op_assign rfl ?_)
  refine WL.nil ?_
  refine WQ.next ?_
  refine WC.seq ?_
  refine WC.seq ?_
  refine WC.region ?_
  refine WL.op rfl rfl (op_move rfl ?_)
  refine WL.op rfl rfl (op_eqlPN Fa.PT157 rfl rfl ?_)
  refine WL.nil ?_
  refine WQ.next ?_
  refine WC.no rfl rfl ?_
  refine WC.skip ?_
  refine WQ.next ?_
  refine WC.seq ?_
  refine WC.region ?_
  refine WL.op rfl rfl (op_callF Fa.C131 rfl ((new_ok _).mono (fun e w1 hq => ?_)))
  obtain ⟨q1, rfl, hq1⟩ := hq
  refine ⟨_, rfl, ?_⟩
  have H1 : Own [] w w1 [Ent.bo m [(ptr q 0), (str B)], Ent.bo q [(vU32 (hst A).a), (vU32 (hst A).b), (vU32 (hst A).c), (vU32 (hst A).d), (vU32 (hst A).e), (vU32 (hst A).f), (vU32 (hst A).g), (vU32 (hst A).h), v, (vN A.length)], Ent.ar v 1 (hrest A).length (List.map vU8 (hrest A)), .blk q1 [(vU32 (hst ([] : List UInt8)).a), (vU32 (hst ([] : List UInt8)).b), (vU32 (hst ([] : List UInt8)).c), (vU32 (hst ([] : List UInt8)).d), (vU32 (hst ([] : List UInt8)).e), (vU32 (hst ([] : List UInt8)).f), (vU32 (hst ([] : List UInt8)).g), (vU32 (hst ([] : List UInt8)).h), (.slice none 0 0), (vN ([] : List UInt8).length)] 198, .row (.slice none 0 0) 5 1 (hrest ([] : List UInt8)).length (List.map vU8 (hrest ([] : List UInt8)))] := H0.splice [] [] [.blk q1 [(vU32 (hst ([] : List UInt8)).a), (vU32 (hst ([] : List UInt8)).b), (vU32 (hst ([] : List UInt8)).c), (vU32 (hst ([] : List UInt8)).d), (vU32 (hst ([] : List UInt8)).e), (vU32 (hst ([] : List UInt8)).f), (vU32 (hst ([] : List UInt8)).g), (vU32 (hst ([] : List UInt8)).h), (.slice none 0 0), (vN ([] : List UInt8).length)] 198, .row (.slice none 0 0) 5 1 (hrest ([] : List UInt8)).length (List.map vU8 (hrest ([] : List UInt8)))] rfl rfl hq1 (Fits.solid True.intro (Fits.solid True.intro Fits.nil))
  refine WL.op rfl rfl (op_assign rfl ?_)
  refine WL.nil ?_
  refine WQ.next ?_
  refine WC.seq ?_
  refine WC.draw 12 Fa.M H1 (HW.op rfl (fun w1 H1 => op_move rfl ⟨rfl, Fr.refl _ _⟩) (HW.op rfl (fun w1 H1 => op_move rfl ⟨rfl, Fr.refl _ _⟩) (HW.op rfl (fun w1 H1 => op_nilCheck rfl ⟨rfl, Fr.refl _ _⟩) (HW.op rfl (fun w1 H1 => op_fieldAddr rfl Fa.F185_1 ⟨rfl, Fr.refl _ _⟩) (HW.op rfl (fun w1 H1 => op_load rfl (H1.cellO (i := 0) rfl rfl) Try.underlying9 rfl ⟨rfl, Fr.refl _ _⟩) (HW.op rfl (fun w1 H1 => op_callF Fa.C134 rfl ((padded_ok B 92 _ (by omega)).mono (fun e w2 hq => ⟨_, hq.1, rfl, hq.2⟩))) (HW.op rfl (fun w1 H1 => op_move rfl ⟨rfl, Fr.refl _ _⟩) (HW.op rfl (fun w1 H1 => op_nilCheck rfl ⟨rfl, Fr.refl _ _⟩) (HW.op rfl (fun w1 H1 => op_fieldAddr rfl Fa.F185_0 ⟨rfl, Fr.refl _ _⟩) (HW.op rfl (fun w1 H1 => op_load rfl (H1.cellO (i := 0) rfl rfl) Try.underlying182 rfl ⟨rfl, Fr.refl _ _⟩) (HW.op rfl (fun w1 H1 => op_callF Fa.C135 rfl ((hsum_ok q v A _ (H1.cellsAtO (i := 1) rfl) (H1.arrO (i := 2) rfl) (by first | exact hb | (simp [xorL_length, sha_length]; omega))).mono (fun e w2 hq => ⟨_, hq.1, rfl, hq.2⟩))) (HW.flt (mk := fun bq => .slice (some ⟨bq.1, 0, none⟩) 2 2) (ent := fun bq => .row (.slice (some ⟨bq.1, 0, none⟩) 2 2) _ _ _ _) rfl (fun w1 _ => op_buildSlice (cs := [_, _]) (Own.start w1 []) Try.underlying23 Fa.I9 rfl rfl rfl rfl (by decide) (by decide) (fun bq w2 H2 => ⟨(bq, undef), rfl, H2, True.intro⟩))  HW.nil)))))))))))) (by kernel_rfl) ?_
  intro β4 w4 H4
  refine WL.op rfl rfl (op_callF Fa.C133 rfl ((write_ok q1 (.slice none 0 0) (.slice (some ⟨(β4 11).1, 0, none⟩) 2 2) ([] : List UInt8) ([(xorL B 92), (sha A)]) _ _ (H4.part [3, 4] rfl rfl) (H4.stayR (I := [3, 4]) (k := 5) rfl rfl rfl) (by simp [xorL_length, sha_length]; omega) (by simp)).mono (fun e w5 hq => ?_)))
  obtain ⟨v5, rfl, hq5⟩ := hq
  refine ⟨_, rfl, ?_⟩
  have H5 : Own [] w w5 [Ent.bo m [(ptr q 0), (str B)], Ent.bo q [(vU32 (hst A).a), (vU32 (hst A).b), (vU32 (hst A).c), (vU32 (hst A).d), (vU32 (hst A).e), (vU32 (hst A).f), (vU32 (hst A).g), (vU32 (hst A).h), v, (vN A.length)], Ent.ar v 1 (hrest A).length (List.map vU8 (hrest A)), .blk q1 [(vU32 (hst (([] : List UInt8) ++ [(xorL B 92), (sha A)].flatten)).a), (vU32 (hst (([] : List UInt8) ++ [(xorL B 92), (sha A)].flatten)).b), (vU32 (hst (([] : List UInt8) ++ [(xorL B 92), (sha A)].flatten)).c), (vU32 (hst (([] : List UInt8) ++ [(xorL B 92), (sha A)].flatten)).d), (vU32 (hst (([] : List UInt8) ++ [(xorL B 92), (sha A)].flatten)).e), (vU32 (hst (([] : List UInt8) ++ [(xorL B 92), (sha A)].flatten)).f), (vU32 (hst (([] : List UInt8) ++ [(xorL B 92), (sha A)].flatten)).g), (vU32 (hst (([] : List UInt8) ++ [(xorL B 92), (sha A)].flatten)).h), v5, (vN (([] : List UInt8) ++ [(xorL B 92), (sha A)].flatten).length)] 198, .row v5 5 1 (hrest (([] : List UInt8) ++ [(xorL B 92), (sha A)].flatten)).length (List.map vU8 (hrest (([] : List UInt8) ++ [(xorL B 92), (sha A)].flatten))), .row (.slice (some ⟨(β4 11).1, 0, none⟩) 2 2) 9 1 2 (List.map str [(xorL B 92), (sha A)])] := H4.splice [3, 4] [.blk q1 [(vU32 (hst (([] : List UInt8) ++ [(xorL B 92), (sha A)].flatten)).a), (vU32 (hst (([] : List UInt8) ++ [(xorL B 92), (sha A)].flatten)).b), (vU32 (hst (([] : List UInt8) ++ [(xorL B 92), (sha A)].flatten)).c), (vU32 (hst (([] : List UInt8) ++ [(xorL B 92), (sha A)].flatten)).d), (vU32 (hst (([] : List UInt8) ++ [(xorL B 92), (sha A)].flatten)).e), (vU32 (hst (([] : List UInt8) ++ [(xorL B 92), (sha A)].flatten)).f), (vU32 (hst (([] : List UInt8) ++ [(xorL B 92), (sha A)].flatten)).g), (vU32 (hst (([] : List UInt8) ++ [(xorL B 92), (sha A)].flatten)).h), v5, (vN (([] : List UInt8) ++ [(xorL B 92), (sha A)].flatten).length)] 198, .row v5 5 1 (hrest (([] : List UInt8) ++ [(xorL B 92), (sha A)].flatten)).length (List.map vU8 (hrest (([] : List UInt8) ++ [(xorL B 92), (sha A)].flatten)))] [] rfl rfl hq5 (Fits.solid True.intro (Fits.solid True.intro Fits.nil))
  refine WL.nil ?_
  refine WQ.next ?_
  refine WC.seq ?_
  refine WC.region ?_
  refine WL.op rfl rfl (op_move rfl ?_)
  refine WL.op rfl rfl (op_callF Fa.C135 rfl ((hsum_ok q1 v5 (([] : List UInt8) ++ [(xorL B 92), (sha A)].flatten) _ (H5.cellsAt (i := 3) rfl) (H5.arrR (i := 4) rfl) (by first | exact hb | (simp [xorL_length, sha_length]; omega))).mono (fun e w6 hq => ?_)))
  obtain ⟨rfl, hf6⟩ := hq
  refine ⟨_, rfl, ?_⟩
  have H6 := H5.fr' hf6
  refine WL.op rfl rfl (op_assign rfl ?_)
  refine WL.nil ?_
  refine WQ.next ?_
  refine WC.ret ?_
  refine WQ.out (.tmp rfl .nil) ?_
  exact ⟨by simp [tup], H6.fr⟩
set_option maxRecDepth 100000 in
theorem msum_ok (key text : List UInt8) (w : World) (hk : key.length < 2 ^ 40) (ht : text.length < 2 ^ 39) :
    Calls Try.prog 65 #[(str key), (str text)] w (fun e w' => e = .returned (str (mac key text)) ∧ Fr [] w w') := by
  refine enter (args := [(str key), (str text)]) Try.func65 rfl rfl ?_
  have H0 : Own [] w w [] := Own.start w []
  refine WC.seq ?_
  refine WC.region ?_
  refine WL.op rfl rfl (op_assign rfl ?_)
  refine WL.nil ?_
  refine WQ.next ?_
  refine WC.seq ?_
  refine WC.region ?_
  refine WL.op rfl rfl (op_move rfl ?_)
  refine WL.op rfl rfl (op_callF Fa.C109 rfl ((macnew_ok key _ hk).mono (fun e w1 hq => ?_)))
  obtain ⟨m1, q1, v1, rfl, hq1⟩ := hq
  refine ⟨_, rfl, ?_⟩
  have H1 : Own [] w w1 [.blk m1 [(ptr q1 0), (str (blockM key))] 185, .blk q1 [(vU32 (hst (xorL (blockM key) 54)).a), (vU32 (hst (xorL (blockM key) 54)).b), (vU32 (hst (xorL (blockM key) 54)).c), (vU32 (hst (xorL (blockM key) 54)).d), (vU32 (hst (xorL (blockM key) 54)).e), (vU32 (hst (xorL (blockM key) 54)).f), (vU32 (hst (xorL (blockM key) 54)).g), (vU32 (hst (xorL (blockM key) 54)).h), v1, (vN (xorL (blockM key) 54).length)] 198, .row v1 5 1 (hrest (xorL (blockM key) 54)).length (List.map vU8 (hrest (xorL (blockM key) 54)))] := H0.splice [] [] [.blk m1 [(ptr q1 0), (str (blockM key))] 185, .blk q1 [(vU32 (hst (xorL (blockM key) 54)).a), (vU32 (hst (xorL (blockM key) 54)).b), (vU32 (hst (xorL (blockM key) 54)).c), (vU32 (hst (xorL (blockM key) 54)).d), (vU32 (hst (xorL (blockM key) 54)).e), (vU32 (hst (xorL (blockM key) 54)).f), (vU32 (hst (xorL (blockM key) 54)).g), (vU32 (hst (xorL (blockM key) 54)).h), v1, (vN (xorL (blockM key) 54).length)] 198, .row v1 5 1 (hrest (xorL (blockM key) 54)).length (List.map vU8 (hrest (xorL (blockM key) 54)))] rfl rfl hq1 (Fits.solid True.intro (Fits.solid True.intro (Fits.solid True.intro Fits.nil)))
  refine WL.op rfl rfl (op_assign rfl ?_)
  refine WL.nil ?_
  refine WQ.next ?_
  refine WC.seq ?_
  refine WC.region ?_
  refine WL.op rfl rfl (op_move rfl ?_)
  refine WL.op rfl rfl (op_move rfl ?_)
  refine WL.op rfl rfl (op_buildSlice (cs := [_]) H1 Try.underlying23 Fa.I9 rfl rfl rfl rfl (by decide) (by decide) (fun b2 w2 H2 => ?_))
  refine WL.op rfl rfl (op_callF Fa.C110 rfl ((macw_ok m1 q1 v1 (.slice (some ⟨b2, 0, none⟩) 1 1) (blockM key) (xorL (blockM key) 54) ([text]) _ _ (H2.part [0, 1, 2] rfl rfl) (H2.stayR (I := [0, 1, 2]) (k := 3) rfl rfl rfl) (by simp [xorL_length, blockM_length]; omega) (by simp)).mono (fun e w3 hq => ?_)))
  obtain ⟨v3, rfl, hq3⟩ := hq
  refine ⟨_, rfl, ?_⟩
  have H3 : Own [] w w3 [.blk m1 [(ptr q1 0), (str (blockM key))] 185, .blk q1 [(vU32 (hst ((xorL (blockM key) 54) ++ [text].flatten)).a), (vU32 (hst ((xorL (blockM key) 54) ++ [text].flatten)).b), (vU32 (hst ((xorL (blockM key) 54) ++ [text].flatten)).c), (vU32 (hst ((xorL (blockM key) 54) ++ [text].flatten)).d), (vU32 (hst ((xorL (blockM key) 54) ++ [text].flatten)).e), (vU32 (hst ((xorL (blockM key) 54) ++ [text].flatten)).f), (vU32 (hst ((xorL (blockM key) 54) ++ [text].flatten)).g), (vU32 (hst ((xorL (blockM key) 54) ++ [text].flatten)).h), v3, (vN ((xorL (blockM key) 54) ++ [text].flatten).length)] 198, .row v3 5 1 (hrest ((xorL (blockM key) 54) ++ [text].flatten)).length (List.map vU8 (hrest ((xorL (blockM key) 54) ++ [text].flatten))), .row (.slice (some ⟨b2, 0, none⟩) 1 1) 9 1 1 (List.map str [text])] := H2.splice [0, 1, 2] [.blk m1 [(ptr q1 0), (str (blockM key))] 185, .blk q1 [(vU32 (hst ((xorL (blockM key) 54) ++ [text].flatten)).a), (vU32 (hst ((xorL (blockM key) 54) ++ [text].flatten)).b), (vU32 (hst ((xorL (blockM key) 54) ++ [text].flatten)).c), (vU32 (hst ((xorL (blockM key) 54) ++ [text].flatten)).d), (vU32 (hst ((xorL (blockM key) 54) ++ [text].flatten)).e), (vU32 (hst ((xorL (blockM key) 54) ++ [text].flatten)).f), (vU32 (hst ((xorL (blockM key) 54) ++ [text].flatten)).g), (vU32 (hst ((xorL (blockM key) 54) ++ [text].flatten)).h), v3, (vN ((xorL (blockM key) 54) ++ [text].flatten).length)] 198, .row v3 5 1 (hrest ((xorL (blockM key) 54) ++ [text].flatten)).length (List.map vU8 (hrest ((xorL (blockM key) 54) ++ [text].flatten)))] [] rfl rfl hq3 (Fits.solid True.intro (Fits.solid True.intro (Fits.solid True.intro Fits.nil)))
  refine WL.nil ?_
  refine WQ.next ?_
  refine WC.seq ?_
  refine WC.region ?_
  refine WL.op rfl rfl (op_move rfl ?_)
  refine WL.op rfl rfl (op_callF Fa.C111 rfl ((macs_ok m1 q1 v3 (blockM key) ((xorL (blockM key) 54) ++ [text].flatten) _ (H3.cellsAt (i := 0) rfl) (H3.cellsAt (i := 1) rfl) (H3.arrR (i := 2) rfl) (by simp [xorL_length, blockM_length]; omega) (by rw [blockM_length]; decide)).mono (fun e w4 hq => ?_)))
  obtain ⟨rfl, hf4⟩ := hq
  refine ⟨_, rfl, ?_⟩
  have H4 := H3.fr' hf4
  refine WL.op rfl rfl (op_assign rfl ?_)
  refine WL.nil ?_
  refine WQ.next ?_
  refine WC.ret ?_
  refine WQ.out (.tmp rfl .nil) ?_
  exact ⟨by simp [tup, mac], H4.fr⟩
set_option maxRecDepth 100000 in
theorem mcheck_ok (key text s : List UInt8) (w : World) (hk : key.length < 2 ^ 40) (ht : text.length < 2 ^ 39) :
    Calls Try.prog 113 #[(str key), (str text), (str s)] w (fun e w' => e = .returned (.bool (decide (s = mac key text))) ∧ Fr [] w w') := by
  refine enter (args := [(str key), (str text), (str s)]) Try.func113 rfl rfl ?_
  have H0 : Own [] w w [] := Own.start w []
  have hl := mac_length key text
  refine WC.seq ?_
  refine WC.region ?_
  refine WL.op rfl rfl (op_assign rfl ?_)
  refine WL.nil ?_
  refine WQ.next ?_
  refine WC.seq ?_
  refine WC.region ?_
  refine WL.op rfl rfl (op_move rfl ?_)
  refine WL.op rfl rfl (op_move rfl ?_)
  refine WL.op rfl rfl (op_callF Fa.C65 rfl ((msum_ok key text _ hk ht).mono (fun e w1 hq => ?_)))
  obtain ⟨rfl, hf1⟩ := hq
  refine ⟨_, rfl, ?_⟩
  have H1 := H0.fr' hf1
  refine WL.op rfl rfl (op_assign rfl ?_)
  refine WL.nil ?_
  refine WQ.next ?_
  refine WC.seq ?_
  refine WC.seq ?_
  refine WC.region ?_
  refine WL.op rfl rfl (op_move rfl ?_)
  refine WL.op rfl rfl (op_lenStr Try.underlying9 rfl ?_)
  refine WL.op rfl rfl (op_move rfl ?_)
  refine WL.op rfl rfl (op_lenStr Try.underlying9 rfl ?_)
  refine WL.op rfl rfl (op_neqN rfl rfl ?_)
  refine WL.nil ?_
  refine WQ.next ?_
  refine WC.cond rfl (fun (hb2 : (decide (s.length ≠ (mac key text).length)) = true) => ?_) (fun (hb2 : (decide (s.length ≠ (mac key text).length)) = false) => ?_)
  ·
    have hc2 := of_decide_eq_true hb2
    refine WC.seq ?_
    refine WC.region ?_
    refine WL.op rfl rfl (op_assign rfl ?_)
    refine WL.nil ?_
    refine WQ.next ?_
    refine WC.ret ?_
    refine WQ.thenRet ?_
    refine WQ.out (.tmp rfl .nil) ?_
    exact ⟨by rw [ne_of_length hc2]; rfl, H1.fr⟩
  ·
    have hc2 := of_decide_eq_false hb2
    refine WC.skip ?_
    refine WQ.next ?_
    refine WC.seq ?_
    refine WC.region ?_
    refine WL.op rfl rfl (op_assign rfl ?_)
    refine WL.nil ?_
    refine WQ.next ?_
    refine WC.seq ?_
    refine WC.seq ?_
    refine WC.region ?_
    refine WL.op rfl rfl (op_move rfl ?_)
    refine WL.op rfl rfl (op_lenStr Try.underlying9 rfl ?_)
    refine WL.op rfl rfl (op_move rfl ?_)
    refine WL.nil ?_
    refine WQ.next ?_
    refine WC.block ?_
    refine WC.loop (α := Nat) (fun k => [(2, (str s)), (7, (str (mac key text))), (8, (vU8 (orTo s (mac key text) k))), (19, (vN (mac key text).length)), (20, (vN k))]) (fun k w' => (k ≤ (mac key text).length) ∧ Own [] w w' []) (fun k => (mac key text).length - k) 0 ⟨(by omega), H1⟩ ⟨rfl, rfl, rfl, rfl, rfl, trivial⟩ ?_
    rintro k w3 ⟨hinv, H3⟩
    show WC _ _ _ _ _ [(2, (str s)), (7, (str (mac key text))), (8, (vU8 (orTo s (mac key text) k))), (19, (vN (mac key text).length)), (20, (vN k))] _
    refine WC.seq ?_
    refine WC.region ?_
    refine WL.op rfl rfl (op_lssN rfl rfl ?_)
    refine WL.nil ?_
    refine WQ.next ?_
    refine WC.seq ?_
    refine WC.cond rfl (fun (hb4 : (decide (k < (mac key text).length)) = true) => ?_) (fun (hb4 : (decide (k < (mac key text).length)) = false) => ?_)
    ·
      have hc4 := of_decide_eq_true hb4
      refine WC.skip ?_
      refine WQ.next ?_
      refine WC.seq ?_
      refine WC.block ?_
      refine WC.seq ?_
      refine WC.region ?_
      refine WL.op rfl rfl (op_move rfl ?_)
      refine WL.op rfl rfl (op_assign rfl ?_)
      refine WL.nil ?_
      refine WQ.next ?_
      refine WC.draw 10 Fa.M H3 (HW.op rfl (fun w1 H1 => op_move rfl ⟨rfl, Fr.refl _ _⟩) (HW.op rfl (fun w1 H1 => op_move rfl ⟨rfl, Fr.refl _ _⟩) (HW.op rfl (fun w1 H1 => op_move rfl ⟨rfl, Fr.refl _ _⟩) (HW.op rfl (fun w1 H1 => op_indexStrD Try.underlying9 rfl rfl (by omega) ⟨rfl, Fr.refl _ _⟩) (HW.op rfl (fun w1 H1 => op_move rfl ⟨rfl, Fr.refl _ _⟩) (HW.op rfl (fun w1 H1 => op_move rfl ⟨rfl, Fr.refl _ _⟩) (HW.op rfl (fun w1 H1 => op_indexStrD Try.underlying9 rfl rfl (by omega) ⟨rfl, Fr.refl _ _⟩) (HW.op rfl (fun w1 H1 => op_xorU8 rfl rfl ⟨rfl, Fr.refl _ _⟩) (HW.op rfl (fun w1 H1 => op_orU8 rfl rfl ⟨rfl, Fr.refl _ _⟩) (HW.op rfl (fun w1 H1 => op_assign rfl ⟨rfl, Fr.refl _ _⟩)  HW.nil)))))))))) (by kernel_rfl) ?_
      intro β5 w5 H5
      refine WL.nil ?_
      refine WQ.inNormal ?_
      refine WQ.next ?_
      refine WC.region ?_
      refine WL.op rfl rfl (op_addN (b := 1) rfl rfl (by omega) ?_)
      refine WL.op rfl rfl (op_move rfl ?_)
      refine WL.nil ?_
      exact WQ.round (k + 1) ⟨(by omega), H5⟩ ⟨rfl, rfl, rfl, rfl, rfl, trivial⟩ (by omega)
    ·
      have hc4 := of_decide_eq_false hb4
      refine WC.exit ?_
      refine WQ.thenExit ?_
      refine WQ.thenExit ?_
      refine WQ.inHere ?_
      refine WQ.next ?_
      refine WC.seq ?_
      refine WC.region ?_
      refine WL.op rfl rfl (op_move rfl ?_)
      refine WL.op rfl rfl (op_eqlU8 (b := 0) rfl rfl ?_)
      refine WL.op rfl rfl (op_assign rfl ?_)
      refine WL.nil ?_
      refine WQ.next ?_
      refine WC.ret ?_
      refine WQ.out (.tmp rfl .nil) ?_
      exact ⟨by have hk2 : k = (mac key text).length := (by omega); subst hk2; rw [orTo_eq (by omega)]; rfl, H3.fr⟩
set_option maxRecDepth 100000 in
theorem rBlock_ok (key : List UInt8) (w : World) (hk : key.length < 2 ^ 40) :
    Calls Try.prog 114 #[(str key)] w (fun e w' => e = .returned (str (blockM key)) ∧ Fr [] w w') := by
  refine enter (args := [(str key)]) Try.func114 rfl rfl ?_
  have H0 : Own [] w w [] := Own.start w []
  refine WC.seq ?_
  refine WC.region ?_
  refine WL.op rfl rfl (op_assign rfl ?_)
  refine WL.nil ?_
  refine WQ.next ?_
  refine WC.seq ?_
  refine WC.seq ?_
  refine WC.region ?_
  refine WL.op rfl rfl (op_move rfl ?_)
  refine WL.op rfl rfl (op_lenStr Try.underlying9 rfl ?_)
  refine WL.op rfl rfl (op_gtrN (b := 64) rfl rfl ?_)
  refine WL.nil ?_
  refine WQ.next ?_
  refine WC.cond rfl (fun (hb1 : (decide (key.length > 64)) = true) => ?_) (fun (hb1 : (decide (key.length > 64)) = false) => ?_)
  ·
    have hc1 := of_decide_eq_true hb1
    have hl := sha_length key
    refine WC.region ?_
    refine WL.op rfl rfl (op_move rfl ?_)
    refine WL.op rfl rfl (op_callF Fa.C115 rfl ((rsum_ok key _ hk).mono (fun e w2 hq => ?_)))
    obtain ⟨rfl, hf2⟩ := hq
    refine ⟨_, rfl, ?_⟩
    have H2 := H0.fr' hf2
    refine WL.op rfl rfl (op_assign rfl ?_)
    refine WL.nil ?_
    refine WQ.next ?_
    refine WC.seq ?_
    refine WC.region ?_
    refine WL.op rfl rfl (op_move rfl ?_)
    refine WL.op rfl rfl (op_move rfl ?_)
    refine WL.op rfl rfl (op_lenStr Try.underlying9 rfl ?_)
    refine WL.op rfl rfl (op_subN (a := 64) rfl rfl (by omega) (by omega) ?_)
    refine WL.op rfl rfl (op_makeSliceM (f := vU8) (c := 0) H2 Try.underlying73 Fa.I5 rfl rfl (by omega) (by omega) (fun b3 w3 H3 => ?_))
    refine WL.op rfl rfl (op_bytesStr (l := (List.replicate (64 - (sha key).length) 0)) Try.underlying73 Try.underlying5 Try.underlying9 rfl (H3.arrR (i := 0) rfl) rfl ?_)
    refine WL.op rfl rfl (op_addStr rfl rfl (by first | omega | (rw [List.length_append]; omega) | (simp; omega)) ?_)
    refine WL.op rfl rfl (op_assign rfl ?_)
    refine WL.nil ?_
    refine WQ.next ?_
    refine WC.ret ?_
    refine WQ.out (.tmp rfl .nil) ?_
    exact ⟨by rw [blockM, keyB, if_pos hc1]; rfl, H3.fr⟩
  ·
    have hc1 := of_decide_eq_false hb1
    refine WC.skip ?_
    refine WQ.next ?_
    refine WC.seq ?_
    refine WC.region ?_
    refine WL.op rfl rfl (op_move rfl ?_)
    refine WL.op rfl rfl (op_move rfl ?_)
    refine WL.op rfl rfl (op_lenStr Try.underlying9 rfl ?_)
    refine WL.op rfl rfl (op_subN (a := 64) rfl rfl (by omega) (by omega) ?_)
    refine WL.op rfl rfl (op_makeSliceM (f := vU8) (c := 0) H0 Try.underlying73 Fa.I5 rfl rfl (by omega) (by omega) (fun b4 w4 H4 => ?_))
    refine WL.op rfl rfl (op_bytesStr (l := (List.replicate (64 - key.length) 0)) Try.underlying73 Try.underlying5 Try.underlying9 rfl (H4.arrR (i := 0) rfl) rfl ?_)
    refine WL.op rfl rfl (op_addStr rfl rfl (by first | omega | (rw [List.length_append]; omega) | (simp; omega)) ?_)
    refine WL.op rfl rfl (op_assign rfl ?_)
    refine WL.nil ?_
    refine WQ.next ?_
    refine WC.ret ?_
    refine WQ.out (.tmp rfl .nil) ?_
    exact ⟨by rw [blockM, keyB, if_neg hc1]; rfl, H4.fr⟩
set_option maxRecDepth 100000 in
theorem with_ok (s : List UInt8) (c : UInt8) (w : World) (hs : s.length < 2 ^ 40) :
    Calls Try.prog 116 #[(str s), (vU8 c)] w (fun e w' => e = .returned (str (xorL s c)) ∧ Fr [] w w') := by
  refine enter (args := [(str s), (vU8 c)]) Try.func116 rfl rfl ?_
  have H0 : Own [] w w [] := Own.start w []
  refine WC.seq ?_
  refine WC.region ?_
  refine WL.op rfl rfl (op_assign rfl ?_)
  refine WL.nil ?_
  refine WQ.next ?_
  refine WC.seq ?_
  refine WC.region ?_
  refine WL.op rfl rfl (op_assign rfl ?_)
  have H1 := H0.nilRow 5 1
  refine WL.nil ?_
  refine WQ.next ?_
  refine WC.seq ?_
  refine WC.seq ?_
  refine WC.region ?_
  refine WL.op rfl rfl (op_assign rfl ?_)
  refine WL.nil ?_
  refine WQ.next ?_
  refine WC.block ?_
  refine WC.loop (α := Nat × Value) (fun (k, v) => [(0, (str s)), (1, (vU8 c)), (5, v), (6, (vN k))]) (fun (k, v) w' => (k ≤ s.length) ∧ Own [] w w' [.row v 5 1 k (List.map vU8 (withTo s c k))]) (fun (k, v) => s.length - k) (0, (.slice none 0 0)) ⟨(by omega), H1⟩ ⟨rfl, rfl, rfl, rfl, trivial⟩ ?_
  rintro ⟨k, v⟩ w2 ⟨hinv, H2⟩
  show WC _ _ _ _ _ [(0, (str s)), (1, (vU8 c)), (5, v), (6, (vN k))] _
  refine WC.seq ?_
  refine WC.seq ?_
  refine WC.region ?_
  refine WL.op rfl rfl (op_move rfl ?_)
  refine WL.op rfl rfl (op_move rfl ?_)
  refine WL.op rfl rfl (op_lenStr Try.underlying9 rfl ?_)
  refine WL.op rfl rfl (op_lssN rfl rfl ?_)
  refine WL.nil ?_
  refine WQ.next ?_
  refine WC.cond rfl (fun (hb3 : (decide (k < s.length)) = true) => ?_) (fun (hb3 : (decide (k < s.length)) = false) => ?_)
  ·
    have hc3 := of_decide_eq_true hb3
    refine WC.skip ?_
    refine WQ.next ?_
    refine WC.seq ?_
    refine WC.block ?_
    refine WC.region ?_
    refine WL.op rfl rfl (op_move rfl ?_)
    refine WL.op rfl rfl (op_move rfl ?_)
    refine WL.op rfl rfl (op_move rfl ?_)
    refine WL.op rfl rfl (op_indexStrD Try.underlying9 rfl rfl (by omega) ?_)
    refine WL.op rfl rfl (op_move rfl ?_)
    refine WL.op rfl rfl (op_xorU8 rfl rfl ?_)
    refine WL.op rfl rfl (op_buildSlice (cs := [_]) H2 Try.underlying73 Fa.I5 rfl rfl rfl rfl (by decide) (by decide) (fun b4 w4 H4 => ?_))
    refine WL.op rfl rfl (op_appendM (f := vU8) (l := (withTo s c k)) (l' := [((s.getD k 0) ^^^ c)]) (i := 0) H4 Try.underlying73 Fa.I5 rfl rfl rfl rfl (Src.ofArr Try.underlying73 (H4.arrR (i := 1) rfl)) (one_mapM (fun _ => rfl)) (by omega) (by omega) (fun v5 w5 H5 => ?_))
    refine WL.op rfl rfl (op_assign rfl ?_)
    refine WL.nil ?_
    refine WQ.inNormal ?_
    refine WQ.next ?_
    refine WC.region ?_
    refine WL.op rfl rfl (op_move rfl ?_)
    refine WL.op rfl rfl (op_addN (b := 1) rfl rfl (by omega) ?_)
    refine WL.op rfl rfl (op_assign rfl ?_)
    refine WL.nil ?_
    exact WQ.round (k + 1, v5) ⟨(by omega), (H5.take 1)⟩ ⟨rfl, rfl, rfl, rfl, trivial⟩ (by show s.length - (k + 1) < s.length - k; omega)
  ·
    have hc3 := of_decide_eq_false hb3
    refine WC.exit ?_
    refine WQ.thenExit ?_
    refine WQ.thenExit ?_
    refine WQ.inHere ?_
    refine WQ.next ?_
    refine WC.seq ?_
    refine WC.region ?_
    refine WL.op rfl rfl (op_move rfl ?_)
    refine WL.op rfl rfl (op_bytesStr (l := (withTo s c k)) Try.underlying73 Try.underlying5 Try.underlying9 rfl (H2.arrR (i := 0) rfl) rfl ?_)
    refine WL.op rfl rfl (op_assign rfl ?_)
    refine WL.nil ?_
    refine WQ.next ?_
    refine WC.ret ?_
    refine WQ.out (.tmp rfl .nil) ?_
    exact ⟨by have hk : k = s.length := (by omega); subst hk; rw [withTo_end]; rfl, H2.fr⟩
set_option maxRecDepth 100000 in
theorem rmac_ok (key text : List UInt8) (w : World) (hk : key.length < 2 ^ 40) (ht : text.length < 2 ^ 39) :
    Calls Try.prog 71 #[(str key), (str text)] w (fun e w' => e = .returned (str (mac key text)) ∧ Fr [] w w') := by
  refine enter (args := [(str key), (str text)]) Try.func71 rfl rfl ?_
  have H0 : Own [] w w [] := Own.start w []
  refine WC.seq ?_
  refine WC.region ?_
  refine WL.op rfl rfl (op_assign rfl ?_)
  refine WL.nil ?_
  refine WQ.next ?_
  refine WC.seq ?_
  refine WC.region ?_
  refine WL.op rfl rfl (op_move rfl ?_)
  refine WL.op rfl rfl (op_callF Fa.C114 rfl ((rBlock_ok key _ hk).mono (fun e w1 hq => ?_)))
  obtain ⟨rfl, hf1⟩ := hq
  refine ⟨_, rfl, ?_⟩
  have H1 := H0.fr' hf1
  refine WL.op rfl rfl (op_assign rfl ?_)
  refine WL.nil ?_
  refine WQ.next ?_
  refine WC.seq ?_
  refine WC.region ?_
  refine WL.op rfl rfl (op_move rfl ?_)
  refine WL.op rfl rfl (op_callF Fa.C116 rfl ((with_ok (blockM key) 92 _ (by rw [blockM_length]; decide)).mono (fun e w2 hq => ?_)))
  obtain ⟨rfl, hf2⟩ := hq
  refine ⟨_, rfl, ?_⟩
  have H2 := H1.fr' hf2
  refine WL.op rfl rfl (op_move rfl ?_)
  refine WL.op rfl rfl (op_callF Fa.C116 rfl ((with_ok (blockM key) 54 _ (by rw [blockM_length]; decide)).mono (fun e w3 hq => ?_)))
  obtain ⟨rfl, hf3⟩ := hq
  refine ⟨_, rfl, ?_⟩
  have H3 := H2.fr' hf3
  refine WL.op rfl rfl (op_move rfl ?_)
  refine WL.op rfl rfl (op_addStr rfl rfl (by simp [xorL_length, blockM_length]; omega) ?_)
  refine WL.op rfl rfl (op_callF Fa.C115 rfl ((rsum_ok ((xorL (blockM key) 54) ++ text) _ (by first | (simp [xorL_length, blockM_length, sha_length]; omega) | (simp [xorL_length, blockM_length, sha_length]))).mono (fun e w4 hq => ?_)))
  obtain ⟨rfl, hf4⟩ := hq
  refine ⟨_, rfl, ?_⟩
  have H4 := H3.fr' hf4
  refine WL.op rfl rfl (op_addStr rfl rfl (by simp [xorL_length, blockM_length, sha_length]) ?_)
  refine WL.op rfl rfl (op_callF Fa.C115 rfl ((rsum_ok ((xorL (blockM key) 92) ++ (sha ((xorL (blockM key) 54) ++ text))) _ (by first | (simp [xorL_length, blockM_length, sha_length]; omega) | (simp [xorL_length, blockM_length, sha_length]))).mono (fun e w5 hq => ?_)))
  obtain ⟨rfl, hf5⟩ := hq
  refine ⟨_, rfl, ?_⟩
  have H5 := H4.fr' hf5
  refine WL.op rfl rfl (op_assign rfl ?_)
  refine WL.nil ?_
  refine WQ.next ?_
  refine WC.ret ?_
  refine WQ.out (.tmp rfl .nil) ?_
  exact ⟨rfl, H5.fr⟩
end Go.Proofs.Ytpnghdalnghpcaa
/-! from WSeal -/
namespace Go.Proofs.Ytpnghdalnghpcaa
open Go.Owl Go.Spec
set_option maxRecDepth 100000 in
theorem stag_ok (key : List UInt8) (lv : Value) (ls : List (List UInt8)) (w : World) (hA : Arr w lv 1 ls.length (List.map str ls)) (hk : key.length < 2 ^ 40) (ht : ls.length + (List.flatten ls).length < 2 ^ 39) :
    Calls Try.prog 70 #[(str key), lv] w (fun e w' => e = .returned (str (mac key (List.flatten ls))) ∧ Fr [] w w') := by
  refine enter (args := [(str key), lv]) Try.func70 rfl rfl ?_
  have H0 : Own [] w w [] := Own.start w []
  refine WC.seq ?_
  refine WC.region ?_
  refine WL.op rfl rfl (op_assign rfl ?_)
  refine WL.nil ?_
  refine WQ.next ?_
  refine WC.seq ?_
  refine WC.region ?_
  refine WL.op rfl rfl (op_move rfl ?_)
  refine WL.op rfl rfl (op_callF Fa.C109 rfl ((macnew_ok key _ hk).mono (fun e w1 hq => ?_)))
  obtain ⟨m1, q1, v1, rfl, hq1⟩ := hq
  refine ⟨_, rfl, ?_⟩
  have H1 : Own [] w w1 [.blk m1 [(ptr q1 0), (str (blockM key))] 185, .blk q1 [(vU32 (hst (xorL (blockM key) 54)).a), (vU32 (hst (xorL (blockM key) 54)).b), (vU32 (hst (xorL (blockM key) 54)).c), (vU32 (hst (xorL (blockM key) 54)).d), (vU32 (hst (xorL (blockM key) 54)).e), (vU32 (hst (xorL (blockM key) 54)).f), (vU32 (hst (xorL (blockM key) 54)).g), (vU32 (hst (xorL (blockM key) 54)).h), v1, (vN (xorL (blockM key) 54).length)] 198, .row v1 5 1 (hrest (xorL (blockM key) 54)).length (List.map vU8 (hrest (xorL (blockM key) 54)))] := H0.splice [] [] [.blk m1 [(ptr q1 0), (str (blockM key))] 185, .blk q1 [(vU32 (hst (xorL (blockM key) 54)).a), (vU32 (hst (xorL (blockM key) 54)).b), (vU32 (hst (xorL (blockM key) 54)).c), (vU32 (hst (xorL (blockM key) 54)).d), (vU32 (hst (xorL (blockM key) 54)).e), (vU32 (hst (xorL (blockM key) 54)).f), (vU32 (hst (xorL (blockM key) 54)).g), (vU32 (hst (xorL (blockM key) 54)).h), v1, (vN (xorL (blockM key) 54).length)] 198, .row v1 5 1 (hrest (xorL (blockM key) 54)).length (List.map vU8 (hrest (xorL (blockM key) 54)))] rfl rfl hq1 (Fits.solid True.intro (Fits.solid True.intro (Fits.solid True.intro Fits.nil)))
  refine WL.op rfl rfl (op_assign rfl ?_)
  refine WL.nil ?_
  refine WQ.next ?_
  refine WC.seq ?_
  refine WC.region ?_
  refine WL.op rfl rfl (op_move rfl ?_)
  refine WL.op rfl rfl (op_move rfl ?_)
  refine WL.op rfl rfl (op_callF Fa.C110 rfl ((macw_ok m1 q1 v1 lv (blockM key) (xorL (blockM key) 54) ls _ _ (H1.part [0, 1, 2] rfl rfl) (fun w1 hf => (fun w1 hf => hA.fr hf (by simp)) w1 (H1.frPart (I := [0, 1, 2]) rfl hf)) (by first | (rw [List.length_append, xorL_length, blockM_length]; omega) | (rw [xorL_length, blockM_length]; omega)) (by omega)).mono (fun e w2 hq => ?_)))
  obtain ⟨v2, rfl, hq2⟩ := hq
  refine ⟨_, rfl, ?_⟩
  have H2 : Own [] w w2 [.blk m1 [(ptr q1 0), (str (blockM key))] 185, .blk q1 [(vU32 (hst ((xorL (blockM key) 54) ++ ls.flatten)).a), (vU32 (hst ((xorL (blockM key) 54) ++ ls.flatten)).b), (vU32 (hst ((xorL (blockM key) 54) ++ ls.flatten)).c), (vU32 (hst ((xorL (blockM key) 54) ++ ls.flatten)).d), (vU32 (hst ((xorL (blockM key) 54) ++ ls.flatten)).e), (vU32 (hst ((xorL (blockM key) 54) ++ ls.flatten)).f), (vU32 (hst ((xorL (blockM key) 54) ++ ls.flatten)).g), (vU32 (hst ((xorL (blockM key) 54) ++ ls.flatten)).h), v2, (vN ((xorL (blockM key) 54) ++ ls.flatten).length)] 198, .row v2 5 1 (hrest ((xorL (blockM key) 54) ++ ls.flatten)).length (List.map vU8 (hrest ((xorL (blockM key) 54) ++ ls.flatten)))] := H1.splice [0, 1, 2] [.blk m1 [(ptr q1 0), (str (blockM key))] 185, .blk q1 [(vU32 (hst ((xorL (blockM key) 54) ++ ls.flatten)).a), (vU32 (hst ((xorL (blockM key) 54) ++ ls.flatten)).b), (vU32 (hst ((xorL (blockM key) 54) ++ ls.flatten)).c), (vU32 (hst ((xorL (blockM key) 54) ++ ls.flatten)).d), (vU32 (hst ((xorL (blockM key) 54) ++ ls.flatten)).e), (vU32 (hst ((xorL (blockM key) 54) ++ ls.flatten)).f), (vU32 (hst ((xorL (blockM key) 54) ++ ls.flatten)).g), (vU32 (hst ((xorL (blockM key) 54) ++ ls.flatten)).h), v2, (vN ((xorL (blockM key) 54) ++ ls.flatten).length)] 198, .row v2 5 1 (hrest ((xorL (blockM key) 54) ++ ls.flatten)).length (List.map vU8 (hrest ((xorL (blockM key) 54) ++ ls.flatten)))] [] rfl rfl hq2 (Fits.solid True.intro (Fits.solid True.intro (Fits.solid True.intro Fits.nil)))
  refine WL.nil ?_
  refine WQ.next ?_
  refine WC.seq ?_
  refine WC.region ?_
  refine WL.op rfl rfl (op_move rfl ?_)
  refine WL.op rfl rfl (op_callF Fa.C111 rfl ((macs_ok m1 q1 v2 (blockM key) ((xorL (blockM key) 54) ++ ls.flatten) _ (H2.cellsAt (i := 0) rfl) (H2.cellsAt (i := 1) rfl) (H2.arrR (i := 2) rfl) (by first | (rw [List.length_append, xorL_length, blockM_length]; omega) | (rw [xorL_length, blockM_length]; omega)) (by rw [blockM_length]; decide)).mono (fun e w3 hq => ?_)))
  obtain ⟨rfl, hf3⟩ := hq
  refine ⟨_, rfl, ?_⟩
  have H3 := H2.fr' hf3
  refine WL.op rfl rfl (op_assign rfl ?_)
  refine WL.nil ?_
  refine WQ.next ?_
  refine WC.ret ?_
  refine WQ.out (.tmp rfl .nil) ?_
  exact ⟨by simp [tup, mac], H3.fr⟩
set_option maxRecDepth 100000 in
theorem sseal_ok (key : List UInt8) (pg : UInt32) (ev pv sv : Value) (xs : List Xt) (ps : List UInt16) (con : Bool) (en : UInt32) (sg : List Sg) (w : World) (hE : Arr w ev 2 xs.length (List.flatMap xtc xs)) (hP : Arr w pv 1 ps.length (List.map vU16 ps)) (hS : Arr w sv 3 sg.length (List.flatMap sgc sg)) (hk : key.length < 2 ^ 40) (bx : xs.length ≤ 2 ^ 20) (bp : ps.length ≤ 2 ^ 20) (bs : sg.length ≤ 2 ^ 10) (bb : ∀ x ∈ sg, x.b.length ≤ 2 ^ 30) (hL : (imB pg xs ps con en sg).length < 2 ^ 38) :
    Calls Try.prog 112 #[(.agg #[(vU32 pg), ev, pv, (.bool con), (vU32 en), sv, (str key)])] w (fun e w' => e = .returned (.tuple #[str (slS key pg xs ps con en sg), vN (imE pg xs ps en sg)]) ∧ Fr [] w w') := by
  refine enter (args := [(.agg #[(vU32 pg), ev, pv, (.bool con), (vU32 en), sv, (str key)])]) Try.func112 rfl rfl ?_
  have H0 : Own [] w w [] := Own.start w []
  refine WC.seq ?_
  refine WC.region ?_
  refine WL.op rfl rfl (op_box H0 rfl rfl (fun b1 w1 H1 => ?_))
  refine WL.op rfl rfl (op_assign rfl ?_)
  refine WL.op rfl rfl (op_assign rfl ?_)
  refine WL.nil ?_
  refine WQ.next ?_
  refine WC.seq ?_
  refine WC.region ?_
  refine WL.op rfl rfl (op_fieldAddr rfl Fa.F161_0 ?_)
  refine WL.op rfl rfl (op_loadS (vs := [_, _, _, _, _, _]) rfl (H1.cells (i := 0) rfl rfl) Try.underlying59 rfl Fa.I59 rfl ?_)
  refine WL.op rfl rfl (op_callF Fa.C41 rfl ((iput_ok pg _ _ _ xs ps con en sg _ (H1.arr hE) (H1.arr hP) (H1.arr hS) bx bp bs bb).mono (fun e w2 hq => ?_)))
  obtain ⟨rfl, hf2⟩ := hq
  refine ⟨_, rfl, ?_⟩
  have H2 := H1.fr' hf2
  refine WL.op rfl rfl (op_move rfl ?_)
  refine WL.op rfl rfl (op_extract rfl rfl ?_)
  refine WL.op rfl rfl (op_extract rfl rfl ?_)
  refine WL.op rfl rfl (op_assign rfl ?_)
  refine WL.op rfl rfl (op_assign rfl ?_)
  refine WL.nil ?_
  refine WQ.next ?_
  refine WC.seq ?_
  refine WC.seq ?_
  refine WC.region ?_
  refine WL.op rfl rfl (op_fieldAddr rfl Fa.F161_0 ?_)
  refine WL.op rfl rfl (op_fieldAddr rfl Fa.F59_2 ?_)
  refine WL.op rfl rfl (op_load rfl (H2.cell (i := 0) rfl rfl) Try.underlying57 rfl ?_)
  refine WL.op rfl rfl (op_lenA Try.underlying57 rfl (H2.arr hS) ?_)
  refine WL.op rfl rfl (op_eqlN (b := 0) rfl rfl ?_)
  refine WL.op rfl rfl (op_move rfl ?_)
  refine WL.split (t := 17) rfl (fun (hb3 : (decide (sg.length = 0)) = true) => ?_) (fun (hb3 : (decide (sg.length = 0)) = false) => ?_)
  ·
    have hc3 := of_decide_eq_true hb3
    refine WL.no rfl rfl rfl hb3 rfl ?_
    refine WL.no rfl rfl rfl hb3 rfl ?_
    refine WL.op rfl rfl (op_pickT rfl hb3 rfl ?_)
    refine WL.nil ?_
    refine WQ.next ?_
    refine WC.yes rfl rfl ?_
    refine WC.seq ?_
    refine WC.region ?_
    refine WL.op rfl rfl (op_assign rfl ?_)
    refine WL.op rfl rfl (op_assign rfl ?_)
    refine WL.nil ?_
    refine WQ.next ?_
    refine WC.ret ?_
    refine WQ.thenRet ?_
    refine WQ.out (.tmp rfl (.tmp rfl .nil)) ?_
    have h2 := imE_nil (pg := pg) (xs := xs) (ps := ps) (en := en) hc3
    rw [slS, h2, if_neg (by decide)]
    exact ⟨rfl, H2.fr⟩
  ·
    have hc3 := of_decide_eq_false hb3
    refine WL.yes rfl rfl rfl hb3 rfl (op_move rfl ?_)
    refine WL.yes rfl rfl rfl hb3 rfl (op_neqN (b := 0) rfl rfl ?_)
    refine WL.op rfl rfl (op_pickF rfl hb3 rfl ?_)
    refine WL.nil ?_
    refine WQ.next ?_
    refine WC.cond rfl (fun (hb4 : (decide ((imE pg xs ps en sg) ≠ 0)) = true) => ?_) (fun (hb4 : (decide ((imE pg xs ps en sg) ≠ 0)) = false) => ?_)
    ·
      have hc4 := of_decide_eq_true hb4
      refine WC.seq ?_
      refine WC.region ?_
      refine WL.op rfl rfl (op_assign rfl ?_)
      refine WL.op rfl rfl (op_assign rfl ?_)
      refine WL.nil ?_
      refine WQ.next ?_
      refine WC.ret ?_
      refine WQ.thenRet ?_
      refine WQ.out (.tmp rfl (.tmp rfl .nil)) ?_
      rw [slS, if_neg hc4, imE_2 hc4]
      exact ⟨rfl, H2.fr⟩
    ·
      have hc4 := of_decide_eq_false hb4
      refine WC.skip ?_
      refine WQ.next ?_
      refine WC.seq ?_
      refine WC.region ?_
      refine WL.op rfl rfl (op_move rfl ?_)
      refine WL.op rfl rfl (op_fieldAddr rfl Fa.F161_1 ?_)
      refine WL.op rfl rfl (op_load rfl (H2.cell (i := 0) rfl rfl) Try.underlying9 rfl ?_)
      refine WL.op rfl rfl (op_move rfl ?_)
      refine WL.op rfl rfl (op_buildSlice (cs := [_]) H2 Try.underlying23 Fa.I9 rfl rfl rfl rfl (by decide) (by decide) (fun b5 w5 H5 => ?_))
      refine WL.op rfl rfl (op_callF Fa.C70 rfl ((stag_ok key _ ([(imB pg xs ps con en sg)]) _ (Arr.lenM (H5.arrR (i := 1) rfl)) hk (by simp only [List.flatten_cons, List.flatten_nil, List.append_nil, List.length_cons, List.length_nil]; omega)).mono (fun e w6 hq => ?_)))
      obtain ⟨rfl, hf6⟩ := hq
      refine ⟨_, rfl, ?_⟩
      have H6 := H5.fr' hf6
      refine WL.op rfl rfl (op_addStr rfl rfl (by rw [mac_length]; omega) ?_)
      refine WL.op rfl rfl (op_assign rfl ?_)
      refine WL.op rfl rfl (op_assign rfl ?_)
      refine WL.nil ?_
      refine WQ.next ?_
      refine WC.ret ?_
      refine WQ.out (.tmp rfl (.tmp rfl .nil)) ?_
      have h0 := Decidable.not_not.mp hc4
      rw [slS, if_pos h0, h0]
      exact ⟨by simp [tup], H6.fr⟩
set_option maxRecDepth 100000 in
theorem seal_ok (key : List UInt8) (pg : UInt32) (ev pv sv : Value) (xs : List Xt) (ps : List UInt16) (con : Bool) (en : UInt32) (sg : List Sg) (w : World) (hE : Arr w ev 2 xs.length (List.flatMap xtc xs)) (hP : Arr w pv 1 ps.length (List.map vU16 ps)) (hS : Arr w sv 3 sg.length (List.flatMap sgc sg)) (hk : key.length < 2 ^ 40) (bx : xs.length ≤ 2 ^ 20) (bp : ps.length ≤ 2 ^ 20) (bs : sg.length ≤ 2 ^ 10) (bb : ∀ x ∈ sg, x.b.length ≤ 2 ^ 30) (hL : (imB pg xs ps con en sg).length < 2 ^ 38) :
    Calls Try.prog 67 #[(str key), (.agg #[(vU32 pg), ev, pv, (.bool con), (vU32 en), sv])] w (fun e w' => e = .returned (.tuple #[str (slS key pg xs ps con en sg), vN (imE pg xs ps en sg)]) ∧ Fr [] w w') := by
  refine enter (args := [(str key), (.agg #[(vU32 pg), ev, pv, (.bool con), (vU32 en), sv])]) Try.func67 rfl rfl ?_
  have H0 : Own [] w w [] := Own.start w []
  refine WC.seq ?_
  refine WC.region ?_
  refine WL.op rfl rfl (op_box H0 rfl rfl (fun b1 w1 H1 => ?_))
  refine WL.op rfl rfl (op_assign rfl ?_)
  refine WL.op rfl rfl (op_assign rfl ?_)
  refine WL.nil ?_
  refine WQ.next ?_
  refine WC.seq ?_
  refine WC.region ?_
  refine WL.op rfl rfl (op_loadS (vs := [_, _, _, _, _, _]) rfl (H1.cells (i := 0) rfl rfl) Try.underlying59 rfl Fa.I59 rfl ?_)
  refine WL.op rfl rfl (op_move rfl ?_)
  refine WL.op rfl rfl (op_build (cs := [_, _, _, _, _, _, _]) Fa.I161 Fa.PL161 rfl rfl ?_)
  refine WL.op rfl rfl (op_callF Fa.C112 rfl ((sseal_ok key pg _ _ _ xs ps con en sg _ (H1.arr hE) (H1.arr hP) (H1.arr hS) hk bx bp bs bb hL).mono (fun e w2 hq => ?_)))
  obtain ⟨rfl, hf2⟩ := hq
  refine ⟨_, rfl, ?_⟩
  have H2 := H1.fr' hf2
  refine WL.op rfl rfl (op_extract rfl rfl ?_)
  refine WL.op rfl rfl (op_extract rfl rfl ?_)
  refine WL.op rfl rfl (op_assign rfl ?_)
  refine WL.op rfl rfl (op_assign rfl ?_)
  refine WL.nil ?_
  refine WQ.next ?_
  refine WC.ret ?_
  refine WQ.out (.tmp rfl (.tmp rfl .nil)) ?_
  exact ⟨rfl, H2.fr⟩
end Go.Proofs.Ytpnghdalnghpcaa
/-! from WSeal2 -/
namespace Go.Proofs.Ytpnghdalnghpcaa
open Go.Owl Go.Spec
set_option maxRecDepth 100000 in
theorem sopen_ok (key s : List UInt8) (w : World) (hk : key.length < 2 ^ 40) (hs : s.length < 2 ^ 38) :
    Calls Try.prog 68 #[(str key), (str s)] w (fun e w' => ∃ v u q, e = .returned (.tuple #[.agg #[vU32 (opI key s).pg, v, u, .bool (opI key s).c, vU32 (opI key s).en, q], vN (opC key s)]) ∧ Own [] w w' [.row v 130 2 (opI key s).xs.length (List.flatMap xtc (opI key s).xs), .row u 92 1 (opI key s).ps.length (List.map vU16 (opI key s).ps), .row q 111 3 (opI key s).sg.length (List.flatMap sgc (opI key s).sg)]) := by
  refine enter (args := [(str key), (str s)]) Try.func68 rfl rfl ?_
  have H0 : Own [] w w [] := Own.start w []
  refine WC.seq ?_
  refine WC.region ?_
  refine WL.op rfl rfl (op_alloc H0 Fa.I59 (fun b1 w1 H1 => ?_))
  refine WL.op rfl rfl (op_assign rfl ?_)
  refine WL.nil ?_
  refine WQ.next ?_
  refine WC.seq ?_
  refine WC.region ?_
  refine WL.op rfl rfl (op_move rfl ?_)
  refine WL.op rfl rfl (op_lenStr Try.underlying9 rfl ?_)
  refine WL.op rfl rfl (op_subI (a := ((s.length : Nat) : Int)) (b := ((32 : Nat) : Int)) rfl rfl (by omega) ?_)
  refine WL.op rfl rfl (op_assign rfl ?_)
  refine WL.nil ?_
  refine WQ.next ?_
  refine WC.seq ?_
  refine WC.seq ?_
  refine WC.region ?_
  refine WL.op rfl rfl (op_move rfl ?_)
  refine WL.op rfl rfl (op_lssI (b := (0 : Int)) rfl rfl ?_)
  refine WL.nil ?_
  refine WQ.next ?_
  refine WC.cond rfl (fun (hb2 : (decide ((((s.length : Nat) : Int) - ((32 : Nat) : Int)) < (0 : Int))) = true) => ?_) (fun (hb2 : (decide ((((s.length : Nat) : Int) - ((32 : Nat) : Int)) < (0 : Int))) = false) => ?_)
  ·
    have hc2 := of_decide_eq_true hb2
    refine WC.seq ?_
    refine WC.region ?_
    refine WL.op rfl rfl (op_build (cs := [_, _, _, _, _, _]) Fa.I59 Fa.PL59 rfl rfl ?_)
    refine WL.op rfl rfl (op_storeBW (i := 0) H1 rfl rfl rfl rfl rfl Fa.I59 (fun w3 H3 => ?_))
    refine WL.op rfl rfl (op_assign rfl ?_)
    refine WL.nil ?_
    refine WQ.next ?_
    refine WC.ret ?_
    refine WQ.thenRet ?_
    refine WQ.out (.cell rfl (run_loadVarS (vs := [_, _, _, _, _, _]) (H3.cells (i := 0) rfl rfl) Try.underlying59 rfl Fa.I59 rfl) (.tmp rfl .nil)) ?_
    have hb := op_short (key := key) (s := s) (by omega)
    rw [hb.1, hb.2]
    exact ⟨.slice none 0 0, .slice none 0 0, .slice none 0 0, rfl, (((H3.sel [] rfl rfl).nilRow 130 2).nilRow 92 1).nilRow 111 3⟩
  ·
    have hc2 := of_decide_eq_false hb2
    have hln : ¬ s.length < 32 := by omega
    rw [show ((s.length : Nat) : Int) - ((32 : Nat) : Int) = ((s.length - 32 : Nat) : Int) by omega]
    refine WC.skip ?_
    refine WQ.next ?_
    refine WC.seq ?_
    refine WC.seq ?_
    refine WC.draw 9 Fa.M H1 (HW.op rfl (fun w1 H1 => op_move rfl ⟨rfl, Fr.refl _ _⟩) (HW.op rfl (fun w1 H1 => op_move rfl ⟨rfl, Fr.refl _ _⟩) (HW.op rfl (fun w1 H1 => op_move rfl ⟨rfl, Fr.refl _ _⟩) (HW.op rfl (fun w1 H1 => op_sliceStrHi Try.underlying9 rfl rfl (by omega) ⟨rfl, Fr.refl _ _⟩) (HW.op rfl (fun w1 H1 => op_move rfl ⟨rfl, Fr.refl _ _⟩) (HW.op rfl (fun w1 H1 => op_move rfl ⟨rfl, Fr.refl _ _⟩) (HW.op rfl (fun w1 H1 => op_sliceStrLo Try.underlying9 rfl rfl (by omega) ⟨rfl, Fr.refl _ _⟩) (HW.op rfl (fun w1 H1 => op_callF Fa.C113 rfl ((mcheck_ok key (s.take (s.length - 32)) (s.drop (s.length - 32)) _ hk (by rw [List.length_take]; omega)).mono (fun e w2 hq => ⟨_, hq.1, rfl, hq.2⟩))) (HW.op rfl (fun w1 H1 => op_not rfl ⟨rfl, Fr.refl _ _⟩)  HW.nil))))))))) (by kernel_rfl) ?_
    intro β5 w5 H5
    refine WL.nil ?_
    refine WQ.next ?_
    refine WC.cond rfl (fun (hb6 : (!(decide ((s.drop (s.length - 32)) = mac key (s.take (s.length - 32))))) = true) => ?_) (fun (hb6 : (!(decide ((s.drop (s.length - 32)) = mac key (s.take (s.length - 32))))) = false) => ?_)
    ·
      have hn6 := (Bool.not_eq_true' _).mp hb6
      refine WC.seq ?_
      refine WC.region ?_
      refine WL.op rfl rfl (op_build (cs := [_, _, _, _, _, _]) Fa.I59 Fa.PL59 rfl rfl ?_)
      refine WL.op rfl rfl (op_storeBW (i := 0) H5 rfl rfl rfl rfl rfl Fa.I59 (fun w7 H7 => ?_))
      refine WL.op rfl rfl (op_assign rfl ?_)
      refine WL.nil ?_
      refine WQ.next ?_
      refine WC.ret ?_
      refine WQ.thenRet ?_
      refine WQ.out (.cell rfl (run_loadVarS (vs := [_, _, _, _, _, _]) (H7.cells (i := 0) rfl rfl) Try.underlying59 rfl Fa.I59 rfl) (.tmp rfl .nil)) ?_
      have hb := op_tag (key := key) hln (of_decide_eq_false (by simpa using hn6))
      rw [hb.1, hb.2]
      exact ⟨.slice none 0 0, .slice none 0 0, .slice none 0 0, rfl, (((H7.sel [] rfl rfl).nilRow 130 2).nilRow 92 1).nilRow 111 3⟩
    ·
      have hn6 := (Bool.not_eq_false' _).mp hb6
      refine WC.skip ?_
      refine WQ.next ?_
      refine WC.seq ?_
      refine WC.region ?_
      refine WL.op rfl rfl (op_move rfl ?_)
      refine WL.op rfl rfl (op_move rfl ?_)
      refine WL.op rfl rfl (op_sliceStrHi Try.underlying9 rfl rfl (by omega) ?_)
      refine WL.op rfl rfl (op_callF Fa.C49 rfl ((iget_ok (s.take (s.length - 32)) _ (by rw [List.length_take]; omega)).mono (fun e w8 hq => ?_)))
      obtain ⟨v8, u8, q8, rfl, hq8⟩ := hq
      refine ⟨_, rfl, ?_⟩
      have H8 : Own [] w w8 [.blk b1 [(vU32 0), (.slice none 0 0), (.slice none 0 0), (.bool false), (vU32 0), (.slice none 0 0)] 59, .row v8 130 2 (imG (s.take (s.length - 32))).xs.length (List.flatMap xtc (imG (s.take (s.length - 32))).xs), .row u8 92 1 (imG (s.take (s.length - 32))).ps.length (List.map vU16 (imG (s.take (s.length - 32))).ps), .row q8 111 3 (imG (s.take (s.length - 32))).sg.length (List.flatMap sgc (imG (s.take (s.length - 32))).sg)] := H5.splice [] [] [.row v8 130 2 (imG (s.take (s.length - 32))).xs.length (List.flatMap xtc (imG (s.take (s.length - 32))).xs), .row u8 92 1 (imG (s.take (s.length - 32))).ps.length (List.map vU16 (imG (s.take (s.length - 32))).ps), .row q8 111 3 (imG (s.take (s.length - 32))).sg.length (List.flatMap sgc (imG (s.take (s.length - 32))).sg)] rfl rfl hq8 (Fits.solid True.intro (Fits.solid True.intro (Fits.solid True.intro Fits.nil)))
      refine WL.op rfl rfl (op_extract rfl rfl ?_)
      refine WL.op rfl rfl (op_extract rfl rfl ?_)
      refine WL.op rfl rfl (op_storeBW (i := 0) H8 rfl rfl rfl rfl (one_cons rfl (one_cons (Arr.one (H8.arrR (i := 1) rfl)) (one_cons (Arr.one (H8.arrR (i := 2) rfl)) (one_cons rfl (one_cons rfl (one_cons (Arr.one (H8.arrR (i := 3) rfl)) one_nil)))))) Fa.I59 (fun w9 H9 => ?_))
      refine WL.op rfl rfl (op_assign rfl ?_)
      refine WL.nil ?_
      refine WQ.next ?_
      refine WC.ret ?_
      refine WQ.out (.cell rfl (run_loadVarS (vs := [_, _, _, _, _, _]) (H9.cells (i := 0) rfl rfl) Try.underlying59 rfl Fa.I59 rfl) (.tmp rfl .nil)) ?_
      have hb := op_get (key := key) hln (of_decide_eq_true (by simpa using hn6))
      rw [hb.1, hb.2]
      exact ⟨v8, u8, q8, rfl, H9.sel [1, 2, 3] rfl rfl⟩
end Go.Proofs.Ytpnghdalnghpcaa
/-! from WImg14 -/
namespace Go.Proofs.Ytpnghdalnghpcaa
open Go.Owl Go.Spec
theorem one16r_ok (q : Nat) (r : Rd) (n : Int) (T : List Nat) (w : World) (H : Own T w w [.blk q [str r.rest, vN r.f] 47]) (hr : r.rest.length < 2 ^ 47) :
    Calls Try.prog 98 #[ptr q 0, vI n] w (fun e w' => e = .returned (vU32 (numR r n).1.1) ∧ Own T w w' [.blk q [str (numR r n).2.rest, vN (numR r n).2.f] 47]) := by
  have h := one16_ok q r.rest r.f n T w H hr
  have hl := (Like.re r).num n
  rw [hl.1, hl.2.1, hl.2.2] at h
  exact h
theorem take16r_ok (q : Nat) (r : Rd) (n : Int) (T : List Nat) (w : World) (H : Own T w w [.blk q [str r.rest, vN r.f] 47]) (hr : r.rest.length < 2 ^ 47) :
    Calls Try.prog 31 #[ptr q 0, vI n] w (fun e w' => e = .returned (.tuple #[str (takeR r n).1.1, vN (takeR r n).1.2]) ∧ Own T w w' [.blk q [str (takeR r n).2.rest, vN (takeR r n).2.f] 47]) := by
  have h := ftake_ok q r.rest r.f n T w H hr
  have hl := (Like.re r).take n
  rw [hl.1, hl.2.1, hl.2.2] at h
  exact h
theorem end16r_ok (q : Nat) (r : Rd) (T : List Nat) (w : World) (H : Own T w w [.blk q [str r.rest, vN r.f] 47]) (hr : r.rest.length < 2 ^ 47) :
    Calls Try.prog 35 #[ptr q 0] w (fun e w' => e = .returned (vN (endR r).1) ∧ Own T w w' [.blk q [str (endR r).2.rest, vN (endR r).2.f] 47]) := by
  have h := fend_ok q r.rest r.f T w H hr
  have hl := (Like.re r).end_
  rw [hl.1, hl.2.1, hl.2.2] at h
  exact h
end Go.Proofs.Ytpnghdalnghpcaa
/-! from WImg15 -/
namespace Go.Proofs.Ytpnghdalnghpcaa
open Go.Owl Go.Spec
set_option maxHeartbeats 3000000 in
set_option maxRecDepth 100000 in
theorem rget_ok (s : List UInt8) (w : World) (hs : s.length < 2 ^ 47) :
    Calls Try.prog 50 #[(str s)] w (fun e w' => ∃ v u q, e = .returned (.tuple #[.agg #[vU32 (imG s).pg, v, u, .bool (imG s).c, vU32 (imG s).en, q], vN (imGE s)]) ∧ Own [] w w' [.row v 130 2 (imG s).xs.length (List.flatMap xtc (imG s).xs), .row u 92 1 (imG s).ps.length (List.map vU16 (imG s).ps), .row q 111 3 (imG s).sg.length (List.flatMap sgc (imG s).sg)]) := by
  refine enter (args := [(str s)]) Try.func50 rfl rfl ?_
  have H0 : Own [] w w [] := Own.start w []
  refine WC.seq ?_
  refine WC.region ?_
  refine WL.op rfl rfl (op_alloc H0 Fa.I59 (fun b1 w1 H1 => ?_))
  refine WL.op rfl rfl (op_assign rfl ?_)
  refine WL.nil ?_
  refine WQ.next ?_
  refine WC.seq ?_
  refine WC.region ?_
  refine WL.op rfl rfl (op_move rfl ?_)
  refine WL.op rfl rfl (op_build (cs := [_, _]) Fa.I47 Fa.PL47 rfl rfl ?_)
  refine WL.op rfl rfl (op_box H1 rfl rfl (fun b2 w2 H2 => ?_))
  refine WL.op rfl rfl (op_assign rfl ?_)
  refine WL.nil ?_
  refine WQ.next ?_
  refine WC.seq ?_
  refine WC.region ?_
  have H3 : Own [] w w2 [.blk b1 [(vU32 0), (.slice none 0 0), (.slice none 0 0), (.bool false), (vU32 0), (.slice none 0 0)] 59, .blk b2 [(str (Rd.mk s 0 0 (Nat.zero_le _)).rest), (vN (Rd.mk s 0 0 (Nat.zero_le _)).f)] 47] := by have h := H2; rw [← rest0 s 0 (Nat.zero_le _)] at h; exact h
  refine WL.op rfl rfl (op_move rfl ?_)
  refine WL.op rfl rfl (op_callF Fa.C31 rfl ((take16r_ok b2 (Rd.mk s 0 0 (Nat.zero_le _)) (4) _ _ (H3.part [1] rfl rfl) (by refine rest_lt ?_; first | (rw [g1_t]; exact hs) | (rw [g2_t]; exact hs) | (rw [g4_t]; exact hs) | (rw [g6_t]; exact hs) | (rw [g7_t]; exact hs) | (rw [g8_t]; exact hs) | (rw [g10_t]; exact hs) | (rw [xsD_t, g3_t]; exact hs) | (rw [numR_s, xsD_t, g3_t]; exact hs) | (rw [psD_t, g5_t]; exact hs) | (rw [sgD_t, g9_t]; exact hs) | (rw [numR_s, sgD_t, g9_t]; exact hs) | (rw [numR_s, numR_s, sgD_t, g9_t]; exact hs) | (rw [numR_s, numR_s, numR_s, sgD_t, g9_t]; exact hs) | exact hs)).mono (fun e w4 hq => ?_)))
  obtain ⟨rfl, hq4⟩ := hq
  refine ⟨_, rfl, ?_⟩
  have H4 : Own [] w w4 [.blk b1 [(vU32 0), (.slice none 0 0), (.slice none 0 0), (.bool false), (vU32 0), (.slice none 0 0)] 59, .blk b2 [(str ((takeR (Rd.mk s 0 0 (Nat.zero_le _)) 4).2).rest), (vN ((takeR (Rd.mk s 0 0 (Nat.zero_le _)) 4).2).f)] 47] := H3.splice [1] [.blk b2 [(str ((takeR (Rd.mk s 0 0 (Nat.zero_le _)) 4).2).rest), (vN ((takeR (Rd.mk s 0 0 (Nat.zero_le _)) 4).2).f)] 47] [] rfl rfl hq4 (Fits.solid True.intro Fits.nil)
  refine WL.op rfl rfl (op_move rfl ?_)
  refine WL.op rfl rfl (op_extract rfl rfl ?_)
  refine WL.op rfl rfl (op_extract rfl rfl ?_)
  refine WL.op rfl rfl (op_assign rfl ?_)
  refine WL.op rfl rfl (op_assign rfl ?_)
  refine WL.nil ?_
  refine WQ.next ?_
  refine WC.seq ?_
  refine WC.region ?_
  have H5 : Own [] w w4 [.blk b1 [(vU32 0), (.slice none 0 0), (.slice none 0 0), (.bool false), (vU32 0), (.slice none 0 0)] 59, .blk b2 [(str ((g1 s).2).rest), (vN ((g1 s).2).f)] 47] := by have h := H4; rw [g1_e] at h; exact h
  rw [g1_e]
  refine WL.op rfl rfl (op_alloc H5 Fa.I59 (fun b6 w6 H6 => ?_))
  refine WL.nil ?_
  refine WQ.next ?_
  refine WC.seq ?_
  refine WC.region ?_
  refine WL.op rfl rfl (op_move rfl ?_)
  refine WL.op rfl rfl (op_callF Fa.C98 rfl ((one16r_ok b2 ((g1 s).2) (4) _ _ (H6.part [1] rfl rfl) (by refine rest_lt ?_; first | (rw [g1_t]; exact hs) | (rw [g2_t]; exact hs) | (rw [g4_t]; exact hs) | (rw [g6_t]; exact hs) | (rw [g7_t]; exact hs) | (rw [g8_t]; exact hs) | (rw [g10_t]; exact hs) | (rw [xsD_t, g3_t]; exact hs) | (rw [numR_s, xsD_t, g3_t]; exact hs) | (rw [psD_t, g5_t]; exact hs) | (rw [sgD_t, g9_t]; exact hs) | (rw [numR_s, sgD_t, g9_t]; exact hs) | (rw [numR_s, numR_s, sgD_t, g9_t]; exact hs) | (rw [numR_s, numR_s, numR_s, sgD_t, g9_t]; exact hs) | exact hs)).mono (fun e w7 hq => ?_)))
  obtain ⟨rfl, hq7⟩ := hq
  refine ⟨_, rfl, ?_⟩
  have H7 : Own [] w w7 [.blk b1 [(vU32 0), (.slice none 0 0), (.slice none 0 0), (.bool false), (vU32 0), (.slice none 0 0)] 59, .blk b2 [(str ((numR ((g1 s).2) 4).2).rest), (vN ((numR ((g1 s).2) 4).2).f)] 47, .blk b6 [(vU32 0), (.slice none 0 0), (.slice none 0 0), (.bool false), (vU32 0), (.slice none 0 0)] 59] := H6.splice [1] [.blk b2 [(str ((numR ((g1 s).2) 4).2).rest), (vN ((numR ((g1 s).2) 4).2).f)] 47] [] rfl rfl hq7 (Fits.solid True.intro Fits.nil)
  refine WL.op rfl rfl (op_fieldAddr rfl Fa.F59_0 ?_)
  refine WL.op rfl rfl (op_fieldAddr rfl Fa.F56_0 ?_)
  refine WL.op rfl rfl (op_storeB (i := 2) H7 rfl rfl rfl rfl rfl Fa.I22 (fun w8 H8 => ?_))
  refine WL.nil ?_
  refine WQ.next ?_
  refine WC.seq ?_
  refine WC.region ?_
  have H9 : Own [] w w8 [.blk b1 [(vU32 0), (.slice none 0 0), (.slice none 0 0), (.bool false), (vU32 0), (.slice none 0 0)] 59, .blk b2 [(str ((g2 s).2).rest), (vN ((g2 s).2).f)] 47, .blk b6 [(vU32 (g2 s).1.1), (.slice none 0 0), (.slice none 0 0), (.bool false), (vU32 0), (.slice none 0 0)] 59] := by have h := H8; rw [g2_e] at h; exact h
  have H10 : Own [] w w8 [.blk b1 [(vU32 0), (.slice none 0 0), (.slice none 0 0), (.bool false), (vU32 0), (.slice none 0 0)] 59, .blk b2 [(str ((g2 s).2).rest), (vN ((g2 s).2).f)] 47, .blk b6 [(vU32 (g2 s).1.1), (.slice none 0 0), (.slice none 0 0), (.bool false), (vU32 0), (.slice none 0 0)] 59, .row (.slice none 0 0) 130 2 0 (List.flatMap xtc [])] := H9.nilRow 130 2
  have H11 : Own [] w w8 [.blk b1 [(vU32 0), (.slice none 0 0), (.slice none 0 0), (.bool false), (vU32 0), (.slice none 0 0)] 59, .blk b2 [(str ((g2 s).2).rest), (vN ((g2 s).2).f)] 47, .blk b6 [(vU32 (g2 s).1.1), (.slice none 0 0), (.slice none 0 0), (.bool false), (vU32 0), (.slice none 0 0)] 59, .row (.slice none 0 0) 130 2 0 (List.flatMap xtc []), .row (.slice none 0 0) 92 1 0 (List.map vU16 [])] := H10.nilRow 92 1
  have H12 : Own [] w w8 [.blk b1 [(vU32 0), (.slice none 0 0), (.slice none 0 0), (.bool false), (vU32 0), (.slice none 0 0)] 59, .blk b2 [(str ((g2 s).2).rest), (vN ((g2 s).2).f)] 47, .blk b6 [(vU32 (g2 s).1.1), (.slice none 0 0), (.slice none 0 0), (.bool false), (vU32 0), (.slice none 0 0)] 59, .row (.slice none 0 0) 130 2 0 (List.flatMap xtc []), .row (.slice none 0 0) 92 1 0 (List.map vU16 []), .row (.slice none 0 0) 111 3 0 (List.flatMap sgc [])] := H11.nilRow 111 3
  refine WL.op rfl rfl (op_move rfl ?_)
  refine WL.op rfl rfl (op_callF Fa.C98 rfl ((one16r_ok b2 ((g2 s).2) (1) _ _ (H12.part [1] rfl rfl) (by refine rest_lt ?_; first | (rw [g1_t]; exact hs) | (rw [g2_t]; exact hs) | (rw [g4_t]; exact hs) | (rw [g6_t]; exact hs) | (rw [g7_t]; exact hs) | (rw [g8_t]; exact hs) | (rw [g10_t]; exact hs) | (rw [xsD_t, g3_t]; exact hs) | (rw [numR_s, xsD_t, g3_t]; exact hs) | (rw [psD_t, g5_t]; exact hs) | (rw [sgD_t, g9_t]; exact hs) | (rw [numR_s, sgD_t, g9_t]; exact hs) | (rw [numR_s, numR_s, sgD_t, g9_t]; exact hs) | (rw [numR_s, numR_s, numR_s, sgD_t, g9_t]; exact hs) | exact hs)).mono (fun e w13 hq => ?_)))
  obtain ⟨rfl, hq13⟩ := hq
  refine ⟨_, rfl, ?_⟩
  have H13 : Own [] w w13 [.blk b1 [(vU32 0), (.slice none 0 0), (.slice none 0 0), (.bool false), (vU32 0), (.slice none 0 0)] 59, .blk b2 [(str ((numR ((g2 s).2) 1).2).rest), (vN ((numR ((g2 s).2) 1).2).f)] 47, .blk b6 [(vU32 (g2 s).1.1), (.slice none 0 0), (.slice none 0 0), (.bool false), (vU32 0), (.slice none 0 0)] 59, .row (.slice none 0 0) 130 2 0 (List.flatMap xtc []), .row (.slice none 0 0) 92 1 0 (List.map vU16 []), .row (.slice none 0 0) 111 3 0 (List.flatMap sgc [])] := H12.splice [1] [.blk b2 [(str ((numR ((g2 s).2) 1).2).rest), (vN ((numR ((g2 s).2) 1).2).f)] 47] [] rfl rfl hq13 (Fits.solid True.intro Fits.nil)
  have H14 : Own [] w w13 [.blk b1 [(vU32 0), (.slice none 0 0), (.slice none 0 0), (.bool false), (vU32 0), (.slice none 0 0)] 59, .blk b2 [(str ((g3 s).2).rest), (vN ((g3 s).2).f)] 47, .blk b6 [(vU32 (g2 s).1.1), (.slice none 0 0), (.slice none 0 0), (.bool false), (vU32 0), (.slice none 0 0)] 59, .row (.slice none 0 0) 130 2 0 (List.flatMap xtc []), .row (.slice none 0 0) 92 1 0 (List.map vU16 []), .row (.slice none 0 0) 111 3 0 (List.flatMap sgc [])] := by have h := H13; rw [g3_e] at h; exact h
  rw [g3_e]
  refine WL.op rfl rfl (op_assign rfl ?_)
  refine WL.nil ?_
  refine WQ.next ?_
  refine WC.seq ?_
  refine WC.seq ?_
  refine WC.region ?_
  refine WL.op rfl rfl (op_assign rfl ?_)
  refine WL.nil ?_
  refine WQ.next ?_
  refine WC.block ?_
  refine WC.loop (α := Nat × Value) (fun (k, x) => [(2, (ptr b1 0)), (4, (ptr b2 0)), (5, (str (g1 s).1.1)), (7, (ptr b6 0)), (8, (vU32 (g3 s).1.1)), (9, (vU32 (UInt32.ofNat k)))]) (fun (k, x) w' => (k ≤ (g3 s).1.1.toNat) ∧ Own [] w w' [.blk b1 [(vU32 0), (.slice none 0 0), (.slice none 0 0), (.bool false), (vU32 0), (.slice none 0 0)] 59, .blk b2 [(str (xsD (g3 s).2 k).rest), (vN (xsD (g3 s).2 k).f)] 47, .blk b6 [(vU32 (g2 s).1.1), x, (.slice none 0 0), (.bool false), (vU32 0), (.slice none 0 0)] 59, .row x 130 2 k (List.flatMap xtc (xsL (g3 s).2 k)), .row (.slice none 0 0) 92 1 0 (List.map vU16 []), .row (.slice none 0 0) 111 3 0 (List.flatMap sgc [])]) (fun (k, x) => (g3 s).1.1.toNat - k) (0, (.slice none 0 0)) ⟨(Nat.zero_le _), (by rw [xsD_0]; exact H14)⟩ ⟨rfl, rfl, rfl, rfl, rfl, rfl, trivial⟩ ?_
  rintro ⟨k, x⟩ w15 ⟨hk1, H15⟩
  show WC _ _ _ _ _ [(2, (ptr b1 0)), (4, (ptr b2 0)), (5, (str (g1 s).1.1)), (7, (ptr b6 0)), (8, (vU32 (g3 s).1.1)), (9, (vU32 (UInt32.ofNat k)))] _
  have hnl := (g3 s).1.1.toNat_lt
  have hct := u32_lt (k := k) (n := (g3 s).1.1) (by omega)
  refine WC.seq ?_
  refine WC.seq ?_
  refine WC.region ?_
  refine WL.op rfl rfl (op_move rfl ?_)
  refine WL.op rfl rfl (op_move rfl ?_)
  refine WL.op rfl rfl (op_lssU32 rfl rfl ?_)
  refine WL.nil ?_
  refine WQ.next ?_
  refine WC.cond rfl (fun (hb16 : (decide ((UInt32.ofNat k) < (g3 s).1.1)) = true) => ?_) (fun (hb16 : (decide ((UInt32.ofNat k) < (g3 s).1.1)) = false) => ?_)
  ·
    have hc16 := of_decide_eq_true hb16
    have hkn := hct.1 hc16
    refine WC.skip ?_
    refine WQ.next ?_
    refine WC.seq ?_
    refine WC.block ?_
    refine WC.seq ?_
    refine WC.region ?_
    refine WL.op rfl rfl (op_move rfl ?_)
    refine WL.op rfl rfl (op_callF Fa.C98 rfl ((one16r_ok b2 (xsD (g3 s).2 k) (1) _ _ (H15.part [1] rfl rfl) (by refine rest_lt ?_; first | (rw [g1_t]; exact hs) | (rw [g2_t]; exact hs) | (rw [g4_t]; exact hs) | (rw [g6_t]; exact hs) | (rw [g7_t]; exact hs) | (rw [g8_t]; exact hs) | (rw [g10_t]; exact hs) | (rw [xsD_t, g3_t]; exact hs) | (rw [numR_s, xsD_t, g3_t]; exact hs) | (rw [psD_t, g5_t]; exact hs) | (rw [sgD_t, g9_t]; exact hs) | (rw [numR_s, sgD_t, g9_t]; exact hs) | (rw [numR_s, numR_s, sgD_t, g9_t]; exact hs) | (rw [numR_s, numR_s, numR_s, sgD_t, g9_t]; exact hs) | exact hs)).mono (fun e w17 hq => ?_)))
    obtain ⟨rfl, hq17⟩ := hq
    refine ⟨_, rfl, ?_⟩
    have H17 : Own [] w w17 [.blk b1 [(vU32 0), (.slice none 0 0), (.slice none 0 0), (.bool false), (vU32 0), (.slice none 0 0)] 59, .blk b2 [(str ((numR (xsD (g3 s).2 k) 1).2).rest), (vN ((numR (xsD (g3 s).2 k) 1).2).f)] 47, .blk b6 [(vU32 (g2 s).1.1), x, (.slice none 0 0), (.bool false), (vU32 0), (.slice none 0 0)] 59, .row x 130 2 k (List.flatMap xtc (xsL (g3 s).2 k)), .row (.slice none 0 0) 92 1 0 (List.map vU16 []), .row (.slice none 0 0) 111 3 0 (List.flatMap sgc [])] := H15.splice [1] [.blk b2 [(str ((numR (xsD (g3 s).2 k) 1).2).rest), (vN ((numR (xsD (g3 s).2 k) 1).2).f)] 47] [] rfl rfl hq17 (Fits.solid True.intro Fits.nil)
    refine WL.op rfl rfl (op_build (cs := [_, _]) Fa.I130 Fa.PL130 rfl rfl ?_)
    refine WL.op rfl rfl (op_alloc H17 Fa.I130 (fun b18 w18 H18 => ?_))
    refine WL.op rfl rfl (op_storeBW (i := 6) H18 rfl rfl rfl rfl rfl Fa.I130 (fun w19 H19 => ?_))
    refine WL.nil ?_
    refine WQ.next ?_
    refine WC.seq ?_
    refine WC.region ?_
    refine WL.op rfl rfl (op_move rfl ?_)
    refine WL.op rfl rfl (op_callF Fa.C98 rfl ((one16r_ok b2 ((numR (xsD (g3 s).2 k) 1).2) (2) _ _ (H19.part [1] rfl rfl) (by refine rest_lt ?_; first | (rw [g1_t]; exact hs) | (rw [g2_t]; exact hs) | (rw [g4_t]; exact hs) | (rw [g6_t]; exact hs) | (rw [g7_t]; exact hs) | (rw [g8_t]; exact hs) | (rw [g10_t]; exact hs) | (rw [xsD_t, g3_t]; exact hs) | (rw [numR_s, xsD_t, g3_t]; exact hs) | (rw [psD_t, g5_t]; exact hs) | (rw [sgD_t, g9_t]; exact hs) | (rw [numR_s, sgD_t, g9_t]; exact hs) | (rw [numR_s, numR_s, sgD_t, g9_t]; exact hs) | (rw [numR_s, numR_s, numR_s, sgD_t, g9_t]; exact hs) | exact hs)).mono (fun e w20 hq => ?_)))
    obtain ⟨rfl, hq20⟩ := hq
    refine ⟨_, rfl, ?_⟩
    have H20 : Own [] w w20 [.blk b1 [(vU32 0), (.slice none 0 0), (.slice none 0 0), (.bool false), (vU32 0), (.slice none 0 0)] 59, .blk b2 [(str ((numR ((numR (xsD (g3 s).2 k) 1).2) 2).2).rest), (vN ((numR ((numR (xsD (g3 s).2 k) 1).2) 2).2).f)] 47, .blk b6 [(vU32 (g2 s).1.1), x, (.slice none 0 0), (.bool false), (vU32 0), (.slice none 0 0)] 59, .row x 130 2 k (List.flatMap xtc (xsL (g3 s).2 k)), .row (.slice none 0 0) 92 1 0 (List.map vU16 []), .row (.slice none 0 0) 111 3 0 (List.flatMap sgc []), .blk b18 [(vU32 (numR (xsD (g3 s).2 k) 1).1.1), (vU32 0)] 130] := H19.splice [1] [.blk b2 [(str ((numR ((numR (xsD (g3 s).2 k) 1).2) 2).2).rest), (vN ((numR ((numR (xsD (g3 s).2 k) 1).2) 2).2).f)] 47] [] rfl rfl hq20 (Fits.solid True.intro Fits.nil)
    refine WL.op rfl rfl (op_fieldAddr rfl Fa.F130_1 ?_)
    refine WL.op rfl rfl (op_storeB (i := 6) H20 rfl rfl rfl rfl rfl Fa.I22 (fun w21 H21 => ?_))
    refine WL.nil ?_
    refine WQ.next ?_
    refine WC.region ?_
    refine WL.op rfl rfl (op_fieldAddr rfl Fa.F59_0 ?_)
    refine WL.op rfl rfl (op_fieldAddr rfl Fa.F56_1 ?_)
    refine WL.op rfl rfl (op_load rfl (H21.cell (i := 2) rfl rfl) Try.underlying53 rfl ?_)
    refine WL.op rfl rfl (op_loadS (vs := [_, _]) rfl (H21.cells (i := 6) rfl rfl) Try.underlying130 rfl Fa.I130 rfl ?_)
    refine WL.op rfl rfl (op_buildSlice (cs := [_, _]) H21 Try.underlying53 Fa.I130 rfl rfl rfl rfl (by decide) (by decide) (fun b22 w22 H22 => ?_))
    refine WL.op rfl rfl (op_appendF (f := xtc) (l := (xsL (g3 s).2 k)) (l' := [(Xt.mk ((numR (xsD (g3 s).2 k) 1).1.1) ((numR ((numR (xsD (g3 s).2 k) 1).2) 2).1.1))]) (i := 3) H22 Try.underlying53 Fa.I130 rfl rfl rfl rfl (Src.ofArr Try.underlying53 (H22.arrR (i := 7) rfl)) (one_flat (fun _ => by simp [xtc, Value.oneCell'])) (by omega) (by omega) (fun v23 w23 H23 => ?_))
    refine WL.op rfl rfl (op_fieldAddr rfl Fa.F59_0 ?_)
    refine WL.op rfl rfl (op_fieldAddr rfl Fa.F56_1 ?_)
    refine WL.op rfl rfl (op_storeB (i := 2) H23 rfl rfl rfl rfl (Arr.one (H23.arrR (i := 3) rfl)) Fa.I53 (fun w24 H24 => ?_))
    refine WL.nil ?_
    refine WQ.inNormal ?_
    refine WQ.next ?_
    refine WC.region ?_
    refine WL.op rfl rfl (op_move rfl ?_)
    refine WL.op rfl rfl (op_addU32 (b := 1) rfl rfl ?_)
    refine WL.op rfl rfl (op_assign rfl ?_)
    refine WL.nil ?_
    exact WQ.round (k + 1, v23) ⟨(by omega), (by rw [xsD_s, xsL_s]; exact (H24.take 6))⟩ ⟨rfl, rfl, rfl, rfl, rfl, (congrArg (fun n => some (vU32 n)) (u32_succ _)), trivial⟩ (by show (g3 s).1.1.toNat - (k + 1) < (g3 s).1.1.toNat - k; omega)
  ·
    have hc16 := of_decide_eq_false hb16
    refine WC.exit ?_
    refine WQ.thenExit ?_
    refine WQ.thenExit ?_
    refine WQ.inHere ?_
    refine WQ.next ?_
    refine WC.seq ?_
    refine WC.region ?_
    have hkx : ¬ k < (g3 s).1.1.toNat := fun h => hc16 (hct.2 h)
    obtain rfl : k = (g3 s).1.1.toNat := by omega
    have H25 : Own [] w w15 [.blk b1 [(vU32 0), (.slice none 0 0), (.slice none 0 0), (.bool false), (vU32 0), (.slice none 0 0)] 59, .blk b2 [(str (g4 s).rest), (vN (g4 s).f)] 47, .blk b6 [(vU32 (g2 s).1.1), x, (.slice none 0 0), (.bool false), (vU32 0), (.slice none 0 0)] 59, .row x 130 2 (g3 s).1.1.toNat (List.flatMap xtc (gX s)), .row (.slice none 0 0) 92 1 0 (List.map vU16 []), .row (.slice none 0 0) 111 3 0 (List.flatMap sgc [])] := by have h := H15; rw [g4_e] at h; rw [gX_e] at h; exact h
    refine WL.op rfl rfl (op_move rfl ?_)
    refine WL.op rfl rfl (op_callF Fa.C98 rfl ((one16r_ok b2 (g4 s) (1) _ _ (H25.part [1] rfl rfl) (by refine rest_lt ?_; first | (rw [g1_t]; exact hs) | (rw [g2_t]; exact hs) | (rw [g4_t]; exact hs) | (rw [g6_t]; exact hs) | (rw [g7_t]; exact hs) | (rw [g8_t]; exact hs) | (rw [g10_t]; exact hs) | (rw [xsD_t, g3_t]; exact hs) | (rw [numR_s, xsD_t, g3_t]; exact hs) | (rw [psD_t, g5_t]; exact hs) | (rw [sgD_t, g9_t]; exact hs) | (rw [numR_s, sgD_t, g9_t]; exact hs) | (rw [numR_s, numR_s, sgD_t, g9_t]; exact hs) | (rw [numR_s, numR_s, numR_s, sgD_t, g9_t]; exact hs) | exact hs)).mono (fun e w26 hq => ?_)))
    obtain ⟨rfl, hq26⟩ := hq
    refine ⟨_, rfl, ?_⟩
    have H26 : Own [] w w26 [.blk b1 [(vU32 0), (.slice none 0 0), (.slice none 0 0), (.bool false), (vU32 0), (.slice none 0 0)] 59, .blk b2 [(str ((numR (g4 s) 1).2).rest), (vN ((numR (g4 s) 1).2).f)] 47, .blk b6 [(vU32 (g2 s).1.1), x, (.slice none 0 0), (.bool false), (vU32 0), (.slice none 0 0)] 59, .row x 130 2 (g3 s).1.1.toNat (List.flatMap xtc (gX s)), .row (.slice none 0 0) 92 1 0 (List.map vU16 []), .row (.slice none 0 0) 111 3 0 (List.flatMap sgc [])] := H25.splice [1] [.blk b2 [(str ((numR (g4 s) 1).2).rest), (vN ((numR (g4 s) 1).2).f)] 47] [] rfl rfl hq26 (Fits.solid True.intro Fits.nil)
    have H27 : Own [] w w26 [.blk b1 [(vU32 0), (.slice none 0 0), (.slice none 0 0), (.bool false), (vU32 0), (.slice none 0 0)] 59, .blk b2 [(str ((g5 s).2).rest), (vN ((g5 s).2).f)] 47, .blk b6 [(vU32 (g2 s).1.1), x, (.slice none 0 0), (.bool false), (vU32 0), (.slice none 0 0)] 59, .row x 130 2 (g3 s).1.1.toNat (List.flatMap xtc (gX s)), .row (.slice none 0 0) 92 1 0 (List.map vU16 []), .row (.slice none 0 0) 111 3 0 (List.flatMap sgc [])] := by have h := H26; rw [g5_e] at h; exact h
    rw [g5_e]
    refine WL.op rfl rfl (op_assign rfl ?_)
    refine WL.nil ?_
    refine WQ.next ?_
    refine WC.seq ?_
    refine WC.seq ?_
    refine WC.region ?_
    refine WL.op rfl rfl (op_assign rfl ?_)
    refine WL.nil ?_
    refine WQ.next ?_
    refine WC.block ?_
    refine WC.loop (α := Nat × Value) (fun (j, y) => [(2, (ptr b1 0)), (4, (ptr b2 0)), (5, (str (g1 s).1.1)), (7, (ptr b6 0)), (8, (vU32 (g5 s).1.1)), (11, (vU32 (UInt32.ofNat j)))]) (fun (j, y) w' => (j ≤ (g5 s).1.1.toNat) ∧ Own [] w w' [.blk b1 [(vU32 0), (.slice none 0 0), (.slice none 0 0), (.bool false), (vU32 0), (.slice none 0 0)] 59, .blk b2 [(str (psD (g5 s).2 j).rest), (vN (psD (g5 s).2 j).f)] 47, .blk b6 [(vU32 (g2 s).1.1), x, y, (.bool false), (vU32 0), (.slice none 0 0)] 59, .row x 130 2 (g3 s).1.1.toNat (List.flatMap xtc (gX s)), .row y 92 1 j (List.map vU16 (psL (g5 s).2 j)), .row (.slice none 0 0) 111 3 0 (List.flatMap sgc [])]) (fun (j, y) => (g5 s).1.1.toNat - j) (0, (.slice none 0 0)) ⟨(Nat.zero_le _), (by rw [psD_0]; exact H27)⟩ ⟨rfl, rfl, rfl, rfl, rfl, rfl, trivial⟩ ?_
    rintro ⟨j, y⟩ w28 ⟨hj1, H28⟩
    show WC _ _ _ _ _ [(2, (ptr b1 0)), (4, (ptr b2 0)), (5, (str (g1 s).1.1)), (7, (ptr b6 0)), (8, (vU32 (g5 s).1.1)), (11, (vU32 (UInt32.ofNat j)))] _
    have hnl := (g5 s).1.1.toNat_lt
    have hct := u32_lt (k := j) (n := (g5 s).1.1) (by omega)
    refine WC.seq ?_
    refine WC.seq ?_
    refine WC.region ?_
    refine WL.op rfl rfl (op_move rfl ?_)
    refine WL.op rfl rfl (op_move rfl ?_)
    refine WL.op rfl rfl (op_lssU32 rfl rfl ?_)
    refine WL.nil ?_
    refine WQ.next ?_
    refine WC.cond rfl (fun (hb29 : (decide ((UInt32.ofNat j) < (g5 s).1.1)) = true) => ?_) (fun (hb29 : (decide ((UInt32.ofNat j) < (g5 s).1.1)) = false) => ?_)
    ·
      have hc29 := of_decide_eq_true hb29
      have hkn := hct.1 hc29
      refine WC.skip ?_
      refine WQ.next ?_
      refine WC.seq ?_
      refine WC.block ?_
      refine WC.drawn 11 rfl Fa.M H28 ?_
      intro w30 H30
      refine WD.named (fun W hW => ?_)
      let e16 : List (Nat × Value) → List (Nat × Value) := fun r => (2, (ptr b1 0)) :: (4, (ptr b2 0)) :: (5, (str (g1 s).1.1)) :: (7, (ptr b6 0)) :: (8, (vU32 (g5 s).1.1)) :: (11, (vU32 (UInt32.ofNat j))) :: (51, (vU32 (UInt32.ofNat j))) :: (52, (vU32 (g5 s).1.1)) :: (53, (.bool (decide ((UInt32.ofNat j) < (g5 s).1.1)))) :: r
      let l16 : List Ent → List Ent := fun r => (.blk b1 [(vU32 0), (.slice none 0 0), (.slice none 0 0), (.bool false), (vU32 0), (.slice none 0 0)] 59) :: (.blk b2 [(str (psD (g5 s).2 j).rest), (vN (psD (g5 s).2 j).f)] 47) :: (.blk b6 [(vU32 (g2 s).1.1), x, y, (.bool false), (vU32 0), (.slice none 0 0)] 59) :: (.row x 130 2 (g3 s).1.1.toNat (List.flatMap xtc (gX s))) :: (.row y 92 1 j (List.map vU16 (psL (g5 s).2 j))) :: (.row (.slice none 0 0) 111 3 0 (List.flatMap sgc [])) :: r
      have st16_23 : ∀ (b41121 : _) (v41141 : _) (wS : World), Own [] w wS [.blk b1 [(vU32 0), (.slice none 0 0), (.slice none 0 0), (.bool false), (vU32 0), (.slice none 0 0)] 59, .blk b2 [(str ((numR (psD (g5 s).2 j) 2).2).rest), (vN ((numR (psD (g5 s).2 j) 2).2).f)] 47, .blk b6 [(vU32 (g2 s).1.1), x, v41141, (.bool false), (vU32 0), (.slice none 0 0)] 59, .row x 130 2 (g3 s).1.1.toNat (List.flatMap xtc (gX s)), .row v41141 92 1 (j + 1) (List.map vU16 ((psL (g5 s).2 j) ++ [(UInt16.ofNat (numR (psD (g5 s).2 j) 2).1.1.toNat)])), .row (.slice none 0 0) 111 3 0 (List.flatMap sgc []), .row (.slice (some ⟨b41121, 0, none⟩) 1 1) 92 1 1 (List.map vU16 [(UInt16.ofNat (numR (psD (g5 s).2 j) 2).1.1.toNat)])] → W 0 #[true, true, true, true, true, true, true, true, true, true, true] (e16 [(56, (ptr b6 0)), (57, (ptr b6 2)), (58, y), (59, (ptr b2 0)), (60, (vU32 (numR (psD (g5 s).2 j) 2).1.1)), (61, (vU16 (UInt16.ofNat (numR (psD (g5 s).2 j) 2).1.1.toNat))), (62, (.slice (some ⟨b41121, 0, none⟩) 1 1)), (63, v41141), (64, (ptr b6 0)), (65, (ptr b6 2))]) wS := by
        intro b41121 v41141 wS HS
        rw [hW]
        refine WD.done (by kernel_rfl) ?_
        refine WQ.inNormal ?_
        refine WQ.next ?_
        refine WC.region ?_
        refine WL.op rfl rfl (op_move rfl ?_)
        refine WL.op rfl rfl (op_addU32 (b := 1) rfl rfl ?_)
        refine WL.op rfl rfl (op_assign rfl ?_)
        refine WL.nil ?_
        exact WQ.round (j + 1, v41141) ⟨(by omega), (by rw [psD_s, psL_s]; exact (HS.take 6))⟩ ⟨rfl, rfl, rfl, rfl, rfl, (congrArg (fun n => some (vU32 n)) (u32_succ _)), trivial⟩ (by show (g5 s).1.1.toNat - (j + 1) < (g5 s).1.1.toNat - j; omega)
      have st16_22 : ∀ (b41121 : _) (v41141 : _) (wS : World), Own [] w wS [.blk b1 [(vU32 0), (.slice none 0 0), (.slice none 0 0), (.bool false), (vU32 0), (.slice none 0 0)] 59, .blk b2 [(str ((numR (psD (g5 s).2 j) 2).2).rest), (vN ((numR (psD (g5 s).2 j) 2).2).f)] 47, .blk b6 [(vU32 (g2 s).1.1), x, y, (.bool false), (vU32 0), (.slice none 0 0)] 59, .row x 130 2 (g3 s).1.1.toNat (List.flatMap xtc (gX s)), .row v41141 92 1 (j + 1) (List.map vU16 ((psL (g5 s).2 j) ++ [(UInt16.ofNat (numR (psD (g5 s).2 j) 2).1.1.toNat)])), .row (.slice none 0 0) 111 3 0 (List.flatMap sgc []), .row (.slice (some ⟨b41121, 0, none⟩) 1 1) 92 1 1 (List.map vU16 [(UInt16.ofNat (numR (psD (g5 s).2 j) 2).1.1.toNat)])] → W 1 #[true, true, true, true, true, true, true, true, true, true, false] (e16 [(56, (ptr b6 0)), (57, (ptr b6 2)), (58, y), (59, (ptr b2 0)), (60, (vU32 (numR (psD (g5 s).2 j) 2).1.1)), (61, (vU16 (UInt16.ofNat (numR (psD (g5 s).2 j) 2).1.1.toNat))), (62, (.slice (some ⟨b41121, 0, none⟩) 1 1)), (63, v41141), (64, (ptr b6 0)), (65, (ptr b6 2))]) wS := by
        intro b41121 v41141 wS HS
        rw [hW]
        refine WD.all1 (i := 10) (by kernel_rfl) ?_
        ·
          refine WS.op (i := 10) rfl rfl rfl (op_storeB (i := 2) HS rfl rfl rfl rfl (Arr.one (HS.arrR (i := 4) rfl)) Fa.I54 (fun w41201 H41201 => ?_))
          have hq := st16_23 b41121 v41141 w41201 H41201
          rw [hW] at hq
          refine WD.cov ?_ hq
          exact by repeat (first | exact trivial | refine ⟨rfl, ?_⟩)
      have st16_21 : ∀ (b41121 : _) (v41141 : _) (wS : World), Own [] w wS [.blk b1 [(vU32 0), (.slice none 0 0), (.slice none 0 0), (.bool false), (vU32 0), (.slice none 0 0)] 59, .blk b2 [(str ((numR (psD (g5 s).2 j) 2).2).rest), (vN ((numR (psD (g5 s).2 j) 2).2).f)] 47, .blk b6 [(vU32 (g2 s).1.1), x, y, (.bool false), (vU32 0), (.slice none 0 0)] 59, .row x 130 2 (g3 s).1.1.toNat (List.flatMap xtc (gX s)), .row v41141 92 1 (j + 1) (List.map vU16 ((psL (g5 s).2 j) ++ [(UInt16.ofNat (numR (psD (g5 s).2 j) 2).1.1.toNat)])), .row (.slice none 0 0) 111 3 0 (List.flatMap sgc []), .row (.slice (some ⟨b41121, 0, none⟩) 1 1) 92 1 1 (List.map vU16 [(UInt16.ofNat (numR (psD (g5 s).2 j) 2).1.1.toNat)])] → W 2 #[true, true, true, true, true, true, true, true, true, false, false] (e16 [(56, (ptr b6 0)), (57, (ptr b6 2)), (58, y), (59, (ptr b2 0)), (60, (vU32 (numR (psD (g5 s).2 j) 2).1.1)), (61, (vU16 (UInt16.ofNat (numR (psD (g5 s).2 j) 2).1.1.toNat))), (62, (.slice (some ⟨b41121, 0, none⟩) 1 1)), (63, v41141), (64, (ptr b6 0))]) wS := by
        intro b41121 v41141 wS HS
        rw [hW]
        refine WD.all1 (i := 9) (by kernel_rfl) ?_
        ·
          refine WS.op (i := 9) rfl rfl rfl (op_fieldAddr rfl Fa.F56_2 ?_)
          have hq := st16_22 b41121 v41141 wS HS
          rw [hW] at hq
          refine WD.cov ?_ hq
          exact by repeat (first | exact trivial | refine ⟨rfl, ?_⟩)
      have st16_20 : ∀ (b41121 : _) (v41141 : _) (wS : World), Own [] w wS [.blk b1 [(vU32 0), (.slice none 0 0), (.slice none 0 0), (.bool false), (vU32 0), (.slice none 0 0)] 59, .blk b2 [(str ((numR (psD (g5 s).2 j) 2).2).rest), (vN ((numR (psD (g5 s).2 j) 2).2).f)] 47, .blk b6 [(vU32 (g2 s).1.1), x, y, (.bool false), (vU32 0), (.slice none 0 0)] 59, .row x 130 2 (g3 s).1.1.toNat (List.flatMap xtc (gX s)), .row v41141 92 1 (j + 1) (List.map vU16 ((psL (g5 s).2 j) ++ [(UInt16.ofNat (numR (psD (g5 s).2 j) 2).1.1.toNat)])), .row (.slice none 0 0) 111 3 0 (List.flatMap sgc []), .row (.slice (some ⟨b41121, 0, none⟩) 1 1) 92 1 1 (List.map vU16 [(UInt16.ofNat (numR (psD (g5 s).2 j) 2).1.1.toNat)])] → W 3 #[true, true, true, true, true, true, true, true, false, false, false] (e16 [(56, (ptr b6 0)), (57, (ptr b6 2)), (58, y), (59, (ptr b2 0)), (60, (vU32 (numR (psD (g5 s).2 j) 2).1.1)), (61, (vU16 (UInt16.ofNat (numR (psD (g5 s).2 j) 2).1.1.toNat))), (62, (.slice (some ⟨b41121, 0, none⟩) 1 1)), (63, v41141)]) wS := by
        intro b41121 v41141 wS HS
        rw [hW]
        refine WD.all1 (i := 8) (by kernel_rfl) ?_
        ·
          refine WS.op (i := 8) rfl rfl rfl (op_fieldAddr rfl Fa.F59_0 ?_)
          have hq := st16_21 b41121 v41141 wS HS
          rw [hW] at hq
          refine WD.cov ?_ hq
          exact by repeat (first | exact trivial | refine ⟨rfl, ?_⟩)
      have st16_19 : ∀ (b41121 : _) (wS : World), Own [] w wS [.blk b1 [(vU32 0), (.slice none 0 0), (.slice none 0 0), (.bool false), (vU32 0), (.slice none 0 0)] 59, .blk b2 [(str ((numR (psD (g5 s).2 j) 2).2).rest), (vN ((numR (psD (g5 s).2 j) 2).2).f)] 47, .blk b6 [(vU32 (g2 s).1.1), x, y, (.bool false), (vU32 0), (.slice none 0 0)] 59, .row x 130 2 (g3 s).1.1.toNat (List.flatMap xtc (gX s)), .row y 92 1 j (List.map vU16 (psL (g5 s).2 j)), .row (.slice none 0 0) 111 3 0 (List.flatMap sgc []), .row (.slice (some ⟨b41121, 0, none⟩) 1 1) 92 1 1 (List.map vU16 [(UInt16.ofNat (numR (psD (g5 s).2 j) 2).1.1.toNat)])] → W 4 #[true, true, true, true, true, true, true, false, false, false, false] (e16 [(56, (ptr b6 0)), (57, (ptr b6 2)), (58, y), (59, (ptr b2 0)), (60, (vU32 (numR (psD (g5 s).2 j) 2).1.1)), (61, (vU16 (UInt16.ofNat (numR (psD (g5 s).2 j) 2).1.1.toNat))), (62, (.slice (some ⟨b41121, 0, none⟩) 1 1))]) wS := by
        intro b41121 wS HS
        rw [hW]
        refine WD.all1 (i := 7) (by kernel_rfl) ?_
        ·
          refine WS.op (i := 7) rfl rfl rfl (op_appendM (f := vU16) (l := (psL (g5 s).2 j)) (l' := [(UInt16.ofNat (numR (psD (g5 s).2 j) 2).1.1.toNat)]) (i := 4) HS Try.underlying54 Fa.I92 rfl rfl rfl rfl (Src.ofArr Try.underlying54 (HS.arrR (i := 6) rfl)) (one_mapM (fun _ => rfl)) (by omega) (by omega) (fun v41141 w41141 H41141 => ?_))
          have hq := st16_20 b41121 v41141 w41141 H41141
          rw [hW] at hq
          refine WD.cov ?_ hq
          exact by repeat (first | exact trivial | refine ⟨rfl, ?_⟩)
      have st16_17 : ∀ (wS : World), Own [] w wS [.blk b1 [(vU32 0), (.slice none 0 0), (.slice none 0 0), (.bool false), (vU32 0), (.slice none 0 0)] 59, .blk b2 [(str ((numR (psD (g5 s).2 j) 2).2).rest), (vN ((numR (psD (g5 s).2 j) 2).2).f)] 47, .blk b6 [(vU32 (g2 s).1.1), x, y, (.bool false), (vU32 0), (.slice none 0 0)] 59, .row x 130 2 (g3 s).1.1.toNat (List.flatMap xtc (gX s)), .row y 92 1 j (List.map vU16 (psL (g5 s).2 j)), .row (.slice none 0 0) 111 3 0 (List.flatMap sgc [])] → W 5 #[true, true, true, true, true, true, false, false, false, false, false] (e16 [(56, (ptr b6 0)), (57, (ptr b6 2)), (58, y), (59, (ptr b2 0)), (60, (vU32 (numR (psD (g5 s).2 j) 2).1.1)), (61, (vU16 (UInt16.ofNat (numR (psD (g5 s).2 j) 2).1.1.toNat)))]) wS := by
        intro wS HS
        rw [hW]
        refine WD.all1 (i := 6) (by kernel_rfl) ?_
        ·
          refine WS.op (i := 6) rfl rfl rfl (op_buildSlice (cs := [_]) HS Try.underlying54 Fa.I92 rfl rfl rfl rfl (by decide) (by decide) (fun b41121 w41121 H41121 => ?_))
          have hq := st16_19 b41121 w41121 H41121
          rw [hW] at hq
          refine WD.cov ?_ hq
          exact by repeat (first | exact trivial | refine ⟨rfl, ?_⟩)
      have st16_18 : ∀ (b41121 : _) (wS : World), Own [] w wS [.blk b1 [(vU32 0), (.slice none 0 0), (.slice none 0 0), (.bool false), (vU32 0), (.slice none 0 0)] 59, .blk b2 [(str ((numR (psD (g5 s).2 j) 2).2).rest), (vN ((numR (psD (g5 s).2 j) 2).2).f)] 47, .blk b6 [(vU32 (g2 s).1.1), x, y, (.bool false), (vU32 0), (.slice none 0 0)] 59, .row x 130 2 (g3 s).1.1.toNat (List.flatMap xtc (gX s)), .row y 92 1 j (List.map vU16 (psL (g5 s).2 j)), .row (.slice none 0 0) 111 3 0 (List.flatMap sgc []), .row (.slice (some ⟨b41121, 0, none⟩) 1 1) 92 1 1 (List.map vU16 [(UInt16.ofNat (numR (psD (g5 s).2 j) 2).1.1.toNat)])] → W 5 #[true, true, false, true, true, true, true, false, false, false, false] (e16 [(56, (ptr b6 0)), (57, (ptr b6 2)), (59, (ptr b2 0)), (60, (vU32 (numR (psD (g5 s).2 j) 2).1.1)), (61, (vU16 (UInt16.ofNat (numR (psD (g5 s).2 j) 2).1.1.toNat))), (62, (.slice (some ⟨b41121, 0, none⟩) 1 1))]) wS := by
        intro b41121 wS HS
        rw [hW]
        refine WD.all1 (i := 2) (by kernel_rfl) ?_
        ·
          refine WS.op (i := 2) rfl rfl rfl (op_load rfl (HS.cell (i := 2) rfl rfl) Try.underlying54 rfl ?_)
          have hq := st16_19 b41121 wS HS
          rw [hW] at hq
          refine WD.cov ?_ hq
          exact by repeat (first | exact trivial | refine ⟨rfl, ?_⟩)
      have st16_14 : ∀ (wS : World), Own [] w wS [.blk b1 [(vU32 0), (.slice none 0 0), (.slice none 0 0), (.bool false), (vU32 0), (.slice none 0 0)] 59, .blk b2 [(str ((numR (psD (g5 s).2 j) 2).2).rest), (vN ((numR (psD (g5 s).2 j) 2).2).f)] 47, .blk b6 [(vU32 (g2 s).1.1), x, y, (.bool false), (vU32 0), (.slice none 0 0)] 59, .row x 130 2 (g3 s).1.1.toNat (List.flatMap xtc (gX s)), .row y 92 1 j (List.map vU16 (psL (g5 s).2 j)), .row (.slice none 0 0) 111 3 0 (List.flatMap sgc [])] → W 6 #[true, true, true, true, true, false, false, false, false, false, false] (e16 [(56, (ptr b6 0)), (57, (ptr b6 2)), (58, y), (59, (ptr b2 0)), (60, (vU32 (numR (psD (g5 s).2 j) 2).1.1))]) wS := by
        intro wS HS
        rw [hW]
        refine WD.all1 (i := 5) (by kernel_rfl) ?_
        ·
          refine WS.op (i := 5) rfl rfl rfl (op_convU32U16 (hs := Try.underlying22) (hd := Try.underlying92) rfl ?_)
          have hq := st16_17 wS HS
          rw [hW] at hq
          refine WD.cov ?_ hq
          exact by repeat (first | exact trivial | refine ⟨rfl, ?_⟩)
      have st16_15 : ∀ (wS : World), Own [] w wS [.blk b1 [(vU32 0), (.slice none 0 0), (.slice none 0 0), (.bool false), (vU32 0), (.slice none 0 0)] 59, .blk b2 [(str ((numR (psD (g5 s).2 j) 2).2).rest), (vN ((numR (psD (g5 s).2 j) 2).2).f)] 47, .blk b6 [(vU32 (g2 s).1.1), x, y, (.bool false), (vU32 0), (.slice none 0 0)] 59, .row x 130 2 (g3 s).1.1.toNat (List.flatMap xtc (gX s)), .row y 92 1 j (List.map vU16 (psL (g5 s).2 j)), .row (.slice none 0 0) 111 3 0 (List.flatMap sgc [])] → W 6 #[true, true, false, true, true, true, false, false, false, false, false] (e16 [(56, (ptr b6 0)), (57, (ptr b6 2)), (59, (ptr b2 0)), (60, (vU32 (numR (psD (g5 s).2 j) 2).1.1)), (61, (vU16 (UInt16.ofNat (numR (psD (g5 s).2 j) 2).1.1.toNat)))]) wS := by
        intro wS HS
        rw [hW]
        refine WD.all2 (i := 2) (j := 6) (by kernel_rfl) ?_ ?_
        ·
          refine WS.op (i := 2) rfl rfl rfl (op_load rfl (HS.cell (i := 2) rfl rfl) Try.underlying54 rfl ?_)
          have hq := st16_17 wS HS
          rw [hW] at hq
          refine WD.cov ?_ hq
          exact by repeat (first | exact trivial | refine ⟨rfl, ?_⟩)
        ·
          refine WS.op (i := 6) rfl rfl rfl (op_buildSlice (cs := [_]) HS Try.underlying54 Fa.I92 rfl rfl rfl rfl (by decide) (by decide) (fun b41121 w41121 H41121 => ?_))
          have hq := st16_18 b41121 w41121 H41121
          rw [hW] at hq
          refine WD.cov ?_ hq
          exact by repeat (first | exact trivial | refine ⟨rfl, ?_⟩)
      have st16_16 : ∀ (b41121 : _) (wS : World), Own [] w wS [.blk b1 [(vU32 0), (.slice none 0 0), (.slice none 0 0), (.bool false), (vU32 0), (.slice none 0 0)] 59, .blk b2 [(str ((numR (psD (g5 s).2 j) 2).2).rest), (vN ((numR (psD (g5 s).2 j) 2).2).f)] 47, .blk b6 [(vU32 (g2 s).1.1), x, y, (.bool false), (vU32 0), (.slice none 0 0)] 59, .row x 130 2 (g3 s).1.1.toNat (List.flatMap xtc (gX s)), .row y 92 1 j (List.map vU16 (psL (g5 s).2 j)), .row (.slice none 0 0) 111 3 0 (List.flatMap sgc []), .row (.slice (some ⟨b41121, 0, none⟩) 1 1) 92 1 1 (List.map vU16 [(UInt16.ofNat (numR (psD (g5 s).2 j) 2).1.1.toNat)])] → W 6 #[true, false, false, true, true, true, true, false, false, false, false] (e16 [(56, (ptr b6 0)), (59, (ptr b2 0)), (60, (vU32 (numR (psD (g5 s).2 j) 2).1.1)), (61, (vU16 (UInt16.ofNat (numR (psD (g5 s).2 j) 2).1.1.toNat))), (62, (.slice (some ⟨b41121, 0, none⟩) 1 1))]) wS := by
        intro b41121 wS HS
        rw [hW]
        refine WD.all1 (i := 1) (by kernel_rfl) ?_
        ·
          refine WS.op (i := 1) rfl rfl rfl (op_fieldAddr rfl Fa.F56_2 ?_)
          have hq := st16_18 b41121 wS HS
          rw [hW] at hq
          refine WD.cov ?_ hq
          exact by repeat (first | exact trivial | refine ⟨rfl, ?_⟩)
      have st16_10 : ∀ (wS : World), Own [] w wS (l16 []) → W 7 #[true, true, true, true, false, false, false, false, false, false, false] (e16 [(56, (ptr b6 0)), (57, (ptr b6 2)), (58, y), (59, (ptr b2 0))]) wS := by
        intro wS HS
        rw [hW]
        refine WD.all1 (i := 4) (by kernel_rfl) ?_
        ·
          refine WS.op (i := 4) rfl rfl rfl (op_callF Fa.C98 rfl ((one16r_ok b2 (psD (g5 s).2 j) (2) _ _ (HS.part [1] rfl rfl) (by refine rest_lt ?_; first | (rw [g1_t]; exact hs) | (rw [g2_t]; exact hs) | (rw [g4_t]; exact hs) | (rw [g6_t]; exact hs) | (rw [g7_t]; exact hs) | (rw [g8_t]; exact hs) | (rw [g10_t]; exact hs) | (rw [xsD_t, g3_t]; exact hs) | (rw [numR_s, xsD_t, g3_t]; exact hs) | (rw [psD_t, g5_t]; exact hs) | (rw [sgD_t, g9_t]; exact hs) | (rw [numR_s, sgD_t, g9_t]; exact hs) | (rw [numR_s, numR_s, sgD_t, g9_t]; exact hs) | (rw [numR_s, numR_s, numR_s, sgD_t, g9_t]; exact hs) | exact hs)).mono (fun e w41081 hq => ?_)))
          obtain ⟨rfl, hq41081⟩ := hq
          refine ⟨_, rfl, ?_⟩
          have H41081 : Own [] w w41081 [.blk b1 [(vU32 0), (.slice none 0 0), (.slice none 0 0), (.bool false), (vU32 0), (.slice none 0 0)] 59, .blk b2 [(str ((numR (psD (g5 s).2 j) 2).2).rest), (vN ((numR (psD (g5 s).2 j) 2).2).f)] 47, .blk b6 [(vU32 (g2 s).1.1), x, y, (.bool false), (vU32 0), (.slice none 0 0)] 59, .row x 130 2 (g3 s).1.1.toNat (List.flatMap xtc (gX s)), .row y 92 1 j (List.map vU16 (psL (g5 s).2 j)), .row (.slice none 0 0) 111 3 0 (List.flatMap sgc [])] := HS.splice [1] [.blk b2 [(str ((numR (psD (g5 s).2 j) 2).2).rest), (vN ((numR (psD (g5 s).2 j) 2).2).f)] 47] [] rfl rfl hq41081 (Fits.solid True.intro Fits.nil)
          have hq := st16_14 w41081 H41081
          rw [hW] at hq
          refine WD.cov ?_ hq
          exact by repeat (first | exact trivial | refine ⟨rfl, ?_⟩)
      have st16_11 : ∀ (wS : World), Own [] w wS [.blk b1 [(vU32 0), (.slice none 0 0), (.slice none 0 0), (.bool false), (vU32 0), (.slice none 0 0)] 59, .blk b2 [(str ((numR (psD (g5 s).2 j) 2).2).rest), (vN ((numR (psD (g5 s).2 j) 2).2).f)] 47, .blk b6 [(vU32 (g2 s).1.1), x, y, (.bool false), (vU32 0), (.slice none 0 0)] 59, .row x 130 2 (g3 s).1.1.toNat (List.flatMap xtc (gX s)), .row y 92 1 j (List.map vU16 (psL (g5 s).2 j)), .row (.slice none 0 0) 111 3 0 (List.flatMap sgc [])] → W 7 #[true, true, false, true, true, false, false, false, false, false, false] (e16 [(56, (ptr b6 0)), (57, (ptr b6 2)), (59, (ptr b2 0)), (60, (vU32 (numR (psD (g5 s).2 j) 2).1.1))]) wS := by
        intro wS HS
        rw [hW]
        refine WD.all2 (i := 2) (j := 5) (by kernel_rfl) ?_ ?_
        ·
          refine WS.op (i := 2) rfl rfl rfl (op_load rfl (HS.cell (i := 2) rfl rfl) Try.underlying54 rfl ?_)
          have hq := st16_14 wS HS
          rw [hW] at hq
          refine WD.cov ?_ hq
          exact by repeat (first | exact trivial | refine ⟨rfl, ?_⟩)
        ·
          refine WS.op (i := 5) rfl rfl rfl (op_convU32U16 (hs := Try.underlying22) (hd := Try.underlying92) rfl ?_)
          have hq := st16_15 wS HS
          rw [hW] at hq
          refine WD.cov ?_ hq
          exact by repeat (first | exact trivial | refine ⟨rfl, ?_⟩)
      have st16_12 : ∀ (wS : World), Own [] w wS [.blk b1 [(vU32 0), (.slice none 0 0), (.slice none 0 0), (.bool false), (vU32 0), (.slice none 0 0)] 59, .blk b2 [(str ((numR (psD (g5 s).2 j) 2).2).rest), (vN ((numR (psD (g5 s).2 j) 2).2).f)] 47, .blk b6 [(vU32 (g2 s).1.1), x, y, (.bool false), (vU32 0), (.slice none 0 0)] 59, .row x 130 2 (g3 s).1.1.toNat (List.flatMap xtc (gX s)), .row y 92 1 j (List.map vU16 (psL (g5 s).2 j)), .row (.slice none 0 0) 111 3 0 (List.flatMap sgc [])] → W 7 #[true, false, false, true, true, true, false, false, false, false, false] (e16 [(56, (ptr b6 0)), (59, (ptr b2 0)), (60, (vU32 (numR (psD (g5 s).2 j) 2).1.1)), (61, (vU16 (UInt16.ofNat (numR (psD (g5 s).2 j) 2).1.1.toNat)))]) wS := by
        intro wS HS
        rw [hW]
        refine WD.all2 (i := 1) (j := 6) (by kernel_rfl) ?_ ?_
        ·
          refine WS.op (i := 1) rfl rfl rfl (op_fieldAddr rfl Fa.F56_2 ?_)
          have hq := st16_15 wS HS
          rw [hW] at hq
          refine WD.cov ?_ hq
          exact by repeat (first | exact trivial | refine ⟨rfl, ?_⟩)
        ·
          refine WS.op (i := 6) rfl rfl rfl (op_buildSlice (cs := [_]) HS Try.underlying54 Fa.I92 rfl rfl rfl rfl (by decide) (by decide) (fun b41121 w41121 H41121 => ?_))
          have hq := st16_16 b41121 w41121 H41121
          rw [hW] at hq
          refine WD.cov ?_ hq
          exact by repeat (first | exact trivial | refine ⟨rfl, ?_⟩)
      have st16_13 : ∀ (b41121 : _) (wS : World), Own [] w wS [.blk b1 [(vU32 0), (.slice none 0 0), (.slice none 0 0), (.bool false), (vU32 0), (.slice none 0 0)] 59, .blk b2 [(str ((numR (psD (g5 s).2 j) 2).2).rest), (vN ((numR (psD (g5 s).2 j) 2).2).f)] 47, .blk b6 [(vU32 (g2 s).1.1), x, y, (.bool false), (vU32 0), (.slice none 0 0)] 59, .row x 130 2 (g3 s).1.1.toNat (List.flatMap xtc (gX s)), .row y 92 1 j (List.map vU16 (psL (g5 s).2 j)), .row (.slice none 0 0) 111 3 0 (List.flatMap sgc []), .row (.slice (some ⟨b41121, 0, none⟩) 1 1) 92 1 1 (List.map vU16 [(UInt16.ofNat (numR (psD (g5 s).2 j) 2).1.1.toNat)])] → W 7 #[false, false, false, true, true, true, true, false, false, false, false] (e16 [(59, (ptr b2 0)), (60, (vU32 (numR (psD (g5 s).2 j) 2).1.1)), (61, (vU16 (UInt16.ofNat (numR (psD (g5 s).2 j) 2).1.1.toNat))), (62, (.slice (some ⟨b41121, 0, none⟩) 1 1))]) wS := by
        intro b41121 wS HS
        rw [hW]
        refine WD.all1 (i := 0) (by kernel_rfl) ?_
        ·
          refine WS.op (i := 0) rfl rfl rfl (op_fieldAddr rfl Fa.F59_0 ?_)
          have hq := st16_16 b41121 wS HS
          rw [hW] at hq
          refine WD.cov ?_ hq
          exact by repeat (first | exact trivial | refine ⟨rfl, ?_⟩)
      have st16_6 : ∀ (wS : World), Own [] w wS (l16 []) → W 8 #[true, true, true, false, false, false, false, false, false, false, false] (e16 [(56, (ptr b6 0)), (57, (ptr b6 2)), (58, y)]) wS := by
        intro wS HS
        rw [hW]
        refine WD.all1 (i := 3) (by kernel_rfl) ?_
        ·
          refine WS.op (i := 3) rfl rfl rfl (op_move rfl ?_)
          have hq := st16_10 wS HS
          rw [hW] at hq
          refine WD.cov ?_ hq
          exact by repeat (first | exact trivial | refine ⟨rfl, ?_⟩)
      have st16_7 : ∀ (wS : World), Own [] w wS (l16 []) → W 8 #[true, true, false, true, false, false, false, false, false, false, false] (e16 [(56, (ptr b6 0)), (57, (ptr b6 2)), (59, (ptr b2 0))]) wS := by
        intro wS HS
        rw [hW]
        refine WD.all2 (i := 2) (j := 4) (by kernel_rfl) ?_ ?_
        ·
          refine WS.op (i := 2) rfl rfl rfl (op_load rfl (HS.cell (i := 2) rfl rfl) Try.underlying54 rfl ?_)
          have hq := st16_10 wS HS
          rw [hW] at hq
          refine WD.cov ?_ hq
          exact by repeat (first | exact trivial | refine ⟨rfl, ?_⟩)
        ·
          refine WS.op (i := 4) rfl rfl rfl (op_callF Fa.C98 rfl ((one16r_ok b2 (psD (g5 s).2 j) (2) _ _ (HS.part [1] rfl rfl) (by refine rest_lt ?_; first | (rw [g1_t]; exact hs) | (rw [g2_t]; exact hs) | (rw [g4_t]; exact hs) | (rw [g6_t]; exact hs) | (rw [g7_t]; exact hs) | (rw [g8_t]; exact hs) | (rw [g10_t]; exact hs) | (rw [xsD_t, g3_t]; exact hs) | (rw [numR_s, xsD_t, g3_t]; exact hs) | (rw [psD_t, g5_t]; exact hs) | (rw [sgD_t, g9_t]; exact hs) | (rw [numR_s, sgD_t, g9_t]; exact hs) | (rw [numR_s, numR_s, sgD_t, g9_t]; exact hs) | (rw [numR_s, numR_s, numR_s, sgD_t, g9_t]; exact hs) | exact hs)).mono (fun e w41081 hq => ?_)))
          obtain ⟨rfl, hq41081⟩ := hq
          refine ⟨_, rfl, ?_⟩
          have H41081 : Own [] w w41081 [.blk b1 [(vU32 0), (.slice none 0 0), (.slice none 0 0), (.bool false), (vU32 0), (.slice none 0 0)] 59, .blk b2 [(str ((numR (psD (g5 s).2 j) 2).2).rest), (vN ((numR (psD (g5 s).2 j) 2).2).f)] 47, .blk b6 [(vU32 (g2 s).1.1), x, y, (.bool false), (vU32 0), (.slice none 0 0)] 59, .row x 130 2 (g3 s).1.1.toNat (List.flatMap xtc (gX s)), .row y 92 1 j (List.map vU16 (psL (g5 s).2 j)), .row (.slice none 0 0) 111 3 0 (List.flatMap sgc [])] := HS.splice [1] [.blk b2 [(str ((numR (psD (g5 s).2 j) 2).2).rest), (vN ((numR (psD (g5 s).2 j) 2).2).f)] 47] [] rfl rfl hq41081 (Fits.solid True.intro Fits.nil)
          have hq := st16_11 w41081 H41081
          rw [hW] at hq
          refine WD.cov ?_ hq
          exact by repeat (first | exact trivial | refine ⟨rfl, ?_⟩)
      have st16_8 : ∀ (wS : World), Own [] w wS [.blk b1 [(vU32 0), (.slice none 0 0), (.slice none 0 0), (.bool false), (vU32 0), (.slice none 0 0)] 59, .blk b2 [(str ((numR (psD (g5 s).2 j) 2).2).rest), (vN ((numR (psD (g5 s).2 j) 2).2).f)] 47, .blk b6 [(vU32 (g2 s).1.1), x, y, (.bool false), (vU32 0), (.slice none 0 0)] 59, .row x 130 2 (g3 s).1.1.toNat (List.flatMap xtc (gX s)), .row y 92 1 j (List.map vU16 (psL (g5 s).2 j)), .row (.slice none 0 0) 111 3 0 (List.flatMap sgc [])] → W 8 #[true, false, false, true, true, false, false, false, false, false, false] (e16 [(56, (ptr b6 0)), (59, (ptr b2 0)), (60, (vU32 (numR (psD (g5 s).2 j) 2).1.1))]) wS := by
        intro wS HS
        rw [hW]
        refine WD.all2 (i := 1) (j := 5) (by kernel_rfl) ?_ ?_
        ·
          refine WS.op (i := 1) rfl rfl rfl (op_fieldAddr rfl Fa.F56_2 ?_)
          have hq := st16_11 wS HS
          rw [hW] at hq
          refine WD.cov ?_ hq
          exact by repeat (first | exact trivial | refine ⟨rfl, ?_⟩)
        ·
          refine WS.op (i := 5) rfl rfl rfl (op_convU32U16 (hs := Try.underlying22) (hd := Try.underlying92) rfl ?_)
          have hq := st16_12 wS HS
          rw [hW] at hq
          refine WD.cov ?_ hq
          exact by repeat (first | exact trivial | refine ⟨rfl, ?_⟩)
      have st16_9 : ∀ (wS : World), Own [] w wS [.blk b1 [(vU32 0), (.slice none 0 0), (.slice none 0 0), (.bool false), (vU32 0), (.slice none 0 0)] 59, .blk b2 [(str ((numR (psD (g5 s).2 j) 2).2).rest), (vN ((numR (psD (g5 s).2 j) 2).2).f)] 47, .blk b6 [(vU32 (g2 s).1.1), x, y, (.bool false), (vU32 0), (.slice none 0 0)] 59, .row x 130 2 (g3 s).1.1.toNat (List.flatMap xtc (gX s)), .row y 92 1 j (List.map vU16 (psL (g5 s).2 j)), .row (.slice none 0 0) 111 3 0 (List.flatMap sgc [])] → W 8 #[false, false, false, true, true, true, false, false, false, false, false] (e16 [(59, (ptr b2 0)), (60, (vU32 (numR (psD (g5 s).2 j) 2).1.1)), (61, (vU16 (UInt16.ofNat (numR (psD (g5 s).2 j) 2).1.1.toNat)))]) wS := by
        intro wS HS
        rw [hW]
        refine WD.all2 (i := 0) (j := 6) (by kernel_rfl) ?_ ?_
        ·
          refine WS.op (i := 0) rfl rfl rfl (op_fieldAddr rfl Fa.F59_0 ?_)
          have hq := st16_12 wS HS
          rw [hW] at hq
          refine WD.cov ?_ hq
          exact by repeat (first | exact trivial | refine ⟨rfl, ?_⟩)
        ·
          refine WS.op (i := 6) rfl rfl rfl (op_buildSlice (cs := [_]) HS Try.underlying54 Fa.I92 rfl rfl rfl rfl (by decide) (by decide) (fun b41121 w41121 H41121 => ?_))
          have hq := st16_13 b41121 w41121 H41121
          rw [hW] at hq
          refine WD.cov ?_ hq
          exact by repeat (first | exact trivial | refine ⟨rfl, ?_⟩)
      have st16_3 : ∀ (wS : World), Own [] w wS (l16 []) → W 9 #[true, true, false, false, false, false, false, false, false, false, false] (e16 [(56, (ptr b6 0)), (57, (ptr b6 2))]) wS := by
        intro wS HS
        rw [hW]
        refine WD.all2 (i := 2) (j := 3) (by kernel_rfl) ?_ ?_
        ·
          refine WS.op (i := 2) rfl rfl rfl (op_load rfl (HS.cell (i := 2) rfl rfl) Try.underlying54 rfl ?_)
          have hq := st16_6 wS HS
          rw [hW] at hq
          refine WD.cov ?_ hq
          exact by repeat (first | exact trivial | refine ⟨rfl, ?_⟩)
        ·
          refine WS.op (i := 3) rfl rfl rfl (op_move rfl ?_)
          have hq := st16_7 wS HS
          rw [hW] at hq
          refine WD.cov ?_ hq
          exact by repeat (first | exact trivial | refine ⟨rfl, ?_⟩)
      have st16_4 : ∀ (wS : World), Own [] w wS (l16 []) → W 9 #[true, false, false, true, false, false, false, false, false, false, false] (e16 [(56, (ptr b6 0)), (59, (ptr b2 0))]) wS := by
        intro wS HS
        rw [hW]
        refine WD.all2 (i := 1) (j := 4) (by kernel_rfl) ?_ ?_
        ·
          refine WS.op (i := 1) rfl rfl rfl (op_fieldAddr rfl Fa.F56_2 ?_)
          have hq := st16_7 wS HS
          rw [hW] at hq
          refine WD.cov ?_ hq
          exact by repeat (first | exact trivial | refine ⟨rfl, ?_⟩)
        ·
          refine WS.op (i := 4) rfl rfl rfl (op_callF Fa.C98 rfl ((one16r_ok b2 (psD (g5 s).2 j) (2) _ _ (HS.part [1] rfl rfl) (by refine rest_lt ?_; first | (rw [g1_t]; exact hs) | (rw [g2_t]; exact hs) | (rw [g4_t]; exact hs) | (rw [g6_t]; exact hs) | (rw [g7_t]; exact hs) | (rw [g8_t]; exact hs) | (rw [g10_t]; exact hs) | (rw [xsD_t, g3_t]; exact hs) | (rw [numR_s, xsD_t, g3_t]; exact hs) | (rw [psD_t, g5_t]; exact hs) | (rw [sgD_t, g9_t]; exact hs) | (rw [numR_s, sgD_t, g9_t]; exact hs) | (rw [numR_s, numR_s, sgD_t, g9_t]; exact hs) | (rw [numR_s, numR_s, numR_s, sgD_t, g9_t]; exact hs) | exact hs)).mono (fun e w41081 hq => ?_)))
          obtain ⟨rfl, hq41081⟩ := hq
          refine ⟨_, rfl, ?_⟩
          have H41081 : Own [] w w41081 [.blk b1 [(vU32 0), (.slice none 0 0), (.slice none 0 0), (.bool false), (vU32 0), (.slice none 0 0)] 59, .blk b2 [(str ((numR (psD (g5 s).2 j) 2).2).rest), (vN ((numR (psD (g5 s).2 j) 2).2).f)] 47, .blk b6 [(vU32 (g2 s).1.1), x, y, (.bool false), (vU32 0), (.slice none 0 0)] 59, .row x 130 2 (g3 s).1.1.toNat (List.flatMap xtc (gX s)), .row y 92 1 j (List.map vU16 (psL (g5 s).2 j)), .row (.slice none 0 0) 111 3 0 (List.flatMap sgc [])] := HS.splice [1] [.blk b2 [(str ((numR (psD (g5 s).2 j) 2).2).rest), (vN ((numR (psD (g5 s).2 j) 2).2).f)] 47] [] rfl rfl hq41081 (Fits.solid True.intro Fits.nil)
          have hq := st16_8 w41081 H41081
          rw [hW] at hq
          refine WD.cov ?_ hq
          exact by repeat (first | exact trivial | refine ⟨rfl, ?_⟩)
      have st16_5 : ∀ (wS : World), Own [] w wS [.blk b1 [(vU32 0), (.slice none 0 0), (.slice none 0 0), (.bool false), (vU32 0), (.slice none 0 0)] 59, .blk b2 [(str ((numR (psD (g5 s).2 j) 2).2).rest), (vN ((numR (psD (g5 s).2 j) 2).2).f)] 47, .blk b6 [(vU32 (g2 s).1.1), x, y, (.bool false), (vU32 0), (.slice none 0 0)] 59, .row x 130 2 (g3 s).1.1.toNat (List.flatMap xtc (gX s)), .row y 92 1 j (List.map vU16 (psL (g5 s).2 j)), .row (.slice none 0 0) 111 3 0 (List.flatMap sgc [])] → W 9 #[false, false, false, true, true, false, false, false, false, false, false] (e16 [(59, (ptr b2 0)), (60, (vU32 (numR (psD (g5 s).2 j) 2).1.1))]) wS := by
        intro wS HS
        rw [hW]
        refine WD.all2 (i := 0) (j := 5) (by kernel_rfl) ?_ ?_
        ·
          refine WS.op (i := 0) rfl rfl rfl (op_fieldAddr rfl Fa.F59_0 ?_)
          have hq := st16_8 wS HS
          rw [hW] at hq
          refine WD.cov ?_ hq
          exact by repeat (first | exact trivial | refine ⟨rfl, ?_⟩)
        ·
          refine WS.op (i := 5) rfl rfl rfl (op_convU32U16 (hs := Try.underlying22) (hd := Try.underlying92) rfl ?_)
          have hq := st16_9 wS HS
          rw [hW] at hq
          refine WD.cov ?_ hq
          exact by repeat (first | exact trivial | refine ⟨rfl, ?_⟩)
      have st16_1 : ∀ (wS : World), Own [] w wS (l16 []) → W 10 #[true, false, false, false, false, false, false, false, false, false, false] (e16 [(56, (ptr b6 0))]) wS := by
        intro wS HS
        rw [hW]
        refine WD.all2 (i := 1) (j := 3) (by kernel_rfl) ?_ ?_
        ·
          refine WS.op (i := 1) rfl rfl rfl (op_fieldAddr rfl Fa.F56_2 ?_)
          have hq := st16_3 wS HS
          rw [hW] at hq
          refine WD.cov ?_ hq
          exact by repeat (first | exact trivial | refine ⟨rfl, ?_⟩)
        ·
          refine WS.op (i := 3) rfl rfl rfl (op_move rfl ?_)
          have hq := st16_4 wS HS
          rw [hW] at hq
          refine WD.cov ?_ hq
          exact by repeat (first | exact trivial | refine ⟨rfl, ?_⟩)
      have st16_2 : ∀ (wS : World), Own [] w wS (l16 []) → W 10 #[false, false, false, true, false, false, false, false, false, false, false] (e16 [(59, (ptr b2 0))]) wS := by
        intro wS HS
        rw [hW]
        refine WD.all2 (i := 0) (j := 4) (by kernel_rfl) ?_ ?_
        ·
          refine WS.op (i := 0) rfl rfl rfl (op_fieldAddr rfl Fa.F59_0 ?_)
          have hq := st16_4 wS HS
          rw [hW] at hq
          refine WD.cov ?_ hq
          exact by repeat (first | exact trivial | refine ⟨rfl, ?_⟩)
        ·
          refine WS.op (i := 4) rfl rfl rfl (op_callF Fa.C98 rfl ((one16r_ok b2 (psD (g5 s).2 j) (2) _ _ (HS.part [1] rfl rfl) (by refine rest_lt ?_; first | (rw [g1_t]; exact hs) | (rw [g2_t]; exact hs) | (rw [g4_t]; exact hs) | (rw [g6_t]; exact hs) | (rw [g7_t]; exact hs) | (rw [g8_t]; exact hs) | (rw [g10_t]; exact hs) | (rw [xsD_t, g3_t]; exact hs) | (rw [numR_s, xsD_t, g3_t]; exact hs) | (rw [psD_t, g5_t]; exact hs) | (rw [sgD_t, g9_t]; exact hs) | (rw [numR_s, sgD_t, g9_t]; exact hs) | (rw [numR_s, numR_s, sgD_t, g9_t]; exact hs) | (rw [numR_s, numR_s, numR_s, sgD_t, g9_t]; exact hs) | exact hs)).mono (fun e w41081 hq => ?_)))
          obtain ⟨rfl, hq41081⟩ := hq
          refine ⟨_, rfl, ?_⟩
          have H41081 : Own [] w w41081 [.blk b1 [(vU32 0), (.slice none 0 0), (.slice none 0 0), (.bool false), (vU32 0), (.slice none 0 0)] 59, .blk b2 [(str ((numR (psD (g5 s).2 j) 2).2).rest), (vN ((numR (psD (g5 s).2 j) 2).2).f)] 47, .blk b6 [(vU32 (g2 s).1.1), x, y, (.bool false), (vU32 0), (.slice none 0 0)] 59, .row x 130 2 (g3 s).1.1.toNat (List.flatMap xtc (gX s)), .row y 92 1 j (List.map vU16 (psL (g5 s).2 j)), .row (.slice none 0 0) 111 3 0 (List.flatMap sgc [])] := HS.splice [1] [.blk b2 [(str ((numR (psD (g5 s).2 j) 2).2).rest), (vN ((numR (psD (g5 s).2 j) 2).2).f)] 47] [] rfl rfl hq41081 (Fits.solid True.intro Fits.nil)
          have hq := st16_5 w41081 H41081
          rw [hW] at hq
          refine WD.cov ?_ hq
          exact by repeat (first | exact trivial | refine ⟨rfl, ?_⟩)
      have st16_0 : ∀ (wS : World), Own [] w wS (l16 []) → W 11 #[false, false, false, false, false, false, false, false, false, false, false] (e16 []) wS := by
        intro wS HS
        rw [hW]
        refine WD.all2 (i := 0) (j := 3) (by kernel_rfl) ?_ ?_
        ·
          refine WS.op (i := 0) rfl rfl rfl (op_fieldAddr rfl Fa.F59_0 ?_)
          have hq := st16_1 wS HS
          rw [hW] at hq
          refine WD.cov ?_ hq
          exact by repeat (first | exact trivial | refine ⟨rfl, ?_⟩)
        ·
          refine WS.op (i := 3) rfl rfl rfl (op_move rfl ?_)
          have hq := st16_2 wS HS
          rw [hW] at hq
          refine WD.cov ?_ hq
          exact by repeat (first | exact trivial | refine ⟨rfl, ?_⟩)
      have hq := st16_0 w30 H30
      rw [hW] at hq ⊢
      refine WD.cov ?_ hq
      exact by repeat (first | exact trivial | refine ⟨rfl, ?_⟩)
    ·
      have hc29 := of_decide_eq_false hb29
      refine WC.exit ?_
      refine WQ.thenExit ?_
      refine WQ.thenExit ?_
      refine WQ.inHere ?_
      refine WQ.next ?_
      refine WC.seq ?_
      refine WC.region ?_
      have hkx : ¬ j < (g5 s).1.1.toNat := fun h => hc29 (hct.2 h)
      obtain rfl : j = (g5 s).1.1.toNat := by omega
      have H32 : Own [] w w28 [.blk b1 [(vU32 0), (.slice none 0 0), (.slice none 0 0), (.bool false), (vU32 0), (.slice none 0 0)] 59, .blk b2 [(str (g6 s).rest), (vN (g6 s).f)] 47, .blk b6 [(vU32 (g2 s).1.1), x, y, (.bool false), (vU32 0), (.slice none 0 0)] 59, .row x 130 2 (g3 s).1.1.toNat (List.flatMap xtc (gX s)), .row y 92 1 (g5 s).1.1.toNat (List.map vU16 (gP s)), .row (.slice none 0 0) 111 3 0 (List.flatMap sgc [])] := by have h := H28; rw [g6_e] at h; rw [gP_e] at h; exact h
      refine WL.op rfl rfl (op_move rfl ?_)
      refine WL.op rfl rfl (op_callF Fa.C98 rfl ((one16r_ok b2 (g6 s) (1) _ _ (H32.part [1] rfl rfl) (by refine rest_lt ?_; first | (rw [g1_t]; exact hs) | (rw [g2_t]; exact hs) | (rw [g4_t]; exact hs) | (rw [g6_t]; exact hs) | (rw [g7_t]; exact hs) | (rw [g8_t]; exact hs) | (rw [g10_t]; exact hs) | (rw [xsD_t, g3_t]; exact hs) | (rw [numR_s, xsD_t, g3_t]; exact hs) | (rw [psD_t, g5_t]; exact hs) | (rw [sgD_t, g9_t]; exact hs) | (rw [numR_s, sgD_t, g9_t]; exact hs) | (rw [numR_s, numR_s, sgD_t, g9_t]; exact hs) | (rw [numR_s, numR_s, numR_s, sgD_t, g9_t]; exact hs) | exact hs)).mono (fun e w33 hq => ?_)))
      obtain ⟨rfl, hq33⟩ := hq
      refine ⟨_, rfl, ?_⟩
      have H33 : Own [] w w33 [.blk b1 [(vU32 0), (.slice none 0 0), (.slice none 0 0), (.bool false), (vU32 0), (.slice none 0 0)] 59, .blk b2 [(str ((numR (g6 s) 1).2).rest), (vN ((numR (g6 s) 1).2).f)] 47, .blk b6 [(vU32 (g2 s).1.1), x, y, (.bool false), (vU32 0), (.slice none 0 0)] 59, .row x 130 2 (g3 s).1.1.toNat (List.flatMap xtc (gX s)), .row y 92 1 (g5 s).1.1.toNat (List.map vU16 (gP s)), .row (.slice none 0 0) 111 3 0 (List.flatMap sgc [])] := H32.splice [1] [.blk b2 [(str ((numR (g6 s) 1).2).rest), (vN ((numR (g6 s) 1).2).f)] 47] [] rfl rfl hq33 (Fits.solid True.intro Fits.nil)
      have H34 : Own [] w w33 [.blk b1 [(vU32 0), (.slice none 0 0), (.slice none 0 0), (.bool false), (vU32 0), (.slice none 0 0)] 59, .blk b2 [(str ((g7 s).2).rest), (vN ((g7 s).2).f)] 47, .blk b6 [(vU32 (g2 s).1.1), x, y, (.bool false), (vU32 0), (.slice none 0 0)] 59, .row x 130 2 (g3 s).1.1.toNat (List.flatMap xtc (gX s)), .row y 92 1 (g5 s).1.1.toNat (List.map vU16 (gP s)), .row (.slice none 0 0) 111 3 0 (List.flatMap sgc [])] := by have h := H33; rw [g7_e] at h; exact h
      rw [g7_e]
      refine WL.op rfl rfl (op_assign rfl ?_)
      refine WL.nil ?_
      refine WQ.next ?_
      refine WC.seq ?_
      refine WC.region ?_
      refine WL.op rfl rfl (op_move rfl ?_)
      refine WL.op rfl rfl (op_eqlU32 (b := 1) rfl rfl ?_)
      refine WL.op rfl rfl (op_fieldAddr rfl Fa.F59_0 ?_)
      refine WL.op rfl rfl (op_fieldAddr rfl Fa.F56_3 ?_)
      refine WL.op rfl rfl (op_storeB (i := 2) H34 rfl rfl rfl rfl rfl Fa.I4 (fun w35 H35 => ?_))
      refine WL.nil ?_
      refine WQ.next ?_
      refine WC.seq ?_
      refine WC.region ?_
      refine WL.op rfl rfl (op_move rfl ?_)
      refine WL.op rfl rfl (op_callF Fa.C98 rfl ((one16r_ok b2 ((g7 s).2) (4) _ _ (H35.part [1] rfl rfl) (by refine rest_lt ?_; first | (rw [g1_t]; exact hs) | (rw [g2_t]; exact hs) | (rw [g4_t]; exact hs) | (rw [g6_t]; exact hs) | (rw [g7_t]; exact hs) | (rw [g8_t]; exact hs) | (rw [g10_t]; exact hs) | (rw [xsD_t, g3_t]; exact hs) | (rw [numR_s, xsD_t, g3_t]; exact hs) | (rw [psD_t, g5_t]; exact hs) | (rw [sgD_t, g9_t]; exact hs) | (rw [numR_s, sgD_t, g9_t]; exact hs) | (rw [numR_s, numR_s, sgD_t, g9_t]; exact hs) | (rw [numR_s, numR_s, numR_s, sgD_t, g9_t]; exact hs) | exact hs)).mono (fun e w36 hq => ?_)))
      obtain ⟨rfl, hq36⟩ := hq
      refine ⟨_, rfl, ?_⟩
      have H36 : Own [] w w36 [.blk b1 [(vU32 0), (.slice none 0 0), (.slice none 0 0), (.bool false), (vU32 0), (.slice none 0 0)] 59, .blk b2 [(str ((numR ((g7 s).2) 4).2).rest), (vN ((numR ((g7 s).2) 4).2).f)] 47, .blk b6 [(vU32 (g2 s).1.1), x, y, (.bool (decide ((g7 s).1.1 = (1 : UInt32)))), (vU32 0), (.slice none 0 0)] 59, .row x 130 2 (g3 s).1.1.toNat (List.flatMap xtc (gX s)), .row y 92 1 (g5 s).1.1.toNat (List.map vU16 (gP s)), .row (.slice none 0 0) 111 3 0 (List.flatMap sgc [])] := H35.splice [1] [.blk b2 [(str ((numR ((g7 s).2) 4).2).rest), (vN ((numR ((g7 s).2) 4).2).f)] 47] [] rfl rfl hq36 (Fits.solid True.intro Fits.nil)
      refine WL.op rfl rfl (op_fieldAddr rfl Fa.F59_1 ?_)
      have H37 : Own [] w w36 [.blk b1 [(vU32 0), (.slice none 0 0), (.slice none 0 0), (.bool false), (vU32 0), (.slice none 0 0)] 59, .blk b2 [(str ((g8 s).2).rest), (vN ((g8 s).2).f)] 47, .blk b6 [(vU32 (g2 s).1.1), x, y, (.bool (decide ((g7 s).1.1 = (1 : UInt32)))), (vU32 0), (.slice none 0 0)] 59, .row x 130 2 (g3 s).1.1.toNat (List.flatMap xtc (gX s)), .row y 92 1 (g5 s).1.1.toNat (List.map vU16 (gP s)), .row (.slice none 0 0) 111 3 0 (List.flatMap sgc [])] := by have h := H36; rw [g8_e] at h; exact h
      rw [g8_e]
      refine WL.op rfl rfl (op_storeB (i := 2) H37 rfl rfl rfl rfl rfl Fa.I22 (fun w38 H38 => ?_))
      refine WL.nil ?_
      refine WQ.next ?_
      refine WC.seq ?_
      refine WC.region ?_
      refine WL.op rfl rfl (op_move rfl ?_)
      refine WL.op rfl rfl (op_callF Fa.C98 rfl ((one16r_ok b2 ((g8 s).2) (1) _ _ (H38.part [1] rfl rfl) (by refine rest_lt ?_; first | (rw [g1_t]; exact hs) | (rw [g2_t]; exact hs) | (rw [g4_t]; exact hs) | (rw [g6_t]; exact hs) | (rw [g7_t]; exact hs) | (rw [g8_t]; exact hs) | (rw [g10_t]; exact hs) | (rw [xsD_t, g3_t]; exact hs) | (rw [numR_s, xsD_t, g3_t]; exact hs) | (rw [psD_t, g5_t]; exact hs) | (rw [sgD_t, g9_t]; exact hs) | (rw [numR_s, sgD_t, g9_t]; exact hs) | (rw [numR_s, numR_s, sgD_t, g9_t]; exact hs) | (rw [numR_s, numR_s, numR_s, sgD_t, g9_t]; exact hs) | exact hs)).mono (fun e w39 hq => ?_)))
      obtain ⟨rfl, hq39⟩ := hq
      refine ⟨_, rfl, ?_⟩
      have H39 : Own [] w w39 [.blk b1 [(vU32 0), (.slice none 0 0), (.slice none 0 0), (.bool false), (vU32 0), (.slice none 0 0)] 59, .blk b2 [(str ((numR ((g8 s).2) 1).2).rest), (vN ((numR ((g8 s).2) 1).2).f)] 47, .blk b6 [(vU32 (g2 s).1.1), x, y, (.bool (decide ((g7 s).1.1 = (1 : UInt32)))), (vU32 (g8 s).1.1), (.slice none 0 0)] 59, .row x 130 2 (g3 s).1.1.toNat (List.flatMap xtc (gX s)), .row y 92 1 (g5 s).1.1.toNat (List.map vU16 (gP s)), .row (.slice none 0 0) 111 3 0 (List.flatMap sgc [])] := H38.splice [1] [.blk b2 [(str ((numR ((g8 s).2) 1).2).rest), (vN ((numR ((g8 s).2) 1).2).f)] 47] [] rfl rfl hq39 (Fits.solid True.intro Fits.nil)
      have H40 : Own [] w w39 [.blk b1 [(vU32 0), (.slice none 0 0), (.slice none 0 0), (.bool false), (vU32 0), (.slice none 0 0)] 59, .blk b2 [(str ((g9 s).2).rest), (vN ((g9 s).2).f)] 47, .blk b6 [(vU32 (g2 s).1.1), x, y, (.bool (decide ((g7 s).1.1 = (1 : UInt32)))), (vU32 (g8 s).1.1), (.slice none 0 0)] 59, .row x 130 2 (g3 s).1.1.toNat (List.flatMap xtc (gX s)), .row y 92 1 (g5 s).1.1.toNat (List.map vU16 (gP s)), .row (.slice none 0 0) 111 3 0 (List.flatMap sgc [])] := by have h := H39; rw [g9_e] at h; exact h
      rw [g9_e]
      refine WL.op rfl rfl (op_assign rfl ?_)
      refine WL.nil ?_
      refine WQ.next ?_
      refine WC.seq ?_
      refine WC.seq ?_
      refine WC.region ?_
      refine WL.op rfl rfl (op_assign rfl ?_)
      refine WL.nil ?_
      refine WQ.next ?_
      refine WC.block ?_
      refine WC.loop (α := Nat × Value) (fun (i, z) => [(2, (ptr b1 0)), (4, (ptr b2 0)), (5, (str (g1 s).1.1)), (7, (ptr b6 0)), (8, (vU32 (g9 s).1.1)), (12, (vU32 (g7 s).1.1)), (13, (vU32 (UInt32.ofNat i)))]) (fun (i, z) w' => (i ≤ (g9 s).1.1.toNat) ∧ Own [] w w' [.blk b1 [(vU32 0), (.slice none 0 0), (.slice none 0 0), (.bool false), (vU32 0), (.slice none 0 0)] 59, .blk b2 [(str (sgD (g9 s).2 i).rest), (vN (sgD (g9 s).2 i).f)] 47, .blk b6 [(vU32 (g2 s).1.1), x, y, (.bool (decide ((g7 s).1.1 = (1 : UInt32)))), (vU32 (g8 s).1.1), z] 59, .row x 130 2 (g3 s).1.1.toNat (List.flatMap xtc (gX s)), .row y 92 1 (g5 s).1.1.toNat (List.map vU16 (gP s)), .row z 111 3 i (List.flatMap sgc (sgL (g9 s).2 i))]) (fun (i, z) => (g9 s).1.1.toNat - i) (0, (.slice none 0 0)) ⟨(Nat.zero_le _), (by rw [sgD_0]; exact H40)⟩ ⟨rfl, rfl, rfl, rfl, rfl, rfl, rfl, trivial⟩ ?_
      rintro ⟨i, z⟩ w41 ⟨hi1, H41⟩
      show WC _ _ _ _ _ [(2, (ptr b1 0)), (4, (ptr b2 0)), (5, (str (g1 s).1.1)), (7, (ptr b6 0)), (8, (vU32 (g9 s).1.1)), (12, (vU32 (g7 s).1.1)), (13, (vU32 (UInt32.ofNat i)))] _
      have hnl := (g9 s).1.1.toNat_lt
      have hct := u32_lt (k := i) (n := (g9 s).1.1) (by omega)
      refine WC.seq ?_
      refine WC.seq ?_
      refine WC.region ?_
      refine WL.op rfl rfl (op_move rfl ?_)
      refine WL.op rfl rfl (op_move rfl ?_)
      refine WL.op rfl rfl (op_lssU32 rfl rfl ?_)
      refine WL.nil ?_
      refine WQ.next ?_
      refine WC.cond rfl (fun (hb42 : (decide ((UInt32.ofNat i) < (g9 s).1.1)) = true) => ?_) (fun (hb42 : (decide ((UInt32.ofNat i) < (g9 s).1.1)) = false) => ?_)
      ·
        have hc42 := of_decide_eq_true hb42
        have hkn := hct.1 hc42
        refine WC.skip ?_
        refine WQ.next ?_
        refine WC.seq ?_
        refine WC.block ?_
        refine WC.seq ?_
        refine WC.region ?_
        refine WL.op rfl rfl (op_move rfl ?_)
        refine WL.op rfl rfl (op_callF Fa.C98 rfl ((one16r_ok b2 (sgD (g9 s).2 i) (4) _ _ (H41.part [1] rfl rfl) (by refine rest_lt ?_; first | (rw [g1_t]; exact hs) | (rw [g2_t]; exact hs) | (rw [g4_t]; exact hs) | (rw [g6_t]; exact hs) | (rw [g7_t]; exact hs) | (rw [g8_t]; exact hs) | (rw [g10_t]; exact hs) | (rw [xsD_t, g3_t]; exact hs) | (rw [numR_s, xsD_t, g3_t]; exact hs) | (rw [psD_t, g5_t]; exact hs) | (rw [sgD_t, g9_t]; exact hs) | (rw [numR_s, sgD_t, g9_t]; exact hs) | (rw [numR_s, numR_s, sgD_t, g9_t]; exact hs) | (rw [numR_s, numR_s, numR_s, sgD_t, g9_t]; exact hs) | exact hs)).mono (fun e w43 hq => ?_)))
        obtain ⟨rfl, hq43⟩ := hq
        refine ⟨_, rfl, ?_⟩
        have H43 : Own [] w w43 [.blk b1 [(vU32 0), (.slice none 0 0), (.slice none 0 0), (.bool false), (vU32 0), (.slice none 0 0)] 59, .blk b2 [(str ((numR (sgD (g9 s).2 i) 4).2).rest), (vN ((numR (sgD (g9 s).2 i) 4).2).f)] 47, .blk b6 [(vU32 (g2 s).1.1), x, y, (.bool (decide ((g7 s).1.1 = (1 : UInt32)))), (vU32 (g8 s).1.1), z] 59, .row x 130 2 (g3 s).1.1.toNat (List.flatMap xtc (gX s)), .row y 92 1 (g5 s).1.1.toNat (List.map vU16 (gP s)), .row z 111 3 i (List.flatMap sgc (sgL (g9 s).2 i))] := H41.splice [1] [.blk b2 [(str ((numR (sgD (g9 s).2 i) 4).2).rest), (vN ((numR (sgD (g9 s).2 i) 4).2).f)] 47] [] rfl rfl hq43 (Fits.solid True.intro Fits.nil)
        refine WL.op rfl rfl (op_build (cs := [_, _, _]) Fa.I111 Fa.PL111 rfl rfl ?_)
        refine WL.op rfl rfl (op_alloc H43 Fa.I111 (fun b44 w44 H44 => ?_))
        refine WL.op rfl rfl (op_storeBW (i := 6) H44 rfl rfl rfl rfl rfl Fa.I111 (fun w45 H45 => ?_))
        refine WL.nil ?_
        refine WQ.next ?_
        refine WC.seq ?_
        refine WC.region ?_
        refine WL.op rfl rfl (op_move rfl ?_)
        refine WL.op rfl rfl (op_callF Fa.C98 rfl ((one16r_ok b2 ((numR (sgD (g9 s).2 i) 4).2) (1) _ _ (H45.part [1] rfl rfl) (by refine rest_lt ?_; first | (rw [g1_t]; exact hs) | (rw [g2_t]; exact hs) | (rw [g4_t]; exact hs) | (rw [g6_t]; exact hs) | (rw [g7_t]; exact hs) | (rw [g8_t]; exact hs) | (rw [g10_t]; exact hs) | (rw [xsD_t, g3_t]; exact hs) | (rw [numR_s, xsD_t, g3_t]; exact hs) | (rw [psD_t, g5_t]; exact hs) | (rw [sgD_t, g9_t]; exact hs) | (rw [numR_s, sgD_t, g9_t]; exact hs) | (rw [numR_s, numR_s, sgD_t, g9_t]; exact hs) | (rw [numR_s, numR_s, numR_s, sgD_t, g9_t]; exact hs) | exact hs)).mono (fun e w46 hq => ?_)))
        obtain ⟨rfl, hq46⟩ := hq
        refine ⟨_, rfl, ?_⟩
        have H46 : Own [] w w46 [.blk b1 [(vU32 0), (.slice none 0 0), (.slice none 0 0), (.bool false), (vU32 0), (.slice none 0 0)] 59, .blk b2 [(str ((numR ((numR (sgD (g9 s).2 i) 4).2) 1).2).rest), (vN ((numR ((numR (sgD (g9 s).2 i) 4).2) 1).2).f)] 47, .blk b6 [(vU32 (g2 s).1.1), x, y, (.bool (decide ((g7 s).1.1 = (1 : UInt32)))), (vU32 (g8 s).1.1), z] 59, .row x 130 2 (g3 s).1.1.toNat (List.flatMap xtc (gX s)), .row y 92 1 (g5 s).1.1.toNat (List.map vU16 (gP s)), .row z 111 3 i (List.flatMap sgc (sgL (g9 s).2 i)), .blk b44 [(vU32 (numR (sgD (g9 s).2 i) 4).1.1), (vU8 0), (str [])] 111] := H45.splice [1] [.blk b2 [(str ((numR ((numR (sgD (g9 s).2 i) 4).2) 1).2).rest), (vN ((numR ((numR (sgD (g9 s).2 i) 4).2) 1).2).f)] 47] [] rfl rfl hq46 (Fits.solid True.intro Fits.nil)
        refine WL.op rfl rfl (op_convU32U8 (hs := Try.underlying22) (hd := Try.underlying5) rfl ?_)
        refine WL.op rfl rfl (op_fieldAddr rfl Fa.F111_1 ?_)
        refine WL.op rfl rfl (op_storeB (i := 6) H46 rfl rfl rfl rfl rfl Fa.I5 (fun w47 H47 => ?_))
        refine WL.nil ?_
        refine WQ.next ?_
        refine WC.seq ?_
        refine WC.region ?_
        refine WL.op rfl rfl (op_move rfl ?_)
        refine WL.op rfl rfl (op_callF Fa.C98 rfl ((one16r_ok b2 ((numR ((numR (sgD (g9 s).2 i) 4).2) 1).2) (4) _ _ (H47.part [1] rfl rfl) (by refine rest_lt ?_; first | (rw [g1_t]; exact hs) | (rw [g2_t]; exact hs) | (rw [g4_t]; exact hs) | (rw [g6_t]; exact hs) | (rw [g7_t]; exact hs) | (rw [g8_t]; exact hs) | (rw [g10_t]; exact hs) | (rw [xsD_t, g3_t]; exact hs) | (rw [numR_s, xsD_t, g3_t]; exact hs) | (rw [psD_t, g5_t]; exact hs) | (rw [sgD_t, g9_t]; exact hs) | (rw [numR_s, sgD_t, g9_t]; exact hs) | (rw [numR_s, numR_s, sgD_t, g9_t]; exact hs) | (rw [numR_s, numR_s, numR_s, sgD_t, g9_t]; exact hs) | exact hs)).mono (fun e w48 hq => ?_)))
        obtain ⟨rfl, hq48⟩ := hq
        refine ⟨_, rfl, ?_⟩
        have H48 : Own [] w w48 [.blk b1 [(vU32 0), (.slice none 0 0), (.slice none 0 0), (.bool false), (vU32 0), (.slice none 0 0)] 59, .blk b2 [(str ((numR ((numR ((numR (sgD (g9 s).2 i) 4).2) 1).2) 4).2).rest), (vN ((numR ((numR ((numR (sgD (g9 s).2 i) 4).2) 1).2) 4).2).f)] 47, .blk b6 [(vU32 (g2 s).1.1), x, y, (.bool (decide ((g7 s).1.1 = (1 : UInt32)))), (vU32 (g8 s).1.1), z] 59, .row x 130 2 (g3 s).1.1.toNat (List.flatMap xtc (gX s)), .row y 92 1 (g5 s).1.1.toNat (List.map vU16 (gP s)), .row z 111 3 i (List.flatMap sgc (sgL (g9 s).2 i)), .blk b44 [(vU32 (numR (sgD (g9 s).2 i) 4).1.1), (vU8 (UInt8.ofNat (numR ((numR (sgD (g9 s).2 i) 4).2) 1).1.1.toNat)), (str [])] 111] := H47.splice [1] [.blk b2 [(str ((numR ((numR ((numR (sgD (g9 s).2 i) 4).2) 1).2) 4).2).rest), (vN ((numR ((numR ((numR (sgD (g9 s).2 i) 4).2) 1).2) 4).2).f)] 47] [] rfl rfl hq48 (Fits.solid True.intro Fits.nil)
        refine WL.op rfl rfl (op_assign rfl ?_)
        refine WL.nil ?_
        refine WQ.next ?_
        refine WC.seq ?_
        refine WC.seq ?_
        refine WC.region ?_
        refine WL.op rfl rfl (op_move rfl ?_)
        refine WL.op rfl rfl (op_gtrU32 (b := 131072) rfl rfl ?_)
        refine WL.nil ?_
        refine WQ.next ?_
        refine WC.cond rfl (fun (hb49 : (decide ((numR ((numR ((numR (sgD (g9 s).2 i) 4).2) 1).2) 4).1.1 > (131072 : UInt32))) = true) => ?_) (fun (hb49 : (decide ((numR ((numR ((numR (sgD (g9 s).2 i) 4).2) 1).2) 4).1.1 > (131072 : UInt32))) = false) => ?_)
        ·
          have hc49 := of_decide_eq_true hb49
          refine WC.seq ?_
          refine WC.region ?_
          refine WL.op rfl rfl (op_build (cs := [_, _, _, _, _, _]) Fa.I59 Fa.PL59 rfl rfl ?_)
          refine WL.op rfl rfl (op_storeBW (i := 0) H48 rfl rfl rfl rfl rfl Fa.I59 (fun w50 H50 => ?_))
          refine WL.op rfl rfl (op_assign rfl ?_)
          refine WL.nil ?_
          refine WQ.next ?_
          refine WC.ret ?_
          refine WQ.thenRet ?_
          refine WQ.inRet ?_
          refine WQ.thenRet ?_
          refine WQ.thenRet ?_
          refine WQ.inRet ?_
          refine WQ.thenRet ?_
          refine WQ.out (.cell rfl (run_loadVarS (vs := [_, _, _, _, _, _]) (H50.cells (i := 0) rfl rfl) Try.underlying59 rfl Fa.I59 rfl) (.tmp rfl .nil)) ?_
          have hb : gBad s = true := seg_big hkn (fun h => absurd hc49 (UInt32.not_lt.2 h))
          rw [(get_bad hb).1, (get_bad hb).2]
          exact ⟨.slice none 0 0, .slice none 0 0, .slice none 0 0, rfl, (((H50.sel [] rfl rfl).nilRow 130 2).nilRow 92 1).nilRow 111 3⟩
        ·
          have hc49 := of_decide_eq_false hb49
          have hsz := UInt32.not_lt.1 hc49
          refine WC.skip ?_
          refine WQ.next ?_
          refine WC.seq ?_
          refine WC.region ?_
          refine WL.op rfl rfl (op_move rfl ?_)
          refine WL.op rfl rfl (op_move rfl ?_)
          refine WL.op rfl rfl (op_convU32N (hs := Try.underlying22) (hd := Try.underlying3) rfl ?_)
          refine WL.op rfl rfl (op_callF Fa.C31 rfl ((take16r_ok b2 ((numR ((numR ((numR (sgD (g9 s).2 i) 4).2) 1).2) 4).2) (((numR ((numR ((numR (sgD (g9 s).2 i) 4).2) 1).2) 4).1.1.toNat : Nat)) _ _ (H48.part [1] rfl rfl) (by refine rest_lt ?_; first | (rw [g1_t]; exact hs) | (rw [g2_t]; exact hs) | (rw [g4_t]; exact hs) | (rw [g6_t]; exact hs) | (rw [g7_t]; exact hs) | (rw [g8_t]; exact hs) | (rw [g10_t]; exact hs) | (rw [xsD_t, g3_t]; exact hs) | (rw [numR_s, xsD_t, g3_t]; exact hs) | (rw [psD_t, g5_t]; exact hs) | (rw [sgD_t, g9_t]; exact hs) | (rw [numR_s, sgD_t, g9_t]; exact hs) | (rw [numR_s, numR_s, sgD_t, g9_t]; exact hs) | (rw [numR_s, numR_s, numR_s, sgD_t, g9_t]; exact hs) | exact hs)).mono (fun e w51 hq => ?_)))
          obtain ⟨rfl, hq51⟩ := hq
          refine ⟨_, rfl, ?_⟩
          have H51 : Own [] w w51 [.blk b1 [(vU32 0), (.slice none 0 0), (.slice none 0 0), (.bool false), (vU32 0), (.slice none 0 0)] 59, .blk b2 [(str ((takeR ((numR ((numR ((numR (sgD (g9 s).2 i) 4).2) 1).2) 4).2) ((numR ((numR ((numR (sgD (g9 s).2 i) 4).2) 1).2) 4).1.1.toNat : Nat)).2).rest), (vN ((takeR ((numR ((numR ((numR (sgD (g9 s).2 i) 4).2) 1).2) 4).2) ((numR ((numR ((numR (sgD (g9 s).2 i) 4).2) 1).2) 4).1.1.toNat : Nat)).2).f)] 47, .blk b6 [(vU32 (g2 s).1.1), x, y, (.bool (decide ((g7 s).1.1 = (1 : UInt32)))), (vU32 (g8 s).1.1), z] 59, .row x 130 2 (g3 s).1.1.toNat (List.flatMap xtc (gX s)), .row y 92 1 (g5 s).1.1.toNat (List.map vU16 (gP s)), .row z 111 3 i (List.flatMap sgc (sgL (g9 s).2 i)), .blk b44 [(vU32 (numR (sgD (g9 s).2 i) 4).1.1), (vU8 (UInt8.ofNat (numR ((numR (sgD (g9 s).2 i) 4).2) 1).1.1.toNat)), (str [])] 111] := H48.splice [1] [.blk b2 [(str ((takeR ((numR ((numR ((numR (sgD (g9 s).2 i) 4).2) 1).2) 4).2) ((numR ((numR ((numR (sgD (g9 s).2 i) 4).2) 1).2) 4).1.1.toNat : Nat)).2).rest), (vN ((takeR ((numR ((numR ((numR (sgD (g9 s).2 i) 4).2) 1).2) 4).2) ((numR ((numR ((numR (sgD (g9 s).2 i) 4).2) 1).2) 4).1.1.toNat : Nat)).2).f)] 47] [] rfl rfl hq51 (Fits.solid True.intro Fits.nil)
          refine WL.op rfl rfl (op_move rfl ?_)
          refine WL.op rfl rfl (op_extract rfl rfl ?_)
          refine WL.op rfl rfl (op_extract rfl rfl ?_)
          refine WL.op rfl rfl (op_fieldAddr rfl Fa.F111_2 ?_)
          refine WL.op rfl rfl (op_storeB (i := 6) H51 rfl rfl rfl rfl rfl Fa.I9 (fun w52 H52 => ?_))
          refine WL.nil ?_
          refine WQ.next ?_
          refine WC.region ?_
          refine WL.op rfl rfl (op_fieldAddr rfl Fa.F59_2 ?_)
          refine WL.op rfl rfl (op_load rfl (H52.cell (i := 2) rfl rfl) Try.underlying57 rfl ?_)
          refine WL.op rfl rfl (op_loadS (vs := [_, _, _]) rfl (H52.cells (i := 6) rfl rfl) Try.underlying111 rfl Fa.I111 rfl ?_)
          refine WL.op rfl rfl (op_buildSlice (cs := [_, _, _]) H52 Try.underlying57 Fa.I111 rfl rfl rfl rfl (by decide) (by decide) (fun b53 w53 H53 => ?_))
          refine WL.op rfl rfl (op_appendF (f := sgc) (l := (sgL (g9 s).2 i)) (l' := [(Sg.mk ((numR (sgD (g9 s).2 i) 4).1.1) (UInt8.ofNat (numR ((numR (sgD (g9 s).2 i) 4).2) 1).1.1.toNat) ((takeR ((numR ((numR ((numR (sgD (g9 s).2 i) 4).2) 1).2) 4).2) ((numR ((numR ((numR (sgD (g9 s).2 i) 4).2) 1).2) 4).1.1.toNat : Nat)).1.1))]) (i := 5) H53 Try.underlying57 Fa.I111 rfl rfl rfl rfl (Src.ofArr Try.underlying57 (H53.arrR (i := 7) rfl)) (one_flat (fun _ => by simp [sgc, Value.oneCell'])) (by omega) (by omega) (fun v54 w54 H54 => ?_))
          refine WL.op rfl rfl (op_fieldAddr rfl Fa.F59_2 ?_)
          refine WL.op rfl rfl (op_storeB (i := 2) H54 rfl rfl rfl rfl (Arr.one (H54.arrR (i := 5) rfl)) Fa.I57 (fun w55 H55 => ?_))
          refine WL.nil ?_
          refine WQ.inNormal ?_
          refine WQ.next ?_
          refine WC.region ?_
          refine WL.op rfl rfl (op_move rfl ?_)
          refine WL.op rfl rfl (op_addU32 (b := 1) rfl rfl ?_)
          refine WL.op rfl rfl (op_assign rfl ?_)
          refine WL.nil ?_
          exact WQ.round (i + 1, v54) ⟨(by omega), (by rw [sgD_s, sgL_s, segR_yes hsz]; exact (H55.take 6))⟩ ⟨rfl, rfl, rfl, rfl, rfl, rfl, (congrArg (fun n => some (vU32 n)) (u32_succ _)), trivial⟩ (by show (g9 s).1.1.toNat - (i + 1) < (g9 s).1.1.toNat - i; omega)
      ·
        have hc42 := of_decide_eq_false hb42
        refine WC.exit ?_
        refine WQ.thenExit ?_
        refine WQ.thenExit ?_
        refine WQ.inHere ?_
        refine WQ.next ?_
        refine WC.seq ?_
        refine WC.seq ?_
        refine WC.region ?_
        have hkx : ¬ i < (g9 s).1.1.toNat := fun h => hc42 (hct.2 h)
        obtain rfl : i = (g9 s).1.1.toNat := by omega
        have H56 : Own [] w w41 [.blk b1 [(vU32 0), (.slice none 0 0), (.slice none 0 0), (.bool false), (vU32 0), (.slice none 0 0)] 59, .blk b2 [(str (g10 s).rest), (vN (g10 s).f)] 47, .blk b6 [(vU32 (g2 s).1.1), x, y, (.bool (decide ((g7 s).1.1 = (1 : UInt32)))), (vU32 (g8 s).1.1), z] 59, .row x 130 2 (g3 s).1.1.toNat (List.flatMap xtc (gX s)), .row y 92 1 (g5 s).1.1.toNat (List.map vU16 (gP s)), .row z 111 3 (g9 s).1.1.toNat (List.flatMap sgc (gS s))] := by have h := H41; rw [g10_e] at h; rw [gS_e] at h; exact h
        refine WL.op rfl rfl (op_move rfl ?_)
        refine WL.op rfl rfl (op_callF Fa.C35 rfl ((end16r_ok b2 (g10 s)  _ _ (H56.part [1] rfl rfl) (by refine rest_lt ?_; first | (rw [g1_t]; exact hs) | (rw [g2_t]; exact hs) | (rw [g4_t]; exact hs) | (rw [g6_t]; exact hs) | (rw [g7_t]; exact hs) | (rw [g8_t]; exact hs) | (rw [g10_t]; exact hs) | (rw [xsD_t, g3_t]; exact hs) | (rw [numR_s, xsD_t, g3_t]; exact hs) | (rw [psD_t, g5_t]; exact hs) | (rw [sgD_t, g9_t]; exact hs) | (rw [numR_s, sgD_t, g9_t]; exact hs) | (rw [numR_s, numR_s, sgD_t, g9_t]; exact hs) | (rw [numR_s, numR_s, numR_s, sgD_t, g9_t]; exact hs) | exact hs)).mono (fun e w57 hq => ?_)))
        obtain ⟨rfl, hq57⟩ := hq
        refine ⟨_, rfl, ?_⟩
        have H57 : Own [] w w57 [.blk b1 [(vU32 0), (.slice none 0 0), (.slice none 0 0), (.bool false), (vU32 0), (.slice none 0 0)] 59, .blk b2 [(str ((endR (g10 s)).2).rest), (vN ((endR (g10 s)).2).f)] 47, .blk b6 [(vU32 (g2 s).1.1), x, y, (.bool (decide ((g7 s).1.1 = (1 : UInt32)))), (vU32 (g8 s).1.1), z] 59, .row x 130 2 (g3 s).1.1.toNat (List.flatMap xtc (gX s)), .row y 92 1 (g5 s).1.1.toNat (List.map vU16 (gP s)), .row z 111 3 (g9 s).1.1.toNat (List.flatMap sgc (gS s))] := H56.splice [1] [.blk b2 [(str ((endR (g10 s)).2).rest), (vN ((endR (g10 s)).2).f)] 47] [] rfl rfl hq57 (Fits.solid True.intro Fits.nil)
        refine WL.op rfl rfl (op_neqN (b := 0) rfl rfl ?_)
        refine WL.op rfl rfl (op_move rfl ?_)
        refine WL.split (t := 111) rfl (fun (hb58 : (decide ((endR (g10 s)).1 ≠ 0)) = true) => ?_) (fun (hb58 : (decide ((endR (g10 s)).1 ≠ 0)) = false) => ?_)
        ·
          have hc58 := of_decide_eq_true hb58
          refine WL.no rfl rfl rfl hb58 rfl ?_
          refine WL.no rfl rfl rfl hb58 rfl ?_
          refine WL.op rfl rfl (op_pickT rfl hb58 rfl ?_)
          refine WL.op rfl rfl (op_move rfl ?_)
          refine WL.no rfl rfl rfl rfl rfl ?_
          refine WL.no rfl rfl rfl rfl rfl ?_
          refine WL.op rfl rfl (op_pickT rfl rfl rfl ?_)
          refine WL.op rfl rfl (op_move rfl ?_)
          refine WL.no rfl rfl rfl rfl rfl ?_
          refine WL.no rfl rfl rfl rfl rfl ?_
          refine WL.no rfl rfl rfl rfl rfl ?_
          refine WL.op rfl rfl (op_pickT rfl rfl rfl ?_)
          refine WL.nil ?_
          refine WQ.next ?_
          refine WC.yes rfl rfl ?_
          refine WC.seq ?_
          refine WC.region ?_
          refine WL.op rfl rfl (op_build (cs := [_, _, _, _, _, _]) Fa.I59 Fa.PL59 rfl rfl ?_)
          refine WL.op rfl rfl (op_storeBW (i := 0) H57 rfl rfl rfl rfl rfl Fa.I59 (fun w59 H59 => ?_))
          refine WL.op rfl rfl (op_assign rfl ?_)
          refine WL.nil ?_
          refine WQ.next ?_
          refine WC.ret ?_
          refine WQ.thenRet ?_
          refine WQ.out (.cell rfl (run_loadVarS (vs := [_, _, _, _, _, _]) (H59.cells (i := 0) rfl rfl) Try.underlying59 rfl Fa.I59 rfl) (.tmp rfl .nil)) ?_
          have hb : gBad s = true := by (rw [gBad, imE_dec, hb58]) <;> rfl
          rw [(get_bad hb).1, (get_bad hb).2]
          exact ⟨.slice none 0 0, .slice none 0 0, .slice none 0 0, rfl, (((H59.sel [] rfl rfl).nilRow 130 2).nilRow 92 1).nilRow 111 3⟩
        ·
          have hc58 := of_decide_eq_false hb58
          refine WL.yes rfl rfl rfl hb58 rfl (op_move rfl ?_)
          refine WL.yes rfl rfl rfl hb58 rfl (op_neqStr rfl rfl ?_)
          refine WL.op rfl rfl (op_pickF rfl hb58 rfl ?_)
          refine WL.op rfl rfl (op_move rfl ?_)
          refine WL.split (t := 115) rfl (fun (hb60 : (decide ((g1 s).1.1 ≠ [65, 73, 77, 49])) = true) => ?_) (fun (hb60 : (decide ((g1 s).1.1 ≠ [65, 73, 77, 49])) = false) => ?_)
          ·
            have hc60 := of_decide_eq_true hb60
            refine WL.no rfl rfl rfl hb60 rfl ?_
            refine WL.no rfl rfl rfl hb60 rfl ?_
            refine WL.op rfl rfl (op_pickT rfl hb60 rfl ?_)
            refine WL.op rfl rfl (op_move rfl ?_)
            refine WL.no rfl rfl rfl rfl rfl ?_
            refine WL.no rfl rfl rfl rfl rfl ?_
            refine WL.no rfl rfl rfl rfl rfl ?_
            refine WL.op rfl rfl (op_pickT rfl rfl rfl ?_)
            refine WL.nil ?_
            refine WQ.next ?_
            refine WC.yes rfl rfl ?_
            refine WC.seq ?_
            refine WC.region ?_
            refine WL.op rfl rfl (op_build (cs := [_, _, _, _, _, _]) Fa.I59 Fa.PL59 rfl rfl ?_)
            refine WL.op rfl rfl (op_storeBW (i := 0) H57 rfl rfl rfl rfl rfl Fa.I59 (fun w61 H61 => ?_))
            refine WL.op rfl rfl (op_assign rfl ?_)
            refine WL.nil ?_
            refine WQ.next ?_
            refine WC.ret ?_
            refine WQ.thenRet ?_
            refine WQ.out (.cell rfl (run_loadVarS (vs := [_, _, _, _, _, _]) (H61.cells (i := 0) rfl rfl) Try.underlying59 rfl Fa.I59 rfl) (.tmp rfl .nil)) ?_
            have hb : gBad s = true := by (rw [gBad, imE_dec, hb58, hb60]) <;> rfl
            rw [(get_bad hb).1, (get_bad hb).2]
            exact ⟨.slice none 0 0, .slice none 0 0, .slice none 0 0, rfl, (((H61.sel [] rfl rfl).nilRow 130 2).nilRow 92 1).nilRow 111 3⟩
          ·
            have hc60 := of_decide_eq_false hb60
            refine WL.yes rfl rfl rfl hb60 rfl (op_move rfl ?_)
            refine WL.yes rfl rfl rfl hb60 rfl (op_gtrU32 (b := 1) rfl rfl ?_)
            refine WL.op rfl rfl (op_pickF rfl hb60 rfl ?_)
            refine WL.op rfl rfl (op_move rfl ?_)
            refine WL.split (t := 119) rfl (fun (hb62 : (decide ((g7 s).1.1 > (1 : UInt32))) = true) => ?_) (fun (hb62 : (decide ((g7 s).1.1 > (1 : UInt32))) = false) => ?_)
            ·
              have hc62 := of_decide_eq_true hb62
              refine WL.no rfl rfl rfl hb62 rfl ?_
              refine WL.no rfl rfl rfl hb62 rfl ?_
              refine WL.no rfl rfl rfl hb62 rfl ?_
              refine WL.op rfl rfl (op_pickT rfl hb62 rfl ?_)
              refine WL.nil ?_
              refine WQ.next ?_
              refine WC.yes rfl rfl ?_
              refine WC.seq ?_
              refine WC.region ?_
              refine WL.op rfl rfl (op_build (cs := [_, _, _, _, _, _]) Fa.I59 Fa.PL59 rfl rfl ?_)
              refine WL.op rfl rfl (op_storeBW (i := 0) H57 rfl rfl rfl rfl rfl Fa.I59 (fun w63 H63 => ?_))
              refine WL.op rfl rfl (op_assign rfl ?_)
              refine WL.nil ?_
              refine WQ.next ?_
              refine WC.ret ?_
              refine WQ.thenRet ?_
              refine WQ.out (.cell rfl (run_loadVarS (vs := [_, _, _, _, _, _]) (H63.cells (i := 0) rfl rfl) Try.underlying59 rfl Fa.I59 rfl) (.tmp rfl .nil)) ?_
              have hb : gBad s = true := by (rw [gBad, imE_dec, hb58, hb60, hb62]) <;> rfl
              rw [(get_bad hb).1, (get_bad hb).2]
              exact ⟨.slice none 0 0, .slice none 0 0, .slice none 0 0, rfl, (((H63.sel [] rfl rfl).nilRow 130 2).nilRow 92 1).nilRow 111 3⟩
            ·
              have hc62 := of_decide_eq_false hb62
              refine WL.yes rfl rfl rfl hb62 rfl (op_loadS (vs := [_, _, _, _, _, _]) rfl (H57.cells (i := 2) rfl rfl) Try.underlying59 rfl Fa.I59 rfl ?_)
              refine WL.yes rfl rfl rfl hb62 rfl (op_callF Fa.C47 rfl ((rmay16_ok ((g2 s).1.1) _ _ _ (gX s) (gP s) (decide ((g7 s).1.1 = (1 : UInt32))) ((g8 s).1.1) (gS s) _ (Arr.lenF ((H57.arrR (i := 3) rfl)) (fun _ => rfl) (by decide)) (Arr.lenM (H57.arrR (i := 4) rfl)) (Arr.lenF ((H57.arrR (i := 5) rfl)) (fun _ => rfl) (by decide)) (by have := gX_len s; have := (g3 s).1.1.toNat_lt; omega) (by have := gP_len s; have := (g5 s).1.1.toNat_lt; omega) (by have := gS_len s; have := (g9 s).1.1.toNat_lt; omega) (gS_30 s)).mono (fun e w64 hq => ?_)))
              obtain ⟨rfl, hf64⟩ := hq
              refine ⟨_, rfl, ?_⟩
              have H64 := H57.fr' hf64
              refine WL.yes rfl rfl rfl hb62 rfl (op_not rfl ?_)
              refine WL.op rfl rfl (op_pickF rfl hb62 rfl ?_)
              refine WL.nil ?_
              refine WQ.next ?_
              refine WC.cond rfl (fun (hb65 : (!(rMay ((g2 s).1.1) (gX s) (gP s) ((g8 s).1.1) (gS s))) = true) => ?_) (fun (hb65 : (!(rMay ((g2 s).1.1) (gX s) (gP s) ((g8 s).1.1) (gS s))) = false) => ?_)
              ·
                have hn65 := (Bool.not_eq_true' _).mp hb65
                refine WC.seq ?_
                refine WC.region ?_
                refine WL.op rfl rfl (op_build (cs := [_, _, _, _, _, _]) Fa.I59 Fa.PL59 rfl rfl ?_)
                refine WL.op rfl rfl (op_storeBW (i := 0) H64 rfl rfl rfl rfl rfl Fa.I59 (fun w66 H66 => ?_))
                refine WL.op rfl rfl (op_assign rfl ?_)
                refine WL.nil ?_
                refine WQ.next ?_
                refine WC.ret ?_
                refine WQ.thenRet ?_
                refine WQ.out (.cell rfl (run_loadVarS (vs := [_, _, _, _, _, _]) (H66.cells (i := 0) rfl rfl) Try.underlying59 rfl Fa.I59 rfl) (.tmp rfl .nil)) ?_
                have hb : gBad s = true := by (rw [gBad, imE_dec, hb58, hb60, hb62, hn65]) <;> rfl
                rw [(get_bad hb).1, (get_bad hb).2]
                exact ⟨.slice none 0 0, .slice none 0 0, .slice none 0 0, rfl, (((H66.sel [] rfl rfl).nilRow 130 2).nilRow 92 1).nilRow 111 3⟩
              ·
                have hn65 := (Bool.not_eq_false' _).mp hb65
                refine WC.skip ?_
                refine WQ.next ?_
                refine WC.seq ?_
                refine WC.region ?_
                refine WL.op rfl rfl (op_loadS (vs := [_, _, _, _, _, _]) rfl (H64.cells (i := 2) rfl rfl) Try.underlying59 rfl Fa.I59 rfl ?_)
                refine WL.op rfl rfl (op_storeBW (i := 0) H64 rfl rfl rfl rfl (one_cons rfl (one_cons (Arr.one (H64.arrR (i := 3) rfl)) (one_cons (Arr.one (H64.arrR (i := 4) rfl)) (one_cons rfl (one_cons rfl (one_cons (Arr.one (H64.arrR (i := 5) rfl)) one_nil)))))) Fa.I59 (fun w67 H67 => ?_))
                refine WL.op rfl rfl (op_assign rfl ?_)
                refine WL.nil ?_
                refine WQ.next ?_
                refine WC.ret ?_
                refine WQ.out (.cell rfl (run_loadVarS (vs := [_, _, _, _, _, _]) (H67.cells (i := 0) rfl rfl) Try.underlying59 rfl Fa.I59 rfl) (.tmp rfl .nil)) ?_
                have hb : gBad s = false := by (rw [gBad, imE_dec, hb58, hb60, hb62, hn65]) <;> rfl
                exact iget_fin (x := x) (y := y) (z := z) hb rfl (H67.sel [3, 4, 5] rfl rfl)
end Go.Proofs.Ytpnghdalnghpcaa
/-! from WSeal3 -/
namespace Go.Proofs.Ytpnghdalnghpcaa
open Go.Owl Go.Spec
set_option maxRecDepth 100000 in
theorem rsopen_ok (key s : List UInt8) (w : World) (hk : key.length < 2 ^ 40) (hs : s.length < 2 ^ 38) :
    Calls Try.prog 69 #[(str key), (str s)] w (fun e w' => ∃ v u q, e = .returned (.tuple #[.agg #[vU32 (opI key s).pg, v, u, .bool (opI key s).c, vU32 (opI key s).en, q], vN (opC key s)]) ∧ Own [] w w' [.row v 130 2 (opI key s).xs.length (List.flatMap xtc (opI key s).xs), .row u 92 1 (opI key s).ps.length (List.map vU16 (opI key s).ps), .row q 111 3 (opI key s).sg.length (List.flatMap sgc (opI key s).sg)]) := by
  refine enter (args := [(str key), (str s)]) Try.func69 rfl rfl ?_
  have H0 : Own [] w w [] := Own.start w []
  refine WC.seq ?_
  refine WC.region ?_
  refine WL.op rfl rfl (op_alloc H0 Fa.I59 (fun b1 w1 H1 => ?_))
  refine WL.op rfl rfl (op_assign rfl ?_)
  refine WL.nil ?_
  refine WQ.next ?_
  refine WC.seq ?_
  refine WC.region ?_
  refine WL.op rfl rfl (op_move rfl ?_)
  refine WL.op rfl rfl (op_lenStr Try.underlying9 rfl ?_)
  refine WL.op rfl rfl (op_subI (a := ((s.length : Nat) : Int)) (b := ((32 : Nat) : Int)) rfl rfl (by omega) ?_)
  refine WL.op rfl rfl (op_assign rfl ?_)
  refine WL.nil ?_
  refine WQ.next ?_
  refine WC.seq ?_
  refine WC.seq ?_
  refine WC.region ?_
  refine WL.op rfl rfl (op_move rfl ?_)
  refine WL.op rfl rfl (op_lssI (b := (0 : Int)) rfl rfl ?_)
  refine WL.nil ?_
  refine WQ.next ?_
  refine WC.cond rfl (fun (hb2 : (decide ((((s.length : Nat) : Int) - ((32 : Nat) : Int)) < (0 : Int))) = true) => ?_) (fun (hb2 : (decide ((((s.length : Nat) : Int) - ((32 : Nat) : Int)) < (0 : Int))) = false) => ?_)
  ·
    have hc2 := of_decide_eq_true hb2
    refine WC.seq ?_
    refine WC.region ?_
    refine WL.op rfl rfl (op_build (cs := [_, _, _, _, _, _]) Fa.I59 Fa.PL59 rfl rfl ?_)
    refine WL.op rfl rfl (op_storeBW (i := 0) H1 rfl rfl rfl rfl rfl Fa.I59 (fun w3 H3 => ?_))
    refine WL.op rfl rfl (op_assign rfl ?_)
    refine WL.nil ?_
    refine WQ.next ?_
    refine WC.ret ?_
    refine WQ.thenRet ?_
    refine WQ.out (.cell rfl (run_loadVarS (vs := [_, _, _, _, _, _]) (H3.cells (i := 0) rfl rfl) Try.underlying59 rfl Fa.I59 rfl) (.tmp rfl .nil)) ?_
    have hb := op_short (key := key) (s := s) (by omega)
    rw [hb.1, hb.2]
    exact ⟨.slice none 0 0, .slice none 0 0, .slice none 0 0, rfl, (((H3.sel [] rfl rfl).nilRow 130 2).nilRow 92 1).nilRow 111 3⟩
  ·
    have hc2 := of_decide_eq_false hb2
    have hln : ¬ s.length < 32 := by omega
    rw [show ((s.length : Nat) : Int) - ((32 : Nat) : Int) = ((s.length - 32 : Nat) : Int) by omega]
    refine WC.skip ?_
    refine WQ.next ?_
    refine WC.seq ?_
    refine WC.seq ?_
    refine WC.draw 9 Fa.M H1 (HW.op rfl (fun w1 H1 => op_move rfl ⟨rfl, Fr.refl _ _⟩) (HW.op rfl (fun w1 H1 => op_move rfl ⟨rfl, Fr.refl _ _⟩) (HW.op rfl (fun w1 H1 => op_move rfl ⟨rfl, Fr.refl _ _⟩) (HW.op rfl (fun w1 H1 => op_sliceStrHi Try.underlying9 rfl rfl (by omega) ⟨rfl, Fr.refl _ _⟩) (HW.op rfl (fun w1 H1 => op_callF Fa.C71 rfl ((rmac_ok key (s.take (s.length - 32)) _ hk (by rw [List.length_take]; omega)).mono (fun e w2 hq => ⟨_, hq.1, rfl, hq.2⟩))) (HW.op rfl (fun w1 H1 => op_move rfl ⟨rfl, Fr.refl _ _⟩) (HW.op rfl (fun w1 H1 => op_move rfl ⟨rfl, Fr.refl _ _⟩) (HW.op rfl (fun w1 H1 => op_sliceStrLo Try.underlying9 rfl rfl (by omega) ⟨rfl, Fr.refl _ _⟩) (HW.op rfl (fun w1 H1 => op_neqStr rfl rfl ⟨rfl, Fr.refl _ _⟩)  HW.nil))))))))) (by kernel_rfl) ?_
    intro β5 w5 H5
    refine WL.nil ?_
    refine WQ.next ?_
    refine WC.cond rfl (fun (hb6 : (decide ((mac key (s.take (s.length - 32))) ≠ (s.drop (s.length - 32)))) = true) => ?_) (fun (hb6 : (decide ((mac key (s.take (s.length - 32))) ≠ (s.drop (s.length - 32)))) = false) => ?_)
    ·
      have hc6 := of_decide_eq_true hb6
      refine WC.seq ?_
      refine WC.region ?_
      refine WL.op rfl rfl (op_build (cs := [_, _, _, _, _, _]) Fa.I59 Fa.PL59 rfl rfl ?_)
      refine WL.op rfl rfl (op_storeBW (i := 0) H5 rfl rfl rfl rfl rfl Fa.I59 (fun w7 H7 => ?_))
      refine WL.op rfl rfl (op_assign rfl ?_)
      refine WL.nil ?_
      refine WQ.next ?_
      refine WC.ret ?_
      refine WQ.thenRet ?_
      refine WQ.out (.cell rfl (run_loadVarS (vs := [_, _, _, _, _, _]) (H7.cells (i := 0) rfl rfl) Try.underlying59 rfl Fa.I59 rfl) (.tmp rfl .nil)) ?_
      have hb := op_tag (key := key) hln (Ne.symm hc6)
      rw [hb.1, hb.2]
      exact ⟨.slice none 0 0, .slice none 0 0, .slice none 0 0, rfl, (((H7.sel [] rfl rfl).nilRow 130 2).nilRow 92 1).nilRow 111 3⟩
    ·
      have hc6 := of_decide_eq_false hb6
      refine WC.skip ?_
      refine WQ.next ?_
      refine WC.seq ?_
      refine WC.region ?_
      refine WL.op rfl rfl (op_move rfl ?_)
      refine WL.op rfl rfl (op_move rfl ?_)
      refine WL.op rfl rfl (op_sliceStrHi Try.underlying9 rfl rfl (by omega) ?_)
      refine WL.op rfl rfl (op_callF Fa.C50 rfl ((rget_ok (s.take (s.length - 32)) _ (by rw [List.length_take]; omega)).mono (fun e w8 hq => ?_)))
      obtain ⟨v8, u8, q8, rfl, hq8⟩ := hq
      refine ⟨_, rfl, ?_⟩
      have H8 : Own [] w w8 [.blk b1 [(vU32 0), (.slice none 0 0), (.slice none 0 0), (.bool false), (vU32 0), (.slice none 0 0)] 59, .row v8 130 2 (imG (s.take (s.length - 32))).xs.length (List.flatMap xtc (imG (s.take (s.length - 32))).xs), .row u8 92 1 (imG (s.take (s.length - 32))).ps.length (List.map vU16 (imG (s.take (s.length - 32))).ps), .row q8 111 3 (imG (s.take (s.length - 32))).sg.length (List.flatMap sgc (imG (s.take (s.length - 32))).sg)] := H5.splice [] [] [.row v8 130 2 (imG (s.take (s.length - 32))).xs.length (List.flatMap xtc (imG (s.take (s.length - 32))).xs), .row u8 92 1 (imG (s.take (s.length - 32))).ps.length (List.map vU16 (imG (s.take (s.length - 32))).ps), .row q8 111 3 (imG (s.take (s.length - 32))).sg.length (List.flatMap sgc (imG (s.take (s.length - 32))).sg)] rfl rfl hq8 (Fits.solid True.intro (Fits.solid True.intro (Fits.solid True.intro Fits.nil)))
      refine WL.op rfl rfl (op_extract rfl rfl ?_)
      refine WL.op rfl rfl (op_extract rfl rfl ?_)
      refine WL.op rfl rfl (op_storeBW (i := 0) H8 rfl rfl rfl rfl (one_cons rfl (one_cons (Arr.one (H8.arrR (i := 1) rfl)) (one_cons (Arr.one (H8.arrR (i := 2) rfl)) (one_cons rfl (one_cons rfl (one_cons (Arr.one (H8.arrR (i := 3) rfl)) one_nil)))))) Fa.I59 (fun w9 H9 => ?_))
      refine WL.op rfl rfl (op_assign rfl ?_)
      refine WL.nil ?_
      refine WQ.next ?_
      refine WC.ret ?_
      refine WQ.out (.cell rfl (run_loadVarS (vs := [_, _, _, _, _, _]) (H9.cells (i := 0) rfl rfl) Try.underlying59 rfl Fa.I59 rfl) (.tmp rfl .nil)) ?_
      have hb := op_get (key := key) hln (Decidable.not_not.mp hc6).symm
      rw [hb.1, hb.2]
      exact ⟨v8, u8, q8, rfl, H9.sel [1, 2, 3] rfl rfl⟩
set_option maxRecDepth 100000 in
theorem rseal_ok (key : List UInt8) (pg : UInt32) (ev pv sv : Value) (xs : List Xt) (ps : List UInt16) (con : Bool) (en : UInt32) (sg : List Sg) (w : World) (hE : Arr w ev 2 xs.length (List.flatMap xtc xs)) (hP : Arr w pv 1 ps.length (List.map vU16 ps)) (hS : Arr w sv 3 sg.length (List.flatMap sgc sg)) (hk : key.length < 2 ^ 40) (bx : xs.length ≤ 2 ^ 20) (bp : ps.length ≤ 2 ^ 20) (bs : sg.length ≤ 2 ^ 10) (bb : ∀ x ∈ sg, x.b.length ≤ 2 ^ 30) (hL : (imS pg xs ps con en sg).length < 2 ^ 38) :
    Calls Try.prog 72 #[(str key), (.agg #[(vU32 pg), ev, pv, (.bool con), (vU32 en), sv])] w (fun e w' => e = .returned (str (imS pg xs ps con en sg ++ mac key (imS pg xs ps con en sg))) ∧ Fr [] w w') := by
  refine enter (args := [(str key), (.agg #[(vU32 pg), ev, pv, (.bool con), (vU32 en), sv])]) Try.func72 rfl rfl ?_
  have H0 : Own [] w w [] := Own.start w []
  refine WC.seq ?_
  refine WC.region ?_
  refine WL.op rfl rfl (op_box H0 rfl rfl (fun b1 w1 H1 => ?_))
  refine WL.op rfl rfl (op_assign rfl ?_)
  refine WL.nil ?_
  refine WQ.next ?_
  refine WC.seq ?_
  refine WC.region ?_
  refine WL.op rfl rfl (op_loadS (vs := [_, _, _, _, _, _]) rfl (H1.cells (i := 0) rfl rfl) Try.underlying59 rfl Fa.I59 rfl ?_)
  refine WL.op rfl rfl (op_callF Fa.C48 rfl ((rput_ok pg _ _ _ xs ps con en sg _ (H1.arr hE) (H1.arr hP) (H1.arr hS) bx bp bs bb).mono (fun e w2 hq => ?_)))
  obtain ⟨rfl, hf2⟩ := hq
  refine ⟨_, rfl, ?_⟩
  have H2 := H1.fr' hf2
  refine WL.op rfl rfl (op_assign rfl ?_)
  refine WL.nil ?_
  refine WQ.next ?_
  refine WC.seq ?_
  refine WC.region ?_
  refine WL.op rfl rfl (op_move rfl ?_)
  refine WL.op rfl rfl (op_move rfl ?_)
  refine WL.op rfl rfl (op_move rfl ?_)
  refine WL.op rfl rfl (op_callF Fa.C71 rfl ((rmac_ok key (imS pg xs ps con en sg) _ hk (by omega)).mono (fun e w3 hq => ?_)))
  obtain ⟨rfl, hf3⟩ := hq
  refine ⟨_, rfl, ?_⟩
  have H3 := H2.fr' hf3
  refine WL.op rfl rfl (op_addStr rfl rfl (by rw [mac_length]; omega) ?_)
  refine WL.op rfl rfl (op_assign rfl ?_)
  refine WL.nil ?_
  refine WQ.next ?_
  refine WC.ret ?_
  refine WQ.out (.tmp rfl .nil) ?_
  exact ⟨rfl, H3.fr⟩
end Go.Proofs.Ytpnghdalnghpcaa
