import Derived.Test.YtfdlkkhhakjgeaaWMac
import Derived.Test.YtfdlkkhhakjgeaaLawSha
namespace Go.Proofs.Ytfdlkkhhakjgeaa
open Go.Owl Go.Spec
set_option maxRecDepth 100000 in
theorem alive03_ok  (w : World) :
    Calls Try.prog 29 #[] w (fun e w' => e = .returned (.bool true) ∧ Fr [] w w') := by
  refine enter (args := []) Try.func29 rfl rfl ?_
  have H0 : Own [] w w [] := Own.start w []
  refine WC.seq ?_
  refine WC.region ?_
  refine WL.op rfl rfl (op_assign rfl ?_)
  refine WL.nil ?_
  refine WQ.next ?_
  refine WC.seq ?_
  refine WC.region ?_
  refine WL.op rfl rfl (op_callF Fa.C33 rfl ((macnew_ok ([74, 101, 102, 101]) _ (by decide)).mono (fun e w1 hq => ?_)))
  obtain ⟨m1, q1, v1, rfl, hq1⟩ := hq
  refine ⟨_, rfl, ?_⟩
  have H1 : Own [] w w1 [.blk m1 [(ptr q1 0), (str (blockM ([74, 101, 102, 101])))] 88, .blk q1 [(vU32 (hst (xorL (blockM ([74, 101, 102, 101])) 54)).a), (vU32 (hst (xorL (blockM ([74, 101, 102, 101])) 54)).b), (vU32 (hst (xorL (blockM ([74, 101, 102, 101])) 54)).c), (vU32 (hst (xorL (blockM ([74, 101, 102, 101])) 54)).d), (vU32 (hst (xorL (blockM ([74, 101, 102, 101])) 54)).e), (vU32 (hst (xorL (blockM ([74, 101, 102, 101])) 54)).f), (vU32 (hst (xorL (blockM ([74, 101, 102, 101])) 54)).g), (vU32 (hst (xorL (blockM ([74, 101, 102, 101])) 54)).h), v1, (vN (xorL (blockM ([74, 101, 102, 101])) 54).length)] 76, .row v1 5 1 (hrest (xorL (blockM ([74, 101, 102, 101])) 54)).length (List.map vU8 (hrest (xorL (blockM ([74, 101, 102, 101])) 54)))] := H0.splice [] [] [.blk m1 [(ptr q1 0), (str (blockM ([74, 101, 102, 101])))] 88, .blk q1 [(vU32 (hst (xorL (blockM ([74, 101, 102, 101])) 54)).a), (vU32 (hst (xorL (blockM ([74, 101, 102, 101])) 54)).b), (vU32 (hst (xorL (blockM ([74, 101, 102, 101])) 54)).c), (vU32 (hst (xorL (blockM ([74, 101, 102, 101])) 54)).d), (vU32 (hst (xorL (blockM ([74, 101, 102, 101])) 54)).e), (vU32 (hst (xorL (blockM ([74, 101, 102, 101])) 54)).f), (vU32 (hst (xorL (blockM ([74, 101, 102, 101])) 54)).g), (vU32 (hst (xorL (blockM ([74, 101, 102, 101])) 54)).h), v1, (vN (xorL (blockM ([74, 101, 102, 101])) 54).length)] 76, .row v1 5 1 (hrest (xorL (blockM ([74, 101, 102, 101])) 54)).length (List.map vU8 (hrest (xorL (blockM ([74, 101, 102, 101])) 54)))] rfl rfl hq1 (Fits.solid True.intro (Fits.solid True.intro (Fits.solid True.intro Fits.nil)))
  refine WL.op rfl rfl (op_assign rfl ?_)
  refine WL.nil ?_
  refine WQ.next ?_
  refine WC.seq ?_
  refine WC.region ?_
  refine WL.op rfl rfl (op_move rfl ?_)
  refine WL.op rfl rfl (op_buildSlice (cs := [_, _]) H1 Try.underlying44 Fa.I9 rfl rfl rfl rfl (by decide) (by decide) (fun b2 w2 H2 => ?_))
  refine WL.op rfl rfl (op_callF Fa.C34 rfl ((macw_ok m1 q1 v1 (.slice (some ⟨b2, 0, none⟩) 2 2) (blockM ([74, 101, 102, 101])) (xorL (blockM ([74, 101, 102, 101])) 54) ([[119, 104, 97, 116, 32, 100, 111, 32, 121, 97, 32, 119, 97, 110, 116, 32], [102, 111, 114, 32, 110, 111, 116, 104, 105, 110, 103, 63]]) _ _ (H2.part [0, 1, 2] rfl rfl) (H2.stayR (I := [0, 1, 2]) (k := 3) rfl rfl rfl) (by simp [xorL_length, blockM_length]) (by decide)).mono (fun e w3 hq => ?_)))
  obtain ⟨v3, rfl, hq3⟩ := hq
  refine ⟨_, rfl, ?_⟩
  have H3 : Own [] w w3 [.blk m1 [(ptr q1 0), (str (blockM ([74, 101, 102, 101])))] 88, .blk q1 [(vU32 (hst ((xorL (blockM ([74, 101, 102, 101])) 54) ++ [[119, 104, 97, 116, 32, 100, 111, 32, 121, 97, 32, 119, 97, 110, 116, 32], [102, 111, 114, 32, 110, 111, 116, 104, 105, 110, 103, 63]].flatten)).a), (vU32 (hst ((xorL (blockM ([74, 101, 102, 101])) 54) ++ [[119, 104, 97, 116, 32, 100, 111, 32, 121, 97, 32, 119, 97, 110, 116, 32], [102, 111, 114, 32, 110, 111, 116, 104, 105, 110, 103, 63]].flatten)).b), (vU32 (hst ((xorL (blockM ([74, 101, 102, 101])) 54) ++ [[119, 104, 97, 116, 32, 100, 111, 32, 121, 97, 32, 119, 97, 110, 116, 32], [102, 111, 114, 32, 110, 111, 116, 104, 105, 110, 103, 63]].flatten)).c), (vU32 (hst ((xorL (blockM ([74, 101, 102, 101])) 54) ++ [[119, 104, 97, 116, 32, 100, 111, 32, 121, 97, 32, 119, 97, 110, 116, 32], [102, 111, 114, 32, 110, 111, 116, 104, 105, 110, 103, 63]].flatten)).d), (vU32 (hst ((xorL (blockM ([74, 101, 102, 101])) 54) ++ [[119, 104, 97, 116, 32, 100, 111, 32, 121, 97, 32, 119, 97, 110, 116, 32], [102, 111, 114, 32, 110, 111, 116, 104, 105, 110, 103, 63]].flatten)).e), (vU32 (hst ((xorL (blockM ([74, 101, 102, 101])) 54) ++ [[119, 104, 97, 116, 32, 100, 111, 32, 121, 97, 32, 119, 97, 110, 116, 32], [102, 111, 114, 32, 110, 111, 116, 104, 105, 110, 103, 63]].flatten)).f), (vU32 (hst ((xorL (blockM ([74, 101, 102, 101])) 54) ++ [[119, 104, 97, 116, 32, 100, 111, 32, 121, 97, 32, 119, 97, 110, 116, 32], [102, 111, 114, 32, 110, 111, 116, 104, 105, 110, 103, 63]].flatten)).g), (vU32 (hst ((xorL (blockM ([74, 101, 102, 101])) 54) ++ [[119, 104, 97, 116, 32, 100, 111, 32, 121, 97, 32, 119, 97, 110, 116, 32], [102, 111, 114, 32, 110, 111, 116, 104, 105, 110, 103, 63]].flatten)).h), v3, (vN ((xorL (blockM ([74, 101, 102, 101])) 54) ++ [[119, 104, 97, 116, 32, 100, 111, 32, 121, 97, 32, 119, 97, 110, 116, 32], [102, 111, 114, 32, 110, 111, 116, 104, 105, 110, 103, 63]].flatten).length)] 76, .row v3 5 1 (hrest ((xorL (blockM ([74, 101, 102, 101])) 54) ++ [[119, 104, 97, 116, 32, 100, 111, 32, 121, 97, 32, 119, 97, 110, 116, 32], [102, 111, 114, 32, 110, 111, 116, 104, 105, 110, 103, 63]].flatten)).length (List.map vU8 (hrest ((xorL (blockM ([74, 101, 102, 101])) 54) ++ [[119, 104, 97, 116, 32, 100, 111, 32, 121, 97, 32, 119, 97, 110, 116, 32], [102, 111, 114, 32, 110, 111, 116, 104, 105, 110, 103, 63]].flatten))), .row (.slice (some ⟨b2, 0, none⟩) 2 2) 9 1 2 (List.map str [[119, 104, 97, 116, 32, 100, 111, 32, 121, 97, 32, 119, 97, 110, 116, 32], [102, 111, 114, 32, 110, 111, 116, 104, 105, 110, 103, 63]])] := H2.splice [0, 1, 2] [.blk m1 [(ptr q1 0), (str (blockM ([74, 101, 102, 101])))] 88, .blk q1 [(vU32 (hst ((xorL (blockM ([74, 101, 102, 101])) 54) ++ [[119, 104, 97, 116, 32, 100, 111, 32, 121, 97, 32, 119, 97, 110, 116, 32], [102, 111, 114, 32, 110, 111, 116, 104, 105, 110, 103, 63]].flatten)).a), (vU32 (hst ((xorL (blockM ([74, 101, 102, 101])) 54) ++ [[119, 104, 97, 116, 32, 100, 111, 32, 121, 97, 32, 119, 97, 110, 116, 32], [102, 111, 114, 32, 110, 111, 116, 104, 105, 110, 103, 63]].flatten)).b), (vU32 (hst ((xorL (blockM ([74, 101, 102, 101])) 54) ++ [[119, 104, 97, 116, 32, 100, 111, 32, 121, 97, 32, 119, 97, 110, 116, 32], [102, 111, 114, 32, 110, 111, 116, 104, 105, 110, 103, 63]].flatten)).c), (vU32 (hst ((xorL (blockM ([74, 101, 102, 101])) 54) ++ [[119, 104, 97, 116, 32, 100, 111, 32, 121, 97, 32, 119, 97, 110, 116, 32], [102, 111, 114, 32, 110, 111, 116, 104, 105, 110, 103, 63]].flatten)).d), (vU32 (hst ((xorL (blockM ([74, 101, 102, 101])) 54) ++ [[119, 104, 97, 116, 32, 100, 111, 32, 121, 97, 32, 119, 97, 110, 116, 32], [102, 111, 114, 32, 110, 111, 116, 104, 105, 110, 103, 63]].flatten)).e), (vU32 (hst ((xorL (blockM ([74, 101, 102, 101])) 54) ++ [[119, 104, 97, 116, 32, 100, 111, 32, 121, 97, 32, 119, 97, 110, 116, 32], [102, 111, 114, 32, 110, 111, 116, 104, 105, 110, 103, 63]].flatten)).f), (vU32 (hst ((xorL (blockM ([74, 101, 102, 101])) 54) ++ [[119, 104, 97, 116, 32, 100, 111, 32, 121, 97, 32, 119, 97, 110, 116, 32], [102, 111, 114, 32, 110, 111, 116, 104, 105, 110, 103, 63]].flatten)).g), (vU32 (hst ((xorL (blockM ([74, 101, 102, 101])) 54) ++ [[119, 104, 97, 116, 32, 100, 111, 32, 121, 97, 32, 119, 97, 110, 116, 32], [102, 111, 114, 32, 110, 111, 116, 104, 105, 110, 103, 63]].flatten)).h), v3, (vN ((xorL (blockM ([74, 101, 102, 101])) 54) ++ [[119, 104, 97, 116, 32, 100, 111, 32, 121, 97, 32, 119, 97, 110, 116, 32], [102, 111, 114, 32, 110, 111, 116, 104, 105, 110, 103, 63]].flatten).length)] 76, .row v3 5 1 (hrest ((xorL (blockM ([74, 101, 102, 101])) 54) ++ [[119, 104, 97, 116, 32, 100, 111, 32, 121, 97, 32, 119, 97, 110, 116, 32], [102, 111, 114, 32, 110, 111, 116, 104, 105, 110, 103, 63]].flatten)).length (List.map vU8 (hrest ((xorL (blockM ([74, 101, 102, 101])) 54) ++ [[119, 104, 97, 116, 32, 100, 111, 32, 121, 97, 32, 119, 97, 110, 116, 32], [102, 111, 114, 32, 110, 111, 116, 104, 105, 110, 103, 63]].flatten)))] [] rfl rfl hq3 (Fits.solid True.intro (Fits.solid True.intro (Fits.solid True.intro Fits.nil)))
  refine WL.op rfl rfl (op_assign rfl ?_)
  refine WL.nil ?_
  refine WQ.next ?_
  refine WC.seq ?_
  refine WC.region ?_
  refine WL.op rfl rfl (op_callF Fa.C31 rfl ((msum_ok ([74, 101, 102, 101]) ([119, 104, 97, 116, 32, 100, 111, 32, 121, 97, 32, 119, 97, 110, 116, 32, 102, 111, 114, 32, 110, 111, 116, 104, 105, 110, 103, 63]) _ (by decide) (by decide)).mono (fun e w4 hq => ?_)))
  obtain ⟨rfl, hf4⟩ := hq
  refine ⟨_, rfl, ?_⟩
  have H4 := H3.fr' hf4
  refine WL.op rfl rfl (op_assign rfl ?_)
  refine WL.nil ?_
  refine WQ.next ?_
  refine WC.seq ?_
  refine WC.region ?_
  refine WL.op rfl rfl (op_move rfl ?_)
  refine WL.op rfl rfl (op_callF Fa.C46 rfl ((hex_ok (mac ([74, 101, 102, 101]) ([119, 104, 97, 116, 32, 100, 111, 32, 121, 97, 32, 119, 97, 110, 116, 32, 102, 111, 114, 32, 110, 111, 116, 104, 105, 110, 103, 63])) _ (by rw [mac_length]; decide)).mono (fun e w5 hq => ?_)))
  obtain ⟨rfl, hf5⟩ := hq
  refine ⟨_, rfl, ?_⟩
  have H5 := H4.fr' hf5
  refine WL.op rfl rfl (op_eqlStr rfl rfl ?_)
  refine WL.op rfl rfl (op_move rfl ?_)
  refine WL.yes rfl rfl rfl (by kernel_rfl) rfl (op_move rfl ?_)
  refine WL.yes rfl rfl rfl (by kernel_rfl) rfl (op_eqlN (b := 0) rfl rfl ?_)
  refine WL.op rfl rfl (op_pickT rfl (by kernel_rfl) rfl ?_)
  refine WL.op rfl rfl (op_move rfl ?_)
  refine WL.yes rfl rfl rfl (by decide) rfl (op_move rfl ?_)
  refine WL.yes rfl rfl rfl (by decide) rfl (op_callF Fa.C35 rfl ((macs_ok m1 q1 v3 (blockM ([74, 101, 102, 101])) ((xorL (blockM ([74, 101, 102, 101])) 54) ++ [[119, 104, 97, 116, 32, 100, 111, 32, 121, 97, 32, 119, 97, 110, 116, 32], [102, 111, 114, 32, 110, 111, 116, 104, 105, 110, 103, 63]].flatten) _ (H5.cellsAt (i := 0) rfl) (H5.cellsAt (i := 1) rfl) (H5.arrR (i := 2) rfl) (by simp [xorL_length, blockM_length]) (by rw [blockM_length]; decide)).mono (fun e w6 hq => ?_)))
  obtain ⟨rfl, hf6⟩ := hq
  refine ⟨_, rfl, ?_⟩
  have H6 := H5.fr' hf6
  refine WL.yes rfl rfl rfl (by decide) rfl (op_move rfl ?_)
  refine WL.yes rfl rfl rfl (by decide) rfl (op_eqlStr rfl rfl ?_)
  refine WL.op rfl rfl (op_pickT rfl (by decide) rfl ?_)
  refine WL.op rfl rfl (op_move rfl ?_)
  refine WL.yes rfl rfl rfl (by kernel_rfl) rfl (op_move rfl ?_)
  refine WL.yes rfl rfl rfl (by kernel_rfl) rfl (op_callF Fa.C32 rfl ((mcheck_ok ([74, 101, 102, 101]) ([119, 104, 97, 116, 32, 100, 111, 32, 121, 97, 32, 119, 97, 110, 116, 32, 102, 111, 114, 32, 110, 111, 116, 104, 105, 110, 103, 63]) (mac ([74, 101, 102, 101]) ([119, 104, 97, 116, 32, 100, 111, 32, 121, 97, 32, 119, 97, 110, 116, 32, 102, 111, 114, 32, 110, 111, 116, 104, 105, 110, 103, 63])) _ (by decide) (by decide)).mono (fun e w7 hq => ?_)))
  obtain ⟨rfl, hf7⟩ := hq
  refine ⟨_, rfl, ?_⟩
  have H7 := H6.fr' hf7
  refine WL.op rfl rfl (op_pickT rfl (by kernel_rfl) rfl ?_)
  refine WL.op rfl rfl (op_move rfl ?_)
  refine WL.yes rfl rfl rfl (by kernel_rfl) rfl (op_move rfl ?_)
  refine WL.yes rfl rfl rfl (by kernel_rfl) rfl (op_callF Fa.C32 rfl ((mcheck_ok ([74, 101, 102, 101]) ([119, 104, 97, 116, 32, 100, 111, 32, 121, 97, 32, 119, 97, 110, 116, 32, 102, 111, 114, 32, 110, 111, 116, 104, 105, 110, 103]) (mac ([74, 101, 102, 101]) ([119, 104, 97, 116, 32, 100, 111, 32, 121, 97, 32, 119, 97, 110, 116, 32, 102, 111, 114, 32, 110, 111, 116, 104, 105, 110, 103, 63])) _ (by decide) (by decide)).mono (fun e w8 hq => ?_)))
  obtain ⟨rfl, hf8⟩ := hq
  refine ⟨_, rfl, ?_⟩
  have H8 := H7.fr' hf8
  refine WL.yes rfl rfl rfl (by kernel_rfl) rfl (op_not rfl ?_)
  refine WL.op rfl rfl (op_pickT rfl (by kernel_rfl) rfl ?_)
  refine WL.op rfl rfl (op_assign rfl ?_)
  refine WL.nil ?_
  refine WQ.next ?_
  refine WC.ret ?_
  refine WQ.out (.tmp rfl .nil) ?_
  exact ⟨rfl, H8.fr⟩
set_option maxRecDepth 100000 in
theorem macTells_ok (key text sum : List UInt8) (w : World) (hk : key.length ≤ 140737488351232) (ht : text.length ≤ 140737488351232) (hs : sum.length ≤ 140737488351232) :
    Calls Try.prog 9 #[(str key), (str text), (str sum)] w (fun e w' => e = .returned (.bool true) ∧ Fr [] w w') := by
  refine enter (args := [(str key), (str text), (str sum)]) Try.func9 rfl rfl ?_
  have H0 : Own [] w w [] := Own.start w []
  refine WC.seq ?_
  refine WC.region ?_
  refine WL.op rfl rfl (op_assign rfl ?_)
  refine WL.nil ?_
  refine WQ.next ?_
  refine WC.seq ?_
  refine WC.seq ?_
  refine WC.region ?_
  refine WL.op rfl rfl (op_move rfl ?_)
  refine WL.op rfl rfl (op_lenStr Try.underlying9 rfl ?_)
  refine WL.op rfl rfl (op_move rfl ?_)
  refine WL.op rfl rfl (op_lenStr Try.underlying9 rfl ?_)
  refine WL.op rfl rfl (op_addN rfl rfl (by omega) ?_)
  refine WL.op rfl rfl (op_move rfl ?_)
  refine WL.op rfl rfl (op_lenStr Try.underlying9 rfl ?_)
  refine WL.op rfl rfl (op_addN rfl rfl (by omega) ?_)
  refine WL.op rfl rfl (op_gtrN (b := 8192) rfl rfl ?_)
  refine WL.nil ?_
  refine WQ.next ?_
  refine WC.cond rfl (fun (hb1 : (decide (((key.length + text.length) + sum.length) > 8192)) = true) => ?_) (fun (hb1 : (decide (((key.length + text.length) + sum.length) > 8192)) = false) => ?_)
  ·
    have hc1 := of_decide_eq_true hb1
    refine WC.seq ?_
    refine WC.region ?_
    refine WL.op rfl rfl (op_callF Fa.C29 rfl ((alive03_ok _).mono (fun e w2 hq => ?_)))
    obtain ⟨rfl, hf2⟩ := hq
    refine ⟨_, rfl, ?_⟩
    have H2 := H0.fr' hf2
    refine WL.op rfl rfl (op_assign rfl ?_)
    refine WL.nil ?_
    refine WQ.next ?_
    refine WC.ret ?_
    refine WQ.thenRet ?_
    refine WQ.out (.tmp rfl .nil) ?_
    exact ⟨rfl, H2.fr⟩
  ·
    have hc1 := of_decide_eq_false hb1
    refine WC.skip ?_
    refine WQ.next ?_
    refine WC.seq ?_
    refine WC.region ?_
    refine WL.op rfl rfl (op_move rfl ?_)
    refine WL.op rfl rfl (op_move rfl ?_)
    refine WL.op rfl rfl (op_callF Fa.C30 rfl ((rmac_ok key text _ (by omega) (by omega)).mono (fun e w3 hq => ?_)))
    obtain ⟨rfl, hf3⟩ := hq
    refine ⟨_, rfl, ?_⟩
    have H3 := H0.fr' hf3
    refine WL.op rfl rfl (op_assign rfl ?_)
    refine WL.nil ?_
    refine WQ.next ?_
    refine WC.seq ?_
    refine WC.region ?_
    refine WL.op rfl rfl (op_move rfl ?_)
    refine WL.op rfl rfl (op_move rfl ?_)
    refine WL.op rfl rfl (op_callF Fa.C31 rfl ((msum_ok key text _ (by omega) (by omega)).mono (fun e w4 hq => ?_)))
    obtain ⟨rfl, hf4⟩ := hq
    refine ⟨_, rfl, ?_⟩
    have H4 := H3.fr' hf4
    refine WL.op rfl rfl (op_move rfl ?_)
    refine WL.op rfl rfl (op_eqlStr rfl rfl ?_)
    refine WL.op rfl rfl (op_move rfl ?_)
    refine WL.yes rfl rfl rfl (decide_eq_true rfl) rfl (op_move rfl ?_)
    refine WL.yes rfl rfl rfl (decide_eq_true rfl) rfl (op_move rfl ?_)
    refine WL.yes rfl rfl rfl (decide_eq_true rfl) rfl (op_move rfl ?_)
    refine WL.yes rfl rfl rfl (decide_eq_true rfl) rfl (op_callF Fa.C32 rfl ((mcheck_ok key text sum _ (by omega) (by omega)).mono (fun e w5 hq => ?_)))
    obtain ⟨rfl, hf5⟩ := hq
    refine ⟨_, rfl, ?_⟩
    have H5 := H4.fr' hf5
    refine WL.yes rfl rfl rfl (decide_eq_true rfl) rfl (op_move rfl ?_)
    refine WL.yes rfl rfl rfl (decide_eq_true rfl) rfl (op_move rfl ?_)
    refine WL.yes rfl rfl rfl (decide_eq_true rfl) rfl (op_eqlStr rfl rfl ?_)
    refine WL.yes rfl rfl rfl (decide_eq_true rfl) rfl (op_eqlB Try.underlying4 rfl rfl ?_)
    refine WL.op rfl rfl (op_pickT rfl (decide_eq_true rfl) rfl ?_)
    refine WL.op rfl rfl (op_move rfl ?_)
    refine WL.yes rfl rfl rfl (beq_self_eq_true _) rfl (op_move rfl ?_)
    refine WL.yes rfl rfl rfl (beq_self_eq_true _) rfl (op_move rfl ?_)
    refine WL.yes rfl rfl rfl (beq_self_eq_true _) rfl (op_move rfl ?_)
    refine WL.yes rfl rfl rfl (beq_self_eq_true _) rfl (op_callF Fa.C32 rfl ((mcheck_ok key text (mac key text) _ (by omega) (by omega)).mono (fun e w6 hq => ?_)))
    obtain ⟨rfl, hf6⟩ := hq
    refine ⟨_, rfl, ?_⟩
    have H6 := H5.fr' hf6
    refine WL.op rfl rfl (op_pickT rfl (beq_self_eq_true _) rfl ?_)
    refine WL.op rfl rfl (op_move rfl ?_)
    refine WL.yes rfl rfl rfl (decide_eq_true rfl) rfl (op_callF Fa.C29 rfl ((alive03_ok _).mono (fun e w7 hq => ?_)))
    obtain ⟨rfl, hf7⟩ := hq
    refine ⟨_, rfl, ?_⟩
    have H7 := H6.fr' hf7
    refine WL.op rfl rfl (op_pickT rfl (decide_eq_true rfl) rfl ?_)
    refine WL.op rfl rfl (op_assign rfl ?_)
    refine WL.nil ?_
    refine WQ.next ?_
    refine WC.ret ?_
    refine WQ.out (.tmp rfl .nil) ?_
    exact ⟨rfl, H7.fr⟩
set_option maxRecDepth 100000 in
theorem macKeys_ok (key text : List UInt8) (more : UInt8) (w : World) (hk : key.length ≤ 140737488351232) (ht : text.length ≤ 140737488351232) :
    Calls Try.prog 11 #[(str key), (str text), (vU8 more)] w (fun e w' => e = .returned (.bool true) ∧ Fr [] w w') := by
  refine enter (args := [(str key), (str text), (vU8 more)]) Try.func11 rfl rfl ?_
  have H0 : Own [] w w [] := Own.start w []
  refine WC.seq ?_
  refine WC.region ?_
  refine WL.op rfl rfl (op_assign rfl ?_)
  refine WL.nil ?_
  refine WQ.next ?_
  refine WC.seq ?_
  refine WC.seq ?_
  refine WC.region ?_
  refine WL.op rfl rfl (op_move rfl ?_)
  refine WL.op rfl rfl (op_lenStr Try.underlying9 rfl ?_)
  refine WL.op rfl rfl (op_move rfl ?_)
  refine WL.op rfl rfl (op_lenStr Try.underlying9 rfl ?_)
  refine WL.op rfl rfl (op_addN rfl rfl (by omega) ?_)
  refine WL.op rfl rfl (op_gtrN (b := 4096) rfl rfl ?_)
  refine WL.nil ?_
  refine WQ.next ?_
  refine WC.cond rfl (fun (hb1 : (decide ((key.length + text.length) > 4096)) = true) => ?_) (fun (hb1 : (decide ((key.length + text.length) > 4096)) = false) => ?_)
  ·
    have hc1 := of_decide_eq_true hb1
    refine WC.seq ?_
    refine WC.region ?_
    refine WL.op rfl rfl (op_callF Fa.C29 rfl ((alive03_ok _).mono (fun e w2 hq => ?_)))
    obtain ⟨rfl, hf2⟩ := hq
    refine ⟨_, rfl, ?_⟩
    have H2 := H0.fr' hf2
    refine WL.op rfl rfl (op_assign rfl ?_)
    refine WL.nil ?_
    refine WQ.next ?_
    refine WC.ret ?_
    refine WQ.thenRet ?_
    refine WQ.out (.tmp rfl .nil) ?_
    exact ⟨rfl, H2.fr⟩
  ·
    have hc1 := of_decide_eq_false hb1
    refine WC.skip ?_
    refine WQ.next ?_
    refine WC.seq ?_
    refine WC.region ?_
    refine WL.op rfl rfl (op_move rfl ?_)
    refine WL.op rfl rfl (op_move rfl ?_)
    refine WL.op rfl rfl (op_callF Fa.C31 rfl ((msum_ok key text _ (by first | omega | (rw [sha_length]; decide) | (have := (Nat.mod_lt more.toNat (show 0 < 65 - key.length by omega)); simp; omega)) (by omega)).mono (fun e w3 hq => ?_)))
    obtain ⟨rfl, hf3⟩ := hq
    refine ⟨_, rfl, ?_⟩
    have H3 := H0.fr' hf3
    refine WL.op rfl rfl (op_assign rfl ?_)
    refine WL.nil ?_
    refine WQ.next ?_
    refine WC.seq ?_
    refine WC.seq ?_
    refine WC.region ?_
    refine WL.op rfl rfl (op_move rfl ?_)
    refine WL.op rfl rfl (op_lenStr Try.underlying9 rfl ?_)
    refine WL.op rfl rfl (op_gtrN (b := 64) rfl rfl ?_)
    refine WL.nil ?_
    refine WQ.next ?_
    refine WC.cond rfl (fun (hb4 : (decide (key.length > 64)) = true) => ?_) (fun (hb4 : (decide (key.length > 64)) = false) => ?_)
    ·
      have hc4 := of_decide_eq_true hb4
      refine WC.seq ?_
      refine WC.region ?_
      refine WL.op rfl rfl (op_move rfl ?_)
      refine WL.op rfl rfl (op_callF Fa.C21 rfl ((ssum_ok key _ (by omega)).mono (fun e w5 hq => ?_)))
      obtain ⟨rfl, hf5⟩ := hq
      refine ⟨_, rfl, ?_⟩
      have H5 := H3.fr' hf5
      refine WL.op rfl rfl (op_move rfl ?_)
      refine WL.op rfl rfl (op_callF Fa.C31 rfl ((msum_ok (sha key) text _ (by first | omega | (rw [sha_length]; decide) | (have := (Nat.mod_lt more.toNat (show 0 < 65 - key.length by omega)); simp; omega)) (by omega)).mono (fun e w6 hq => ?_)))
      obtain ⟨rfl, hf6⟩ := hq
      refine ⟨_, rfl, ?_⟩
      have H6 := H5.fr' hf6
      refine WL.op rfl rfl (op_move rfl ?_)
      refine WL.op rfl rfl (op_eqlStr rfl rfl ?_)
      refine WL.op rfl rfl (op_move rfl ?_)
      refine WL.yes rfl rfl rfl (decide_eq_true (keyB_sha hc4 text)) rfl (op_callF Fa.C29 rfl ((alive03_ok _).mono (fun e w7 hq => ?_)))
      obtain ⟨rfl, hf7⟩ := hq
      refine ⟨_, rfl, ?_⟩
      have H7 := H6.fr' hf7
      refine WL.op rfl rfl (op_pickT rfl (decide_eq_true (keyB_sha hc4 text)) rfl ?_)
      refine WL.op rfl rfl (op_assign rfl ?_)
      refine WL.nil ?_
      refine WQ.next ?_
      refine WC.ret ?_
      refine WQ.thenRet ?_
      refine WQ.out (.tmp rfl .nil) ?_
      exact ⟨rfl, H7.fr⟩
    ·
      have hc4 := of_decide_eq_false hb4
      refine WC.skip ?_
      refine WQ.next ?_
      refine WC.seq ?_
      refine WC.region ?_
      refine WL.op rfl rfl (op_move rfl ?_)
      refine WL.op rfl rfl (op_convU8N (hs := Try.underlying5) (hd := Try.underlying3) rfl ?_)
      refine WL.op rfl rfl (op_move rfl ?_)
      refine WL.op rfl rfl (op_lenStr Try.underlying9 rfl ?_)
      refine WL.op rfl rfl (op_subN (a := 65) rfl rfl (by omega) (by omega) ?_)
      refine WL.op rfl rfl (op_remN rfl rfl (by omega) ?_)
      refine WL.op rfl rfl (op_assign rfl ?_)
      refine WL.nil ?_
      refine WQ.next ?_
      refine WC.seq ?_
      refine WC.region ?_
      refine WL.op rfl rfl (op_move rfl ?_)
      refine WL.op rfl rfl (op_move rfl ?_)
      refine WL.op rfl rfl (op_makeSliceM (f := vU8) (c := 0) H3 Try.underlying31 Fa.I5 rfl rfl (by have := (Nat.mod_lt more.toNat (show 0 < 65 - key.length by omega)); omega) (by have := (Nat.mod_lt more.toNat (show 0 < 65 - key.length by omega)); omega) (fun b8 w8 H8 => ?_))
      refine WL.op rfl rfl (op_bytesStr (l := (List.replicate (more.toNat % (65 - key.length)) 0)) Try.underlying31 Try.underlying5 Try.underlying9 rfl (H8.arrR (i := 0) rfl) rfl ?_)
      refine WL.op rfl rfl (op_addStr rfl rfl (by have := (Nat.mod_lt more.toNat (show 0 < 65 - key.length by omega)); simp; omega) ?_)
      refine WL.op rfl rfl (op_move rfl ?_)
      refine WL.op rfl rfl (op_callF Fa.C31 rfl ((msum_ok (key ++ (List.replicate (more.toNat % (65 - key.length)) 0)) text _ (by first | omega | (rw [sha_length]; decide) | (have := (Nat.mod_lt more.toNat (show 0 < 65 - key.length by omega)); simp; omega)) (by omega)).mono (fun e w9 hq => ?_)))
      obtain ⟨rfl, hf9⟩ := hq
      refine ⟨_, rfl, ?_⟩
      have H9 := H8.fr' hf9
      refine WL.op rfl rfl (op_move rfl ?_)
      refine WL.op rfl rfl (op_eqlStr rfl rfl ?_)
      refine WL.op rfl rfl (op_move rfl ?_)
      refine WL.yes rfl rfl rfl (decide_eq_true (keyB_pad (by have := (Nat.mod_lt more.toNat (show 0 < 65 - key.length by omega)); omega) text)) rfl (op_callF Fa.C29 rfl ((alive03_ok _).mono (fun e w10 hq => ?_)))
      obtain ⟨rfl, hf10⟩ := hq
      refine ⟨_, rfl, ?_⟩
      have H10 := H9.fr' hf10
      refine WL.op rfl rfl (op_pickT rfl (decide_eq_true (keyB_pad (by have := (Nat.mod_lt more.toNat (show 0 < 65 - key.length by omega)); omega) text)) rfl ?_)
      refine WL.op rfl rfl (op_assign rfl ?_)
      refine WL.nil ?_
      refine WQ.next ?_
      refine WC.ret ?_
      refine WQ.out (.tmp rfl .nil) ?_
      exact ⟨rfl, H10.fr⟩
set_option maxRecDepth 100000 in
theorem macNil_ok (s : List UInt8) (w : World) :
    Calls Try.prog 12 #[(str s)] w (fun e w' => e = .returned (.bool true) ∧ Fr [] w w') := by
  refine enter (args := [(str s)]) Try.func12 rfl rfl ?_
  have H0 : Own [] w w [] := Own.start w []
  refine WC.seq ?_
  refine WC.region ?_
  refine WL.op rfl rfl (op_assign rfl ?_)
  refine WL.nil ?_
  refine WQ.next ?_
  refine WC.seq ?_
  refine WC.seq ?_
  refine WC.region ?_
  refine WL.op rfl rfl (op_move rfl ?_)
  refine WL.op rfl rfl (op_lenStr Try.underlying9 rfl ?_)
  refine WL.op rfl rfl (op_gtrN (b := 4096) rfl rfl ?_)
  refine WL.nil ?_
  refine WQ.next ?_
  refine WC.cond rfl (fun (hb1 : (decide (s.length > 4096)) = true) => ?_) (fun (hb1 : (decide (s.length > 4096)) = false) => ?_)
  ·
    have hc1 := of_decide_eq_true hb1
    refine WC.seq ?_
    refine WC.region ?_
    refine WL.op rfl rfl (op_callF Fa.C29 rfl ((alive03_ok _).mono (fun e w2 hq => ?_)))
    obtain ⟨rfl, hf2⟩ := hq
    refine ⟨_, rfl, ?_⟩
    have H2 := H0.fr' hf2
    refine WL.op rfl rfl (op_assign rfl ?_)
    refine WL.nil ?_
    refine WQ.next ?_
    refine WC.ret ?_
    refine WQ.thenRet ?_
    refine WQ.out (.tmp rfl .nil) ?_
    exact ⟨rfl, H2.fr⟩
  ·
    have hc1 := of_decide_eq_false hb1
    refine WC.skip ?_
    refine WQ.next ?_
    refine WC.seq ?_
    refine WC.region ?_
    refine WL.op rfl rfl (op_assign rfl ?_)
    refine WL.nil ?_
    refine WQ.next ?_
    refine WC.seq ?_
    refine WC.region ?_
    refine WL.op rfl rfl (op_move rfl ?_)
    refine WL.op rfl rfl (op_move rfl ?_)
    refine WL.op rfl rfl (op_buildSlice (cs := [_]) H0 Try.underlying44 Fa.I9 rfl rfl rfl rfl (by decide) (by decide) (fun b3 w3 H3 => ?_))
    refine WL.op rfl rfl (op_callF Fa.C34 rfl ((macwNil_ok (.slice (some ⟨b3, 0, none⟩) 1 1) _).mono (fun e w4 hq => ?_)))
    obtain ⟨rfl, hf4⟩ := hq
    refine ⟨_, rfl, ?_⟩
    have H4 := H3.fr' hf4
    refine WL.op rfl rfl (op_eqlN (b := 1) rfl rfl ?_)
    refine WL.op rfl rfl (op_move rfl ?_)
    refine WL.yes rfl rfl rfl (by kernel_rfl) rfl (op_move rfl ?_)
    refine WL.yes rfl rfl rfl (by kernel_rfl) rfl (op_callF Fa.C35 rfl ((macsNil_ok _).mono (fun e w5 hq => ?_)))
    obtain ⟨rfl, hf5⟩ := hq
    refine ⟨_, rfl, ?_⟩
    have H5 := H4.fr' hf5
    refine WL.yes rfl rfl rfl (by kernel_rfl) rfl (op_eqlStr rfl rfl ?_)
    refine WL.op rfl rfl (op_pickT rfl (by kernel_rfl) rfl ?_)
    refine WL.op rfl rfl (op_move rfl ?_)
    refine WL.yes rfl rfl rfl (by kernel_rfl) rfl (op_callF Fa.C29 rfl ((alive03_ok _).mono (fun e w6 hq => ?_)))
    obtain ⟨rfl, hf6⟩ := hq
    refine ⟨_, rfl, ?_⟩
    have H6 := H5.fr' hf6
    refine WL.op rfl rfl (op_pickT rfl (by kernel_rfl) rfl ?_)
    refine WL.op rfl rfl (op_assign rfl ?_)
    refine WL.nil ?_
    refine WQ.next ?_
    refine WC.ret ?_
    refine WQ.out (.tmp rfl .nil) ?_
    exact ⟨rfl, H6.fr⟩
set_option maxRecDepth 100000 in
theorem macPieces_ok (lv : Value) (key : List UInt8) (ls : List (List UInt8)) (w : World) (hA : Arr w lv 1 ls.length (List.map str ls)) (hB : ∀ x ∈ ls, x.length ≤ 140737488351232) (hk : key.length ≤ 140737488351232) (hn : ls.length < 2 ^ 50) :
    Calls Try.prog 10 #[(str key), lv] w (fun e w' => e = .returned (.bool true) ∧ Fr [] w w') := by
  refine enter (args := [(str key), lv]) Try.func10 rfl rfl ?_
  have H0 : Own [] w w [] := Own.start w []
  refine WC.seq ?_
  refine WC.region ?_
  refine WL.op rfl rfl (op_assign rfl ?_)
  refine WL.nil ?_
  refine WQ.next ?_
  refine WC.seq ?_
  refine WC.region ?_
  refine WL.op rfl rfl (op_move rfl ?_)
  refine WL.op rfl rfl (op_lenStr Try.underlying9 rfl ?_)
  refine WL.op rfl rfl (op_assign rfl ?_)
  refine WL.nil ?_
  refine WQ.next ?_
  refine WC.cut (α := Nat) (fun k => [(0, (str key)), (1, lv), (5, (vN (key.length + sumTo ls k)))]) (fun k w' => (k ≤ ls.length ∧ (k < ls.length → 200 ≤ k)) ∧ Own [] w w' []) ?_ ?_
  ·
    refine WC.seq ?_
    refine WC.region ?_
    refine WL.op rfl rfl (op_assign rfl ?_)
    refine WL.nil ?_
    refine WQ.next ?_
    refine WC.block ?_
    refine WC.loop (α := Nat) (fun k => [(0, (str key)), (1, lv), (5, (vN (key.length + sumTo ls k))), (6, (vN k))]) (fun k w' => (k ≤ ls.length ∧ k ≤ 200) ∧ Own [] w w' []) (fun k => ls.length - k) 0 ⟨⟨by omega, by omega⟩, H0⟩ ⟨rfl, rfl, rfl, rfl, trivial⟩ ?_
    rintro k w1 ⟨hinv, H1⟩
    show WC _ _ _ _ _ [(0, (str key)), (1, lv), (5, (vN (key.length + sumTo ls k))), (6, (vN k))] _
    have hs0 := sumTo_le hB k
    have hg0 := getD_mem hB k
    refine WC.seq ?_
    refine WC.seq ?_
    refine WC.region ?_
    refine WL.op rfl rfl (op_move rfl ?_)
    refine WL.op rfl rfl (op_move rfl ?_)
    refine WL.op rfl rfl (op_lenA Try.underlying44 rfl (H1.arr hA) ?_)
    refine WL.op rfl rfl (op_lssN rfl rfl ?_)
    refine WL.op rfl rfl (op_move rfl ?_)
    refine WL.split (t := 16) rfl (fun (hb2 : (decide (k < ls.length)) = true) => ?_) (fun (hb2 : (decide (k < ls.length)) = false) => ?_)
    ·
      have hc2 := of_decide_eq_true hb2
      refine WL.yes rfl rfl rfl hb2 rfl (op_move rfl ?_)
      refine WL.yes rfl rfl rfl hb2 rfl (op_lssN (b := 200) rfl rfl ?_)
      refine WL.op rfl rfl (op_pickT rfl hb2 rfl ?_)
      refine WL.nil ?_
      refine WQ.next ?_
      refine WC.cond rfl (fun (hb3 : (decide (k < 200)) = true) => ?_) (fun (hb3 : (decide (k < 200)) = false) => ?_)
      ·
        have hc3 := of_decide_eq_true hb3
        refine WC.skip ?_
        refine WQ.next ?_
        refine WC.seq ?_
        refine WC.block ?_
        refine WC.region ?_
        refine WL.op rfl rfl (op_move rfl ?_)
        refine WL.op rfl rfl (op_move rfl ?_)
        refine WL.op rfl rfl (op_move rfl ?_)
        refine WL.op rfl rfl (op_indexAddr1 Try.underlying44 Fa.I9 rfl (H1.arr hA) rfl (by omega) ?_)
        refine WL.op rfl rfl (op_load rfl ((H1.arr hA).at (get_map str [] (Arr.ltM (H1.arr hA) (by omega)))) Try.underlying9 rfl ?_)
        refine WL.op rfl rfl (op_lenStr Try.underlying9 rfl ?_)
        refine WL.op rfl rfl (op_addN rfl rfl (by omega) ?_)
        refine WL.op rfl rfl (op_assign rfl ?_)
        refine WL.nil ?_
        refine WQ.inNormal ?_
        refine WQ.next ?_
        refine WC.region ?_
        refine WL.op rfl rfl (op_move rfl ?_)
        refine WL.op rfl rfl (op_addN (b := 1) rfl rfl (by omega) ?_)
        refine WL.op rfl rfl (op_assign rfl ?_)
        refine WL.nil ?_
        exact WQ.round (k + 1) ⟨(by omega), H1⟩ ⟨rfl, rfl, (by show some (vN (key.length + sumTo ls k + (ls.getD k []).length)) = some (vN (key.length + sumTo ls (k + 1))); rw [sumTo, Nat.add_assoc]), rfl, trivial⟩ (by omega)
      ·
        have hc3 := of_decide_eq_false hb3
        refine WC.exit ?_
        refine WQ.thenExit ?_
        refine WQ.thenExit ?_
        refine WQ.inHere ?_
        exact WQ.here k ⟨⟨by omega, fun h => by omega⟩, H1⟩ ⟨rfl, rfl, rfl, trivial⟩
    ·
      have hc2 := of_decide_eq_false hb2
      refine WL.no rfl rfl rfl hb2 rfl ?_
      refine WL.no rfl rfl rfl hb2 rfl ?_
      refine WL.op rfl rfl (op_pickF rfl hb2 rfl ?_)
      refine WL.nil ?_
      refine WQ.next ?_
      refine WC.no rfl rfl ?_
      refine WC.exit ?_
      refine WQ.thenExit ?_
      refine WQ.thenExit ?_
      refine WQ.inHere ?_
      exact WQ.here k ⟨⟨by omega, fun h => by omega⟩, H1⟩ ⟨rfl, rfl, rfl, trivial⟩
  ·
    rintro k w4 ⟨hinv, H4⟩
    show WC _ _ _ _ _ [(0, (str key)), (1, lv), (5, (vN (key.length + sumTo ls k)))] _
    have ht0 := sumTo_tk k hinv.1
    refine WC.seq ?_
    refine WC.seq ?_
    refine WC.region ?_
    refine WL.op rfl rfl (op_move rfl ?_)
    refine WL.op rfl rfl (op_lenA Try.underlying44 rfl (H4.arr hA) ?_)
    refine WL.op rfl rfl (op_gtrN (b := 40) rfl rfl ?_)
    refine WL.op rfl rfl (op_move rfl ?_)
    refine WL.split (t := 32) rfl (fun (hb5 : (decide (ls.length > 40)) = true) => ?_) (fun (hb5 : (decide (ls.length > 40)) = false) => ?_)
    ·
      have hc5 := of_decide_eq_true hb5
      refine WL.no rfl rfl rfl hb5 rfl ?_
      refine WL.no rfl rfl rfl hb5 rfl ?_
      refine WL.op rfl rfl (op_pickT rfl hb5 rfl ?_)
      refine WL.nil ?_
      refine WQ.next ?_
      refine WC.yes rfl rfl ?_
      refine WC.seq ?_
      refine WC.region ?_
      refine WL.op rfl rfl (op_callF Fa.C29 rfl ((alive03_ok _).mono (fun e w6 hq => ?_)))
      obtain ⟨rfl, hf6⟩ := hq
      refine ⟨_, rfl, ?_⟩
      have H6 := H4.fr' hf6
      refine WL.op rfl rfl (op_assign rfl ?_)
      refine WL.nil ?_
      refine WQ.next ?_
      refine WC.ret ?_
      refine WQ.thenRet ?_
      refine WQ.out (.tmp rfl .nil) ?_
      exact ⟨rfl, H6.fr⟩
    ·
      have hc5 := of_decide_eq_false hb5
      refine WL.yes rfl rfl rfl hb5 rfl (op_move rfl ?_)
      refine WL.yes rfl rfl rfl hb5 rfl (op_gtrN (b := 8192) rfl rfl ?_)
      refine WL.op rfl rfl (op_pickF rfl hb5 rfl ?_)
      refine WL.nil ?_
      refine WQ.next ?_
      refine WC.cond rfl (fun (hb7 : (decide ((key.length + sumTo ls k) > 8192)) = true) => ?_) (fun (hb7 : (decide ((key.length + sumTo ls k) > 8192)) = false) => ?_)
      ·
        have hc7 := of_decide_eq_true hb7
        refine WC.seq ?_
        refine WC.region ?_
        refine WL.op rfl rfl (op_callF Fa.C29 rfl ((alive03_ok _).mono (fun e w8 hq => ?_)))
        obtain ⟨rfl, hf8⟩ := hq
        refine ⟨_, rfl, ?_⟩
        have H8 := H4.fr' hf8
        refine WL.op rfl rfl (op_assign rfl ?_)
        refine WL.nil ?_
        refine WQ.next ?_
        refine WC.ret ?_
        refine WQ.thenRet ?_
        refine WQ.out (.tmp rfl .nil) ?_
        exact ⟨rfl, H8.fr⟩
      ·
        have hc7 := of_decide_eq_false hb7
        have htot : key.length + ls.flatten.length ≤ 8192 := by rw [← tk_all, ← sumTo_tk ls.length (Nat.le_refl _), show ls.length = k by omega]; omega
        refine WC.skip ?_
        refine WQ.next ?_
        refine WC.seq ?_
        refine WC.region ?_
        refine WL.op rfl rfl (op_move rfl ?_)
        refine WL.op rfl rfl (op_callF Fa.C33 rfl ((macnew_ok key _ (by omega)).mono (fun e w9 hq => ?_)))
        obtain ⟨m9, q9, v9, rfl, hq9⟩ := hq
        refine ⟨_, rfl, ?_⟩
        have H9 : Own [] w w9 [.blk m9 [(ptr q9 0), (str (blockM key))] 88, .blk q9 [(vU32 (hst (xorL (blockM key) 54)).a), (vU32 (hst (xorL (blockM key) 54)).b), (vU32 (hst (xorL (blockM key) 54)).c), (vU32 (hst (xorL (blockM key) 54)).d), (vU32 (hst (xorL (blockM key) 54)).e), (vU32 (hst (xorL (blockM key) 54)).f), (vU32 (hst (xorL (blockM key) 54)).g), (vU32 (hst (xorL (blockM key) 54)).h), v9, (vN (xorL (blockM key) 54).length)] 76, .row v9 5 1 (hrest (xorL (blockM key) 54)).length (List.map vU8 (hrest (xorL (blockM key) 54)))] := H4.splice [] [] [.blk m9 [(ptr q9 0), (str (blockM key))] 88, .blk q9 [(vU32 (hst (xorL (blockM key) 54)).a), (vU32 (hst (xorL (blockM key) 54)).b), (vU32 (hst (xorL (blockM key) 54)).c), (vU32 (hst (xorL (blockM key) 54)).d), (vU32 (hst (xorL (blockM key) 54)).e), (vU32 (hst (xorL (blockM key) 54)).f), (vU32 (hst (xorL (blockM key) 54)).g), (vU32 (hst (xorL (blockM key) 54)).h), v9, (vN (xorL (blockM key) 54).length)] 76, .row v9 5 1 (hrest (xorL (blockM key) 54)).length (List.map vU8 (hrest (xorL (blockM key) 54)))] rfl rfl hq9 (Fits.solid True.intro (Fits.solid True.intro (Fits.solid True.intro Fits.nil)))
        refine WL.op rfl rfl (op_assign rfl ?_)
        refine WL.nil ?_
        refine WQ.next ?_
        refine WC.seq ?_
        refine WC.region ?_
        refine WL.op rfl rfl (op_assign rfl ?_)
        refine WL.nil ?_
        refine WQ.next ?_
        refine WC.seq ?_
        refine WC.seq ?_
        refine WC.region ?_
        refine WL.op rfl rfl (op_assign rfl ?_)
        refine WL.nil ?_
        refine WQ.next ?_
        refine WC.block ?_
        refine WC.loop (α := Nat × Value) (fun (i, v) => [(0, (str key)), (1, lv), (7, (ptr m9 0)), (8, (str (tk ls i))), (9, (vN i))]) (fun (i, v) w' => (i ≤ ls.length) ∧ Own [] w w' [.blk m9 [(ptr q9 0), (str (blockM key))] 88, .blk q9 [(vU32 (hst (xorL (blockM key) 54 ++ tk ls i)).a), (vU32 (hst (xorL (blockM key) 54 ++ tk ls i)).b), (vU32 (hst (xorL (blockM key) 54 ++ tk ls i)).c), (vU32 (hst (xorL (blockM key) 54 ++ tk ls i)).d), (vU32 (hst (xorL (blockM key) 54 ++ tk ls i)).e), (vU32 (hst (xorL (blockM key) 54 ++ tk ls i)).f), (vU32 (hst (xorL (blockM key) 54 ++ tk ls i)).g), (vU32 (hst (xorL (blockM key) 54 ++ tk ls i)).h), v, (vN (xorL (blockM key) 54 ++ tk ls i).length)] 76, .row v 5 1 (hrest (xorL (blockM key) 54 ++ tk ls i)).length (List.map vU8 (hrest (xorL (blockM key) 54 ++ tk ls i)))]) (fun (i, v) => ls.length - i) (0, v9) ⟨(by omega), (by have h := (show Own [] w w9 [.blk m9 [(ptr q9 0), (str (blockM key))] 88, .blk q9 [(vU32 (hst (xorL (blockM key) 54)).a), (vU32 (hst (xorL (blockM key) 54)).b), (vU32 (hst (xorL (blockM key) 54)).c), (vU32 (hst (xorL (blockM key) 54)).d), (vU32 (hst (xorL (blockM key) 54)).e), (vU32 (hst (xorL (blockM key) 54)).f), (vU32 (hst (xorL (blockM key) 54)).g), (vU32 (hst (xorL (blockM key) 54)).h), v9, (vN (xorL (blockM key) 54).length)] 76, .row v9 5 1 (hrest (xorL (blockM key) 54)).length (List.map vU8 (hrest (xorL (blockM key) 54)))] from H9); rw [← List.append_nil (xorL (blockM key) 54)] at h; exact h)⟩ ⟨rfl, rfl, rfl, rfl, rfl, trivial⟩ ?_
        rintro ⟨i, v⟩ w10 ⟨hinv, H10⟩
        show WC _ _ _ _ _ [(0, (str key)), (1, lv), (7, (ptr m9 0)), (8, (str (tk ls i))), (9, (vN i))] _
        have hl2 := tk_len ls i
        have hg2 := getD_mem hB i
        have hx0 : (xorL (blockM key) 54).length = 64 := by rw [xorL_length, blockM_length]
        refine WC.seq ?_
        refine WC.seq ?_
        refine WC.region ?_
        refine WL.op rfl rfl (op_move rfl ?_)
        refine WL.op rfl rfl (op_move rfl ?_)
        refine WL.op rfl rfl (op_lenA Try.underlying44 rfl (H10.arr hA) ?_)
        refine WL.op rfl rfl (op_lssN rfl rfl ?_)
        refine WL.nil ?_
        refine WQ.next ?_
        refine WC.cond rfl (fun (hb11 : (decide (i < ls.length)) = true) => ?_) (fun (hb11 : (decide (i < ls.length)) = false) => ?_)
        ·
          have hc11 := of_decide_eq_true hb11
          refine WC.skip ?_
          refine WQ.next ?_
          refine WC.seq ?_
          refine WC.block ?_
          refine WC.seq ?_
          refine WC.seq ?_
          refine WC.region ?_
          refine WL.op rfl rfl (op_move rfl ?_)
          refine WL.op rfl rfl (op_move rfl ?_)
          refine WL.op rfl rfl (op_move rfl ?_)
          refine WL.op rfl rfl (op_indexAddr1 Try.underlying44 Fa.I9 rfl (H10.arr hA) rfl (by omega) ?_)
          refine WL.op rfl rfl (op_load rfl ((H10.arr hA).at (get_map str [] (Arr.ltM (H10.arr hA) (by omega)))) Try.underlying9 rfl ?_)
          refine WL.op rfl rfl (op_buildSlice (cs := [_]) H10 Try.underlying44 Fa.I9 rfl rfl rfl rfl (by decide) (by decide) (fun b12 w12 H12 => ?_))
          refine WL.op rfl rfl (op_callF Fa.C34 rfl ((macw_ok m9 q9 v (.slice (some ⟨b12, 0, none⟩) 1 1) (blockM key) (xorL (blockM key) 54 ++ tk ls i) ([(ls.getD i [])]) _ _ (H12.part [0, 1, 2] rfl rfl) (H12.stayR (I := [0, 1, 2]) (k := 3) rfl rfl rfl) (by rw [acc1 _ (by omega), List.length_append]; have := tk_len ls (i + 1); omega) (by simp)).mono (fun e w13 hq => ?_)))
          obtain ⟨v13, rfl, hq13⟩ := hq
          refine ⟨_, rfl, ?_⟩
          have H13 : Own [] w w13 [.blk m9 [(ptr q9 0), (str (blockM key))] 88, .blk q9 [(vU32 (hst ((xorL (blockM key) 54 ++ tk ls i) ++ [(ls.getD i [])].flatten)).a), (vU32 (hst ((xorL (blockM key) 54 ++ tk ls i) ++ [(ls.getD i [])].flatten)).b), (vU32 (hst ((xorL (blockM key) 54 ++ tk ls i) ++ [(ls.getD i [])].flatten)).c), (vU32 (hst ((xorL (blockM key) 54 ++ tk ls i) ++ [(ls.getD i [])].flatten)).d), (vU32 (hst ((xorL (blockM key) 54 ++ tk ls i) ++ [(ls.getD i [])].flatten)).e), (vU32 (hst ((xorL (blockM key) 54 ++ tk ls i) ++ [(ls.getD i [])].flatten)).f), (vU32 (hst ((xorL (blockM key) 54 ++ tk ls i) ++ [(ls.getD i [])].flatten)).g), (vU32 (hst ((xorL (blockM key) 54 ++ tk ls i) ++ [(ls.getD i [])].flatten)).h), v13, (vN ((xorL (blockM key) 54 ++ tk ls i) ++ [(ls.getD i [])].flatten).length)] 76, .row v13 5 1 (hrest ((xorL (blockM key) 54 ++ tk ls i) ++ [(ls.getD i [])].flatten)).length (List.map vU8 (hrest ((xorL (blockM key) 54 ++ tk ls i) ++ [(ls.getD i [])].flatten))), .row (.slice (some ⟨b12, 0, none⟩) 1 1) 9 1 1 (List.map str [(ls.getD i [])])] := H12.splice [0, 1, 2] [.blk m9 [(ptr q9 0), (str (blockM key))] 88, .blk q9 [(vU32 (hst ((xorL (blockM key) 54 ++ tk ls i) ++ [(ls.getD i [])].flatten)).a), (vU32 (hst ((xorL (blockM key) 54 ++ tk ls i) ++ [(ls.getD i [])].flatten)).b), (vU32 (hst ((xorL (blockM key) 54 ++ tk ls i) ++ [(ls.getD i [])].flatten)).c), (vU32 (hst ((xorL (blockM key) 54 ++ tk ls i) ++ [(ls.getD i [])].flatten)).d), (vU32 (hst ((xorL (blockM key) 54 ++ tk ls i) ++ [(ls.getD i [])].flatten)).e), (vU32 (hst ((xorL (blockM key) 54 ++ tk ls i) ++ [(ls.getD i [])].flatten)).f), (vU32 (hst ((xorL (blockM key) 54 ++ tk ls i) ++ [(ls.getD i [])].flatten)).g), (vU32 (hst ((xorL (blockM key) 54 ++ tk ls i) ++ [(ls.getD i [])].flatten)).h), v13, (vN ((xorL (blockM key) 54 ++ tk ls i) ++ [(ls.getD i [])].flatten).length)] 76, .row v13 5 1 (hrest ((xorL (blockM key) 54 ++ tk ls i) ++ [(ls.getD i [])].flatten)).length (List.map vU8 (hrest ((xorL (blockM key) 54 ++ tk ls i) ++ [(ls.getD i [])].flatten)))] [] rfl rfl hq13 (Fits.solid True.intro (Fits.solid True.intro (Fits.solid True.intro Fits.nil)))
          refine WL.op rfl rfl (op_neqN (b := 0) rfl rfl ?_)
          refine WL.nil ?_
          refine WQ.next ?_
          refine WC.no rfl (by decide) ?_
          refine WC.skip ?_
          refine WQ.next ?_
          refine WC.seq ?_
          refine WC.region ?_
          have hsx := tk_succ (ls := ls) (k := i) (by omega)
          have hl3 := tk_len ls (i + 1)
          have H14 : Own [] w w13 [.blk m9 [(ptr q9 0), (str (blockM key))] 88, .blk q9 [(vU32 (hst (xorL (blockM key) 54 ++ tk ls (i + 1))).a), (vU32 (hst (xorL (blockM key) 54 ++ tk ls (i + 1))).b), (vU32 (hst (xorL (blockM key) 54 ++ tk ls (i + 1))).c), (vU32 (hst (xorL (blockM key) 54 ++ tk ls (i + 1))).d), (vU32 (hst (xorL (blockM key) 54 ++ tk ls (i + 1))).e), (vU32 (hst (xorL (blockM key) 54 ++ tk ls (i + 1))).f), (vU32 (hst (xorL (blockM key) 54 ++ tk ls (i + 1))).g), (vU32 (hst (xorL (blockM key) 54 ++ tk ls (i + 1))).h), v13, (vN (xorL (blockM key) 54 ++ tk ls (i + 1)).length)] 76, .row v13 5 1 (hrest (xorL (blockM key) 54 ++ tk ls (i + 1))).length (List.map vU8 (hrest (xorL (blockM key) 54 ++ tk ls (i + 1)))), .row (.slice (some ⟨b12, 0, none⟩) 1 1) 9 1 1 (List.map str [(ls.getD i [])])] := by have h := (show Own [] w w13 [.blk m9 [(ptr q9 0), (str (blockM key))] 88, .blk q9 [(vU32 (hst ((xorL (blockM key) 54 ++ tk ls i) ++ [(ls.getD i [])].flatten)).a), (vU32 (hst ((xorL (blockM key) 54 ++ tk ls i) ++ [(ls.getD i [])].flatten)).b), (vU32 (hst ((xorL (blockM key) 54 ++ tk ls i) ++ [(ls.getD i [])].flatten)).c), (vU32 (hst ((xorL (blockM key) 54 ++ tk ls i) ++ [(ls.getD i [])].flatten)).d), (vU32 (hst ((xorL (blockM key) 54 ++ tk ls i) ++ [(ls.getD i [])].flatten)).e), (vU32 (hst ((xorL (blockM key) 54 ++ tk ls i) ++ [(ls.getD i [])].flatten)).f), (vU32 (hst ((xorL (blockM key) 54 ++ tk ls i) ++ [(ls.getD i [])].flatten)).g), (vU32 (hst ((xorL (blockM key) 54 ++ tk ls i) ++ [(ls.getD i [])].flatten)).h), v13, (vN ((xorL (blockM key) 54 ++ tk ls i) ++ [(ls.getD i [])].flatten).length)] 76, .row v13 5 1 (hrest ((xorL (blockM key) 54 ++ tk ls i) ++ [(ls.getD i [])].flatten)).length (List.map vU8 (hrest ((xorL (blockM key) 54 ++ tk ls i) ++ [(ls.getD i [])].flatten))), .row (.slice (some ⟨b12, 0, none⟩) 1 1) 9 1 1 (List.map str [(ls.getD i [])])] from H13); rw [acc1 _ (by omega)] at h; exact h
          refine WL.op rfl rfl (op_move rfl ?_)
          refine WL.op rfl rfl (op_move rfl ?_)
          refine WL.op rfl rfl (op_move rfl ?_)
          refine WL.op rfl rfl (op_indexAddr1 Try.underlying44 Fa.I9 rfl (H14.arr hA) rfl (by omega) ?_)
          refine WL.op rfl rfl (op_load rfl ((H14.arr hA).at (get_map str [] (Arr.ltM (H14.arr hA) (by omega)))) Try.underlying9 rfl ?_)
          refine WL.op rfl rfl (op_addStr rfl rfl (by first | omega | (rw [List.length_append]; omega) | (simp; omega)) ?_)
          refine WL.op rfl rfl (op_assign rfl ?_)
          refine WL.nil ?_
          refine WQ.next ?_
          refine WC.seq ?_
          refine WC.region ?_
          rw [hsx]
          refine WL.op rfl rfl (op_move rfl ?_)
          refine WL.op rfl rfl (op_remN (b := 3) rfl rfl (by omega) ?_)
          refine WL.op rfl rfl (op_eqlN (b := 0) rfl rfl ?_)
          refine WL.op rfl rfl (op_move rfl ?_)
          refine WL.split (t := 62) rfl (fun (hb15 : (decide ((i % 3) = 0)) = true) => ?_) (fun (hb15 : (decide ((i % 3) = 0)) = false) => ?_)
          ·
            have hc15 := of_decide_eq_true hb15
            refine WL.yes rfl rfl rfl hb15 rfl (op_move rfl ?_)
            refine WL.yes rfl rfl rfl hb15 rfl (op_callF Fa.C35 rfl ((macs_ok m9 q9 v13 (blockM key) (xorL (blockM key) 54 ++ tk ls (i + 1)) _ (H14.cellsAt (i := 0) rfl) (H14.cellsAt (i := 1) rfl) (H14.arrR (i := 2) rfl) (by rw [List.length_append]; omega) (by rw [blockM_length]; decide)).mono (fun e w16 hq => ?_)))
            obtain ⟨rfl, hf16⟩ := hq
            refine ⟨_, rfl, ?_⟩
            have H16 := H14.fr' hf16
            refine WL.yes rfl rfl rfl hb15 rfl (op_move rfl ?_)
            refine WL.yes rfl rfl rfl hb15 rfl (op_move rfl ?_)
            refine WL.yes rfl rfl rfl hb15 rfl (op_callF Fa.C31 rfl ((msum_ok key (tk ls (i + 1)) _ (by omega) (by omega)).mono (fun e w17 hq => ?_)))
            obtain ⟨rfl, hf17⟩ := hq
            refine ⟨_, rfl, ?_⟩
            have H17 := H16.fr' hf17
            refine WL.yes rfl rfl rfl hb15 rfl (op_neqStr rfl rfl ?_)
            refine WL.op rfl rfl (op_pickT rfl hb15 rfl ?_)
            refine WL.nil ?_
            refine WQ.next ?_
            refine WC.no rfl (decide_eq_false (fun h => h rfl)) ?_
            refine WC.skip ?_
            refine WQ.inNormal ?_
            refine WQ.next ?_
            refine WC.region ?_
            refine WL.op rfl rfl (op_move rfl ?_)
            refine WL.op rfl rfl (op_addN (b := 1) rfl rfl (by omega) ?_)
            refine WL.op rfl rfl (op_assign rfl ?_)
            refine WL.nil ?_
            exact WQ.round (i + 1, v13) ⟨(by omega), (H17.take 3)⟩ ⟨rfl, rfl, rfl, rfl, rfl, trivial⟩ (by show ls.length - (i + 1) < ls.length - i; omega)
          ·
            have hc15 := of_decide_eq_false hb15
            refine WL.no rfl rfl rfl hb15 rfl ?_
            refine WL.no rfl rfl rfl hb15 rfl ?_
            refine WL.no rfl rfl rfl hb15 rfl ?_
            refine WL.no rfl rfl rfl hb15 rfl ?_
            refine WL.no rfl rfl rfl hb15 rfl ?_
            refine WL.no rfl rfl rfl hb15 rfl ?_
            refine WL.op rfl rfl (op_pickF rfl hb15 rfl ?_)
            refine WL.nil ?_
            refine WQ.next ?_
            refine WC.no rfl rfl ?_
            refine WC.skip ?_
            refine WQ.inNormal ?_
            refine WQ.next ?_
            refine WC.region ?_
            refine WL.op rfl rfl (op_move rfl ?_)
            refine WL.op rfl rfl (op_addN (b := 1) rfl rfl (by omega) ?_)
            refine WL.op rfl rfl (op_assign rfl ?_)
            refine WL.nil ?_
            exact WQ.round (i + 1, v13) ⟨(by omega), (H14.take 3)⟩ ⟨rfl, rfl, rfl, rfl, rfl, trivial⟩ (by show ls.length - (i + 1) < ls.length - i; omega)
        ·
          have hc11 := of_decide_eq_false hb11
          refine WC.exit ?_
          refine WQ.thenExit ?_
          refine WQ.thenExit ?_
          refine WQ.inHere ?_
          refine WQ.next ?_
          refine WC.seq ?_
          refine WC.region ?_
          refine WL.op rfl rfl (op_move rfl ?_)
          refine WL.op rfl rfl (op_callF Fa.C35 rfl ((macs_ok m9 q9 v (blockM key) (xorL (blockM key) 54 ++ tk ls i) _ (H10.cellsAt (i := 0) rfl) (H10.cellsAt (i := 1) rfl) (H10.arrR (i := 2) rfl) (by rw [List.length_append]; omega) (by rw [blockM_length]; decide)).mono (fun e w18 hq => ?_)))
          obtain ⟨rfl, hf18⟩ := hq
          refine ⟨_, rfl, ?_⟩
          have H18 := H10.fr' hf18
          refine WL.op rfl rfl (op_move rfl ?_)
          refine WL.op rfl rfl (op_move rfl ?_)
          refine WL.op rfl rfl (op_callF Fa.C31 rfl ((msum_ok key (tk ls i) _ (by omega) (by omega)).mono (fun e w19 hq => ?_)))
          obtain ⟨rfl, hf19⟩ := hq
          refine ⟨_, rfl, ?_⟩
          have H19 := H18.fr' hf19
          refine WL.op rfl rfl (op_eqlStr rfl rfl ?_)
          refine WL.op rfl rfl (op_move rfl ?_)
          refine WL.yes rfl rfl rfl (decide_eq_true rfl) rfl (op_move rfl ?_)
          refine WL.yes rfl rfl rfl (decide_eq_true rfl) rfl (op_callF Fa.C35 rfl ((macs_ok m9 q9 v (blockM key) (xorL (blockM key) 54 ++ tk ls i) _ (H19.cellsAt (i := 0) rfl) (H19.cellsAt (i := 1) rfl) (H19.arrR (i := 2) rfl) (by rw [List.length_append]; omega) (by rw [blockM_length]; decide)).mono (fun e w20 hq => ?_)))
          obtain ⟨rfl, hf20⟩ := hq
          refine ⟨_, rfl, ?_⟩
          have H20 := H19.fr' hf20
          refine WL.yes rfl rfl rfl (decide_eq_true rfl) rfl (op_lenStr Try.underlying9 rfl ?_)
          refine WL.yes rfl rfl rfl (decide_eq_true rfl) rfl (op_eqlN (b := 32) rfl rfl ?_)
          refine WL.op rfl rfl (op_pickT rfl (decide_eq_true rfl) rfl ?_)
          refine WL.op rfl rfl (op_move rfl ?_)
          refine WL.yes rfl rfl rfl (decide_eq_true (sha_length _)) rfl (op_callF Fa.C29 rfl ((alive03_ok _).mono (fun e w21 hq => ?_)))
          obtain ⟨rfl, hf21⟩ := hq
          refine ⟨_, rfl, ?_⟩
          have H21 := H20.fr' hf21
          refine WL.op rfl rfl (op_pickT rfl (decide_eq_true (sha_length _)) rfl ?_)
          refine WL.op rfl rfl (op_assign rfl ?_)
          refine WL.nil ?_
          refine WQ.next ?_
          refine WC.ret ?_
          refine WQ.out (.tmp rfl .nil) ?_
          exact ⟨rfl, H21.fr⟩
end Go.Proofs.Ytfdlkkhhakjgeaa
