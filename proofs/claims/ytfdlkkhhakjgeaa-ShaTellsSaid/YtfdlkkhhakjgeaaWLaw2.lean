import Derived.Test.YtfdlkkhhakjgeaaWRef2
import Derived.Test.YtfdlkkhhakjgeaaLawSha
import Derived.Test.YtfdlkkhhakjgeaaOwl15
namespace Go.Proofs.Ytfdlkkhhakjgeaa
open Go.Owl Go.Spec
set_option maxRecDepth 100000 in
theorem writeNil_ok (lv : Value) (w : World) :
    Calls Try.prog 25 #[(.pointer none), lv] w (fun e w' => e = .returned (vN 1) ∧ Fr [] w w') := by
  refine enter (args := [(.pointer none), lv]) Try.func25 rfl rfl ?_
  have H0 := Own.start w []
  refine WC.seq ?_
  refine WC.region ?_
  refine WL.op rfl rfl (op_assign rfl ?_)
  refine WL.nil ?_
  refine WQ.next ?_
  refine WC.seq ?_
  refine WC.seq ?_
  refine WC.region ?_
  refine WL.op rfl rfl (op_move rfl ?_)
  refine WL.op rfl rfl (op_eqlPN Fa.PT45 rfl rfl ?_)
  refine WL.nil ?_
  refine WQ.next ?_
  refine WC.yes rfl rfl ?_
  refine WC.seq ?_
  refine WC.region ?_
  refine WL.op rfl rfl (op_assign rfl ?_)
  refine WL.nil ?_
  refine WQ.next ?_
  refine WC.ret ?_
  refine WQ.thenRet ?_
  refine WQ.out (.tmp rfl .nil) ?_
  exact ⟨rfl, H0.fr⟩
set_option maxRecDepth 100000 in
theorem hsumNil_ok  (w : World) :
    Calls Try.prog 27 #[(.pointer none)] w (fun e w' => e = .returned (str []) ∧ Fr [] w w') := by
  refine enter (args := [(.pointer none)]) Try.func27 rfl rfl ?_
  have H0 := Own.start w []
  refine WC.seq ?_
  refine WC.region ?_
  refine WL.op rfl rfl (op_assign rfl ?_)
  refine WL.nil ?_
  refine WQ.next ?_
  refine WC.seq ?_
  refine WC.seq ?_
  refine WC.region ?_
  refine WL.op rfl rfl (op_move rfl ?_)
  refine WL.op rfl rfl (op_eqlPN Fa.PT45 rfl rfl ?_)
  refine WL.nil ?_
  refine WQ.next ?_
  refine WC.yes rfl rfl ?_
  refine WC.seq ?_
  refine WC.region ?_
  refine WL.op rfl rfl (op_assign rfl ?_)
  refine WL.nil ?_
  refine WQ.next ?_
  refine WC.ret ?_
  refine WQ.thenRet ?_
  refine WQ.out (.tmp rfl .nil) ?_
  exact ⟨rfl, H0.fr⟩
set_option maxRecDepth 100000 in
theorem hlenNil_ok  (w : World) :
    Calls Try.prog 26 #[(.pointer none)] w (fun e w' => e = .returned (vN 0) ∧ Fr [] w w') := by
  refine enter (args := [(.pointer none)]) Try.func26 rfl rfl ?_
  have H0 := Own.start w []
  refine WC.seq ?_
  refine WC.region ?_
  refine WL.op rfl rfl (op_assign rfl ?_)
  refine WL.nil ?_
  refine WQ.next ?_
  refine WC.seq ?_
  refine WC.seq ?_
  refine WC.region ?_
  refine WL.op rfl rfl (op_move rfl ?_)
  refine WL.op rfl rfl (op_eqlPN Fa.PT45 rfl rfl ?_)
  refine WL.nil ?_
  refine WQ.next ?_
  refine WC.yes rfl rfl ?_
  refine WC.seq ?_
  refine WC.region ?_
  refine WL.op rfl rfl (op_assign rfl ?_)
  refine WL.nil ?_
  refine WQ.next ?_
  refine WC.ret ?_
  refine WQ.thenRet ?_
  refine WQ.out (.tmp rfl .nil) ?_
  exact ⟨rfl, H0.fr⟩
set_option maxRecDepth 100000 in
theorem alive02_ok  (w : World) :
    Calls Try.prog 23 #[] w (fun e w' => e = .returned (.bool true) ∧ Fr [] w w') := by
  refine enter (args := []) Try.func23 rfl rfl ?_
  have H0 := Own.start w []
  refine WC.seq ?_
  refine WC.region ?_
  refine WL.op rfl rfl (op_assign rfl ?_)
  refine WL.nil ?_
  refine WQ.next ?_
  refine WC.seq ?_
  refine WC.region ?_
  refine WL.op rfl rfl (op_callF Fa.C24 rfl ((new_ok _).mono (fun e w1 hq => ?_)))
  obtain ⟨q1, rfl, hq1⟩ := hq
  refine ⟨_, rfl, ?_⟩
  have H1 : Own [] w w1 [.blk q1 [(vU32 (hst ([] : List UInt8)).a), (vU32 (hst ([] : List UInt8)).b), (vU32 (hst ([] : List UInt8)).c), (vU32 (hst ([] : List UInt8)).d), (vU32 (hst ([] : List UInt8)).e), (vU32 (hst ([] : List UInt8)).f), (vU32 (hst ([] : List UInt8)).g), (vU32 (hst ([] : List UInt8)).h), (.slice none 0 0), (vN ([] : List UInt8).length)] 76, .row (.slice none 0 0) 5 1 (hrest ([] : List UInt8)).length (List.map vU8 (hrest ([] : List UInt8)))] := H0.splice [] [] [.blk q1 [(vU32 (hst ([] : List UInt8)).a), (vU32 (hst ([] : List UInt8)).b), (vU32 (hst ([] : List UInt8)).c), (vU32 (hst ([] : List UInt8)).d), (vU32 (hst ([] : List UInt8)).e), (vU32 (hst ([] : List UInt8)).f), (vU32 (hst ([] : List UInt8)).g), (vU32 (hst ([] : List UInt8)).h), (.slice none 0 0), (vN ([] : List UInt8).length)] 76, .row (.slice none 0 0) 5 1 (hrest ([] : List UInt8)).length (List.map vU8 (hrest ([] : List UInt8)))] rfl rfl hq1 (Fits.solid True.intro (Fits.solid True.intro Fits.nil))
  refine WL.op rfl rfl (op_assign rfl ?_)
  refine WL.nil ?_
  refine WQ.next ?_
  refine WC.seq ?_
  refine WC.region ?_
  refine WL.op rfl rfl (op_move rfl ?_)
  refine WL.op rfl rfl (op_buildSlice (cs := [_, _]) H1 Try.underlying44 Fa.I9 rfl rfl rfl rfl (by decide) (by decide) (fun b2 w2 H2 => ?_))
  refine WL.op rfl rfl (op_callF Fa.C25 rfl ((write_ok q1 (.slice none 0 0) (.slice (some ⟨b2, 0, none⟩) 2 2) ([] : List UInt8) ([[97], [98, 99]]) _ _ (H2.part [0, 1] rfl rfl) (H2.stayR (I := [0, 1]) (k := 2) rfl rfl rfl) (by decide) (by decide)).mono (fun e w3 hq => ?_)))
  obtain ⟨v3, rfl, hq3⟩ := hq
  refine ⟨_, rfl, ?_⟩
  have H3 : Own [] w w3 [.blk q1 [(vU32 (hst (([] : List UInt8) ++ [[97], [98, 99]].flatten)).a), (vU32 (hst (([] : List UInt8) ++ [[97], [98, 99]].flatten)).b), (vU32 (hst (([] : List UInt8) ++ [[97], [98, 99]].flatten)).c), (vU32 (hst (([] : List UInt8) ++ [[97], [98, 99]].flatten)).d), (vU32 (hst (([] : List UInt8) ++ [[97], [98, 99]].flatten)).e), (vU32 (hst (([] : List UInt8) ++ [[97], [98, 99]].flatten)).f), (vU32 (hst (([] : List UInt8) ++ [[97], [98, 99]].flatten)).g), (vU32 (hst (([] : List UInt8) ++ [[97], [98, 99]].flatten)).h), v3, (vN (([] : List UInt8) ++ [[97], [98, 99]].flatten).length)] 76, .row v3 5 1 (hrest (([] : List UInt8) ++ [[97], [98, 99]].flatten)).length (List.map vU8 (hrest (([] : List UInt8) ++ [[97], [98, 99]].flatten))), .row (.slice (some ⟨b2, 0, none⟩) 2 2) 9 1 2 (List.map str [[97], [98, 99]])] := H2.splice [0, 1] [.blk q1 [(vU32 (hst (([] : List UInt8) ++ [[97], [98, 99]].flatten)).a), (vU32 (hst (([] : List UInt8) ++ [[97], [98, 99]].flatten)).b), (vU32 (hst (([] : List UInt8) ++ [[97], [98, 99]].flatten)).c), (vU32 (hst (([] : List UInt8) ++ [[97], [98, 99]].flatten)).d), (vU32 (hst (([] : List UInt8) ++ [[97], [98, 99]].flatten)).e), (vU32 (hst (([] : List UInt8) ++ [[97], [98, 99]].flatten)).f), (vU32 (hst (([] : List UInt8) ++ [[97], [98, 99]].flatten)).g), (vU32 (hst (([] : List UInt8) ++ [[97], [98, 99]].flatten)).h), v3, (vN (([] : List UInt8) ++ [[97], [98, 99]].flatten).length)] 76, .row v3 5 1 (hrest (([] : List UInt8) ++ [[97], [98, 99]].flatten)).length (List.map vU8 (hrest (([] : List UInt8) ++ [[97], [98, 99]].flatten)))] [] rfl rfl hq3 (Fits.solid True.intro (Fits.solid True.intro Fits.nil))
  refine WL.op rfl rfl (op_assign rfl ?_)
  refine WL.nil ?_
  refine WQ.next ?_
  refine WC.seq ?_
  refine WC.region ?_
  refine WL.op rfl rfl (op_callF Fa.C21 rfl ((ssum_ok ([]) _ (by decide)).mono (fun e w4 hq => ?_)))
  obtain ⟨rfl, hf4⟩ := hq
  refine ⟨_, rfl, ?_⟩
  have H4 := H3.fr' hf4
  refine WL.op rfl rfl (op_callF Fa.C46 rfl ((hex_ok (sha ([])) _ (by rw [sha_length]; decide)).mono (fun e w5 hq => ?_)))
  obtain ⟨rfl, hf5⟩ := hq
  refine ⟨_, rfl, ?_⟩
  have H5 := H4.fr' hf5
  refine WL.op rfl rfl (op_eqlStr rfl rfl ?_)
  refine WL.op rfl rfl (op_move rfl ?_)
  refine WL.yes rfl rfl rfl (by kernel_rfl) rfl (op_callF Fa.C21 rfl ((ssum_ok ([97, 98, 99]) _ (by decide)).mono (fun e w6 hq => ?_)))
  obtain ⟨rfl, hf6⟩ := hq
  refine ⟨_, rfl, ?_⟩
  have H6 := H5.fr' hf6
  refine WL.yes rfl rfl rfl (by kernel_rfl) rfl (op_callF Fa.C46 rfl ((hex_ok (sha ([97, 98, 99])) _ (by rw [sha_length]; decide)).mono (fun e w7 hq => ?_)))
  obtain ⟨rfl, hf7⟩ := hq
  refine ⟨_, rfl, ?_⟩
  have H7 := H6.fr' hf7
  refine WL.yes rfl rfl rfl (by kernel_rfl) rfl (op_eqlStr rfl rfl ?_)
  refine WL.op rfl rfl (op_pickT rfl (by kernel_rfl) rfl ?_)
  refine WL.op rfl rfl (op_move rfl ?_)
  refine WL.yes rfl rfl rfl (by kernel_rfl) rfl (op_move rfl ?_)
  refine WL.yes rfl rfl rfl (by kernel_rfl) rfl (op_eqlN (b := 0) rfl rfl ?_)
  refine WL.op rfl rfl (op_pickT rfl (by kernel_rfl) rfl ?_)
  refine WL.op rfl rfl (op_move rfl ?_)
  refine WL.yes rfl rfl rfl (by decide) rfl (op_move rfl ?_)
  refine WL.yes rfl rfl rfl (by decide) rfl (op_callF Fa.C27 rfl ((hsum_ok q1 v3 (([] : List UInt8) ++ [[97], [98, 99]].flatten) _ _ (H7.part [0, 1] rfl rfl) (by decide)).mono (fun e w8 hq => ?_)))
  obtain ⟨rfl, hq8⟩ := hq
  refine ⟨_, rfl, ?_⟩
  have H8 : Own [] w w8 [.blk q1 [(vU32 (hst (([] : List UInt8) ++ [[97], [98, 99]].flatten)).a), (vU32 (hst (([] : List UInt8) ++ [[97], [98, 99]].flatten)).b), (vU32 (hst (([] : List UInt8) ++ [[97], [98, 99]].flatten)).c), (vU32 (hst (([] : List UInt8) ++ [[97], [98, 99]].flatten)).d), (vU32 (hst (([] : List UInt8) ++ [[97], [98, 99]].flatten)).e), (vU32 (hst (([] : List UInt8) ++ [[97], [98, 99]].flatten)).f), (vU32 (hst (([] : List UInt8) ++ [[97], [98, 99]].flatten)).g), (vU32 (hst (([] : List UInt8) ++ [[97], [98, 99]].flatten)).h), v3, (vN (([] : List UInt8) ++ [[97], [98, 99]].flatten).length)] 76, .row v3 5 1 (hrest (([] : List UInt8) ++ [[97], [98, 99]].flatten)).length (List.map vU8 (hrest (([] : List UInt8) ++ [[97], [98, 99]].flatten))), .row (.slice (some ⟨b2, 0, none⟩) 2 2) 9 1 2 (List.map str [[97], [98, 99]])] := H7.splice [0, 1] [.blk q1 [(vU32 (hst (([] : List UInt8) ++ [[97], [98, 99]].flatten)).a), (vU32 (hst (([] : List UInt8) ++ [[97], [98, 99]].flatten)).b), (vU32 (hst (([] : List UInt8) ++ [[97], [98, 99]].flatten)).c), (vU32 (hst (([] : List UInt8) ++ [[97], [98, 99]].flatten)).d), (vU32 (hst (([] : List UInt8) ++ [[97], [98, 99]].flatten)).e), (vU32 (hst (([] : List UInt8) ++ [[97], [98, 99]].flatten)).f), (vU32 (hst (([] : List UInt8) ++ [[97], [98, 99]].flatten)).g), (vU32 (hst (([] : List UInt8) ++ [[97], [98, 99]].flatten)).h), v3, (vN (([] : List UInt8) ++ [[97], [98, 99]].flatten).length)] 76, .row v3 5 1 (hrest (([] : List UInt8) ++ [[97], [98, 99]].flatten)).length (List.map vU8 (hrest (([] : List UInt8) ++ [[97], [98, 99]].flatten)))] [] rfl rfl hq8 (Fits.solid True.intro (Fits.solid True.intro Fits.nil))
  refine WL.yes rfl rfl rfl (by decide) rfl (op_callF Fa.C21 rfl ((ssum_ok ([97, 98, 99]) _ (by decide)).mono (fun e w9 hq => ?_)))
  obtain ⟨rfl, hf9⟩ := hq
  refine ⟨_, rfl, ?_⟩
  have H9 := H8.fr' hf9
  refine WL.yes rfl rfl rfl (by decide) rfl (op_eqlStr rfl rfl ?_)
  refine WL.op rfl rfl (op_pickT rfl (by decide) rfl ?_)
  refine WL.op rfl rfl (op_move rfl ?_)
  refine WL.yes rfl rfl rfl (by kernel_rfl) rfl (op_move rfl ?_)
  refine WL.yes rfl rfl rfl (by kernel_rfl) rfl (op_callF Fa.C26 rfl ((hlen_ok q1 v3 (([] : List UInt8) ++ [[97], [98, 99]].flatten) _ _ (H9.part [0, 1] rfl rfl)).mono (fun e w10 hq => ?_)))
  obtain ⟨rfl, hq10⟩ := hq
  refine ⟨_, rfl, ?_⟩
  have H10 : Own [] w w10 [.blk q1 [(vU32 (hst (([] : List UInt8) ++ [[97], [98, 99]].flatten)).a), (vU32 (hst (([] : List UInt8) ++ [[97], [98, 99]].flatten)).b), (vU32 (hst (([] : List UInt8) ++ [[97], [98, 99]].flatten)).c), (vU32 (hst (([] : List UInt8) ++ [[97], [98, 99]].flatten)).d), (vU32 (hst (([] : List UInt8) ++ [[97], [98, 99]].flatten)).e), (vU32 (hst (([] : List UInt8) ++ [[97], [98, 99]].flatten)).f), (vU32 (hst (([] : List UInt8) ++ [[97], [98, 99]].flatten)).g), (vU32 (hst (([] : List UInt8) ++ [[97], [98, 99]].flatten)).h), v3, (vN (([] : List UInt8) ++ [[97], [98, 99]].flatten).length)] 76, .row v3 5 1 (hrest (([] : List UInt8) ++ [[97], [98, 99]].flatten)).length (List.map vU8 (hrest (([] : List UInt8) ++ [[97], [98, 99]].flatten))), .row (.slice (some ⟨b2, 0, none⟩) 2 2) 9 1 2 (List.map str [[97], [98, 99]])] := H9.splice [0, 1] [.blk q1 [(vU32 (hst (([] : List UInt8) ++ [[97], [98, 99]].flatten)).a), (vU32 (hst (([] : List UInt8) ++ [[97], [98, 99]].flatten)).b), (vU32 (hst (([] : List UInt8) ++ [[97], [98, 99]].flatten)).c), (vU32 (hst (([] : List UInt8) ++ [[97], [98, 99]].flatten)).d), (vU32 (hst (([] : List UInt8) ++ [[97], [98, 99]].flatten)).e), (vU32 (hst (([] : List UInt8) ++ [[97], [98, 99]].flatten)).f), (vU32 (hst (([] : List UInt8) ++ [[97], [98, 99]].flatten)).g), (vU32 (hst (([] : List UInt8) ++ [[97], [98, 99]].flatten)).h), v3, (vN (([] : List UInt8) ++ [[97], [98, 99]].flatten).length)] 76, .row v3 5 1 (hrest (([] : List UInt8) ++ [[97], [98, 99]].flatten)).length (List.map vU8 (hrest (([] : List UInt8) ++ [[97], [98, 99]].flatten)))] [] rfl rfl hq10 (Fits.solid True.intro (Fits.solid True.intro Fits.nil))
  refine WL.yes rfl rfl rfl (by kernel_rfl) rfl (op_eqlN (b := 3) rfl rfl ?_)
  refine WL.op rfl rfl (op_pickT rfl (by kernel_rfl) rfl ?_)
  refine WL.op rfl rfl (op_assign rfl ?_)
  refine WL.nil ?_
  refine WQ.next ?_
  refine WC.ret ?_
  refine WQ.out (.tmp rfl .nil) ?_
  exact ⟨rfl, H10.fr⟩
set_option maxRecDepth 100000 in
theorem shaTells_ok (s : List UInt8) (w : World) :
    Calls Try.prog 5 #[(str s)] w (fun e w' => e = .returned (.bool true) ∧ Fr [] w w') := by
  refine enter (args := [(str s)]) Try.func5 rfl rfl ?_
  have H0 := Own.start w []
  refine WC.seq ?_
  refine WC.region ?_
  refine WL.op rfl rfl (op_assign rfl ?_)
  refine WL.nil ?_
  refine WQ.next ?_
  refine WC.seq ?_
  refine WC.region ?_
  refine WL.op rfl rfl (op_move rfl ?_)
  refine WL.op rfl rfl (op_lenStr Try.underlying9 rfl ?_)
  refine WL.op rfl rfl (op_gtrN (b := 8192) rfl rfl ?_)
  refine WL.op rfl rfl (op_move rfl ?_)
  refine WL.split (t := 6) rfl (fun (hb1 : (decide (s.length > 8192)) = true) => ?_) (fun (hb1 : (decide (s.length > 8192)) = false) => ?_)
  ·
    have hc1 := of_decide_eq_true hb1
    refine WL.no rfl rfl rfl hb1 rfl ?_
    refine WL.no rfl rfl rfl hb1 rfl ?_
    refine WL.no rfl rfl rfl hb1 rfl ?_
    refine WL.no rfl rfl rfl hb1 rfl ?_
    refine WL.no rfl rfl rfl hb1 rfl ?_
    refine WL.no rfl rfl rfl hb1 rfl ?_
    refine WL.non rfl rfl rfl rfl ?_
    refine WL.no rfl rfl rfl hb1 rfl ?_
    refine WL.op rfl rfl (op_pickT rfl hb1 rfl ?_)
    refine WL.op rfl rfl (op_assign rfl ?_)
    refine WL.nil ?_
    refine WQ.next ?_
    refine WC.ret ?_
    refine WQ.out (.tmp rfl .nil) ?_
    exact ⟨rfl, H0.fr⟩
  ·
    have hc1 := of_decide_eq_false hb1
    refine WL.yes rfl rfl rfl hb1 rfl (op_move rfl ?_)
    refine WL.yes rfl rfl rfl hb1 rfl (op_callF Fa.C21 rfl ((ssum_ok s _ (by omega)).mono (fun e w2 hq => ?_)))
    obtain ⟨rfl, hf2⟩ := hq
    refine ⟨_, rfl, ?_⟩
    have H2 := H0.fr' hf2
    refine WL.yes rfl rfl rfl hb1 rfl (op_move rfl ?_)
    refine WL.yes rfl rfl rfl hb1 rfl (op_callF Fa.C22 rfl ((rsum_ok s _ (by omega)).mono (fun e w3 hq => ?_)))
    obtain ⟨rfl, hf3⟩ := hq
    refine ⟨_, rfl, ?_⟩
    have H3 := H2.fr' hf3
    refine WL.yes rfl rfl rfl hb1 rfl (op_eqlStr rfl rfl ?_)
    refine WL.yes rfl rfl rfl hb1 rfl (op_move rfl ?_)
    refine WL.yes rfl rfl rfl (decide_eq_true rfl) rfl (op_callF Fa.C23 rfl ((alive02_ok _).mono (fun e w4 hq => ?_)))
    obtain ⟨rfl, hf4⟩ := hq
    refine ⟨_, rfl, ?_⟩
    have H4 := H3.fr' hf4
    refine WL.yes rfl rfl rfl hb1 rfl (op_pickT rfl (decide_eq_true rfl) rfl ?_)
    refine WL.op rfl rfl (op_pickF rfl hb1 rfl ?_)
    refine WL.op rfl rfl (op_assign rfl ?_)
    refine WL.nil ?_
    refine WQ.next ?_
    refine WC.ret ?_
    refine WQ.out (.tmp rfl .nil) ?_
    exact ⟨rfl, H4.fr⟩
set_option maxRecDepth 100000 in
theorem shaNil_ok (s : List UInt8) (w : World) :
    Calls Try.prog 7 #[(str s)] w (fun e w' => e = .returned (.bool true) ∧ Fr [] w w') := by
  refine enter (args := [(str s)]) Try.func7 rfl rfl ?_
  have H0 := Own.start w []
  refine WC.seq ?_
  refine WC.region ?_
  refine WL.op rfl rfl (op_assign rfl ?_)
  refine WL.nil ?_
  refine WQ.next ?_
  refine WC.seq ?_
  refine WC.seq ?_
  refine WC.region ?_
  refine WL.op rfl rfl (op_move rfl ?_)
  refine WL.op rfl rfl (op_lenStr Try.underlying9 rfl ?_)
  refine WL.op rfl rfl (op_gtrN (b := 4096) rfl rfl ?_)
  refine WL.nil ?_
  refine WQ.next ?_
  refine WC.cond rfl (fun (hb1 : (decide (s.length > 4096)) = true) => ?_) (fun (hb1 : (decide (s.length > 4096)) = false) => ?_)
  ·
    have hc1 := of_decide_eq_true hb1
    refine WC.seq ?_
    refine WC.region ?_
    refine WL.op rfl rfl (op_callF Fa.C23 rfl ((alive02_ok _).mono (fun e w2 hq => ?_)))
    obtain ⟨rfl, hf2⟩ := hq
    refine ⟨_, rfl, ?_⟩
    have H2 := H0.fr' hf2
    refine WL.op rfl rfl (op_assign rfl ?_)
    refine WL.nil ?_
    refine WQ.next ?_
    refine WC.ret ?_
    refine WQ.thenRet ?_
    refine WQ.out (.tmp rfl .nil) ?_
    exact ⟨rfl, H2.fr⟩
  ·
    have hc1 := of_decide_eq_false hb1
    refine WC.skip ?_
    refine WQ.next ?_
    refine WC.seq ?_
    refine WC.region ?_
    refine WL.op rfl rfl (op_assign rfl ?_)
    refine WL.nil ?_
    refine WQ.next ?_
    refine WC.seq ?_
    refine WC.region ?_
    refine WL.op rfl rfl (op_move rfl ?_)
    refine WL.op rfl rfl (op_move rfl ?_)
    refine WL.op rfl rfl (op_buildSlice (cs := [_]) H0 Try.underlying44 Fa.I9 rfl rfl rfl rfl (by decide) (by decide) (fun b3 w3 H3 => ?_))
    refine WL.op rfl rfl (op_callF Fa.C25 rfl ((writeNil_ok (.slice (some ⟨b3, 0, none⟩) 1 1) _).mono (fun e w4 hq => ?_)))
    obtain ⟨rfl, hf4⟩ := hq
    refine ⟨_, rfl, ?_⟩
    have H4 := H3.fr' hf4
    refine WL.op rfl rfl (op_eqlN (b := 1) rfl rfl ?_)
    refine WL.op rfl rfl (op_move rfl ?_)
    refine WL.yes rfl rfl rfl (by kernel_rfl) rfl (op_move rfl ?_)
    refine WL.yes rfl rfl rfl (by kernel_rfl) rfl (op_callF Fa.C27 rfl ((hsumNil_ok _).mono (fun e w5 hq => ?_)))
    obtain ⟨rfl, hf5⟩ := hq
    refine ⟨_, rfl, ?_⟩
    have H5 := H4.fr' hf5
    refine WL.yes rfl rfl rfl (by kernel_rfl) rfl (op_eqlStr rfl rfl ?_)
    refine WL.op rfl rfl (op_pickT rfl (by kernel_rfl) rfl ?_)
    refine WL.op rfl rfl (op_move rfl ?_)
    refine WL.yes rfl rfl rfl (by kernel_rfl) rfl (op_move rfl ?_)
    refine WL.yes rfl rfl rfl (by kernel_rfl) rfl (op_callF Fa.C26 rfl ((hlenNil_ok _).mono (fun e w6 hq => ?_)))
    obtain ⟨rfl, hf6⟩ := hq
    refine ⟨_, rfl, ?_⟩
    have H6 := H5.fr' hf6
    refine WL.yes rfl rfl rfl (by kernel_rfl) rfl (op_eqlN (b := 0) rfl rfl ?_)
    refine WL.op rfl rfl (op_pickT rfl (by kernel_rfl) rfl ?_)
    refine WL.op rfl rfl (op_move rfl ?_)
    refine WL.yes rfl rfl rfl (by kernel_rfl) rfl (op_callF Fa.C23 rfl ((alive02_ok _).mono (fun e w7 hq => ?_)))
    obtain ⟨rfl, hf7⟩ := hq
    refine ⟨_, rfl, ?_⟩
    have H7 := H6.fr' hf7
    refine WL.op rfl rfl (op_pickT rfl (by kernel_rfl) rfl ?_)
    refine WL.op rfl rfl (op_assign rfl ?_)
    refine WL.nil ?_
    refine WQ.next ?_
    refine WC.ret ?_
    refine WQ.out (.tmp rfl .nil) ?_
    exact ⟨rfl, H7.fr⟩
set_option maxRecDepth 100000 in
theorem shaPieces_ok (lv bv : Value) (ls : List (List UInt8)) (b : List UInt8) (w : World) (hA : Arr w lv 1 ls.length (List.map str ls)) (hB : ∀ x ∈ ls, x.length ≤ 140737488351232) (hA2 : Arr w bv 1 b.length (List.map vU8 b)) (hn : ls.length < 2 ^ 50) (hn2 : b.length < 2 ^ 50) :
    Calls Try.prog 6 #[lv, bv] w (fun e w' => e = .returned (.bool true) ∧ Fr [] w w') := by
  refine enter (args := [lv, bv]) Try.func6 rfl rfl ?_
  have H0 := Own.start w []
  refine WC.seq ?_
  refine WC.region ?_
  refine WL.op rfl rfl (op_assign rfl ?_)
  refine WL.nil ?_
  refine WQ.next ?_
  refine WC.seq ?_
  refine WC.region ?_
  refine WL.op rfl rfl (op_assign rfl ?_)
  refine WL.nil ?_
  refine WQ.next ?_
  refine WC.cut (α := Nat) (fun k => [(0, lv), (1, bv), (5, (vN (sumTo ls k)))]) (fun k w' => (k ≤ ls.length ∧ (k < ls.length → 200 ≤ k)) ∧ Own [] w w' []) ?_ ?_
  ·
    refine WC.seq ?_
    refine WC.region ?_
    refine WL.op rfl rfl (op_assign rfl ?_)
    refine WL.nil ?_
    refine WQ.next ?_
    refine WC.block ?_
    refine WC.loop (α := Nat) (fun k => [(0, lv), (1, bv), (5, (vN (sumTo ls k))), (6, (vN k))]) (fun k w' => (k ≤ ls.length ∧ k ≤ 200) ∧ Own [] w w' []) (fun k => ls.length - k) 0 ⟨⟨by omega, by omega⟩, H0⟩ ⟨rfl, rfl, rfl, rfl, trivial⟩ ?_
    rintro k w1 ⟨hinv, H1⟩
    show WC _ _ _ _ _ [(0, lv), (1, bv), (5, (vN (sumTo ls k))), (6, (vN k))] _
    have hs0 := sumTo_le hB k
    have hg0 := getD_mem hB k
    refine WC.seq ?_
    refine WC.seq ?_
    refine WC.region ?_
    refine WL.op rfl rfl (op_move rfl ?_)
    refine WL.op rfl rfl (op_move rfl ?_)
    refine WL.op rfl rfl (op_lenA Try.underlying44 rfl (H1.arr hA) ?_)
    refine WL.op rfl rfl (op_lssN rfl rfl ?_)
    refine WL.op rfl rfl (op_move rfl ?_)
    refine WL.split (t := 16) rfl (fun (hb2 : (decide (k < ls.length)) = true) => ?_) (fun (hb2 : (decide (k < ls.length)) = false) => ?_)
    ·
      have hc2 := of_decide_eq_true hb2
      refine WL.yes rfl rfl rfl hb2 rfl (op_move rfl ?_)
      refine WL.yes rfl rfl rfl hb2 rfl (op_lssN (b := 200) rfl rfl ?_)
      refine WL.op rfl rfl (op_pickT rfl hb2 rfl ?_)
      refine WL.nil ?_
      refine WQ.next ?_
      refine WC.cond rfl (fun (hb3 : (decide (k < 200)) = true) => ?_) (fun (hb3 : (decide (k < 200)) = false) => ?_)
      ·
        have hc3 := of_decide_eq_true hb3
        refine WC.skip ?_
        refine WQ.next ?_
        refine WC.seq ?_
        refine WC.block ?_
        refine WC.region ?_
        refine WL.op rfl rfl (op_move rfl ?_)
        refine WL.op rfl rfl (op_move rfl ?_)
        refine WL.op rfl rfl (op_move rfl ?_)
        refine WL.op rfl rfl (op_indexAddr1 Try.underlying44 Fa.I9 rfl (H1.arr hA) rfl (by omega) ?_)
        refine WL.op rfl rfl (op_load rfl ((H1.arr hA).at (get_map str [] (Arr.ltM (H1.arr hA) (by omega)))) Try.underlying9 rfl ?_)
        refine WL.op rfl rfl (op_lenStr Try.underlying9 rfl ?_)
        refine WL.op rfl rfl (op_addN rfl rfl (by omega) ?_)
        refine WL.op rfl rfl (op_assign rfl ?_)
        refine WL.nil ?_
        refine WQ.inNormal ?_
        refine WQ.next ?_
        refine WC.region ?_
        refine WL.op rfl rfl (op_move rfl ?_)
        refine WL.op rfl rfl (op_addN (b := 1) rfl rfl (by omega) ?_)
        refine WL.op rfl rfl (op_assign rfl ?_)
        refine WL.nil ?_
        exact WQ.round (k + 1) ⟨(by omega), H1⟩ ⟨rfl, rfl, rfl, rfl, trivial⟩ (by omega)
      ·
        have hc3 := of_decide_eq_false hb3
        refine WC.exit ?_
        refine WQ.thenExit ?_
        refine WQ.thenExit ?_
        refine WQ.inHere ?_
        exact WQ.here k ⟨⟨by omega, fun h => by omega⟩, H1⟩ ⟨rfl, rfl, rfl, trivial⟩
    ·
      have hc2 := of_decide_eq_false hb2
      refine WL.no rfl rfl rfl hb2 rfl ?_
      refine WL.no rfl rfl rfl hb2 rfl ?_
      refine WL.op rfl rfl (op_pickF rfl hb2 rfl ?_)
      refine WL.nil ?_
      refine WQ.next ?_
      refine WC.no rfl rfl ?_
      refine WC.exit ?_
      refine WQ.thenExit ?_
      refine WQ.thenExit ?_
      refine WQ.inHere ?_
      exact WQ.here k ⟨⟨by omega, fun h => by omega⟩, H1⟩ ⟨rfl, rfl, rfl, trivial⟩
  ·
    rintro k w4 ⟨hinv, H4⟩
    show WC _ _ _ _ _ [(0, lv), (1, bv), (5, (vN (sumTo ls k)))] _
    have ht0 := sumTo_tk k hinv.1
    refine WC.seq ?_
    refine WC.seq ?_
    refine WC.region ?_
    refine WL.op rfl rfl (op_move rfl ?_)
    refine WL.op rfl rfl (op_lenA Try.underlying44 rfl (H4.arr hA) ?_)
    refine WL.op rfl rfl (op_gtrN (b := 60) rfl rfl ?_)
    refine WL.op rfl rfl (op_move rfl ?_)
    refine WL.split (t := 32) rfl (fun (hb5 : (decide (ls.length > 60)) = true) => ?_) (fun (hb5 : (decide (ls.length > 60)) = false) => ?_)
    ·
      have hc5 := of_decide_eq_true hb5
      refine WL.no rfl rfl rfl hb5 rfl ?_
      refine WL.no rfl rfl rfl hb5 rfl ?_
      refine WL.op rfl rfl (op_pickT rfl hb5 rfl ?_)
      refine WL.op rfl rfl (op_move rfl ?_)
      refine WL.no rfl rfl rfl rfl rfl ?_
      refine WL.no rfl rfl rfl rfl rfl ?_
      refine WL.no rfl rfl rfl rfl rfl ?_
      refine WL.op rfl rfl (op_pickT rfl rfl rfl ?_)
      refine WL.nil ?_
      refine WQ.next ?_
      refine WC.yes rfl rfl ?_
      refine WC.seq ?_
      refine WC.region ?_
      refine WL.op rfl rfl (op_callF Fa.C23 rfl ((alive02_ok _).mono (fun e w6 hq => ?_)))
      obtain ⟨rfl, hf6⟩ := hq
      refine ⟨_, rfl, ?_⟩
      have H6 := H4.fr' hf6
      refine WL.op rfl rfl (op_assign rfl ?_)
      refine WL.nil ?_
      refine WQ.next ?_
      refine WC.ret ?_
      refine WQ.thenRet ?_
      refine WQ.out (.tmp rfl .nil) ?_
      exact ⟨rfl, H6.fr⟩
    ·
      have hc5 := of_decide_eq_false hb5
      refine WL.yes rfl rfl rfl hb5 rfl (op_move rfl ?_)
      refine WL.yes rfl rfl rfl hb5 rfl (op_gtrN (b := 8192) rfl rfl ?_)
      refine WL.op rfl rfl (op_pickF rfl hb5 rfl ?_)
      refine WL.op rfl rfl (op_move rfl ?_)
      refine WL.split (t := 36) rfl (fun (hb7 : (decide ((sumTo ls k) > 8192)) = true) => ?_) (fun (hb7 : (decide ((sumTo ls k) > 8192)) = false) => ?_)
      ·
        have hc7 := of_decide_eq_true hb7
        refine WL.no rfl rfl rfl hb7 rfl ?_
        refine WL.no rfl rfl rfl hb7 rfl ?_
        refine WL.no rfl rfl rfl hb7 rfl ?_
        refine WL.op rfl rfl (op_pickT rfl hb7 rfl ?_)
        refine WL.nil ?_
        refine WQ.next ?_
        refine WC.yes rfl rfl ?_
        refine WC.seq ?_
        refine WC.region ?_
        refine WL.op rfl rfl (op_callF Fa.C23 rfl ((alive02_ok _).mono (fun e w8 hq => ?_)))
        obtain ⟨rfl, hf8⟩ := hq
        refine ⟨_, rfl, ?_⟩
        have H8 := H4.fr' hf8
        refine WL.op rfl rfl (op_assign rfl ?_)
        refine WL.nil ?_
        refine WQ.next ?_
        refine WC.ret ?_
        refine WQ.thenRet ?_
        refine WQ.out (.tmp rfl .nil) ?_
        exact ⟨rfl, H8.fr⟩
      ·
        have hc7 := of_decide_eq_false hb7
        refine WL.yes rfl rfl rfl hb7 rfl (op_move rfl ?_)
        refine WL.yes rfl rfl rfl hb7 rfl (op_lenA Try.underlying31 rfl (H4.arr hA2) ?_)
        refine WL.yes rfl rfl rfl hb7 rfl (op_gtrN (b := 100) rfl rfl ?_)
        refine WL.op rfl rfl (op_pickF rfl hb7 rfl ?_)
        refine WL.nil ?_
        refine WQ.next ?_
        refine WC.cond rfl (fun (hb9 : (decide (b.length > 100)) = true) => ?_) (fun (hb9 : (decide (b.length > 100)) = false) => ?_)
        ·
          have hc9 := of_decide_eq_true hb9
          refine WC.seq ?_
          refine WC.region ?_
          refine WL.op rfl rfl (op_callF Fa.C23 rfl ((alive02_ok _).mono (fun e w10 hq => ?_)))
          obtain ⟨rfl, hf10⟩ := hq
          refine ⟨_, rfl, ?_⟩
          have H10 := H4.fr' hf10
          refine WL.op rfl rfl (op_assign rfl ?_)
          refine WL.nil ?_
          refine WQ.next ?_
          refine WC.ret ?_
          refine WQ.thenRet ?_
          refine WQ.out (.tmp rfl .nil) ?_
          exact ⟨rfl, H10.fr⟩
        ·
          have hc9 := of_decide_eq_false hb9
          have htot : ls.flatten.length ≤ 8192 := by rw [← tk_all, ← sumTo_tk ls.length (Nat.le_refl _), show ls.length = k by omega]; omega
          refine WC.skip ?_
          refine WQ.next ?_
          refine WC.seq ?_
          refine WC.region ?_
          refine WL.op rfl rfl (op_callF Fa.C24 rfl ((new_ok _).mono (fun e w11 hq => ?_)))
          obtain ⟨q11, rfl, hq11⟩ := hq
          refine ⟨_, rfl, ?_⟩
          have H11 : Own [] w w11 [.blk q11 [(vU32 (hst ([] : List UInt8)).a), (vU32 (hst ([] : List UInt8)).b), (vU32 (hst ([] : List UInt8)).c), (vU32 (hst ([] : List UInt8)).d), (vU32 (hst ([] : List UInt8)).e), (vU32 (hst ([] : List UInt8)).f), (vU32 (hst ([] : List UInt8)).g), (vU32 (hst ([] : List UInt8)).h), (.slice none 0 0), (vN ([] : List UInt8).length)] 76, .row (.slice none 0 0) 5 1 (hrest ([] : List UInt8)).length (List.map vU8 (hrest ([] : List UInt8)))] := H4.splice [] [] [.blk q11 [(vU32 (hst ([] : List UInt8)).a), (vU32 (hst ([] : List UInt8)).b), (vU32 (hst ([] : List UInt8)).c), (vU32 (hst ([] : List UInt8)).d), (vU32 (hst ([] : List UInt8)).e), (vU32 (hst ([] : List UInt8)).f), (vU32 (hst ([] : List UInt8)).g), (vU32 (hst ([] : List UInt8)).h), (.slice none 0 0), (vN ([] : List UInt8).length)] 76, .row (.slice none 0 0) 5 1 (hrest ([] : List UInt8)).length (List.map vU8 (hrest ([] : List UInt8)))] rfl rfl hq11 (Fits.solid True.intro (Fits.solid True.intro Fits.nil))
          refine WL.op rfl rfl (op_assign rfl ?_)
          refine WL.nil ?_
          refine WQ.next ?_
          refine WC.seq ?_
          refine WC.region ?_
          refine WL.op rfl rfl (op_assign rfl ?_)
          refine WL.nil ?_
          refine WQ.next ?_
          refine WC.seq ?_
          refine WC.region ?_
          refine WL.op rfl rfl (op_assign rfl ?_)
          refine WL.nil ?_
          refine WQ.next ?_
          refine WC.seq ?_
          refine WC.seq ?_
          refine WC.region ?_
          refine WL.op rfl rfl (op_assign rfl ?_)
          refine WL.nil ?_
          refine WQ.next ?_
          refine WC.block ?_
          refine WC.loop (α := Nat × Nat × Value) (fun (i, at_, v) => [(0, lv), (1, bv), (7, (ptr q11 0)), (8, (str (tk ls at_))), (9, (vN at_)), (10, (vN i))]) (fun (i, at_, v) w' => (at_ ≤ ls.length ∧ i ≤ b.length) ∧ Own [] w w' [.blk q11 [(vU32 (hst (tk ls at_)).a), (vU32 (hst (tk ls at_)).b), (vU32 (hst (tk ls at_)).c), (vU32 (hst (tk ls at_)).d), (vU32 (hst (tk ls at_)).e), (vU32 (hst (tk ls at_)).f), (vU32 (hst (tk ls at_)).g), (vU32 (hst (tk ls at_)).h), v, (vN (tk ls at_).length)] 76, .row v 5 1 (hrest (tk ls at_)).length (List.map vU8 (hrest (tk ls at_)))]) (fun (i, at_, v) => b.length - i) (0, 0, (.slice none 0 0)) ⟨⟨by omega, by omega⟩, H11⟩ ⟨rfl, rfl, rfl, rfl, rfl, rfl, trivial⟩ ?_
          rintro ⟨i, at_, v⟩ w12 ⟨hinv, H12⟩
          show WC _ _ _ _ _ [(0, lv), (1, bv), (7, (ptr q11 0)), (8, (str (tk ls at_))), (9, (vN at_)), (10, (vN i))] _
          have hu := (b.getD i 0 % 4).toNat_lt
          refine WC.seq ?_
          refine WC.seq ?_
          refine WC.region ?_
          refine WL.op rfl rfl (op_move rfl ?_)
          refine WL.op rfl rfl (op_move rfl ?_)
          refine WL.op rfl rfl (op_lenA Try.underlying31 rfl (H12.arr hA2) ?_)
          refine WL.op rfl rfl (op_lssN rfl rfl ?_)
          refine WL.op rfl rfl (op_move rfl ?_)
          refine WL.split (t := 47) rfl (fun (hb13 : (decide (i < b.length)) = true) => ?_) (fun (hb13 : (decide (i < b.length)) = false) => ?_)
          ·
            have hc13 := of_decide_eq_true hb13
            refine WL.yes rfl rfl rfl hb13 rfl (op_move rfl ?_)
            refine WL.yes rfl rfl rfl hb13 rfl (op_move rfl ?_)
            refine WL.yes rfl rfl rfl hb13 rfl (op_lenA Try.underlying44 rfl (H12.arr hA) ?_)
            refine WL.yes rfl rfl rfl hb13 rfl (op_lssN rfl rfl ?_)
            refine WL.op rfl rfl (op_pickT rfl hb13 rfl ?_)
            refine WL.nil ?_
            refine WQ.next ?_
            refine WC.cond rfl (fun (hb14 : (decide (at_ < ls.length)) = true) => ?_) (fun (hb14 : (decide (at_ < ls.length)) = false) => ?_)
            ·
              have hc14 := of_decide_eq_true hb14
              refine WC.skip ?_
              refine WQ.next ?_
              refine WC.seq ?_
              refine WC.block ?_
              refine WC.seq ?_
              refine WC.region ?_
              refine WL.op rfl rfl (op_move rfl ?_)
              refine WL.op rfl rfl (op_lenA Try.underlying44 rfl (H12.arr hA) ?_)
              refine WL.op rfl rfl (op_move rfl ?_)
              refine WL.op rfl rfl (op_move rfl ?_)
              refine WL.op rfl rfl (op_move rfl ?_)
              refine WL.op rfl rfl (op_indexAddr1 Try.underlying31 Fa.I5 rfl (H12.arr hA2) rfl (by omega) ?_)
              refine WL.op rfl rfl (op_load rfl ((H12.arr hA2).at (get_map vU8 0 (Arr.ltM (H12.arr hA2) (by omega)))) Try.underlying5 rfl ?_)
              refine WL.op rfl rfl (op_remU8 (b := 4) rfl rfl (by decide) ?_)
              refine WL.op rfl rfl (op_convU8N (hs := Try.underlying5) (hd := Try.underlying3) rfl ?_)
              refine WL.op rfl rfl (op_addN rfl rfl (by omega) ?_)
              refine WL.op rfl rfl (op_minN rfl rfl ?_)
              refine WL.op rfl rfl (op_assign rfl ?_)
              refine WL.nil ?_
              refine WQ.next ?_
              refine WC.seq ?_
              refine WC.seq ?_
              refine WC.region ?_
              refine WL.op rfl rfl (op_move rfl ?_)
              refine WL.op rfl rfl (op_move rfl ?_)
              refine WL.op rfl rfl (op_move rfl ?_)
              refine WL.op rfl rfl (op_move rfl ?_)
              refine WL.op rfl rfl (op_cut Try.underlying44 Fa.I9 rfl (H12.arr hA) rfl rfl (by omega) (by omega) ?_)
              have H16 := H12.nilRow 9 1
              refine WL.op rfl rfl (op_appendM (f := str) (l := []) (l' := ((ls.drop at_).take ((min ls.length (at_ + ((b.getD i 0) % (4 : UInt8)).toNat)) - at_))) (i := 2) H16 Try.underlying44 Fa.I9 rfl rfl rfl rfl (Src.ofArr Try.underlying44 (((H16.arr hA)).cutM (f := str) (l := ls) (a := at_) (b := (min ls.length (at_ + ((b.getD i 0) % (4 : UInt8)).toNat))) (by omega) (by omega))) (one_mapM (fun _ => rfl)) (by omega) (by omega) (fun v15 w15 H15 => ?_))
              refine WL.op rfl rfl (op_callF Fa.C25 rfl ((write_ok q11 v v15 (tk ls at_) ([] ++ ((ls.drop at_).take ((min ls.length (at_ + ((b.getD i 0) % (4 : UInt8)).toNat)) - at_))) _ _ (H15.part [0, 1] rfl rfl) (H15.stayR (I := [0, 1]) (k := 2) rfl rfl rfl) (by rw [List.nil_append, tk_cut ls (a := at_) (k := (min ls.length (at_ + (b.getD i 0 % 4).toNat))) (by omega)]; have := tk_len ls (min ls.length (at_ + (b.getD i 0 % 4).toNat)); omega) (by rw [List.nil_append, List.length_take, List.length_drop]; omega)).mono (fun e w17 hq => ?_)))
              obtain ⟨v17, rfl, hq17⟩ := hq
              refine ⟨_, rfl, ?_⟩
              have H17 : Own [] w w17 [.blk q11 [(vU32 (hst ((tk ls at_) ++ ([] ++ ((ls.drop at_).take ((min ls.length (at_ + ((b.getD i 0) % (4 : UInt8)).toNat)) - at_))).flatten)).a), (vU32 (hst ((tk ls at_) ++ ([] ++ ((ls.drop at_).take ((min ls.length (at_ + ((b.getD i 0) % (4 : UInt8)).toNat)) - at_))).flatten)).b), (vU32 (hst ((tk ls at_) ++ ([] ++ ((ls.drop at_).take ((min ls.length (at_ + ((b.getD i 0) % (4 : UInt8)).toNat)) - at_))).flatten)).c), (vU32 (hst ((tk ls at_) ++ ([] ++ ((ls.drop at_).take ((min ls.length (at_ + ((b.getD i 0) % (4 : UInt8)).toNat)) - at_))).flatten)).d), (vU32 (hst ((tk ls at_) ++ ([] ++ ((ls.drop at_).take ((min ls.length (at_ + ((b.getD i 0) % (4 : UInt8)).toNat)) - at_))).flatten)).e), (vU32 (hst ((tk ls at_) ++ ([] ++ ((ls.drop at_).take ((min ls.length (at_ + ((b.getD i 0) % (4 : UInt8)).toNat)) - at_))).flatten)).f), (vU32 (hst ((tk ls at_) ++ ([] ++ ((ls.drop at_).take ((min ls.length (at_ + ((b.getD i 0) % (4 : UInt8)).toNat)) - at_))).flatten)).g), (vU32 (hst ((tk ls at_) ++ ([] ++ ((ls.drop at_).take ((min ls.length (at_ + ((b.getD i 0) % (4 : UInt8)).toNat)) - at_))).flatten)).h), v17, (vN ((tk ls at_) ++ ([] ++ ((ls.drop at_).take ((min ls.length (at_ + ((b.getD i 0) % (4 : UInt8)).toNat)) - at_))).flatten).length)] 76, .row v17 5 1 (hrest ((tk ls at_) ++ ([] ++ ((ls.drop at_).take ((min ls.length (at_ + ((b.getD i 0) % (4 : UInt8)).toNat)) - at_))).flatten)).length (List.map vU8 (hrest ((tk ls at_) ++ ([] ++ ((ls.drop at_).take ((min ls.length (at_ + ((b.getD i 0) % (4 : UInt8)).toNat)) - at_))).flatten))), .row v15 9 1 (0 + ((min ls.length (at_ + ((b.getD i 0) % (4 : UInt8)).toNat)) - at_)) (List.map str ([] ++ ((ls.drop at_).take ((min ls.length (at_ + ((b.getD i 0) % (4 : UInt8)).toNat)) - at_))))] := H15.splice [0, 1] [.blk q11 [(vU32 (hst ((tk ls at_) ++ ([] ++ ((ls.drop at_).take ((min ls.length (at_ + ((b.getD i 0) % (4 : UInt8)).toNat)) - at_))).flatten)).a), (vU32 (hst ((tk ls at_) ++ ([] ++ ((ls.drop at_).take ((min ls.length (at_ + ((b.getD i 0) % (4 : UInt8)).toNat)) - at_))).flatten)).b), (vU32 (hst ((tk ls at_) ++ ([] ++ ((ls.drop at_).take ((min ls.length (at_ + ((b.getD i 0) % (4 : UInt8)).toNat)) - at_))).flatten)).c), (vU32 (hst ((tk ls at_) ++ ([] ++ ((ls.drop at_).take ((min ls.length (at_ + ((b.getD i 0) % (4 : UInt8)).toNat)) - at_))).flatten)).d), (vU32 (hst ((tk ls at_) ++ ([] ++ ((ls.drop at_).take ((min ls.length (at_ + ((b.getD i 0) % (4 : UInt8)).toNat)) - at_))).flatten)).e), (vU32 (hst ((tk ls at_) ++ ([] ++ ((ls.drop at_).take ((min ls.length (at_ + ((b.getD i 0) % (4 : UInt8)).toNat)) - at_))).flatten)).f), (vU32 (hst ((tk ls at_) ++ ([] ++ ((ls.drop at_).take ((min ls.length (at_ + ((b.getD i 0) % (4 : UInt8)).toNat)) - at_))).flatten)).g), (vU32 (hst ((tk ls at_) ++ ([] ++ ((ls.drop at_).take ((min ls.length (at_ + ((b.getD i 0) % (4 : UInt8)).toNat)) - at_))).flatten)).h), v17, (vN ((tk ls at_) ++ ([] ++ ((ls.drop at_).take ((min ls.length (at_ + ((b.getD i 0) % (4 : UInt8)).toNat)) - at_))).flatten).length)] 76, .row v17 5 1 (hrest ((tk ls at_) ++ ([] ++ ((ls.drop at_).take ((min ls.length (at_ + ((b.getD i 0) % (4 : UInt8)).toNat)) - at_))).flatten)).length (List.map vU8 (hrest ((tk ls at_) ++ ([] ++ ((ls.drop at_).take ((min ls.length (at_ + ((b.getD i 0) % (4 : UInt8)).toNat)) - at_))).flatten)))] [] rfl rfl hq17 (Fits.solid True.intro (Fits.solid True.intro Fits.nil))
              refine WL.op rfl rfl (op_neqN (b := 0) rfl rfl ?_)
              refine WL.nil ?_
              refine WQ.next ?_
              refine WC.no rfl (by decide) ?_
              refine WC.skip ?_
              refine WQ.next ?_
              refine WC.seq ?_
              refine WC.block ?_
              have H18 : Own [] w w17 [.blk q11 [(vU32 (hst (tk ls (min ls.length (at_ + (b.getD i 0 % 4).toNat)))).a), (vU32 (hst (tk ls (min ls.length (at_ + (b.getD i 0 % 4).toNat)))).b), (vU32 (hst (tk ls (min ls.length (at_ + (b.getD i 0 % 4).toNat)))).c), (vU32 (hst (tk ls (min ls.length (at_ + (b.getD i 0 % 4).toNat)))).d), (vU32 (hst (tk ls (min ls.length (at_ + (b.getD i 0 % 4).toNat)))).e), (vU32 (hst (tk ls (min ls.length (at_ + (b.getD i 0 % 4).toNat)))).f), (vU32 (hst (tk ls (min ls.length (at_ + (b.getD i 0 % 4).toNat)))).g), (vU32 (hst (tk ls (min ls.length (at_ + (b.getD i 0 % 4).toNat)))).h), v17, (vN (tk ls (min ls.length (at_ + (b.getD i 0 % 4).toNat))).length)] 76, .row v17 5 1 (hrest (tk ls (min ls.length (at_ + (b.getD i 0 % 4).toNat)))).length (List.map vU8 (hrest (tk ls (min ls.length (at_ + (b.getD i 0 % 4).toNat))))), .row v15 9 1 (0 + ((min ls.length (at_ + ((b.getD i 0) % (4 : UInt8)).toNat)) - at_)) (List.map str ([] ++ ((ls.drop at_).take ((min ls.length (at_ + ((b.getD i 0) % (4 : UInt8)).toNat)) - at_))))] := by have h := (show Own [] w w17 [.blk q11 [(vU32 (hst ((tk ls at_) ++ ([] ++ ((ls.drop at_).take ((min ls.length (at_ + ((b.getD i 0) % (4 : UInt8)).toNat)) - at_))).flatten)).a), (vU32 (hst ((tk ls at_) ++ ([] ++ ((ls.drop at_).take ((min ls.length (at_ + ((b.getD i 0) % (4 : UInt8)).toNat)) - at_))).flatten)).b), (vU32 (hst ((tk ls at_) ++ ([] ++ ((ls.drop at_).take ((min ls.length (at_ + ((b.getD i 0) % (4 : UInt8)).toNat)) - at_))).flatten)).c), (vU32 (hst ((tk ls at_) ++ ([] ++ ((ls.drop at_).take ((min ls.length (at_ + ((b.getD i 0) % (4 : UInt8)).toNat)) - at_))).flatten)).d), (vU32 (hst ((tk ls at_) ++ ([] ++ ((ls.drop at_).take ((min ls.length (at_ + ((b.getD i 0) % (4 : UInt8)).toNat)) - at_))).flatten)).e), (vU32 (hst ((tk ls at_) ++ ([] ++ ((ls.drop at_).take ((min ls.length (at_ + ((b.getD i 0) % (4 : UInt8)).toNat)) - at_))).flatten)).f), (vU32 (hst ((tk ls at_) ++ ([] ++ ((ls.drop at_).take ((min ls.length (at_ + ((b.getD i 0) % (4 : UInt8)).toNat)) - at_))).flatten)).g), (vU32 (hst ((tk ls at_) ++ ([] ++ ((ls.drop at_).take ((min ls.length (at_ + ((b.getD i 0) % (4 : UInt8)).toNat)) - at_))).flatten)).h), v17, (vN ((tk ls at_) ++ ([] ++ ((ls.drop at_).take ((min ls.length (at_ + ((b.getD i 0) % (4 : UInt8)).toNat)) - at_))).flatten).length)] 76, .row v17 5 1 (hrest ((tk ls at_) ++ ([] ++ ((ls.drop at_).take ((min ls.length (at_ + ((b.getD i 0) % (4 : UInt8)).toNat)) - at_))).flatten)).length (List.map vU8 (hrest ((tk ls at_) ++ ([] ++ ((ls.drop at_).take ((min ls.length (at_ + ((b.getD i 0) % (4 : UInt8)).toNat)) - at_))).flatten))), .row v15 9 1 (0 + ((min ls.length (at_ + ((b.getD i 0) % (4 : UInt8)).toNat)) - at_)) (List.map str ([] ++ ((ls.drop at_).take ((min ls.length (at_ + ((b.getD i 0) % (4 : UInt8)).toNat)) - at_))))] from H17); rw [List.nil_append, tk_cut ls (a := at_) (k := (min ls.length (at_ + (b.getD i 0 % 4).toNat))) (by omega)] at h; exact h
              refine WC.loop (α := Nat) (fun a2 => [(0, lv), (1, bv), (7, (ptr q11 0)), (8, (str (tk ls a2))), (9, (vN a2)), (10, (vN i)), (11, (vN (min ls.length (at_ + ((b.getD i 0) % (4 : UInt8)).toNat))))]) (fun a2 w' => (at_ ≤ a2 ∧ a2 ≤ (min ls.length (at_ + (b.getD i 0 % 4).toNat))) ∧ Own [] w w' [.blk q11 [(vU32 (hst (tk ls (min ls.length (at_ + (b.getD i 0 % 4).toNat)))).a), (vU32 (hst (tk ls (min ls.length (at_ + (b.getD i 0 % 4).toNat)))).b), (vU32 (hst (tk ls (min ls.length (at_ + (b.getD i 0 % 4).toNat)))).c), (vU32 (hst (tk ls (min ls.length (at_ + (b.getD i 0 % 4).toNat)))).d), (vU32 (hst (tk ls (min ls.length (at_ + (b.getD i 0 % 4).toNat)))).e), (vU32 (hst (tk ls (min ls.length (at_ + (b.getD i 0 % 4).toNat)))).f), (vU32 (hst (tk ls (min ls.length (at_ + (b.getD i 0 % 4).toNat)))).g), (vU32 (hst (tk ls (min ls.length (at_ + (b.getD i 0 % 4).toNat)))).h), v17, (vN (tk ls (min ls.length (at_ + (b.getD i 0 % 4).toNat))).length)] 76, .row v17 5 1 (hrest (tk ls (min ls.length (at_ + (b.getD i 0 % 4).toNat)))).length (List.map vU8 (hrest (tk ls (min ls.length (at_ + (b.getD i 0 % 4).toNat))))), .row v15 9 1 (0 + ((min ls.length (at_ + ((b.getD i 0) % (4 : UInt8)).toNat)) - at_)) (List.map str ([] ++ ((ls.drop at_).take ((min ls.length (at_ + ((b.getD i 0) % (4 : UInt8)).toNat)) - at_))))]) (fun a2 => (min ls.length (at_ + (b.getD i 0 % 4).toNat)) - a2) at_ ⟨⟨by omega, by omega⟩, H18⟩ ⟨rfl, rfl, rfl, rfl, rfl, rfl, rfl, trivial⟩ ?_
              rintro a2 w19 ⟨hinv, H19⟩
              show WC _ _ _ _ _ [(0, lv), (1, bv), (7, (ptr q11 0)), (8, (str (tk ls a2))), (9, (vN a2)), (10, (vN i)), (11, (vN (min ls.length (at_ + ((b.getD i 0) % (4 : UInt8)).toNat))))] _
              have hl2 := tk_len ls a2
              have hg2 := getD_mem hB a2
              refine WC.seq ?_
              refine WC.seq ?_
              refine WC.region ?_
              refine WL.op rfl rfl (op_move rfl ?_)
              refine WL.op rfl rfl (op_move rfl ?_)
              refine WL.op rfl rfl (op_lssN rfl rfl ?_)
              refine WL.nil ?_
              refine WQ.next ?_
              refine WC.cond rfl (fun (hb20 : (decide (a2 < (min ls.length (at_ + ((b.getD i 0) % (4 : UInt8)).toNat)))) = true) => ?_) (fun (hb20 : (decide (a2 < (min ls.length (at_ + ((b.getD i 0) % (4 : UInt8)).toNat)))) = false) => ?_)
              ·
                have hc20 := of_decide_eq_true hb20
                refine WC.skip ?_
                refine WQ.next ?_
                refine WC.seq ?_
                refine WC.block ?_
                refine WC.region ?_
                refine WL.op rfl rfl (op_move rfl ?_)
                refine WL.op rfl rfl (op_move rfl ?_)
                refine WL.op rfl rfl (op_move rfl ?_)
                refine WL.op rfl rfl (op_indexAddr1 Try.underlying44 Fa.I9 rfl (H19.arr hA) rfl (by omega) ?_)
                refine WL.op rfl rfl (op_load rfl ((H19.arr hA).at (get_map str [] (Arr.ltM (H19.arr hA) (by omega)))) Try.underlying9 rfl ?_)
                refine WL.op rfl rfl (op_addStr rfl rfl (by first | omega | (rw [List.length_append]; omega) | (simp; omega)) ?_)
                refine WL.op rfl rfl (op_assign rfl ?_)
                refine WL.nil ?_
                refine WQ.inNormal ?_
                refine WQ.next ?_
                refine WC.region ?_
                refine WL.op rfl rfl (op_move rfl ?_)
                refine WL.op rfl rfl (op_addN (b := 1) rfl rfl (by omega) ?_)
                refine WL.op rfl rfl (op_assign rfl ?_)
                refine WL.nil ?_
                exact WQ.round (a2 + 1) ⟨(by omega), H19⟩ ⟨rfl, rfl, rfl, (congrArg (fun x => some (str x)) (tk_succ (by omega))), rfl, rfl, rfl, trivial⟩ (by omega)
              ·
                have hc20 := of_decide_eq_false hb20
                have hk : a2 = (min ls.length (at_ + (b.getD i 0 % 4).toNat)) := by omega
                refine WC.exit ?_
                refine WQ.thenExit ?_
                refine WQ.thenExit ?_
                refine WQ.inHere ?_
                refine WQ.next ?_
                refine WC.seq ?_
                refine WC.region ?_
                refine WL.op rfl rfl (op_move rfl ?_)
                refine WL.op rfl rfl (op_callF Fa.C26 rfl ((hlen_ok q11 v17 (tk ls (min ls.length (at_ + (b.getD i 0 % 4).toNat))) _ _ (H19.part [0, 1] rfl rfl)).mono (fun e w21 hq => ?_)))
                obtain ⟨rfl, hq21⟩ := hq
                refine ⟨_, rfl, ?_⟩
                have H21 : Own [] w w21 [.blk q11 [(vU32 (hst (tk ls (min ls.length (at_ + (b.getD i 0 % 4).toNat)))).a), (vU32 (hst (tk ls (min ls.length (at_ + (b.getD i 0 % 4).toNat)))).b), (vU32 (hst (tk ls (min ls.length (at_ + (b.getD i 0 % 4).toNat)))).c), (vU32 (hst (tk ls (min ls.length (at_ + (b.getD i 0 % 4).toNat)))).d), (vU32 (hst (tk ls (min ls.length (at_ + (b.getD i 0 % 4).toNat)))).e), (vU32 (hst (tk ls (min ls.length (at_ + (b.getD i 0 % 4).toNat)))).f), (vU32 (hst (tk ls (min ls.length (at_ + (b.getD i 0 % 4).toNat)))).g), (vU32 (hst (tk ls (min ls.length (at_ + (b.getD i 0 % 4).toNat)))).h), v17, (vN (tk ls (min ls.length (at_ + (b.getD i 0 % 4).toNat))).length)] 76, .row v17 5 1 (hrest (tk ls (min ls.length (at_ + (b.getD i 0 % 4).toNat)))).length (List.map vU8 (hrest (tk ls (min ls.length (at_ + (b.getD i 0 % 4).toNat))))), .row v15 9 1 (0 + ((min ls.length (at_ + ((b.getD i 0) % (4 : UInt8)).toNat)) - at_)) (List.map str ([] ++ ((ls.drop at_).take ((min ls.length (at_ + ((b.getD i 0) % (4 : UInt8)).toNat)) - at_))))] := H19.splice [0, 1] [.blk q11 [(vU32 (hst (tk ls (min ls.length (at_ + (b.getD i 0 % 4).toNat)))).a), (vU32 (hst (tk ls (min ls.length (at_ + (b.getD i 0 % 4).toNat)))).b), (vU32 (hst (tk ls (min ls.length (at_ + (b.getD i 0 % 4).toNat)))).c), (vU32 (hst (tk ls (min ls.length (at_ + (b.getD i 0 % 4).toNat)))).d), (vU32 (hst (tk ls (min ls.length (at_ + (b.getD i 0 % 4).toNat)))).e), (vU32 (hst (tk ls (min ls.length (at_ + (b.getD i 0 % 4).toNat)))).f), (vU32 (hst (tk ls (min ls.length (at_ + (b.getD i 0 % 4).toNat)))).g), (vU32 (hst (tk ls (min ls.length (at_ + (b.getD i 0 % 4).toNat)))).h), v17, (vN (tk ls (min ls.length (at_ + (b.getD i 0 % 4).toNat))).length)] 76, .row v17 5 1 (hrest (tk ls (min ls.length (at_ + (b.getD i 0 % 4).toNat)))).length (List.map vU8 (hrest (tk ls (min ls.length (at_ + (b.getD i 0 % 4).toNat)))))] [] rfl rfl hq21 (Fits.solid True.intro (Fits.solid True.intro Fits.nil))
                refine WL.op rfl rfl (op_move rfl ?_)
                refine WL.op rfl rfl (op_lenStr Try.underlying9 rfl ?_)
                refine WL.op rfl rfl (op_neqN rfl rfl ?_)
                refine WL.op rfl rfl (op_move rfl ?_)
                refine WL.yes rfl rfl rfl (decide_eq_false (fun h => h (by rw [hk]))) rfl (op_move rfl ?_)
                refine WL.yes rfl rfl rfl (decide_eq_false (fun h => h (by rw [hk]))) rfl (op_remN (b := 3) rfl rfl (by omega) ?_)
                refine WL.yes rfl rfl rfl (decide_eq_false (fun h => h (by rw [hk]))) rfl (op_eqlN (b := 0) rfl rfl ?_)
                refine WL.yes rfl rfl rfl (decide_eq_false (fun h => h (by rw [hk]))) rfl (op_move rfl ?_)
                refine WL.split (t := 94) rfl (fun (hb22 : (decide ((i % 3) = 0)) = true) => ?_) (fun (hb22 : (decide ((i % 3) = 0)) = false) => ?_)
                ·
                  have hc22 := of_decide_eq_true hb22
                  refine WL.yes rfl rfl rfl hb22 rfl (op_move rfl ?_)
                  refine WL.yes rfl rfl rfl hb22 rfl (op_callF Fa.C27 rfl ((hsum_ok q11 v17 (tk ls (min ls.length (at_ + (b.getD i 0 % 4).toNat))) _ _ (H21.part [0, 1] rfl rfl) (by have := tk_len ls at_; first | omega | (have := tk_len ls (min ls.length (at_ + (b.getD i 0 % 4).toNat)); omega))).mono (fun e w23 hq => ?_)))
                  obtain ⟨rfl, hq23⟩ := hq
                  refine ⟨_, rfl, ?_⟩
                  have H23 : Own [] w w23 [.blk q11 [(vU32 (hst (tk ls (min ls.length (at_ + (b.getD i 0 % 4).toNat)))).a), (vU32 (hst (tk ls (min ls.length (at_ + (b.getD i 0 % 4).toNat)))).b), (vU32 (hst (tk ls (min ls.length (at_ + (b.getD i 0 % 4).toNat)))).c), (vU32 (hst (tk ls (min ls.length (at_ + (b.getD i 0 % 4).toNat)))).d), (vU32 (hst (tk ls (min ls.length (at_ + (b.getD i 0 % 4).toNat)))).e), (vU32 (hst (tk ls (min ls.length (at_ + (b.getD i 0 % 4).toNat)))).f), (vU32 (hst (tk ls (min ls.length (at_ + (b.getD i 0 % 4).toNat)))).g), (vU32 (hst (tk ls (min ls.length (at_ + (b.getD i 0 % 4).toNat)))).h), v17, (vN (tk ls (min ls.length (at_ + (b.getD i 0 % 4).toNat))).length)] 76, .row v17 5 1 (hrest (tk ls (min ls.length (at_ + (b.getD i 0 % 4).toNat)))).length (List.map vU8 (hrest (tk ls (min ls.length (at_ + (b.getD i 0 % 4).toNat))))), .row v15 9 1 (0 + ((min ls.length (at_ + ((b.getD i 0) % (4 : UInt8)).toNat)) - at_)) (List.map str ([] ++ ((ls.drop at_).take ((min ls.length (at_ + ((b.getD i 0) % (4 : UInt8)).toNat)) - at_))))] := H21.splice [0, 1] [.blk q11 [(vU32 (hst (tk ls (min ls.length (at_ + (b.getD i 0 % 4).toNat)))).a), (vU32 (hst (tk ls (min ls.length (at_ + (b.getD i 0 % 4).toNat)))).b), (vU32 (hst (tk ls (min ls.length (at_ + (b.getD i 0 % 4).toNat)))).c), (vU32 (hst (tk ls (min ls.length (at_ + (b.getD i 0 % 4).toNat)))).d), (vU32 (hst (tk ls (min ls.length (at_ + (b.getD i 0 % 4).toNat)))).e), (vU32 (hst (tk ls (min ls.length (at_ + (b.getD i 0 % 4).toNat)))).f), (vU32 (hst (tk ls (min ls.length (at_ + (b.getD i 0 % 4).toNat)))).g), (vU32 (hst (tk ls (min ls.length (at_ + (b.getD i 0 % 4).toNat)))).h), v17, (vN (tk ls (min ls.length (at_ + (b.getD i 0 % 4).toNat))).length)] 76, .row v17 5 1 (hrest (tk ls (min ls.length (at_ + (b.getD i 0 % 4).toNat)))).length (List.map vU8 (hrest (tk ls (min ls.length (at_ + (b.getD i 0 % 4).toNat)))))] [] rfl rfl hq23 (Fits.solid True.intro (Fits.solid True.intro Fits.nil))
                  refine WL.yes rfl rfl rfl hb22 rfl (op_move rfl ?_)
                  refine WL.yes rfl rfl rfl hb22 rfl (op_callF Fa.C21 rfl ((ssum_ok (tk ls a2) _ (by have := tk_len ls at_; first | omega | (have := tk_len ls (min ls.length (at_ + (b.getD i 0 % 4).toNat)); omega))).mono (fun e w24 hq => ?_)))
                  obtain ⟨rfl, hf24⟩ := hq
                  refine ⟨_, rfl, ?_⟩
                  have H24 := H23.fr' hf24
                  refine WL.yes rfl rfl rfl hb22 rfl (op_neqStr rfl rfl ?_)
                  refine WL.yes rfl rfl rfl (decide_eq_false (fun h => h (by rw [hk]))) rfl (op_pickT rfl hb22 rfl ?_)
                  refine WL.op rfl rfl (op_pickF rfl (decide_eq_false (fun h => h (by rw [hk]))) rfl ?_)
                  refine WL.nil ?_
                  refine WQ.next ?_
                  refine WC.no rfl (decide_eq_false (fun h => h (by rw [hk]))) ?_
                  refine WC.skip ?_
                  refine WQ.inNormal ?_
                  refine WQ.next ?_
                  refine WC.region ?_
                  refine WL.op rfl rfl (op_move rfl ?_)
                  refine WL.op rfl rfl (op_addN (b := 1) rfl rfl (by omega) ?_)
                  refine WL.op rfl rfl (op_assign rfl ?_)
                  refine WL.nil ?_
                  exact WQ.round (i + 1, a2, v17) ⟨⟨by omega, by omega⟩, (by have h := (show Own [] w w24 [.blk q11 [(vU32 (hst (tk ls (min ls.length (at_ + (b.getD i 0 % 4).toNat)))).a), (vU32 (hst (tk ls (min ls.length (at_ + (b.getD i 0 % 4).toNat)))).b), (vU32 (hst (tk ls (min ls.length (at_ + (b.getD i 0 % 4).toNat)))).c), (vU32 (hst (tk ls (min ls.length (at_ + (b.getD i 0 % 4).toNat)))).d), (vU32 (hst (tk ls (min ls.length (at_ + (b.getD i 0 % 4).toNat)))).e), (vU32 (hst (tk ls (min ls.length (at_ + (b.getD i 0 % 4).toNat)))).f), (vU32 (hst (tk ls (min ls.length (at_ + (b.getD i 0 % 4).toNat)))).g), (vU32 (hst (tk ls (min ls.length (at_ + (b.getD i 0 % 4).toNat)))).h), v17, (vN (tk ls (min ls.length (at_ + (b.getD i 0 % 4).toNat))).length)] 76, .row v17 5 1 (hrest (tk ls (min ls.length (at_ + (b.getD i 0 % 4).toNat)))).length (List.map vU8 (hrest (tk ls (min ls.length (at_ + (b.getD i 0 % 4).toNat)))))] from (H24.take 2)); rw [← hk] at h; exact h)⟩ ⟨rfl, rfl, rfl, rfl, rfl, rfl, trivial⟩ (by show b.length - (i + 1) < b.length - i; omega)
                ·
                  have hc22 := of_decide_eq_false hb22
                  refine WL.no rfl rfl rfl hb22 rfl ?_
                  refine WL.no rfl rfl rfl hb22 rfl ?_
                  refine WL.no rfl rfl rfl hb22 rfl ?_
                  refine WL.no rfl rfl rfl hb22 rfl ?_
                  refine WL.no rfl rfl rfl hb22 rfl ?_
                  refine WL.yes rfl rfl rfl (decide_eq_false (fun h => h (by rw [hk]))) rfl (op_pickF rfl hb22 rfl ?_)
                  refine WL.op rfl rfl (op_pickF rfl (decide_eq_false (fun h => h (by rw [hk]))) rfl ?_)
                  refine WL.nil ?_
                  refine WQ.next ?_
                  refine WC.no rfl rfl ?_
                  refine WC.skip ?_
                  refine WQ.inNormal ?_
                  refine WQ.next ?_
                  refine WC.region ?_
                  refine WL.op rfl rfl (op_move rfl ?_)
                  refine WL.op rfl rfl (op_addN (b := 1) rfl rfl (by omega) ?_)
                  refine WL.op rfl rfl (op_assign rfl ?_)
                  refine WL.nil ?_
                  exact WQ.round (i + 1, a2, v17) ⟨⟨by omega, by omega⟩, (by have h := (show Own [] w w21 [.blk q11 [(vU32 (hst (tk ls (min ls.length (at_ + (b.getD i 0 % 4).toNat)))).a), (vU32 (hst (tk ls (min ls.length (at_ + (b.getD i 0 % 4).toNat)))).b), (vU32 (hst (tk ls (min ls.length (at_ + (b.getD i 0 % 4).toNat)))).c), (vU32 (hst (tk ls (min ls.length (at_ + (b.getD i 0 % 4).toNat)))).d), (vU32 (hst (tk ls (min ls.length (at_ + (b.getD i 0 % 4).toNat)))).e), (vU32 (hst (tk ls (min ls.length (at_ + (b.getD i 0 % 4).toNat)))).f), (vU32 (hst (tk ls (min ls.length (at_ + (b.getD i 0 % 4).toNat)))).g), (vU32 (hst (tk ls (min ls.length (at_ + (b.getD i 0 % 4).toNat)))).h), v17, (vN (tk ls (min ls.length (at_ + (b.getD i 0 % 4).toNat))).length)] 76, .row v17 5 1 (hrest (tk ls (min ls.length (at_ + (b.getD i 0 % 4).toNat)))).length (List.map vU8 (hrest (tk ls (min ls.length (at_ + (b.getD i 0 % 4).toNat)))))] from (H21.take 2)); rw [← hk] at h; exact h)⟩ ⟨rfl, rfl, rfl, rfl, rfl, rfl, trivial⟩ (by show b.length - (i + 1) < b.length - i; omega)
            ·
              have hc14 := of_decide_eq_false hb14
              refine WC.exit ?_
              refine WQ.thenExit ?_
              refine WQ.thenExit ?_
              refine WQ.inHere ?_
              refine WQ.next ?_
              refine WC.seq ?_
              refine WC.region ?_
              refine WL.op rfl rfl (op_move rfl ?_)
              refine WL.op rfl rfl (op_callF Fa.C27 rfl ((hsum_ok q11 v (tk ls at_) _ _ (H12.part [0, 1] rfl rfl) (by have := tk_len ls at_; first | omega | (have := tk_len ls (min ls.length (at_ + (b.getD i 0 % 4).toNat)); omega))).mono (fun e w25 hq => ?_)))
              obtain ⟨rfl, hq25⟩ := hq
              refine ⟨_, rfl, ?_⟩
              have H25 : Own [] w w25 [.blk q11 [(vU32 (hst (tk ls at_)).a), (vU32 (hst (tk ls at_)).b), (vU32 (hst (tk ls at_)).c), (vU32 (hst (tk ls at_)).d), (vU32 (hst (tk ls at_)).e), (vU32 (hst (tk ls at_)).f), (vU32 (hst (tk ls at_)).g), (vU32 (hst (tk ls at_)).h), v, (vN (tk ls at_).length)] 76, .row v 5 1 (hrest (tk ls at_)).length (List.map vU8 (hrest (tk ls at_)))] := H12.splice [0, 1] [.blk q11 [(vU32 (hst (tk ls at_)).a), (vU32 (hst (tk ls at_)).b), (vU32 (hst (tk ls at_)).c), (vU32 (hst (tk ls at_)).d), (vU32 (hst (tk ls at_)).e), (vU32 (hst (tk ls at_)).f), (vU32 (hst (tk ls at_)).g), (vU32 (hst (tk ls at_)).h), v, (vN (tk ls at_).length)] 76, .row v 5 1 (hrest (tk ls at_)).length (List.map vU8 (hrest (tk ls at_)))] [] rfl rfl hq25 (Fits.solid True.intro (Fits.solid True.intro Fits.nil))
              refine WL.op rfl rfl (op_move rfl ?_)
              refine WL.op rfl rfl (op_callF Fa.C21 rfl ((ssum_ok (tk ls at_) _ (by have := tk_len ls at_; first | omega | (have := tk_len ls (min ls.length (at_ + (b.getD i 0 % 4).toNat)); omega))).mono (fun e w26 hq => ?_)))
              obtain ⟨rfl, hf26⟩ := hq
              refine ⟨_, rfl, ?_⟩
              have H26 := H25.fr' hf26
              refine WL.op rfl rfl (op_eqlStr rfl rfl ?_)
              refine WL.op rfl rfl (op_move rfl ?_)
              refine WL.yes rfl rfl rfl (decide_eq_true rfl) rfl (op_move rfl ?_)
              refine WL.yes rfl rfl rfl (decide_eq_true rfl) rfl (op_callF Fa.C27 rfl ((hsum_ok q11 v (tk ls at_) _ _ (H26.part [0, 1] rfl rfl) (by have := tk_len ls at_; first | omega | (have := tk_len ls (min ls.length (at_ + (b.getD i 0 % 4).toNat)); omega))).mono (fun e w27 hq => ?_)))
              obtain ⟨rfl, hq27⟩ := hq
              refine ⟨_, rfl, ?_⟩
              have H27 : Own [] w w27 [.blk q11 [(vU32 (hst (tk ls at_)).a), (vU32 (hst (tk ls at_)).b), (vU32 (hst (tk ls at_)).c), (vU32 (hst (tk ls at_)).d), (vU32 (hst (tk ls at_)).e), (vU32 (hst (tk ls at_)).f), (vU32 (hst (tk ls at_)).g), (vU32 (hst (tk ls at_)).h), v, (vN (tk ls at_).length)] 76, .row v 5 1 (hrest (tk ls at_)).length (List.map vU8 (hrest (tk ls at_)))] := H26.splice [0, 1] [.blk q11 [(vU32 (hst (tk ls at_)).a), (vU32 (hst (tk ls at_)).b), (vU32 (hst (tk ls at_)).c), (vU32 (hst (tk ls at_)).d), (vU32 (hst (tk ls at_)).e), (vU32 (hst (tk ls at_)).f), (vU32 (hst (tk ls at_)).g), (vU32 (hst (tk ls at_)).h), v, (vN (tk ls at_).length)] 76, .row v 5 1 (hrest (tk ls at_)).length (List.map vU8 (hrest (tk ls at_)))] [] rfl rfl hq27 (Fits.solid True.intro (Fits.solid True.intro Fits.nil))
              refine WL.yes rfl rfl rfl (decide_eq_true rfl) rfl (op_lenStr Try.underlying9 rfl ?_)
              refine WL.yes rfl rfl rfl (decide_eq_true rfl) rfl (op_eqlN (b := 32) rfl rfl ?_)
              refine WL.op rfl rfl (op_pickT rfl (decide_eq_true rfl) rfl ?_)
              refine WL.op rfl rfl (op_move rfl ?_)
              refine WL.yes rfl rfl rfl (decide_eq_true (sha_length _)) rfl (op_callF Fa.C23 rfl ((alive02_ok _).mono (fun e w28 hq => ?_)))
              obtain ⟨rfl, hf28⟩ := hq
              refine ⟨_, rfl, ?_⟩
              have H28 := H27.fr' hf28
              refine WL.op rfl rfl (op_pickT rfl (decide_eq_true (sha_length _)) rfl ?_)
              refine WL.op rfl rfl (op_assign rfl ?_)
              refine WL.nil ?_
              refine WQ.next ?_
              refine WC.ret ?_
              refine WQ.out (.tmp rfl .nil) ?_
              exact ⟨rfl, H28.fr⟩
          ·
            have hc13 := of_decide_eq_false hb13
            refine WL.no rfl rfl rfl hb13 rfl ?_
            refine WL.no rfl rfl rfl hb13 rfl ?_
            refine WL.no rfl rfl rfl hb13 rfl ?_
            refine WL.no rfl rfl rfl hb13 rfl ?_
            refine WL.op rfl rfl (op_pickF rfl hb13 rfl ?_)
            refine WL.nil ?_
            refine WQ.next ?_
            refine WC.no rfl rfl ?_
            refine WC.exit ?_
            refine WQ.thenExit ?_
            refine WQ.thenExit ?_
            refine WQ.inHere ?_
            refine WQ.next ?_
            refine WC.seq ?_
            refine WC.region ?_
            refine WL.op rfl rfl (op_move rfl ?_)
            refine WL.op rfl rfl (op_callF Fa.C27 rfl ((hsum_ok q11 v (tk ls at_) _ _ (H12.part [0, 1] rfl rfl) (by have := tk_len ls at_; first | omega | (have := tk_len ls (min ls.length (at_ + (b.getD i 0 % 4).toNat)); omega))).mono (fun e w29 hq => ?_)))
            obtain ⟨rfl, hq29⟩ := hq
            refine ⟨_, rfl, ?_⟩
            have H29 : Own [] w w29 [.blk q11 [(vU32 (hst (tk ls at_)).a), (vU32 (hst (tk ls at_)).b), (vU32 (hst (tk ls at_)).c), (vU32 (hst (tk ls at_)).d), (vU32 (hst (tk ls at_)).e), (vU32 (hst (tk ls at_)).f), (vU32 (hst (tk ls at_)).g), (vU32 (hst (tk ls at_)).h), v, (vN (tk ls at_).length)] 76, .row v 5 1 (hrest (tk ls at_)).length (List.map vU8 (hrest (tk ls at_)))] := H12.splice [0, 1] [.blk q11 [(vU32 (hst (tk ls at_)).a), (vU32 (hst (tk ls at_)).b), (vU32 (hst (tk ls at_)).c), (vU32 (hst (tk ls at_)).d), (vU32 (hst (tk ls at_)).e), (vU32 (hst (tk ls at_)).f), (vU32 (hst (tk ls at_)).g), (vU32 (hst (tk ls at_)).h), v, (vN (tk ls at_).length)] 76, .row v 5 1 (hrest (tk ls at_)).length (List.map vU8 (hrest (tk ls at_)))] [] rfl rfl hq29 (Fits.solid True.intro (Fits.solid True.intro Fits.nil))
            refine WL.op rfl rfl (op_move rfl ?_)
            refine WL.op rfl rfl (op_callF Fa.C21 rfl ((ssum_ok (tk ls at_) _ (by have := tk_len ls at_; first | omega | (have := tk_len ls (min ls.length (at_ + (b.getD i 0 % 4).toNat)); omega))).mono (fun e w30 hq => ?_)))
            obtain ⟨rfl, hf30⟩ := hq
            refine ⟨_, rfl, ?_⟩
            have H30 := H29.fr' hf30
            refine WL.op rfl rfl (op_eqlStr rfl rfl ?_)
            refine WL.op rfl rfl (op_move rfl ?_)
            refine WL.yes rfl rfl rfl (decide_eq_true rfl) rfl (op_move rfl ?_)
            refine WL.yes rfl rfl rfl (decide_eq_true rfl) rfl (op_callF Fa.C27 rfl ((hsum_ok q11 v (tk ls at_) _ _ (H30.part [0, 1] rfl rfl) (by have := tk_len ls at_; first | omega | (have := tk_len ls (min ls.length (at_ + (b.getD i 0 % 4).toNat)); omega))).mono (fun e w31 hq => ?_)))
            obtain ⟨rfl, hq31⟩ := hq
            refine ⟨_, rfl, ?_⟩
            have H31 : Own [] w w31 [.blk q11 [(vU32 (hst (tk ls at_)).a), (vU32 (hst (tk ls at_)).b), (vU32 (hst (tk ls at_)).c), (vU32 (hst (tk ls at_)).d), (vU32 (hst (tk ls at_)).e), (vU32 (hst (tk ls at_)).f), (vU32 (hst (tk ls at_)).g), (vU32 (hst (tk ls at_)).h), v, (vN (tk ls at_).length)] 76, .row v 5 1 (hrest (tk ls at_)).length (List.map vU8 (hrest (tk ls at_)))] := H30.splice [0, 1] [.blk q11 [(vU32 (hst (tk ls at_)).a), (vU32 (hst (tk ls at_)).b), (vU32 (hst (tk ls at_)).c), (vU32 (hst (tk ls at_)).d), (vU32 (hst (tk ls at_)).e), (vU32 (hst (tk ls at_)).f), (vU32 (hst (tk ls at_)).g), (vU32 (hst (tk ls at_)).h), v, (vN (tk ls at_).length)] 76, .row v 5 1 (hrest (tk ls at_)).length (List.map vU8 (hrest (tk ls at_)))] [] rfl rfl hq31 (Fits.solid True.intro (Fits.solid True.intro Fits.nil))
            refine WL.yes rfl rfl rfl (decide_eq_true rfl) rfl (op_lenStr Try.underlying9 rfl ?_)
            refine WL.yes rfl rfl rfl (decide_eq_true rfl) rfl (op_eqlN (b := 32) rfl rfl ?_)
            refine WL.op rfl rfl (op_pickT rfl (decide_eq_true rfl) rfl ?_)
            refine WL.op rfl rfl (op_move rfl ?_)
            refine WL.yes rfl rfl rfl (decide_eq_true (sha_length _)) rfl (op_callF Fa.C23 rfl ((alive02_ok _).mono (fun e w32 hq => ?_)))
            obtain ⟨rfl, hf32⟩ := hq
            refine ⟨_, rfl, ?_⟩
            have H32 := H31.fr' hf32
            refine WL.op rfl rfl (op_pickT rfl (decide_eq_true (sha_length _)) rfl ?_)
            refine WL.op rfl rfl (op_assign rfl ?_)
            refine WL.nil ?_
            refine WQ.next ?_
            refine WC.ret ?_
            refine WQ.out (.tmp rfl .nil) ?_
            exact ⟨rfl, H32.fr⟩
end Go.Proofs.Ytfdlkkhhakjgeaa
