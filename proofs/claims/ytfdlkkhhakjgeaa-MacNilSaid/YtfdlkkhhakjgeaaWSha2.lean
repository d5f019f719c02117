import Derived.Test.YtfdlkkhhakjgeaaWSha
namespace Go.Proofs.Ytfdlkkhhakjgeaa
open Go.Owl Go.Spec
set_option maxRecDepth 100000 in
theorem hlen_ok (q : Nat) (v : Value) (all : List UInt8) (w : World) (hQ : cellsAt w q [(vU32 (hst all).a), (vU32 (hst all).b), (vU32 (hst all).c), (vU32 (hst all).d), (vU32 (hst all).e), (vU32 (hst all).f), (vU32 (hst all).g), (vU32 (hst all).h), v, (vN all.length)]) (hV : Arr w v 1 (hrest all).length (List.map vU8 (hrest all))) :
    Calls Try.prog 26 #[(ptr q 0)] w (fun e w' => e = .returned (vN all.length) ∧ Fr [] w w') := by
  refine enter (args := [(ptr q 0)]) Try.func26 rfl rfl ?_
  have H0 : Own [] w w [Ent.bo q [(vU32 (hst all).a), (vU32 (hst all).b), (vU32 (hst all).c), (vU32 (hst all).d), (vU32 (hst all).e), (vU32 (hst all).f), (vU32 (hst all).g), (vU32 (hst all).h), v, (vN all.length)], Ent.ar v 1 (hrest all).length (List.map vU8 (hrest all))] := (((Own.start w []).oldB hQ).oldA hV)
  refine WC.seq ?_
  refine WC.region ?_
  refine WL.op rfl rfl (op_assign rfl ?_)
  refine WL.nil ?_
  refine WQ.next ?_
  refine WC.seq ?_
  refine WC.seq ?_
  refine WC.region ?_
  refine WL.op rfl rfl (op_move rfl ?_)
  refine WL.op rfl rfl (op_eqlPN Fa.PT45 rfl rfl ?_)
  refine WL.nil ?_
  refine WQ.next ?_
  refine WC.no rfl rfl ?_
  refine WC.skip ?_
  refine WQ.next ?_
  refine WC.seq ?_
  refine WC.region ?_
  refine WL.op rfl rfl (op_move rfl ?_)
  refine WL.op rfl rfl (op_nilCheck rfl ?_)
  refine WL.op rfl rfl (op_fieldAddr rfl Fa.F76_2 ?_)
  refine WL.op rfl rfl (op_load rfl (H0.cellO (i := 0) rfl rfl) Try.underlying3 rfl ?_)
  refine WL.op rfl rfl (op_assign rfl ?_)
  refine WL.nil ?_
  refine WQ.next ?_
  refine WC.ret ?_
  refine WQ.out (.tmp rfl .nil) ?_
  exact ⟨rfl, H0.fr⟩
set_option maxRecDepth 100000 in
theorem ssum_ok (s : List UInt8) (w : World) (hs : s.length < 2 ^ 40) :
    Calls Try.prog 21 #[(str s)] w (fun e w' => e = .returned (str (sha s)) ∧ Fr [] w w') := by
  refine enter (args := [(str s)]) Try.func21 rfl rfl ?_
  have H0 : Own [] w w [] := Own.start w []
  refine WC.seq ?_
  refine WC.region ?_
  refine WL.op rfl rfl (op_assign rfl ?_)
  refine WL.nil ?_
  refine WQ.next ?_
  refine WC.seq ?_
  refine WC.region ?_
  refine WL.op rfl rfl (op_callF Fa.C24 rfl ((new_ok _).mono (fun e w1 hq => ?_)))
  obtain ⟨q1, rfl, hq1⟩ := hq
  refine ⟨_, rfl, ?_⟩
  have H1 : Own [] w w1 [.blk q1 [(vU32 (hst ([] : List UInt8)).a), (vU32 (hst ([] : List UInt8)).b), (vU32 (hst ([] : List UInt8)).c), (vU32 (hst ([] : List UInt8)).d), (vU32 (hst ([] : List UInt8)).e), (vU32 (hst ([] : List UInt8)).f), (vU32 (hst ([] : List UInt8)).g), (vU32 (hst ([] : List UInt8)).h), (.slice none 0 0), (vN ([] : List UInt8).length)] 76, .row (.slice none 0 0) 5 1 (hrest ([] : List UInt8)).length (List.map vU8 (hrest ([] : List UInt8)))] := H0.splice [] [] [.blk q1 [(vU32 (hst ([] : List UInt8)).a), (vU32 (hst ([] : List UInt8)).b), (vU32 (hst ([] : List UInt8)).c), (vU32 (hst ([] : List UInt8)).d), (vU32 (hst ([] : List UInt8)).e), (vU32 (hst ([] : List UInt8)).f), (vU32 (hst ([] : List UInt8)).g), (vU32 (hst ([] : List UInt8)).h), (.slice none 0 0), (vN ([] : List UInt8).length)] 76, .row (.slice none 0 0) 5 1 (hrest ([] : List UInt8)).length (List.map vU8 (hrest ([] : List UInt8)))] rfl rfl hq1 (Fits.solid True.intro (Fits.solid True.intro Fits.nil))
  refine WL.op rfl rfl (op_assign rfl ?_)
  refine WL.nil ?_
  refine WQ.next ?_
  refine WC.seq ?_
  refine WC.region ?_
  refine WL.op rfl rfl (op_move rfl ?_)
  refine WL.op rfl rfl (op_move rfl ?_)
  refine WL.op rfl rfl (op_buildSlice (cs := [_]) H1 Try.underlying44 Fa.I9 rfl rfl rfl rfl (by decide) (by decide) (fun b2 w2 H2 => ?_))
  refine WL.op rfl rfl (op_callF Fa.C25 rfl ((write_ok q1 (.slice none 0 0) (.slice (some ⟨b2, 0, none⟩) 1 1) ([] : List UInt8) ([s]) _ _ (H2.part [0, 1] rfl rfl) (H2.stayR (I := [0, 1]) (k := 2) rfl rfl rfl) (by simpa using hs) (by simp)).mono (fun e w3 hq => ?_)))
  obtain ⟨v3, rfl, hq3⟩ := hq
  refine ⟨_, rfl, ?_⟩
  have H3 : Own [] w w3 [.blk q1 [(vU32 (hst (([] : List UInt8) ++ [s].flatten)).a), (vU32 (hst (([] : List UInt8) ++ [s].flatten)).b), (vU32 (hst (([] : List UInt8) ++ [s].flatten)).c), (vU32 (hst (([] : List UInt8) ++ [s].flatten)).d), (vU32 (hst (([] : List UInt8) ++ [s].flatten)).e), (vU32 (hst (([] : List UInt8) ++ [s].flatten)).f), (vU32 (hst (([] : List UInt8) ++ [s].flatten)).g), (vU32 (hst (([] : List UInt8) ++ [s].flatten)).h), v3, (vN (([] : List UInt8) ++ [s].flatten).length)] 76, .row v3 5 1 (hrest (([] : List UInt8) ++ [s].flatten)).length (List.map vU8 (hrest (([] : List UInt8) ++ [s].flatten))), .row (.slice (some ⟨b2, 0, none⟩) 1 1) 9 1 1 (List.map str [s])] := H2.splice [0, 1] [.blk q1 [(vU32 (hst (([] : List UInt8) ++ [s].flatten)).a), (vU32 (hst (([] : List UInt8) ++ [s].flatten)).b), (vU32 (hst (([] : List UInt8) ++ [s].flatten)).c), (vU32 (hst (([] : List UInt8) ++ [s].flatten)).d), (vU32 (hst (([] : List UInt8) ++ [s].flatten)).e), (vU32 (hst (([] : List UInt8) ++ [s].flatten)).f), (vU32 (hst (([] : List UInt8) ++ [s].flatten)).g), (vU32 (hst (([] : List UInt8) ++ [s].flatten)).h), v3, (vN (([] : List UInt8) ++ [s].flatten).length)] 76, .row v3 5 1 (hrest (([] : List UInt8) ++ [s].flatten)).length (List.map vU8 (hrest (([] : List UInt8) ++ [s].flatten)))] [] rfl rfl hq3 (Fits.solid True.intro (Fits.solid True.intro Fits.nil))
  refine WL.nil ?_
  refine WQ.next ?_
  refine WC.seq ?_
  refine WC.region ?_
  refine WL.op rfl rfl (op_move rfl ?_)
  refine WL.op rfl rfl (op_callF Fa.C27 rfl ((hsum_ok q1 v3 (([] : List UInt8) ++ [s].flatten) _ (H3.cellsAt (i := 0) rfl) (H3.arrR (i := 1) rfl) (by simpa using hs)).mono (fun e w4 hq => ?_)))
  obtain ⟨rfl, hf4⟩ := hq
  refine ⟨_, rfl, ?_⟩
  have H4 := H3.fr' hf4
  refine WL.op rfl rfl (op_assign rfl ?_)
  refine WL.nil ?_
  refine WQ.next ?_
  refine WC.ret ?_
  refine WQ.out (.tmp rfl .nil) ?_
  exact ⟨by simp [tup], H4.fr⟩
end Go.Proofs.Ytfdlkkhhakjgeaa
