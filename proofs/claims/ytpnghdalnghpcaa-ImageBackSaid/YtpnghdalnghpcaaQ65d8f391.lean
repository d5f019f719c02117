/- General lemmas and walks: WImg12, WImg13. No condition but what each theorem names. -/
import Derived.Test.YtpnghdalnghpcaaQ163c3f2f
import Derived.Test.YtpnghdalnghpcaaQc7846370
import Derived.Test.YtpnghdalnghpcaaQ6e05b63a
/-! from WImg12 -/
namespace Go.Proofs.Ytpnghdalnghpcaa
open Go.Owl Go.Spec
set_option maxRecDepth 100000 in
theorem one16l_ok (a e0 : UInt32) (w : World) :
    Calls Try.prog 80 #[(vU32 a), (vU32 e0)] w (fun e w' => ∃ v, e = .returned (.agg #[vU32 0, .slice none 0 0, .slice none 0 0, .bool false, vU32 e0, v]) ∧ Own [] w w' [.row v 111 3 [Sg.mk a 5 [49, 50, 51, 52, 53, 54, 55, 56]].length (List.flatMap sgc [Sg.mk a 5 [49, 50, 51, 52, 53, 54, 55, 56]])]) := by
  refine enter (args := [(vU32 a), (vU32 e0)]) Try.func80 rfl rfl ?_
  have H0 : Own [] w w [] := Own.start w []
  refine WC.seq ?_
  refine WC.region ?_
  refine WL.op rfl rfl (op_alloc H0 Fa.I59 (fun b1 w1 H1 => ?_))
  refine WL.nil ?_
  refine WQ.next ?_
  refine WC.seq ?_
  refine WC.region ?_
  refine WL.op rfl rfl (op_move rfl ?_)
  refine WL.op rfl rfl (op_move rfl ?_)
  refine WL.op rfl rfl (op_build (cs := [_, _, _]) Fa.I111 Fa.PL111 rfl rfl ?_)
  refine WL.op rfl rfl (op_buildSlice (cs := [_, _, _]) H1 Try.underlying57 Fa.I111 rfl rfl rfl rfl (by decide) (by decide) (fun b2 w2 H2 => ?_))
  refine WL.op rfl rfl (op_build (cs := [_, _, _, _, _, _]) Fa.I59 Fa.PL59 rfl rfl ?_)
  refine WL.op rfl rfl (op_storeBW (i := 0) H2 rfl rfl rfl rfl (one_cons rfl (one_cons rfl (one_cons rfl (one_cons rfl (one_cons rfl (one_cons (Arr.one (H2.arrR (i := 1) rfl)) one_nil)))))) Fa.I59 (fun w3 H3 => ?_))
  refine WL.nil ?_
  refine WQ.next ?_
  refine WC.ret ?_
  refine WQ.out (.cell rfl (run_loadVarS (vs := [_, _, _, _, _, _]) (H3.cells (i := 0) rfl rfl) Try.underlying59 rfl Fa.I59 rfl) .nil) ?_
  exact ⟨_, rfl, H3.sel [1] rfl rfl⟩
set_option maxRecDepth 100000 in
theorem alive16_ok  (w : World) :
    Calls Try.prog 38 #[] w (fun e w' => e = .returned (.bool true) ∧ Fr [] w w') := by
  refine enter (args := []) Try.func38 rfl rfl ?_
  have H0 : Own [] w w [] := Own.start w []
  refine WC.seq ?_
  refine WC.region ?_
  refine WL.op rfl rfl (op_assign rfl ?_)
  refine WL.nil ?_
  refine WQ.next ?_
  refine WC.seq ?_
  refine WC.region ?_
  refine WL.op rfl rfl (op_callF Fa.C80 rfl ((one16l_ok 256 256 _).mono (fun e w1 hq => ?_)))
  obtain ⟨v1, rfl, hq1⟩ := hq
  refine ⟨_, rfl, ?_⟩
  have H1 : Own [] w w1 [.row v1 111 3 [Sg.mk 256 5 [49, 50, 51, 52, 53, 54, 55, 56]].length (List.flatMap sgc [Sg.mk 256 5 [49, 50, 51, 52, 53, 54, 55, 56]])] := H0.splice [] [] [.row v1 111 3 [Sg.mk 256 5 [49, 50, 51, 52, 53, 54, 55, 56]].length (List.flatMap sgc [Sg.mk 256 5 [49, 50, 51, 52, 53, 54, 55, 56]])] rfl rfl hq1 (Fits.solid True.intro Fits.nil)
  refine WL.op rfl rfl (op_callF Fa.C41 rfl ((iput_ok 0 _ _ _ [] [] false 256 ([Sg.mk 256 5 [49, 50, 51, 52, 53, 54, 55, 56]]) _ (Arr.nil _ _) (Arr.nil _ _) (H1.arrR (i := 0) rfl) (by decide) (by decide) (by decide) (by decide)).mono (fun e w2 hq => ?_)))
  obtain ⟨rfl, hf2⟩ := hq
  refine ⟨_, rfl, ?_⟩
  have H2 := H1.fr' hf2
  refine WL.op rfl rfl (op_move rfl ?_)
  refine WL.op rfl rfl (op_extract rfl rfl ?_)
  refine WL.op rfl rfl (op_extract rfl rfl ?_)
  refine WL.op rfl rfl (op_assign rfl ?_)
  refine WL.op rfl rfl (op_assign rfl ?_)
  refine WL.nil ?_
  refine WQ.next ?_
  refine WC.seq ?_
  refine WC.region ?_
  refine WL.op rfl rfl (op_move rfl ?_)
  refine WL.op rfl rfl (op_callF Fa.C49 rfl ((iget_ok (imB 0 [] [] false 256 ([Sg.mk 256 5 [49, 50, 51, 52, 53, 54, 55, 56]])) _ (by decide +kernel)).mono (fun e w3 hq => ?_)))
  obtain ⟨v3, u3, q3, rfl, hq3⟩ := hq
  refine ⟨_, rfl, ?_⟩
  have H3 : Own [] w w3 [.row v1 111 3 [Sg.mk 256 5 [49, 50, 51, 52, 53, 54, 55, 56]].length (List.flatMap sgc [Sg.mk 256 5 [49, 50, 51, 52, 53, 54, 55, 56]]), .row v3 130 2 (imG (imB 0 [] [] false 256 ([Sg.mk 256 5 [49, 50, 51, 52, 53, 54, 55, 56]]))).xs.length (List.flatMap xtc (imG (imB 0 [] [] false 256 ([Sg.mk 256 5 [49, 50, 51, 52, 53, 54, 55, 56]]))).xs), .row u3 92 1 (imG (imB 0 [] [] false 256 ([Sg.mk 256 5 [49, 50, 51, 52, 53, 54, 55, 56]]))).ps.length (List.map vU16 (imG (imB 0 [] [] false 256 ([Sg.mk 256 5 [49, 50, 51, 52, 53, 54, 55, 56]]))).ps), .row q3 111 3 (imG (imB 0 [] [] false 256 ([Sg.mk 256 5 [49, 50, 51, 52, 53, 54, 55, 56]]))).sg.length (List.flatMap sgc (imG (imB 0 [] [] false 256 ([Sg.mk 256 5 [49, 50, 51, 52, 53, 54, 55, 56]]))).sg)] := H2.splice [] [] [.row v3 130 2 (imG (imB 0 [] [] false 256 ([Sg.mk 256 5 [49, 50, 51, 52, 53, 54, 55, 56]]))).xs.length (List.flatMap xtc (imG (imB 0 [] [] false 256 ([Sg.mk 256 5 [49, 50, 51, 52, 53, 54, 55, 56]]))).xs), .row u3 92 1 (imG (imB 0 [] [] false 256 ([Sg.mk 256 5 [49, 50, 51, 52, 53, 54, 55, 56]]))).ps.length (List.map vU16 (imG (imB 0 [] [] false 256 ([Sg.mk 256 5 [49, 50, 51, 52, 53, 54, 55, 56]]))).ps), .row q3 111 3 (imG (imB 0 [] [] false 256 ([Sg.mk 256 5 [49, 50, 51, 52, 53, 54, 55, 56]]))).sg.length (List.flatMap sgc (imG (imB 0 [] [] false 256 ([Sg.mk 256 5 [49, 50, 51, 52, 53, 54, 55, 56]]))).sg)] rfl rfl hq3 (Fits.solid True.intro (Fits.solid True.intro (Fits.solid True.intro Fits.nil)))
  refine WL.op rfl rfl (op_move rfl ?_)
  refine WL.op rfl rfl (op_extract rfl rfl ?_)
  refine WL.op rfl rfl (op_extract rfl rfl ?_)
  refine WL.op rfl rfl (op_alloc H3 Fa.I59 (fun b4 w4 H4 => ?_))
  refine WL.op rfl rfl (op_storeBW (i := 4) H4 rfl rfl rfl rfl (one_cons rfl (one_cons (Arr.one (H4.arrR (i := 1) rfl)) (one_cons (Arr.one (H4.arrR (i := 2) rfl)) (one_cons rfl (one_cons rfl (one_cons (Arr.one (H4.arrR (i := 3) rfl)) one_nil)))))) Fa.I59 (fun w5 H5 => ?_))
  refine WL.op rfl rfl (op_assign rfl ?_)
  refine WL.nil ?_
  refine WQ.next ?_
  refine WC.seq ?_
  refine WC.region ?_
  refine WL.op rfl rfl (op_move rfl ?_)
  refine WL.op rfl rfl (op_addStr rfl rfl (by decide +kernel) ?_)
  refine WL.op rfl rfl (op_callF Fa.C49 rfl ((iget_ok ((imB 0 [] [] false 256 ([Sg.mk 256 5 [49, 50, 51, 52, 53, 54, 55, 56]])) ++ [120]) _ (by decide +kernel)).mono (fun e w6 hq => ?_)))
  obtain ⟨v6, u6, q6, rfl, hq6⟩ := hq
  refine ⟨_, rfl, ?_⟩
  have H6 : Own [] w w6 [.row v1 111 3 [Sg.mk 256 5 [49, 50, 51, 52, 53, 54, 55, 56]].length (List.flatMap sgc [Sg.mk 256 5 [49, 50, 51, 52, 53, 54, 55, 56]]), .row v3 130 2 (imG (imB 0 [] [] false 256 ([Sg.mk 256 5 [49, 50, 51, 52, 53, 54, 55, 56]]))).xs.length (List.flatMap xtc (imG (imB 0 [] [] false 256 ([Sg.mk 256 5 [49, 50, 51, 52, 53, 54, 55, 56]]))).xs), .row u3 92 1 (imG (imB 0 [] [] false 256 ([Sg.mk 256 5 [49, 50, 51, 52, 53, 54, 55, 56]]))).ps.length (List.map vU16 (imG (imB 0 [] [] false 256 ([Sg.mk 256 5 [49, 50, 51, 52, 53, 54, 55, 56]]))).ps), .row q3 111 3 (imG (imB 0 [] [] false 256 ([Sg.mk 256 5 [49, 50, 51, 52, 53, 54, 55, 56]]))).sg.length (List.flatMap sgc (imG (imB 0 [] [] false 256 ([Sg.mk 256 5 [49, 50, 51, 52, 53, 54, 55, 56]]))).sg), .blk b4 [(vU32 (imG (imB 0 [] [] false 256 ([Sg.mk 256 5 [49, 50, 51, 52, 53, 54, 55, 56]]))).pg), v3, u3, (.bool (imG (imB 0 [] [] false 256 ([Sg.mk 256 5 [49, 50, 51, 52, 53, 54, 55, 56]]))).c), (vU32 (imG (imB 0 [] [] false 256 ([Sg.mk 256 5 [49, 50, 51, 52, 53, 54, 55, 56]]))).en), q3] 59, .row v6 130 2 (imG ((imB 0 [] [] false 256 ([Sg.mk 256 5 [49, 50, 51, 52, 53, 54, 55, 56]])) ++ [120])).xs.length (List.flatMap xtc (imG ((imB 0 [] [] false 256 ([Sg.mk 256 5 [49, 50, 51, 52, 53, 54, 55, 56]])) ++ [120])).xs), .row u6 92 1 (imG ((imB 0 [] [] false 256 ([Sg.mk 256 5 [49, 50, 51, 52, 53, 54, 55, 56]])) ++ [120])).ps.length (List.map vU16 (imG ((imB 0 [] [] false 256 ([Sg.mk 256 5 [49, 50, 51, 52, 53, 54, 55, 56]])) ++ [120])).ps), .row q6 111 3 (imG ((imB 0 [] [] false 256 ([Sg.mk 256 5 [49, 50, 51, 52, 53, 54, 55, 56]])) ++ [120])).sg.length (List.flatMap sgc (imG ((imB 0 [] [] false 256 ([Sg.mk 256 5 [49, 50, 51, 52, 53, 54, 55, 56]])) ++ [120])).sg)] := H5.splice [] [] [.row v6 130 2 (imG ((imB 0 [] [] false 256 ([Sg.mk 256 5 [49, 50, 51, 52, 53, 54, 55, 56]])) ++ [120])).xs.length (List.flatMap xtc (imG ((imB 0 [] [] false 256 ([Sg.mk 256 5 [49, 50, 51, 52, 53, 54, 55, 56]])) ++ [120])).xs), .row u6 92 1 (imG ((imB 0 [] [] false 256 ([Sg.mk 256 5 [49, 50, 51, 52, 53, 54, 55, 56]])) ++ [120])).ps.length (List.map vU16 (imG ((imB 0 [] [] false 256 ([Sg.mk 256 5 [49, 50, 51, 52, 53, 54, 55, 56]])) ++ [120])).ps), .row q6 111 3 (imG ((imB 0 [] [] false 256 ([Sg.mk 256 5 [49, 50, 51, 52, 53, 54, 55, 56]])) ++ [120])).sg.length (List.flatMap sgc (imG ((imB 0 [] [] false 256 ([Sg.mk 256 5 [49, 50, 51, 52, 53, 54, 55, 56]])) ++ [120])).sg)] rfl rfl hq6 (Fits.solid True.intro (Fits.solid True.intro (Fits.solid True.intro Fits.nil)))
  refine WL.op rfl rfl (op_move rfl ?_)
  refine WL.op rfl rfl (op_extract rfl rfl ?_)
  refine WL.op rfl rfl (op_extract rfl rfl ?_)
  refine WL.op rfl rfl (op_alloc H6 Fa.I59 (fun b7 w7 H7 => ?_))
  refine WL.op rfl rfl (op_storeBW (i := 8) H7 rfl rfl rfl rfl (one_cons rfl (one_cons (Arr.one (H7.arrR (i := 5) rfl)) (one_cons (Arr.one (H7.arrR (i := 6) rfl)) (one_cons rfl (one_cons rfl (one_cons (Arr.one (H7.arrR (i := 7) rfl)) one_nil)))))) Fa.I59 (fun w8 H8 => ?_))
  refine WL.op rfl rfl (op_assign rfl ?_)
  refine WL.nil ?_
  refine WQ.next ?_
  refine WC.seq ?_
  refine WC.draw 37 Fa.M H8 (HW.op rfl (fun w1 H1 => op_move rfl ⟨rfl, Fr.refl _ _⟩) (HW.op rfl (fun w1 H1 => op_eqlN (b := 0) rfl rfl ⟨rfl, Fr.refl _ _⟩) (HW.op rfl (fun w1 H1 => op_move rfl ⟨rfl, Fr.refl _ _⟩) (HW.yes rfl rfl rfl (by kernel_rfl) (fun w1 H1 => op_move rfl ⟨rfl, Fr.refl _ _⟩) (HW.yes rfl rfl rfl (by kernel_rfl) (fun w1 H1 => op_eqlN (b := 0) rfl rfl ⟨rfl, Fr.refl _ _⟩) (HW.op rfl (fun w1 H1 => op_pickT rfl (by kernel_rfl) rfl ⟨rfl, Fr.refl _ _⟩) (HW.op rfl (fun w1 H1 => op_move rfl ⟨rfl, Fr.refl _ _⟩) (HW.yes rfl rfl rfl (by kernel_rfl) (fun w1 H1 => op_loadS (vs := [_, _, _, _, _, _]) rfl (H1.cells (i := 4) rfl rfl) Try.underlying59 rfl Fa.I59 rfl ⟨rfl, Fr.refl _ _⟩) (HW.fltY (mk := fun bq => (.agg #[(vU32 0), (.slice none 0 0), (.slice none 0 0), (.bool false), (vU32 256), bq.2])) (ent := fun bq => .row bq.2 111 3 [Sg.mk 256 5 [49, 50, 51, 52, 53, 54, 55, 56]].length (List.flatMap sgc [Sg.mk 256 5 [49, 50, 51, 52, 53, 54, 55, 56]])) rfl rfl rfl (by kernel_rfl) (fun w1 H1 => op_callF Fa.C80 rfl ((one16l_ok 256 256 _).mono (fun e w2 ⟨v, he, hO⟩ => ⟨_, he, (0, v), rfl, hO, True.intro⟩))) (HW.opFsY 0 rfl rfl rfl (fun _ => rfl) (by kernel_rfl) (fun bq w1 H1 => op_callF Fa.C43 rfl ((risame_ok ((imG (imB 0 [] [] false 256 ([Sg.mk 256 5 [49, 50, 51, 52, 53, 54, 55, 56]]))).pg) ((imG (imB 0 [] [] false 256 ([Sg.mk 256 5 [49, 50, 51, 52, 53, 54, 55, 56]]))).c) _ _ _ ((imG (imB 0 [] [] false 256 ([Sg.mk 256 5 [49, 50, 51, 52, 53, 54, 55, 56]]))).xs) ((imG (imB 0 [] [] false 256 ([Sg.mk 256 5 [49, 50, 51, 52, 53, 54, 55, 56]]))).ps) ((imG (imB 0 [] [] false 256 ([Sg.mk 256 5 [49, 50, 51, 52, 53, 54, 55, 56]]))).en) ((imG (imB 0 [] [] false 256 ([Sg.mk 256 5 [49, 50, 51, 52, 53, 54, 55, 56]]))).sg) 0 false _ _ _ [] [] 256 ([Sg.mk 256 5 [49, 50, 51, 52, 53, 54, 55, 56]]) _ (H1.arrR (i := 1) rfl) (H1.arrR (i := 2) rfl) (H1.arrR (i := 3) rfl) (Arr.nil _ _) (Arr.nil _ _) (H1.arrR (i := 9) rfl) (xlt _) (plt _) (slt _)).mono (fun e w2 hq => ⟨_, hq.1, rfl, hq.2⟩))) (HW.op rfl (fun w1 H1 => op_pickT rfl (by kernel_rfl) rfl ⟨rfl, Fr.refl _ _⟩) (HW.op rfl (fun w1 H1 => op_move rfl ⟨rfl, Fr.refl _ _⟩) (HW.yes rfl rfl rfl (by kernel_rfl) (fun w1 H1 => op_move rfl ⟨rfl, Fr.refl _ _⟩) (HW.yes rfl rfl rfl (by kernel_rfl) (fun w1 H1 => op_eqlN (b := 7) rfl rfl ⟨rfl, Fr.refl _ _⟩) (HW.op rfl (fun w1 H1 => op_pickT rfl (by kernel_rfl) rfl ⟨rfl, Fr.refl _ _⟩) (HW.op rfl (fun w1 H1 => op_move rfl ⟨rfl, Fr.refl _ _⟩) (HW.fltY (mk := fun bq => (.agg #[(vU32 0), (.slice none 0 0), (.slice none 0 0), (.bool false), (vU32 260), bq.2])) (ent := fun bq => .row bq.2 111 3 [Sg.mk 256 5 [49, 50, 51, 52, 53, 54, 55, 56]].length (List.flatMap sgc [Sg.mk 256 5 [49, 50, 51, 52, 53, 54, 55, 56]])) rfl rfl rfl (by kernel_rfl) (fun w1 H1 => op_callF Fa.C80 rfl ((one16l_ok 256 260 _).mono (fun e w2 ⟨v, he, hO⟩ => ⟨_, he, (0, v), rfl, hO, True.intro⟩))) (HW.opFsY 0 rfl rfl rfl (fun _ => rfl) (by kernel_rfl) (fun bq w1 H1 => op_callF Fa.C40 rfl ((icheck_ok 0 _ _ _ [] [] false 260 ([Sg.mk 256 5 [49, 50, 51, 52, 53, 54, 55, 56]]) _ (Arr.nil _ _) (Arr.nil _ _) (H1.arrR (i := 9) rfl) (by decide) (by decide) (by decide)).mono (fun e w2 hq => ⟨_, hq.1, rfl, hq.2⟩))) (HW.yes rfl rfl rfl (by kernel_rfl) (fun w1 H1 => op_eqlN (b := 2) rfl rfl ⟨rfl, Fr.refl _ _⟩) (HW.op rfl (fun w1 H1 => op_pickT rfl (by kernel_rfl) rfl ⟨rfl, Fr.refl _ _⟩) (HW.op rfl (fun w1 H1 => op_move rfl ⟨rfl, Fr.refl _ _⟩) (HW.fltY (mk := fun bq => (.agg #[(vU32 0), (.slice none 0 0), (.slice none 0 0), (.bool false), (vU32 257), bq.2])) (ent := fun bq => .row bq.2 111 3 [Sg.mk 257 5 [49, 50, 51, 52, 53, 54, 55, 56]].length (List.flatMap sgc [Sg.mk 257 5 [49, 50, 51, 52, 53, 54, 55, 56]])) rfl rfl rfl (by kernel_rfl) (fun w1 H1 => op_callF Fa.C80 rfl ((one16l_ok 257 257 _).mono (fun e w2 ⟨v, he, hO⟩ => ⟨_, he, (0, v), rfl, hO, True.intro⟩))) (HW.opFsY 0 rfl rfl rfl (fun _ => rfl) (by kernel_rfl) (fun bq w1 H1 => op_callF Fa.C40 rfl ((icheck_ok 0 _ _ _ [] [] false 257 ([Sg.mk 257 5 [49, 50, 51, 52, 53, 54, 55, 56]]) _ (Arr.nil _ _) (Arr.nil _ _) (H1.arrR (i := 9) rfl) (by decide) (by decide) (by decide)).mono (fun e w2 hq => ⟨_, hq.1, rfl, hq.2⟩))) (HW.yes rfl rfl rfl (by kernel_rfl) (fun w1 H1 => op_eqlN (b := 2) rfl rfl ⟨rfl, Fr.refl _ _⟩) (HW.op rfl (fun w1 H1 => op_pickT rfl (by kernel_rfl) rfl ⟨rfl, Fr.refl _ _⟩) (HW.op rfl (fun w1 H1 => op_move rfl ⟨rfl, Fr.refl _ _⟩) (HW.fltY (mk := fun bq => (.agg #[(vU32 0), (.slice none 0 0), (.slice none 0 0), (.bool false), (vU32 0), bq.2])) (ent := fun bq => .row bq.2 111 3 [Sg.mk 0 5 [49, 50, 51, 52, 53, 54, 55, 56]].length (List.flatMap sgc [Sg.mk 0 5 [49, 50, 51, 52, 53, 54, 55, 56]])) rfl rfl rfl (by kernel_rfl) (fun w1 H1 => op_callF Fa.C80 rfl ((one16l_ok 0 0 _).mono (fun e w2 ⟨v, he, hO⟩ => ⟨_, he, (0, v), rfl, hO, True.intro⟩))) (HW.opFsY 0 rfl rfl rfl (fun _ => rfl) (by kernel_rfl) (fun bq w1 H1 => op_callF Fa.C40 rfl ((icheck_ok 0 _ _ _ [] [] false 0 ([Sg.mk 0 5 [49, 50, 51, 52, 53, 54, 55, 56]]) _ (Arr.nil _ _) (Arr.nil _ _) (H1.arrR (i := 9) rfl) (by decide) (by decide) (by decide)).mono (fun e w2 hq => ⟨_, hq.1, rfl, hq.2⟩))) (HW.yes rfl rfl rfl (by kernel_rfl) (fun w1 H1 => op_eqlN (b := 2) rfl rfl ⟨rfl, Fr.refl _ _⟩) (HW.op rfl (fun w1 H1 => op_pickT rfl (by kernel_rfl) rfl ⟨rfl, Fr.refl _ _⟩) (HW.op rfl (fun w1 H1 => op_move rfl ⟨rfl, Fr.refl _ _⟩) (HW.yes rfl rfl rfl (by kernel_rfl) (fun w1 H1 => op_loadS (vs := [_, _, _, _, _, _]) rfl (H1.cells (i := 4) rfl rfl) Try.underlying59 rfl Fa.I59 rfl ⟨rfl, Fr.refl _ _⟩) (HW.fltY (mk := fun bq => bq.2) (ent := fun bq => .row bq.2 22 1 (if imE ((imG (imB 0 [] [] false 256 ([Sg.mk 256 5 [49, 50, 51, 52, 53, 54, 55, 56]]))).pg) ((imG (imB 0 [] [] false 256 ([Sg.mk 256 5 [49, 50, 51, 52, 53, 54, 55, 56]]))).xs) ((imG (imB 0 [] [] false 256 ([Sg.mk 256 5 [49, 50, 51, 52, 53, 54, 55, 56]]))).ps) ((imG (imB 0 [] [] false 256 ([Sg.mk 256 5 [49, 50, 51, 52, 53, 54, 55, 56]]))).en) ((imG (imB 0 [] [] false 256 ([Sg.mk 256 5 [49, 50, 51, 52, 53, 54, 55, 56]]))).sg) = 0 then pagesTo ((imG (imB 0 [] [] false 256 ([Sg.mk 256 5 [49, 50, 51, 52, 53, 54, 55, 56]]))).sg) ((imG (imB 0 [] [] false 256 ([Sg.mk 256 5 [49, 50, 51, 52, 53, 54, 55, 56]]))).sg).length else []).length (List.map vU32 (if imE ((imG (imB 0 [] [] false 256 ([Sg.mk 256 5 [49, 50, 51, 52, 53, 54, 55, 56]]))).pg) ((imG (imB 0 [] [] false 256 ([Sg.mk 256 5 [49, 50, 51, 52, 53, 54, 55, 56]]))).xs) ((imG (imB 0 [] [] false 256 ([Sg.mk 256 5 [49, 50, 51, 52, 53, 54, 55, 56]]))).ps) ((imG (imB 0 [] [] false 256 ([Sg.mk 256 5 [49, 50, 51, 52, 53, 54, 55, 56]]))).en) ((imG (imB 0 [] [] false 256 ([Sg.mk 256 5 [49, 50, 51, 52, 53, 54, 55, 56]]))).sg) = 0 then pagesTo ((imG (imB 0 [] [] false 256 ([Sg.mk 256 5 [49, 50, 51, 52, 53, 54, 55, 56]]))).sg) ((imG (imB 0 [] [] false 256 ([Sg.mk 256 5 [49, 50, 51, 52, 53, 54, 55, 56]]))).sg).length else []))) rfl rfl rfl (by kernel_rfl) (fun w1 H1 => op_callF Fa.C42 rfl ((ipgs_ok ((imG (imB 0 [] [] false 256 ([Sg.mk 256 5 [49, 50, 51, 52, 53, 54, 55, 56]]))).pg) _ _ _ ((imG (imB 0 [] [] false 256 ([Sg.mk 256 5 [49, 50, 51, 52, 53, 54, 55, 56]]))).xs) ((imG (imB 0 [] [] false 256 ([Sg.mk 256 5 [49, 50, 51, 52, 53, 54, 55, 56]]))).ps) ((imG (imB 0 [] [] false 256 ([Sg.mk 256 5 [49, 50, 51, 52, 53, 54, 55, 56]]))).c) ((imG (imB 0 [] [] false 256 ([Sg.mk 256 5 [49, 50, 51, 52, 53, 54, 55, 56]]))).en) ((imG (imB 0 [] [] false 256 ([Sg.mk 256 5 [49, 50, 51, 52, 53, 54, 55, 56]]))).sg) _ (H1.arrR (i := 1) rfl) (H1.arrR (i := 2) rfl) (H1.arrR (i := 3) rfl) (xlt _) (plt _) (slt _) (get_bounds (by decide +kernel) (by decide +kernel)).2.2.2 (Nat.le_trans (get_bounds (by decide +kernel) (by decide +kernel)).2.2.1 (by decide))).mono (fun e w2 ⟨v, he, hO⟩ => ⟨_, he, (0, v), rfl, hO, True.intro⟩))) (HW.opFsY 0 rfl rfl rfl (fun _ => rfl) (by kernel_rfl) (fun bq w1 H1 => op_lenA Try.underlying64 rfl (H1.arrR (i := 9) rfl) ⟨rfl, Fr.refl _ _⟩) (HW.yes rfl rfl rfl (by kernel_rfl) (fun w1 H1 => op_eqlN (b := 1) rfl rfl ⟨rfl, Fr.refl _ _⟩) (HW.op rfl (fun w1 H1 => op_pickT rfl (by kernel_rfl) rfl ⟨rfl, Fr.refl _ _⟩) (HW.op rfl (fun w1 H1 => op_assign rfl ⟨rfl, Fr.refl _ _⟩)  HW.nil))))))))))))))))))))))))))))))))))))) (by kernel_rfl) ?_
  intro β18 w18 H18
  refine WL.nil ?_
  refine WQ.next ?_
  refine WC.ret ?_
  refine WQ.out (.tmp rfl .nil) ?_
  exact ⟨rfl, H18.fr⟩
end Go.Proofs.Ytpnghdalnghpcaa
/-! from WImg13 -/
namespace Go.Proofs.Ytpnghdalnghpcaa
open Go.Owl Go.Spec
set_option maxHeartbeats 2000000 in
set_option maxRecDepth 100000 in
theorem imageBack_ok (pg : UInt32) (c : Bool) (ev pv sv : Value) (xs : List Xt) (ps : List UInt16) (en : UInt32) (sg : List Sg) (pg' : UInt32) (c' : Bool) (ev' pv' sv' : Value) (xs' : List Xt) (ps' : List UInt16) (en' : UInt32) (sg' : List Sg) (s : List UInt8) (w : World) (hE : Arr w ev 2 xs.length (List.flatMap xtc xs)) (hP : Arr w pv 1 ps.length (List.map vU16 ps)) (hS : Arr w sv 3 sg.length (List.flatMap sgc sg)) (hF : Arr w ev' 2 xs'.length (List.flatMap xtc xs')) (hQ : Arr w pv' 1 ps'.length (List.map vU16 ps')) (hR : Arr w sv' 3 sg'.length (List.flatMap sgc sg')) (hn : xs.length < 2 ^ 47) (hm : ps.length < 2 ^ 47) (hk : sg.length < 2 ^ 47) (hn' : xs'.length < 2 ^ 47) (hm' : ps'.length < 2 ^ 47) (hk' : sg'.length < 2 ^ 47) (hB : ∀ x ∈ sg, x.b.length ≤ 140737488351232) (hB' : ∀ x ∈ sg', x.b.length ≤ 140737488351232) (hs : s.length ≤ 140737488351232) :
    Calls Try.prog 8 #[(.agg #[(vU32 pg), ev, pv, (.bool c), (vU32 en), sv]), (.agg #[(vU32 pg'), ev', pv', (.bool c'), (vU32 en'), sv']), (str s)] w (fun e w' => e = .returned (.bool true) ∧ Fr [] w w') := by
  refine enter (args := [(.agg #[(vU32 pg), ev, pv, (.bool c), (vU32 en), sv]), (.agg #[(vU32 pg'), ev', pv', (.bool c'), (vU32 en'), sv']), (str s)]) Try.func8 rfl rfl ?_
  have H0 : Own [] w w [] := Own.start w []
  refine WC.seq ?_
  refine WC.region ?_
  refine WL.op rfl rfl (op_box H0 rfl rfl (fun b1 w1 H1 => ?_))
  refine WL.op rfl rfl (op_box H1 rfl rfl (fun b2 w2 H2 => ?_))
  refine WL.op rfl rfl (op_assign rfl ?_)
  refine WL.nil ?_
  refine WQ.next ?_
  refine WC.seq ?_
  refine WC.seq ?_
  refine WC.region ?_
  refine WL.op rfl rfl (op_loadS (vs := [_, _, _, _, _, _]) rfl (H2.cells (i := 0) rfl rfl) Try.underlying59 rfl Fa.I59 rfl ?_)
  refine WL.op rfl rfl (op_callF Fa.C37 rfl ((large16_ok pg _ _ _ xs ps c en sg _ (H2.arr hE) (H2.arr hP) (H2.arr hS) (by assumption) (by assumption) (by assumption) (by assumption)).mono (fun e w3 hq => ?_)))
  obtain ⟨rfl, hf3⟩ := hq
  refine ⟨_, rfl, ?_⟩
  have H3 := H2.fr' hf3
  refine WL.op rfl rfl (op_move rfl ?_)
  refine WL.split (t := 19) rfl (fun (hb4 : (large16 xs ps sg) = true) => ?_) (fun (hb4 : (large16 xs ps sg) = false) => ?_)
  ·
    refine WL.no rfl rfl rfl hb4 rfl ?_
    refine WL.no rfl rfl rfl hb4 rfl ?_
    refine WL.op rfl rfl (op_pickT rfl hb4 rfl ?_)
    refine WL.op rfl rfl (op_move rfl ?_)
    refine WL.no rfl rfl rfl rfl rfl ?_
    refine WL.no rfl rfl rfl rfl rfl ?_
    refine WL.no rfl rfl rfl rfl rfl ?_
    refine WL.op rfl rfl (op_pickT rfl rfl rfl ?_)
    refine WL.nil ?_
    refine WQ.next ?_
    refine WC.yes rfl rfl ?_
    refine WC.seq ?_
    refine WC.region ?_
    refine WL.op rfl rfl (op_callF Fa.C38 rfl ((alive16_ok _).mono (fun e w5 hq => ?_)))
    obtain ⟨rfl, hf5⟩ := hq
    refine ⟨_, rfl, ?_⟩
    have H5 := H3.fr' hf5
    refine WL.op rfl rfl (op_assign rfl ?_)
    refine WL.nil ?_
    refine WQ.next ?_
    refine WC.ret ?_
    refine WQ.thenRet ?_
    refine WQ.out (.tmp rfl .nil) ?_
    exact ⟨rfl, H5.fr⟩
  ·
    have hl1 := large16_no hb4
    refine WL.yes rfl rfl rfl hb4 rfl (op_loadS (vs := [_, _, _, _, _, _]) rfl (H3.cells (i := 1) rfl rfl) Try.underlying59 rfl Fa.I59 rfl ?_)
    refine WL.yes rfl rfl rfl hb4 rfl (op_callF Fa.C37 rfl ((large16_ok pg' _ _ _ xs' ps' c' en' sg' _ (H3.arr hF) (H3.arr hQ) (H3.arr hR) (by assumption) (by assumption) (by assumption) (by assumption)).mono (fun e w6 hq => ?_)))
    obtain ⟨rfl, hf6⟩ := hq
    refine ⟨_, rfl, ?_⟩
    have H6 := H3.fr' hf6
    refine WL.op rfl rfl (op_pickF rfl hb4 rfl ?_)
    refine WL.op rfl rfl (op_move rfl ?_)
    refine WL.split (t := 23) rfl (fun (hb7 : (large16 xs' ps' sg') = true) => ?_) (fun (hb7 : (large16 xs' ps' sg') = false) => ?_)
    ·
      refine WL.no rfl rfl rfl hb7 rfl ?_
      refine WL.no rfl rfl rfl hb7 rfl ?_
      refine WL.no rfl rfl rfl hb7 rfl ?_
      refine WL.op rfl rfl (op_pickT rfl hb7 rfl ?_)
      refine WL.nil ?_
      refine WQ.next ?_
      refine WC.yes rfl rfl ?_
      refine WC.seq ?_
      refine WC.region ?_
      refine WL.op rfl rfl (op_callF Fa.C38 rfl ((alive16_ok _).mono (fun e w8 hq => ?_)))
      obtain ⟨rfl, hf8⟩ := hq
      refine ⟨_, rfl, ?_⟩
      have H8 := H6.fr' hf8
      refine WL.op rfl rfl (op_assign rfl ?_)
      refine WL.nil ?_
      refine WQ.next ?_
      refine WC.ret ?_
      refine WQ.thenRet ?_
      refine WQ.out (.tmp rfl .nil) ?_
      exact ⟨rfl, H8.fr⟩
    ·
      have hl2 := large16_no hb7
      have hb1 : ∀ x ∈ sg, x.b.length ≤ 2 ^ 30 := fun x hx => Nat.le_trans (hl1.2.2.2 x hx) (by decide)
      have hb2 : ∀ x ∈ sg', x.b.length ≤ 2 ^ 30 := fun x hx => Nat.le_trans (hl2.2.2.2 x hx) (by decide)
      refine WL.yes rfl rfl rfl hb7 rfl (op_move rfl ?_)
      refine WL.yes rfl rfl rfl hb7 rfl (op_lenStr Try.underlying9 rfl ?_)
      refine WL.yes rfl rfl rfl hb7 rfl (op_gtrN (b := 262144) rfl rfl ?_)
      refine WL.op rfl rfl (op_pickF rfl hb7 rfl ?_)
      refine WL.nil ?_
      refine WQ.next ?_
      refine WC.cond rfl (fun (hb9 : (decide (s.length > 262144)) = true) => ?_) (fun (hb9 : (decide (s.length > 262144)) = false) => ?_)
      ·
        have hc9 := of_decide_eq_true hb9
        refine WC.seq ?_
        refine WC.region ?_
        refine WL.op rfl rfl (op_callF Fa.C38 rfl ((alive16_ok _).mono (fun e w10 hq => ?_)))
        obtain ⟨rfl, hf10⟩ := hq
        refine ⟨_, rfl, ?_⟩
        have H10 := H6.fr' hf10
        refine WL.op rfl rfl (op_assign rfl ?_)
        refine WL.nil ?_
        refine WQ.next ?_
        refine WC.ret ?_
        refine WQ.thenRet ?_
        refine WQ.out (.tmp rfl .nil) ?_
        exact ⟨rfl, H10.fr⟩
      ·
        have hc9 := of_decide_eq_false hb9
        refine WC.skip ?_
        refine WQ.next ?_
        refine WC.seq ?_
        refine WC.region ?_
        refine WL.op rfl rfl (op_loadS (vs := [_, _, _, _, _, _]) rfl (H6.cells (i := 0) rfl rfl) Try.underlying59 rfl Fa.I59 rfl ?_)
        refine WL.op rfl rfl (op_callF Fa.C39 rfl ((copy16_ok pg _ _ _ xs ps c en sg _ (H6.arr hE) (H6.arr hP) (H6.arr hS) (by omega) (by omega) (by omega)).mono (fun e w11 hq => ?_)))
        obtain ⟨v11, u11, q11, rfl, hq11⟩ := hq
        refine ⟨_, rfl, ?_⟩
        have H11 : Own [] w w11 [.blk b1 [(vU32 pg), ev, pv, (.bool c), (vU32 en), sv] 59, .blk b2 [(vU32 pg'), ev', pv', (.bool c'), (vU32 en'), sv'] 59, .row v11 130 2 xs.length (List.flatMap xtc xs), .row u11 92 1 ps.length (List.map vU16 ps), .row q11 111 3 sg.length (List.flatMap sgc sg)] := H6.splice [] [] [.row v11 130 2 xs.length (List.flatMap xtc xs), .row u11 92 1 ps.length (List.map vU16 ps), .row q11 111 3 sg.length (List.flatMap sgc sg)] rfl rfl hq11 (Fits.solid True.intro (Fits.solid True.intro (Fits.solid True.intro Fits.nil)))
        refine WL.op rfl rfl (op_callF Fa.C41 rfl ((iput_ok pg _ _ _ xs ps c en sg _ (H11.arrR (i := 2) rfl) (H11.arrR (i := 3) rfl) (H11.arrR (i := 4) rfl) (by first | omega | exact hgb.1) (by first | omega | exact hgb.2.1) (by first | omega | exact hgb.2.2.1) (by first | with_reducible exact hb1 | with_reducible exact hb2 | with_reducible exact hgb.2.2.2)).mono (fun e w12 hq => ?_)))
        obtain ⟨rfl, hf12⟩ := hq
        refine ⟨_, rfl, ?_⟩
        have H12 := H11.fr' hf12
        refine WL.op rfl rfl (op_move rfl ?_)
        refine WL.op rfl rfl (op_extract rfl rfl ?_)
        refine WL.op rfl rfl (op_extract rfl rfl ?_)
        refine WL.op rfl rfl (op_assign rfl ?_)
        refine WL.op rfl rfl (op_assign rfl ?_)
        refine WL.nil ?_
        refine WQ.next ?_
        refine WC.seq ?_
        refine WC.region ?_
        refine WL.op rfl rfl (op_loadS (vs := [_, _, _, _, _, _]) rfl (H12.cells (i := 1) rfl rfl) Try.underlying59 rfl Fa.I59 rfl ?_)
        refine WL.op rfl rfl (op_callF Fa.C39 rfl ((copy16_ok pg' _ _ _ xs' ps' c' en' sg' _ (H12.arr hF) (H12.arr hQ) (H12.arr hR) (by omega) (by omega) (by omega)).mono (fun e w13 hq => ?_)))
        obtain ⟨v13, u13, q13, rfl, hq13⟩ := hq
        refine ⟨_, rfl, ?_⟩
        have H13 : Own [] w w13 [.blk b1 [(vU32 pg), ev, pv, (.bool c), (vU32 en), sv] 59, .blk b2 [(vU32 pg'), ev', pv', (.bool c'), (vU32 en'), sv'] 59, .row v11 130 2 xs.length (List.flatMap xtc xs), .row u11 92 1 ps.length (List.map vU16 ps), .row q11 111 3 sg.length (List.flatMap sgc sg), .row v13 130 2 xs'.length (List.flatMap xtc xs'), .row u13 92 1 ps'.length (List.map vU16 ps'), .row q13 111 3 sg'.length (List.flatMap sgc sg')] := H12.splice [] [] [.row v13 130 2 xs'.length (List.flatMap xtc xs'), .row u13 92 1 ps'.length (List.map vU16 ps'), .row q13 111 3 sg'.length (List.flatMap sgc sg')] rfl rfl hq13 (Fits.solid True.intro (Fits.solid True.intro (Fits.solid True.intro Fits.nil)))
        refine WL.op rfl rfl (op_callF Fa.C41 rfl ((iput_ok pg' _ _ _ xs' ps' c' en' sg' _ (H13.arrR (i := 5) rfl) (H13.arrR (i := 6) rfl) (H13.arrR (i := 7) rfl) (by first | omega | exact hgb.1) (by first | omega | exact hgb.2.1) (by first | omega | exact hgb.2.2.1) (by first | with_reducible exact hb1 | with_reducible exact hb2 | with_reducible exact hgb.2.2.2)).mono (fun e w14 hq => ?_)))
        obtain ⟨rfl, hf14⟩ := hq
        refine ⟨_, rfl, ?_⟩
        have H14 := H13.fr' hf14
        refine WL.op rfl rfl (op_move rfl ?_)
        refine WL.op rfl rfl (op_extract rfl rfl ?_)
        refine WL.op rfl rfl (op_extract rfl rfl ?_)
        refine WL.op rfl rfl (op_assign rfl ?_)
        refine WL.op rfl rfl (op_assign rfl ?_)
        refine WL.nil ?_
        refine WQ.next ?_
        refine WC.cut (α := Unit) (fun _ => [(2, (str s)), (3, (ptr b1 0)), (4, (ptr b2 0)), (7, (str (imB pg xs ps c en sg))), (8, (vN (imE pg xs ps en sg))), (9, (str (imB pg' xs' ps' c' en' sg'))), (10, (vN (imE pg' xs' ps' en' sg')))]) (fun _ w' => Own [] w w' [.blk b1 [(vU32 pg), ev, pv, (.bool c), (vU32 en), sv] 59, .blk b2 [(vU32 pg'), ev', pv', (.bool c'), (vU32 en'), sv'] 59, .row v11 130 2 xs.length (List.flatMap xtc xs), .row u11 92 1 ps.length (List.map vU16 ps), .row q11 111 3 sg.length (List.flatMap sgc sg), .row v13 130 2 xs'.length (List.flatMap xtc xs'), .row u13 92 1 ps'.length (List.map vU16 ps'), .row q13 111 3 sg'.length (List.flatMap sgc sg')]) ?_ ?_
        ·
          refine WC.seq ?_
          refine WC.region ?_
          refine WL.op rfl rfl (op_move rfl ?_)
          refine WL.op rfl rfl (op_eqlN (b := 0) rfl rfl ?_)
          refine WL.nil ?_
          refine WQ.next ?_
          refine WC.cond rfl (fun (hb15 : (decide ((imE pg xs ps en sg) = 0)) = true) => ?_) (fun (hb15 : (decide ((imE pg xs ps en sg) = 0)) = false) => ?_)
          ·
            have hc15 := of_decide_eq_true hb15
            have hI1 : imE pg xs ps en sg = 0 := hc15
            refine WC.seq ?_
            refine WC.region ?_
            refine WL.op rfl rfl (op_move rfl ?_)
            refine WL.op rfl rfl (op_callF Fa.C49 rfl ((iget_ok (imB pg xs ps c en sg) _ (by first | omega | exact imB_lt hl1 | exact imB_lt hl2)).mono (fun e w16 hq => ?_)))
            obtain ⟨v16, u16, q16, rfl, hq16⟩ := hq
            refine ⟨_, rfl, ?_⟩
            have H16 : Own [] w w16 [.blk b1 [(vU32 pg), ev, pv, (.bool c), (vU32 en), sv] 59, .blk b2 [(vU32 pg'), ev', pv', (.bool c'), (vU32 en'), sv'] 59, .row v11 130 2 xs.length (List.flatMap xtc xs), .row u11 92 1 ps.length (List.map vU16 ps), .row q11 111 3 sg.length (List.flatMap sgc sg), .row v13 130 2 xs'.length (List.flatMap xtc xs'), .row u13 92 1 ps'.length (List.map vU16 ps'), .row q13 111 3 sg'.length (List.flatMap sgc sg'), .row v16 130 2 (imG (imB pg xs ps c en sg)).xs.length (List.flatMap xtc (imG (imB pg xs ps c en sg)).xs), .row u16 92 1 (imG (imB pg xs ps c en sg)).ps.length (List.map vU16 (imG (imB pg xs ps c en sg)).ps), .row q16 111 3 (imG (imB pg xs ps c en sg)).sg.length (List.flatMap sgc (imG (imB pg xs ps c en sg)).sg)] := H14.splice [] [] [.row v16 130 2 (imG (imB pg xs ps c en sg)).xs.length (List.flatMap xtc (imG (imB pg xs ps c en sg)).xs), .row u16 92 1 (imG (imB pg xs ps c en sg)).ps.length (List.map vU16 (imG (imB pg xs ps c en sg)).ps), .row q16 111 3 (imG (imB pg xs ps c en sg)).sg.length (List.flatMap sgc (imG (imB pg xs ps c en sg)).sg)] rfl rfl hq16 (Fits.solid True.intro (Fits.solid True.intro (Fits.solid True.intro Fits.nil)))
            refine WL.op rfl rfl (op_move rfl ?_)
            refine WL.op rfl rfl (op_extract rfl rfl ?_)
            refine WL.op rfl rfl (op_extract rfl rfl ?_)
            refine WL.op rfl rfl (op_alloc H16 Fa.I59 (fun b17 w17 H17 => ?_))
            refine WL.op rfl rfl (op_storeBW (i := 11) H17 rfl rfl rfl rfl (one_cons rfl (one_cons (Arr.one (H17.arrR (i := 8) rfl)) (one_cons (Arr.one (H17.arrR (i := 9) rfl)) (one_cons rfl (one_cons rfl (one_cons (Arr.one (H17.arrR (i := 10) rfl)) one_nil)))))) Fa.I59 (fun w18 H18 => ?_))
            refine WL.op rfl rfl (op_assign rfl ?_)
            refine WL.nil ?_
            refine WQ.next ?_
            refine WC.seq ?_
            refine WC.region ?_
            refine WL.op rfl rfl (op_move rfl ?_)
            refine WL.op rfl rfl (op_neqN (b := 0) rfl rfl ?_)
            refine WL.op rfl rfl (op_move rfl ?_)
            refine WL.yes rfl rfl rfl (decide_eq_false (fun h => h (put_get_same hI1 hl1.2.2.2).1)) rfl (op_loadS (vs := [_, _, _, _, _, _]) rfl (H18.cells (i := 11) rfl rfl) Try.underlying59 rfl Fa.I59 rfl ?_)
            refine WL.yes rfl rfl rfl (decide_eq_false (fun h => h (put_get_same hI1 hl1.2.2.2).1)) rfl (op_loadS (vs := [_, _, _, _, _, _]) rfl (H18.cells (i := 0) rfl rfl) Try.underlying59 rfl Fa.I59 rfl ?_)
            refine WL.yes rfl rfl rfl (decide_eq_false (fun h => h (put_get_same hI1 hl1.2.2.2).1)) rfl (op_callF Fa.C44 rfl ((isame_ok ((imG (imB pg xs ps c en sg)).pg) ((imG (imB pg xs ps c en sg)).c) _ _ _ ((imG (imB pg xs ps c en sg)).xs) ((imG (imB pg xs ps c en sg)).ps) ((imG (imB pg xs ps c en sg)).en) ((imG (imB pg xs ps c en sg)).sg) pg c _ _ _ xs ps en sg _ (H18.arrR (i := 8) rfl) (H18.arrR (i := 9) rfl) (H18.arrR (i := 10) rfl) (H18.arr hE) (H18.arr hP) (H18.arr hS) (by first | omega | exact xlt _) (by first | omega | exact plt _) (by first | omega | exact slt _)).mono (fun e w19 hq => ?_)))
            obtain ⟨rfl, hf19⟩ := hq
            refine ⟨_, rfl, ?_⟩
            have H19 := H18.fr' hf19
            refine WL.yes rfl rfl rfl (decide_eq_false (fun h => h (put_get_same hI1 hl1.2.2.2).1)) rfl (op_not rfl ?_)
            refine WL.op rfl rfl (op_pickF rfl (decide_eq_false (fun h => h (put_get_same hI1 hl1.2.2.2).1)) rfl ?_)
            refine WL.nil ?_
            refine WQ.next ?_
            refine WC.no rfl (congrArg Bool.not (same_get hI1 hl1.2.2.2)) ?_
            refine WC.skip ?_
            exact WQ.here () (H19.take 8) ⟨rfl, rfl, rfl, rfl, rfl, rfl, rfl, trivial⟩
          ·
            have hc15 := of_decide_eq_false hb15
            refine WC.skip ?_
            exact WQ.here () H14 ⟨rfl, rfl, rfl, rfl, rfl, rfl, rfl, trivial⟩
        ·
          rintro ⟨⟩ w20 H20
          show WC _ _ _ _ _ [(2, (str s)), (3, (ptr b1 0)), (4, (ptr b2 0)), (7, (str (imB pg xs ps c en sg))), (8, (vN (imE pg xs ps en sg))), (9, (str (imB pg' xs' ps' c' en' sg'))), (10, (vN (imE pg' xs' ps' en' sg')))] _
          refine WC.seq ?_
          refine WC.seq ?_
          refine WC.region ?_
          refine WL.op rfl rfl (op_move rfl ?_)
          refine WL.op rfl rfl (op_eqlN (b := 0) rfl rfl ?_)
          refine WL.op rfl rfl (op_move rfl ?_)
          refine WL.split (t := 58) rfl (fun (hb21 : (decide ((imE pg xs ps en sg) = 0)) = true) => ?_) (fun (hb21 : (decide ((imE pg xs ps en sg) = 0)) = false) => ?_)
          ·
            have hc21 := of_decide_eq_true hb21
            refine WL.yes rfl rfl rfl hb21 rfl (op_move rfl ?_)
            refine WL.yes rfl rfl rfl hb21 rfl (op_eqlN (b := 0) rfl rfl ?_)
            refine WL.op rfl rfl (op_pickT rfl hb21 rfl ?_)
            refine WL.op rfl rfl (op_move rfl ?_)
            refine WL.split (t := 62) rfl (fun (hb22 : (decide ((imE pg' xs' ps' en' sg') = 0)) = true) => ?_) (fun (hb22 : (decide ((imE pg' xs' ps' en' sg') = 0)) = false) => ?_)
            ·
              have hc22 := of_decide_eq_true hb22
              refine WL.yes rfl rfl rfl hb22 rfl (op_move rfl ?_)
              refine WL.yes rfl rfl rfl hb22 rfl (op_move rfl ?_)
              refine WL.yes rfl rfl rfl hb22 rfl (op_eqlStr rfl rfl ?_)
              refine WL.yes rfl rfl rfl hb22 rfl (op_loadS (vs := [_, _, _, _, _, _]) rfl (H20.cells (i := 0) rfl rfl) Try.underlying59 rfl Fa.I59 rfl ?_)
              refine WL.yes rfl rfl rfl hb22 rfl (op_loadS (vs := [_, _, _, _, _, _]) rfl (H20.cells (i := 1) rfl rfl) Try.underlying59 rfl Fa.I59 rfl ?_)
              refine WL.yes rfl rfl rfl hb22 rfl (op_callF Fa.C44 rfl ((isame_ok pg c _ _ _ xs ps en sg pg' c' _ _ _ xs' ps' en' sg' _ (H20.arr hE) (H20.arr hP) (H20.arr hS) (H20.arr hF) (H20.arr hQ) (H20.arr hR) (by first | omega | exact xlt _) (by first | omega | exact plt _) (by first | omega | exact slt _)).mono (fun e w23 hq => ?_)))
              obtain ⟨rfl, hf23⟩ := hq
              refine ⟨_, rfl, ?_⟩
              have H23 := H20.fr' hf23
              refine WL.yes rfl rfl rfl hb22 rfl (op_neqB Try.underlying4 rfl rfl ?_)
              refine WL.op rfl rfl (op_pickT rfl hb22 rfl ?_)
              refine WL.nil ?_
              refine WQ.next ?_
              refine WC.no rfl (by rw [put_same (of_decide_eq_true hb21) hl1.2.2.2 (of_decide_eq_true hb22) hl2.2.2.2]; simp) ?_
              refine WC.skip ?_
              refine WQ.next ?_
              refine WC.seq ?_
              refine WC.region ?_
              refine WL.op rfl rfl (op_move rfl ?_)
              refine WL.op rfl rfl (op_callF Fa.C49 rfl ((iget_ok s _ (by first | omega | exact imB_lt hl1 | exact imB_lt hl2)).mono (fun e w24 hq => ?_)))
              obtain ⟨v24, u24, q24, rfl, hq24⟩ := hq
              refine ⟨_, rfl, ?_⟩
              have H24 : Own [] w w24 [.blk b1 [(vU32 pg), ev, pv, (.bool c), (vU32 en), sv] 59, .blk b2 [(vU32 pg'), ev', pv', (.bool c'), (vU32 en'), sv'] 59, .row v11 130 2 xs.length (List.flatMap xtc xs), .row u11 92 1 ps.length (List.map vU16 ps), .row q11 111 3 sg.length (List.flatMap sgc sg), .row v13 130 2 xs'.length (List.flatMap xtc xs'), .row u13 92 1 ps'.length (List.map vU16 ps'), .row q13 111 3 sg'.length (List.flatMap sgc sg'), .row v24 130 2 (imG s).xs.length (List.flatMap xtc (imG s).xs), .row u24 92 1 (imG s).ps.length (List.map vU16 (imG s).ps), .row q24 111 3 (imG s).sg.length (List.flatMap sgc (imG s).sg)] := H23.splice [] [] [.row v24 130 2 (imG s).xs.length (List.flatMap xtc (imG s).xs), .row u24 92 1 (imG s).ps.length (List.map vU16 (imG s).ps), .row q24 111 3 (imG s).sg.length (List.flatMap sgc (imG s).sg)] rfl rfl hq24 (Fits.solid True.intro (Fits.solid True.intro (Fits.solid True.intro Fits.nil)))
              refine WL.op rfl rfl (op_move rfl ?_)
              refine WL.op rfl rfl (op_extract rfl rfl ?_)
              refine WL.op rfl rfl (op_extract rfl rfl ?_)
              refine WL.op rfl rfl (op_alloc H24 Fa.I59 (fun b25 w25 H25 => ?_))
              refine WL.op rfl rfl (op_storeBW (i := 11) H25 rfl rfl rfl rfl (one_cons rfl (one_cons (Arr.one (H25.arrR (i := 8) rfl)) (one_cons (Arr.one (H25.arrR (i := 9) rfl)) (one_cons rfl (one_cons rfl (one_cons (Arr.one (H25.arrR (i := 10) rfl)) one_nil)))))) Fa.I59 (fun w26 H26 => ?_))
              refine WL.op rfl rfl (op_assign rfl ?_)
              refine WL.nil ?_
              refine WQ.next ?_
              refine WC.seq ?_
              refine WC.seq ?_
              refine WC.region ?_
              refine WL.op rfl rfl (op_move rfl ?_)
              refine WL.op rfl rfl (op_neqN (b := 0) rfl rfl ?_)
              refine WL.nil ?_
              refine WQ.next ?_
              refine WC.cond rfl (fun (hb27 : (decide ((imGE s) ≠ 0)) = true) => ?_) (fun (hb27 : (decide ((imGE s) ≠ 0)) = false) => ?_)
              ·
                have hc27 := of_decide_eq_true hb27
                have hg7 := get_no hc27
                refine WC.seq ?_
                refine WC.region ?_
                refine WL.op rfl rfl (op_move rfl ?_)
                refine WL.op rfl rfl (op_eqlN (b := 7) rfl rfl ?_)
                refine WL.op rfl rfl (op_move rfl ?_)
                refine WL.yes rfl rfl rfl (decide_eq_true hg7.1) rfl (op_fieldAddr rfl Fa.F59_2 ?_)
                refine WL.yes rfl rfl rfl (decide_eq_true hg7.1) rfl (op_load rfl (H26.cell (i := 11) rfl rfl) Try.underlying57 rfl ?_)
                refine WL.yes rfl rfl rfl (decide_eq_true hg7.1) rfl (op_lenA Try.underlying57 rfl (H26.arrR (i := 10) rfl) ?_)
                refine WL.yes rfl rfl rfl (decide_eq_true hg7.1) rfl (op_eqlN (b := 0) rfl rfl ?_)
                refine WL.op rfl rfl (op_pickT rfl (decide_eq_true hg7.1) rfl ?_)
                refine WL.op rfl rfl (op_move rfl ?_)
                refine WL.yes rfl rfl rfl (decide_eq_true (by rw [hg7.2]; rfl)) rfl (op_callF Fa.C38 rfl ((alive16_ok _).mono (fun e w28 hq => ?_)))
                obtain ⟨rfl, hf28⟩ := hq
                refine ⟨_, rfl, ?_⟩
                have H28 := H26.fr' hf28
                refine WL.op rfl rfl (op_pickT rfl (decide_eq_true (by rw [hg7.2]; rfl)) rfl ?_)
                refine WL.op rfl rfl (op_assign rfl ?_)
                refine WL.nil ?_
                refine WQ.next ?_
                refine WC.ret ?_
                refine WQ.thenRet ?_
                refine WQ.out (.tmp rfl .nil) ?_
                exact ⟨rfl, H28.fr⟩
              ·
                have hc27 := of_decide_eq_false hb27
                have hg0 : imGE s = 0 := Decidable.not_not.mp hc27
                have hgb := get_bounds hg0 (by omega)
                have hgp := back_put hg0
                refine WC.skip ?_
                refine WQ.next ?_
                refine WC.seq ?_
                refine WC.region ?_
                refine WL.op rfl rfl (op_loadS (vs := [_, _, _, _, _, _]) rfl (H26.cells (i := 11) rfl rfl) Try.underlying59 rfl Fa.I59 rfl ?_)
                refine WL.op rfl rfl (op_callF Fa.C41 rfl ((iput_ok ((imG s).pg) _ _ _ ((imG s).xs) ((imG s).ps) ((imG s).c) ((imG s).en) ((imG s).sg) _ (H26.arrR (i := 8) rfl) (H26.arrR (i := 9) rfl) (H26.arrR (i := 10) rfl) (by first | omega | exact hgb.1) (by first | omega | exact hgb.2.1) (by first | omega | exact hgb.2.2.1) (by first | with_reducible exact hb1 | with_reducible exact hb2 | with_reducible exact hgb.2.2.2)).mono (fun e w29 hq => ?_)))
                obtain ⟨rfl, hf29⟩ := hq
                refine ⟨_, rfl, ?_⟩
                have H29 := H26.fr' hf29
                refine WL.op rfl rfl (op_move rfl ?_)
                refine WL.op rfl rfl (op_extract rfl rfl ?_)
                refine WL.op rfl rfl (op_extract rfl rfl ?_)
                refine WL.op rfl rfl (op_assign rfl ?_)
                refine WL.op rfl rfl (op_assign rfl ?_)
                refine WL.nil ?_
                refine WQ.next ?_
                refine WC.seq ?_
                refine WC.region ?_
                refine WL.op rfl rfl (op_move rfl ?_)
                refine WL.op rfl rfl (op_eqlN (b := 0) rfl rfl ?_)
                refine WL.op rfl rfl (op_move rfl ?_)
                refine WL.yes rfl rfl rfl (decide_eq_true hgp.1) rfl (op_move rfl ?_)
                refine WL.yes rfl rfl rfl (decide_eq_true hgp.1) rfl (op_move rfl ?_)
                refine WL.yes rfl rfl rfl (decide_eq_true hgp.1) rfl (op_eqlStr rfl rfl ?_)
                refine WL.op rfl rfl (op_pickT rfl (decide_eq_true hgp.1) rfl ?_)
                refine WL.op rfl rfl (op_move rfl ?_)
                refine WL.yes rfl rfl rfl (decide_eq_true hgp.2) rfl (op_callF Fa.C38 rfl ((alive16_ok _).mono (fun e w30 hq => ?_)))
                obtain ⟨rfl, hf30⟩ := hq
                refine ⟨_, rfl, ?_⟩
                have H30 := H29.fr' hf30
                refine WL.op rfl rfl (op_pickT rfl (decide_eq_true hgp.2) rfl ?_)
                refine WL.op rfl rfl (op_assign rfl ?_)
                refine WL.nil ?_
                refine WQ.next ?_
                refine WC.ret ?_
                refine WQ.out (.tmp rfl .nil) ?_
                exact ⟨rfl, H30.fr⟩
            ·
              have hc22 := of_decide_eq_false hb22
              refine WL.no rfl rfl rfl hb22 rfl ?_
              refine WL.no rfl rfl rfl hb22 rfl ?_
              refine WL.no rfl rfl rfl hb22 rfl ?_
              refine WL.no rfl rfl rfl hb22 rfl ?_
              refine WL.no rfl rfl rfl hb22 rfl ?_
              refine WL.no rfl rfl rfl hb22 rfl ?_
              refine WL.no rfl rfl rfl hb22 rfl ?_
              refine WL.op rfl rfl (op_pickF rfl hb22 rfl ?_)
              refine WL.nil ?_
              refine WQ.next ?_
              refine WC.no rfl rfl ?_
              refine WC.skip ?_
              refine WQ.next ?_
              refine WC.seq ?_
              refine WC.region ?_
              refine WL.op rfl rfl (op_move rfl ?_)
              refine WL.op rfl rfl (op_callF Fa.C49 rfl ((iget_ok s _ (by first | omega | exact imB_lt hl1 | exact imB_lt hl2)).mono (fun e w31 hq => ?_)))
              obtain ⟨v31, u31, q31, rfl, hq31⟩ := hq
              refine ⟨_, rfl, ?_⟩
              have H31 : Own [] w w31 [.blk b1 [(vU32 pg), ev, pv, (.bool c), (vU32 en), sv] 59, .blk b2 [(vU32 pg'), ev', pv', (.bool c'), (vU32 en'), sv'] 59, .row v11 130 2 xs.length (List.flatMap xtc xs), .row u11 92 1 ps.length (List.map vU16 ps), .row q11 111 3 sg.length (List.flatMap sgc sg), .row v13 130 2 xs'.length (List.flatMap xtc xs'), .row u13 92 1 ps'.length (List.map vU16 ps'), .row q13 111 3 sg'.length (List.flatMap sgc sg'), .row v31 130 2 (imG s).xs.length (List.flatMap xtc (imG s).xs), .row u31 92 1 (imG s).ps.length (List.map vU16 (imG s).ps), .row q31 111 3 (imG s).sg.length (List.flatMap sgc (imG s).sg)] := H20.splice [] [] [.row v31 130 2 (imG s).xs.length (List.flatMap xtc (imG s).xs), .row u31 92 1 (imG s).ps.length (List.map vU16 (imG s).ps), .row q31 111 3 (imG s).sg.length (List.flatMap sgc (imG s).sg)] rfl rfl hq31 (Fits.solid True.intro (Fits.solid True.intro (Fits.solid True.intro Fits.nil)))
              refine WL.op rfl rfl (op_move rfl ?_)
              refine WL.op rfl rfl (op_extract rfl rfl ?_)
              refine WL.op rfl rfl (op_extract rfl rfl ?_)
              refine WL.op rfl rfl (op_alloc H31 Fa.I59 (fun b32 w32 H32 => ?_))
              refine WL.op rfl rfl (op_storeBW (i := 11) H32 rfl rfl rfl rfl (one_cons rfl (one_cons (Arr.one (H32.arrR (i := 8) rfl)) (one_cons (Arr.one (H32.arrR (i := 9) rfl)) (one_cons rfl (one_cons rfl (one_cons (Arr.one (H32.arrR (i := 10) rfl)) one_nil)))))) Fa.I59 (fun w33 H33 => ?_))
              refine WL.op rfl rfl (op_assign rfl ?_)
              refine WL.nil ?_
              refine WQ.next ?_
              refine WC.seq ?_
              refine WC.seq ?_
              refine WC.region ?_
              refine WL.op rfl rfl (op_move rfl ?_)
              refine WL.op rfl rfl (op_neqN (b := 0) rfl rfl ?_)
              refine WL.nil ?_
              refine WQ.next ?_
              refine WC.cond rfl (fun (hb34 : (decide ((imGE s) ≠ 0)) = true) => ?_) (fun (hb34 : (decide ((imGE s) ≠ 0)) = false) => ?_)
              ·
                have hc34 := of_decide_eq_true hb34
                have hg7 := get_no hc34
                refine WC.seq ?_
                refine WC.region ?_
                refine WL.op rfl rfl (op_move rfl ?_)
                refine WL.op rfl rfl (op_eqlN (b := 7) rfl rfl ?_)
                refine WL.op rfl rfl (op_move rfl ?_)
                refine WL.yes rfl rfl rfl (decide_eq_true hg7.1) rfl (op_fieldAddr rfl Fa.F59_2 ?_)
                refine WL.yes rfl rfl rfl (decide_eq_true hg7.1) rfl (op_load rfl (H33.cell (i := 11) rfl rfl) Try.underlying57 rfl ?_)
                refine WL.yes rfl rfl rfl (decide_eq_true hg7.1) rfl (op_lenA Try.underlying57 rfl (H33.arrR (i := 10) rfl) ?_)
                refine WL.yes rfl rfl rfl (decide_eq_true hg7.1) rfl (op_eqlN (b := 0) rfl rfl ?_)
                refine WL.op rfl rfl (op_pickT rfl (decide_eq_true hg7.1) rfl ?_)
                refine WL.op rfl rfl (op_move rfl ?_)
                refine WL.yes rfl rfl rfl (decide_eq_true (by rw [hg7.2]; rfl)) rfl (op_callF Fa.C38 rfl ((alive16_ok _).mono (fun e w35 hq => ?_)))
                obtain ⟨rfl, hf35⟩ := hq
                refine ⟨_, rfl, ?_⟩
                have H35 := H33.fr' hf35
                refine WL.op rfl rfl (op_pickT rfl (decide_eq_true (by rw [hg7.2]; rfl)) rfl ?_)
                refine WL.op rfl rfl (op_assign rfl ?_)
                refine WL.nil ?_
                refine WQ.next ?_
                refine WC.ret ?_
                refine WQ.thenRet ?_
                refine WQ.out (.tmp rfl .nil) ?_
                exact ⟨rfl, H35.fr⟩
              ·
                have hc34 := of_decide_eq_false hb34
                have hg0 : imGE s = 0 := Decidable.not_not.mp hc34
                have hgb := get_bounds hg0 (by omega)
                have hgp := back_put hg0
                refine WC.skip ?_
                refine WQ.next ?_
                refine WC.seq ?_
                refine WC.region ?_
                refine WL.op rfl rfl (op_loadS (vs := [_, _, _, _, _, _]) rfl (H33.cells (i := 11) rfl rfl) Try.underlying59 rfl Fa.I59 rfl ?_)
                refine WL.op rfl rfl (op_callF Fa.C41 rfl ((iput_ok ((imG s).pg) _ _ _ ((imG s).xs) ((imG s).ps) ((imG s).c) ((imG s).en) ((imG s).sg) _ (H33.arrR (i := 8) rfl) (H33.arrR (i := 9) rfl) (H33.arrR (i := 10) rfl) (by first | omega | exact hgb.1) (by first | omega | exact hgb.2.1) (by first | omega | exact hgb.2.2.1) (by first | with_reducible exact hb1 | with_reducible exact hb2 | with_reducible exact hgb.2.2.2)).mono (fun e w36 hq => ?_)))
                obtain ⟨rfl, hf36⟩ := hq
                refine ⟨_, rfl, ?_⟩
                have H36 := H33.fr' hf36
                refine WL.op rfl rfl (op_move rfl ?_)
                refine WL.op rfl rfl (op_extract rfl rfl ?_)
                refine WL.op rfl rfl (op_extract rfl rfl ?_)
                refine WL.op rfl rfl (op_assign rfl ?_)
                refine WL.op rfl rfl (op_assign rfl ?_)
                refine WL.nil ?_
                refine WQ.next ?_
                refine WC.seq ?_
                refine WC.region ?_
                refine WL.op rfl rfl (op_move rfl ?_)
                refine WL.op rfl rfl (op_eqlN (b := 0) rfl rfl ?_)
                refine WL.op rfl rfl (op_move rfl ?_)
                refine WL.yes rfl rfl rfl (decide_eq_true hgp.1) rfl (op_move rfl ?_)
                refine WL.yes rfl rfl rfl (decide_eq_true hgp.1) rfl (op_move rfl ?_)
                refine WL.yes rfl rfl rfl (decide_eq_true hgp.1) rfl (op_eqlStr rfl rfl ?_)
                refine WL.op rfl rfl (op_pickT rfl (decide_eq_true hgp.1) rfl ?_)
                refine WL.op rfl rfl (op_move rfl ?_)
                refine WL.yes rfl rfl rfl (decide_eq_true hgp.2) rfl (op_callF Fa.C38 rfl ((alive16_ok _).mono (fun e w37 hq => ?_)))
                obtain ⟨rfl, hf37⟩ := hq
                refine ⟨_, rfl, ?_⟩
                have H37 := H36.fr' hf37
                refine WL.op rfl rfl (op_pickT rfl (decide_eq_true hgp.2) rfl ?_)
                refine WL.op rfl rfl (op_assign rfl ?_)
                refine WL.nil ?_
                refine WQ.next ?_
                refine WC.ret ?_
                refine WQ.out (.tmp rfl .nil) ?_
                exact ⟨rfl, H37.fr⟩
          ·
            have hc21 := of_decide_eq_false hb21
            refine WL.no rfl rfl rfl hb21 rfl ?_
            refine WL.no rfl rfl rfl hb21 rfl ?_
            refine WL.op rfl rfl (op_pickF rfl hb21 rfl ?_)
            refine WL.op rfl rfl (op_move rfl ?_)
            refine WL.no rfl rfl rfl rfl rfl ?_
            refine WL.no rfl rfl rfl rfl rfl ?_
            refine WL.no rfl rfl rfl rfl rfl ?_
            refine WL.no rfl rfl rfl rfl rfl ?_
            refine WL.no rfl rfl rfl rfl rfl ?_
            refine WL.no rfl rfl rfl rfl rfl ?_
            refine WL.no rfl rfl rfl rfl rfl ?_
            refine WL.op rfl rfl (op_pickF rfl rfl rfl ?_)
            refine WL.nil ?_
            refine WQ.next ?_
            refine WC.no rfl rfl ?_
            refine WC.skip ?_
            refine WQ.next ?_
            refine WC.seq ?_
            refine WC.region ?_
            refine WL.op rfl rfl (op_move rfl ?_)
            refine WL.op rfl rfl (op_callF Fa.C49 rfl ((iget_ok s _ (by first | omega | exact imB_lt hl1 | exact imB_lt hl2)).mono (fun e w38 hq => ?_)))
            obtain ⟨v38, u38, q38, rfl, hq38⟩ := hq
            refine ⟨_, rfl, ?_⟩
            have H38 : Own [] w w38 [.blk b1 [(vU32 pg), ev, pv, (.bool c), (vU32 en), sv] 59, .blk b2 [(vU32 pg'), ev', pv', (.bool c'), (vU32 en'), sv'] 59, .row v11 130 2 xs.length (List.flatMap xtc xs), .row u11 92 1 ps.length (List.map vU16 ps), .row q11 111 3 sg.length (List.flatMap sgc sg), .row v13 130 2 xs'.length (List.flatMap xtc xs'), .row u13 92 1 ps'.length (List.map vU16 ps'), .row q13 111 3 sg'.length (List.flatMap sgc sg'), .row v38 130 2 (imG s).xs.length (List.flatMap xtc (imG s).xs), .row u38 92 1 (imG s).ps.length (List.map vU16 (imG s).ps), .row q38 111 3 (imG s).sg.length (List.flatMap sgc (imG s).sg)] := H20.splice [] [] [.row v38 130 2 (imG s).xs.length (List.flatMap xtc (imG s).xs), .row u38 92 1 (imG s).ps.length (List.map vU16 (imG s).ps), .row q38 111 3 (imG s).sg.length (List.flatMap sgc (imG s).sg)] rfl rfl hq38 (Fits.solid True.intro (Fits.solid True.intro (Fits.solid True.intro Fits.nil)))
            refine WL.op rfl rfl (op_move rfl ?_)
            refine WL.op rfl rfl (op_extract rfl rfl ?_)
            refine WL.op rfl rfl (op_extract rfl rfl ?_)
            refine WL.op rfl rfl (op_alloc H38 Fa.I59 (fun b39 w39 H39 => ?_))
            refine WL.op rfl rfl (op_storeBW (i := 11) H39 rfl rfl rfl rfl (one_cons rfl (one_cons (Arr.one (H39.arrR (i := 8) rfl)) (one_cons (Arr.one (H39.arrR (i := 9) rfl)) (one_cons rfl (one_cons rfl (one_cons (Arr.one (H39.arrR (i := 10) rfl)) one_nil)))))) Fa.I59 (fun w40 H40 => ?_))
            refine WL.op rfl rfl (op_assign rfl ?_)
            refine WL.nil ?_
            refine WQ.next ?_
            refine WC.seq ?_
            refine WC.seq ?_
            refine WC.region ?_
            refine WL.op rfl rfl (op_move rfl ?_)
            refine WL.op rfl rfl (op_neqN (b := 0) rfl rfl ?_)
            refine WL.nil ?_
            refine WQ.next ?_
            refine WC.cond rfl (fun (hb41 : (decide ((imGE s) ≠ 0)) = true) => ?_) (fun (hb41 : (decide ((imGE s) ≠ 0)) = false) => ?_)
            ·
              have hc41 := of_decide_eq_true hb41
              have hg7 := get_no hc41
              refine WC.seq ?_
              refine WC.region ?_
              refine WL.op rfl rfl (op_move rfl ?_)
              refine WL.op rfl rfl (op_eqlN (b := 7) rfl rfl ?_)
              refine WL.op rfl rfl (op_move rfl ?_)
              refine WL.yes rfl rfl rfl (decide_eq_true hg7.1) rfl (op_fieldAddr rfl Fa.F59_2 ?_)
              refine WL.yes rfl rfl rfl (decide_eq_true hg7.1) rfl (op_load rfl (H40.cell (i := 11) rfl rfl) Try.underlying57 rfl ?_)
              refine WL.yes rfl rfl rfl (decide_eq_true hg7.1) rfl (op_lenA Try.underlying57 rfl (H40.arrR (i := 10) rfl) ?_)
              refine WL.yes rfl rfl rfl (decide_eq_true hg7.1) rfl (op_eqlN (b := 0) rfl rfl ?_)
              refine WL.op rfl rfl (op_pickT rfl (decide_eq_true hg7.1) rfl ?_)
              refine WL.op rfl rfl (op_move rfl ?_)
              refine WL.yes rfl rfl rfl (decide_eq_true (by rw [hg7.2]; rfl)) rfl (op_callF Fa.C38 rfl ((alive16_ok _).mono (fun e w42 hq => ?_)))
              obtain ⟨rfl, hf42⟩ := hq
              refine ⟨_, rfl, ?_⟩
              have H42 := H40.fr' hf42
              refine WL.op rfl rfl (op_pickT rfl (decide_eq_true (by rw [hg7.2]; rfl)) rfl ?_)
              refine WL.op rfl rfl (op_assign rfl ?_)
              refine WL.nil ?_
              refine WQ.next ?_
              refine WC.ret ?_
              refine WQ.thenRet ?_
              refine WQ.out (.tmp rfl .nil) ?_
              exact ⟨rfl, H42.fr⟩
            ·
              have hc41 := of_decide_eq_false hb41
              have hg0 : imGE s = 0 := Decidable.not_not.mp hc41
              have hgb := get_bounds hg0 (by omega)
              have hgp := back_put hg0
              refine WC.skip ?_
              refine WQ.next ?_
              refine WC.seq ?_
              refine WC.region ?_
              refine WL.op rfl rfl (op_loadS (vs := [_, _, _, _, _, _]) rfl (H40.cells (i := 11) rfl rfl) Try.underlying59 rfl Fa.I59 rfl ?_)
              refine WL.op rfl rfl (op_callF Fa.C41 rfl ((iput_ok ((imG s).pg) _ _ _ ((imG s).xs) ((imG s).ps) ((imG s).c) ((imG s).en) ((imG s).sg) _ (H40.arrR (i := 8) rfl) (H40.arrR (i := 9) rfl) (H40.arrR (i := 10) rfl) (by first | omega | exact hgb.1) (by first | omega | exact hgb.2.1) (by first | omega | exact hgb.2.2.1) (by first | with_reducible exact hb1 | with_reducible exact hb2 | with_reducible exact hgb.2.2.2)).mono (fun e w43 hq => ?_)))
              obtain ⟨rfl, hf43⟩ := hq
              refine ⟨_, rfl, ?_⟩
              have H43 := H40.fr' hf43
              refine WL.op rfl rfl (op_move rfl ?_)
              refine WL.op rfl rfl (op_extract rfl rfl ?_)
              refine WL.op rfl rfl (op_extract rfl rfl ?_)
              refine WL.op rfl rfl (op_assign rfl ?_)
              refine WL.op rfl rfl (op_assign rfl ?_)
              refine WL.nil ?_
              refine WQ.next ?_
              refine WC.seq ?_
              refine WC.region ?_
              refine WL.op rfl rfl (op_move rfl ?_)
              refine WL.op rfl rfl (op_eqlN (b := 0) rfl rfl ?_)
              refine WL.op rfl rfl (op_move rfl ?_)
              refine WL.yes rfl rfl rfl (decide_eq_true hgp.1) rfl (op_move rfl ?_)
              refine WL.yes rfl rfl rfl (decide_eq_true hgp.1) rfl (op_move rfl ?_)
              refine WL.yes rfl rfl rfl (decide_eq_true hgp.1) rfl (op_eqlStr rfl rfl ?_)
              refine WL.op rfl rfl (op_pickT rfl (decide_eq_true hgp.1) rfl ?_)
              refine WL.op rfl rfl (op_move rfl ?_)
              refine WL.yes rfl rfl rfl (decide_eq_true hgp.2) rfl (op_callF Fa.C38 rfl ((alive16_ok _).mono (fun e w44 hq => ?_)))
              obtain ⟨rfl, hf44⟩ := hq
              refine ⟨_, rfl, ?_⟩
              have H44 := H43.fr' hf44
              refine WL.op rfl rfl (op_pickT rfl (decide_eq_true hgp.2) rfl ?_)
              refine WL.op rfl rfl (op_assign rfl ?_)
              refine WL.nil ?_
              refine WQ.next ?_
              refine WC.ret ?_
              refine WQ.out (.tmp rfl .nil) ?_
              exact ⟨rfl, H44.fr⟩
end Go.Proofs.Ytpnghdalnghpcaa
