/- General lemmas and walks: WImg12, WImg14, WImg15, WImg16. No condition but what each theorem names. -/
import Derived.Test.YtpnghdalnghpcaaQf3143682
import Derived.Test.YtpnghdalnghpcaaQa2225328
import Derived.Test.YtpnghdalnghpcaaQ474e3aaf
/-! from WImg12 -/
namespace Go.Proofs.Ytpnghdalnghpcaa
open Go.Owl Go.Spec
set_option maxRecDepth 100000 in
theorem one16l_ok (a e0 : UInt32) (w : World) :
    Calls Try.prog 80 #[(vU32 a), (vU32 e0)] w (fun e w' => ∃ v, e = .returned (.agg #[vU32 0, .slice none 0 0, .slice none 0 0, .bool false, vU32 e0, v]) ∧ Own [] w w' [.row v 111 3 [Sg.mk a 5 [49, 50, 51, 52, 53, 54, 55, 56]].length (List.flatMap sgc [Sg.mk a 5 [49, 50, 51, 52, 53, 54, 55, 56]])]) := by
  refine enter (args := [(vU32 a), (vU32 e0)]) Try.func80 rfl rfl ?_
  have H0 : Own [] w w [] := Own.start w []
  refine WC.seq ?_
  refine WC.region ?_
  refine WL.op rfl rfl (op_alloc H0 Fa.I59 (fun b1 w1 H1 => ?_))
  refine WL.nil ?_
  refine WQ.next ?_
  refine WC.seq ?_
  refine WC.region ?_
  refine WL.op rfl rfl (op_move rfl ?_)
  refine WL.op rfl rfl (op_move rfl ?_)
  refine WL.op rfl rfl (op_build (cs := [_, _, _]) Fa.I111 Fa.PL111 rfl rfl ?_)
  refine WL.op rfl rfl (op_buildSlice (cs := [_, _, _]) H1 Try.underlying57 Fa.I111 rfl rfl rfl rfl (by decide) (by decide) (fun b2 w2 H2 => ?_))
  refine WL.op rfl rfl (op_build (cs := [_, _, _, _, _, _]) Fa.I59 Fa.PL59 rfl rfl ?_)
  refine WL.op rfl rfl (op_storeBW (i := 0) H2 rfl rfl rfl rfl (one_cons rfl (one_cons rfl (one_cons rfl (one_cons rfl (one_cons rfl (one_cons (Arr.one (H2.arrR (i := 1) rfl)) one_nil)))))) Fa.I59 (fun w3 H3 => ?_))
  refine WL.nil ?_
  refine WQ.next ?_
  refine WC.ret ?_
  refine WQ.out (.cell rfl (run_loadVarS (vs := [_, _, _, _, _, _]) (H3.cells (i := 0) rfl rfl) Try.underlying59 rfl Fa.I59 rfl) .nil) ?_
  exact ⟨_, rfl, H3.sel [1] rfl rfl⟩
set_option maxRecDepth 100000 in
theorem alive16_ok  (w : World) :
    Calls Try.prog 38 #[] w (fun e w' => e = .returned (.bool true) ∧ Fr [] w w') := by
  refine enter (args := []) Try.func38 rfl rfl ?_
  have H0 : Own [] w w [] := Own.start w []
  refine WC.seq ?_
  refine WC.region ?_
  refine WL.op rfl rfl (op_assign rfl ?_)
  refine WL.nil ?_
  refine WQ.next ?_
  refine WC.seq ?_
  refine WC.region ?_
  refine WL.op rfl rfl (op_callF Fa.C80 rfl ((one16l_ok 256 256 _).mono (fun e w1 hq => ?_)))
  obtain ⟨v1, rfl, hq1⟩ := hq
  refine ⟨_, rfl, ?_⟩
  have H1 : Own [] w w1 [.row v1 111 3 [Sg.mk 256 5 [49, 50, 51, 52, 53, 54, 55, 56]].length (List.flatMap sgc [Sg.mk 256 5 [49, 50, 51, 52, 53, 54, 55, 56]])] := H0.splice [] [] [.row v1 111 3 [Sg.mk 256 5 [49, 50, 51, 52, 53, 54, 55, 56]].length (List.flatMap sgc [Sg.mk 256 5 [49, 50, 51, 52, 53, 54, 55, 56]])] rfl rfl hq1 (Fits.solid True.intro Fits.nil)
  refine WL.op rfl rfl (op_callF Fa.C41 rfl ((iput_ok 0 _ _ _ [] [] false 256 ([Sg.mk 256 5 [49, 50, 51, 52, 53, 54, 55, 56]]) _ (Arr.nil _ _) (Arr.nil _ _) (H1.arrR (i := 0) rfl) (by decide) (by decide) (by decide) (by decide)).mono (fun e w2 hq => ?_)))
  obtain ⟨rfl, hf2⟩ := hq
  refine ⟨_, rfl, ?_⟩
  have H2 := H1.fr' hf2
  refine WL.op rfl rfl (op_move rfl ?_)
  refine WL.op rfl rfl (op_extract rfl rfl ?_)
  refine WL.op rfl rfl (op_extract rfl rfl ?_)
  refine WL.op rfl rfl (op_assign rfl ?_)
  refine WL.op rfl rfl (op_assign rfl ?_)
  refine WL.nil ?_
  refine WQ.next ?_
  refine WC.seq ?_
  refine WC.region ?_
  refine WL.op rfl rfl (op_move rfl ?_)
  refine WL.op rfl rfl (op_callF Fa.C49 rfl ((iget_ok (imB 0 [] [] false 256 ([Sg.mk 256 5 [49, 50, 51, 52, 53, 54, 55, 56]])) _ (by decide +kernel)).mono (fun e w3 hq => ?_)))
  obtain ⟨v3, u3, q3, rfl, hq3⟩ := hq
  refine ⟨_, rfl, ?_⟩
  have H3 : Own [] w w3 [.row v1 111 3 [Sg.mk 256 5 [49, 50, 51, 52, 53, 54, 55, 56]].length (List.flatMap sgc [Sg.mk 256 5 [49, 50, 51, 52, 53, 54, 55, 56]]), .row v3 130 2 (imG (imB 0 [] [] false 256 ([Sg.mk 256 5 [49, 50, 51, 52, 53, 54, 55, 56]]))).xs.length (List.flatMap xtc (imG (imB 0 [] [] false 256 ([Sg.mk 256 5 [49, 50, 51, 52, 53, 54, 55, 56]]))).xs), .row u3 92 1 (imG (imB 0 [] [] false 256 ([Sg.mk 256 5 [49, 50, 51, 52, 53, 54, 55, 56]]))).ps.length (List.map vU16 (imG (imB 0 [] [] false 256 ([Sg.mk 256 5 [49, 50, 51, 52, 53, 54, 55, 56]]))).ps), .row q3 111 3 (imG (imB 0 [] [] false 256 ([Sg.mk 256 5 [49, 50, 51, 52, 53, 54, 55, 56]]))).sg.length (List.flatMap sgc (imG (imB 0 [] [] false 256 ([Sg.mk 256 5 [49, 50, 51, 52, 53, 54, 55, 56]]))).sg)] := H2.splice [] [] [.row v3 130 2 (imG (imB 0 [] [] false 256 ([Sg.mk 256 5 [49, 50, 51, 52, 53, 54, 55, 56]]))).xs.length (List.flatMap xtc (imG (imB 0 [] [] false 256 ([Sg.mk 256 5 [49, 50, 51, 52, 53, 54, 55, 56]]))).xs), .row u3 92 1 (imG (imB 0 [] [] false 256 ([Sg.mk 256 5 [49, 50, 51, 52, 53, 54, 55, 56]]))).ps.length (List.map vU16 (imG (imB 0 [] [] false 256 ([Sg.mk 256 5 [49, 50, 51, 52, 53, 54, 55, 56]]))).ps), .row q3 111 3 (imG (imB 0 [] [] false 256 ([Sg.mk 256 5 [49, 50, 51, 52, 53, 54, 55, 56]]))).sg.length (List.flatMap sgc (imG (imB 0 [] [] false 256 ([Sg.mk 256 5 [49, 50, 51, 52, 53, 54, 55, 56]]))).sg)] rfl rfl hq3 (Fits.solid True.intro (Fits.solid True.intro (Fits.solid True.intro Fits.nil)))
  refine WL.op rfl rfl (op_move rfl ?_)
  refine WL.op rfl rfl (op_extract rfl rfl ?_)
  refine WL.op rfl rfl (op_extract rfl rfl ?_)
  refine WL.op rfl rfl (op_alloc H3 Fa.I59 (fun b4 w4 H4 => ?_))
  refine WL.op rfl rfl (op_storeBW (i := 4) H4 rfl rfl rfl rfl (one_cons rfl (one_cons (Arr.one (H4.arrR (i := 1) rfl)) (one_cons (Arr.one (H4.arrR (i := 2) rfl)) (one_cons rfl (one_cons rfl (one_cons (Arr.one (H4.arrR (i := 3) rfl)) one_nil)))))) Fa.I59 (fun w5 H5 => ?_))
  refine WL.op rfl rfl (op_assign rfl ?_)
  refine WL.nil ?_
  refine WQ.next ?_
  refine WC.seq ?_
  refine WC.region ?_
  refine WL.op rfl rfl (op_move rfl ?_)
  refine WL.op rfl rfl (op_addStr rfl rfl (by decide +kernel) ?_)
  refine WL.op rfl rfl (op_callF Fa.C49 rfl ((iget_ok ((imB 0 [] [] false 256 ([Sg.mk 256 5 [49, 50, 51, 52, 53, 54, 55, 56]])) ++ [120]) _ (by decide +kernel)).mono (fun e w6 hq => ?_)))
  obtain ⟨v6, u6, q6, rfl, hq6⟩ := hq
  refine ⟨_, rfl, ?_⟩
  have H6 : Own [] w w6 [.row v1 111 3 [Sg.mk 256 5 [49, 50, 51, 52, 53, 54, 55, 56]].length (List.flatMap sgc [Sg.mk 256 5 [49, 50, 51, 52, 53, 54, 55, 56]]), .row v3 130 2 (imG (imB 0 [] [] false 256 ([Sg.mk 256 5 [49, 50, 51, 52, 53, 54, 55, 56]]))).xs.length (List.flatMap xtc (imG (imB 0 [] [] false 256 ([Sg.mk 256 5 [49, 50, 51, 52, 53, 54, 55, 56]]))).xs), .row u3 92 1 (imG (imB 0 [] [] false 256 ([Sg.mk 256 5 [49, 50, 51, 52, 53, 54, 55, 56]]))).ps.length (List.map vU16 (imG (imB 0 [] [] false 256 ([Sg.mk 256 5 [49, 50, 51, 52, 53, 54, 55, 56]]))).ps), .row q3 111 3 (imG (imB 0 [] [] false 256 ([Sg.mk 256 5 [49, 50, 51, 52, 53, 54, 55, 56]]))).sg.length (List.flatMap sgc (imG (imB 0 [] [] false 256 ([Sg.mk 256 5 [49, 50, 51, 52, 53, 54, 55, 56]]))).sg), .blk b4 [(vU32 (imG (imB 0 [] [] false 256 ([Sg.mk 256 5 [49, 50, 51, 52, 53, 54, 55, 56]]))).pg), v3, u3, (.bool (imG (imB 0 [] [] false 256 ([Sg.mk 256 5 [49, 50, 51, 52, 53, 54, 55, 56]]))).c), (vU32 (imG (imB 0 [] [] false 256 ([Sg.mk 256 5 [49, 50, 51, 52, 53, 54, 55, 56]]))).en), q3] 59, .row v6 130 2 (imG ((imB 0 [] [] false 256 ([Sg.mk 256 5 [49, 50, 51, 52, 53, 54, 55, 56]])) ++ [120])).xs.length (List.flatMap xtc (imG ((imB 0 [] [] false 256 ([Sg.mk 256 5 [49, 50, 51, 52, 53, 54, 55, 56]])) ++ [120])).xs), .row u6 92 1 (imG ((imB 0 [] [] false 256 ([Sg.mk 256 5 [49, 50, 51, 52, 53, 54, 55, 56]])) ++ [120])).ps.length (List.map vU16 (imG ((imB 0 [] [] false 256 ([Sg.mk 256 5 [49, 50, 51, 52, 53, 54, 55, 56]])) ++ [120])).ps), .row q6 111 3 (imG ((imB 0 [] [] false 256 ([Sg.mk 256 5 [49, 50, 51, 52, 53, 54, 55, 56]])) ++ [120])).sg.length (List.flatMap sgc (imG ((imB 0 [] [] false 256 ([Sg.mk 256 5 [49, 50, 51, 52, 53, 54, 55, 56]])) ++ [120])).sg)] := H5.splice [] [] [.row v6 130 2 (imG ((imB 0 [] [] false 256 ([Sg.mk 256 5 [49, 50, 51, 52, 53, 54, 55, 56]])) ++ [120])).xs.length (List.flatMap xtc (imG ((imB 0 [] [] false 256 ([Sg.mk 256 5 [49, 50, 51, 52, 53, 54, 55, 56]])) ++ [120])).xs), .row u6 92 1 (imG ((imB 0 [] [] false 256 ([Sg.mk 256 5 [49, 50, 51, 52, 53, 54, 55, 56]])) ++ [120])).ps.length (List.map vU16 (imG ((imB 0 [] [] false 256 ([Sg.mk 256 5 [49, 50, 51, 52, 53, 54, 55, 56]])) ++ [120])).ps), .row q6 111 3 (imG ((imB 0 [] [] false 256 ([Sg.mk 256 5 [49, 50, 51, 52, 53, 54, 55, 56]])) ++ [120])).sg.length (List.flatMap sgc (imG ((imB 0 [] [] false 256 ([Sg.mk 256 5 [49, 50, 51, 52, 53, 54, 55, 56]])) ++ [120])).sg)] rfl rfl hq6 (Fits.solid True.intro (Fits.solid True.intro (Fits.solid True.intro Fits.nil)))
  refine WL.op rfl rfl (op_move rfl ?_)
  refine WL.op rfl rfl (op_extract rfl rfl ?_)
  refine WL.op rfl rfl (op_extract rfl rfl ?_)
  refine WL.op rfl rfl (op_alloc H6 Fa.I59 (fun b7 w7 H7 => ?_))
  refine WL.op rfl rfl (op_storeBW (i := 8) H7 rfl rfl rfl rfl (one_cons rfl (one_cons (Arr.one (H7.arrR (i := 5) rfl)) (one_cons (Arr.one (H7.arrR (i := 6) rfl)) (one_cons rfl (one_cons rfl (one_cons (Arr.one (H7.arrR (i := 7) rfl)) one_nil)))))) Fa.I59 (fun w8 H8 => ?_))
  refine WL.op rfl rfl (op_assign rfl ?_)
  refine WL.nil ?_
  refine WQ.next ?_
  refine WC.seq ?_
  refine WC.draw 37 Fa.M H8 (HW.op rfl (fun w1 H1 => op_move rfl ⟨rfl, Fr.refl _ _⟩) (HW.op rfl (fun w1 H1 => op_eqlN (b := 0) rfl rfl ⟨rfl, Fr.refl _ _⟩) (HW.op rfl (fun w1 H1 => op_move rfl ⟨rfl, Fr.refl _ _⟩) (HW.yes rfl rfl rfl (by kernel_rfl) (fun w1 H1 => op_move rfl ⟨rfl, Fr.refl _ _⟩) (HW.yes rfl rfl rfl (by kernel_rfl) (fun w1 H1 => op_eqlN (b := 0) rfl rfl ⟨rfl, Fr.refl _ _⟩) (HW.op rfl (fun w1 H1 => op_pickT rfl (by kernel_rfl) rfl ⟨rfl, Fr.refl _ _⟩) (HW.op rfl (fun w1 H1 => op_move rfl ⟨rfl, Fr.refl _ _⟩) (HW.yes rfl rfl rfl (by kernel_rfl) (fun w1 H1 => op_loadS (vs := [_, _, _, _, _, _]) rfl (H1.cells (i := 4) rfl rfl) Try.underlying59 rfl Fa.I59 rfl ⟨rfl, Fr.refl _ _⟩) (HW.fltY (mk := fun bq => (.agg #[(vU32 0), (.slice none 0 0), (.slice none 0 0), (.bool false), (vU32 256), bq.2])) (ent := fun bq => .row bq.2 111 3 [Sg.mk 256 5 [49, 50, 51, 52, 53, 54, 55, 56]].length (List.flatMap sgc [Sg.mk 256 5 [49, 50, 51, 52, 53, 54, 55, 56]])) rfl rfl rfl (by kernel_rfl) (fun w1 H1 => op_callF Fa.C80 rfl ((one16l_ok 256 256 _).mono (fun e w2 ⟨v, he, hO⟩ => ⟨_, he, (0, v), rfl, hO, True.intro⟩))) (HW.opFsY 0 rfl rfl rfl (fun _ => rfl) (by kernel_rfl) (fun bq w1 H1 => op_callF Fa.C43 rfl ((risame_ok ((imG (imB 0 [] [] false 256 ([Sg.mk 256 5 [49, 50, 51, 52, 53, 54, 55, 56]]))).pg) ((imG (imB 0 [] [] false 256 ([Sg.mk 256 5 [49, 50, 51, 52, 53, 54, 55, 56]]))).c) _ _ _ ((imG (imB 0 [] [] false 256 ([Sg.mk 256 5 [49, 50, 51, 52, 53, 54, 55, 56]]))).xs) ((imG (imB 0 [] [] false 256 ([Sg.mk 256 5 [49, 50, 51, 52, 53, 54, 55, 56]]))).ps) ((imG (imB 0 [] [] false 256 ([Sg.mk 256 5 [49, 50, 51, 52, 53, 54, 55, 56]]))).en) ((imG (imB 0 [] [] false 256 ([Sg.mk 256 5 [49, 50, 51, 52, 53, 54, 55, 56]]))).sg) 0 false _ _ _ [] [] 256 ([Sg.mk 256 5 [49, 50, 51, 52, 53, 54, 55, 56]]) _ (H1.arrR (i := 1) rfl) (H1.arrR (i := 2) rfl) (H1.arrR (i := 3) rfl) (Arr.nil _ _) (Arr.nil _ _) (H1.arrR (i := 9) rfl) (xlt _) (plt _) (slt _)).mono (fun e w2 hq => ⟨_, hq.1, rfl, hq.2⟩))) (HW.op rfl (fun w1 H1 => op_pickT rfl (by kernel_rfl) rfl ⟨rfl, Fr.refl _ _⟩) (HW.op rfl (fun w1 H1 => op_move rfl ⟨rfl, Fr.refl _ _⟩) (HW.yes rfl rfl rfl (by kernel_rfl) (fun w1 H1 => op_move rfl ⟨rfl, Fr.refl _ _⟩) (HW.yes rfl rfl rfl (by kernel_rfl) (fun w1 H1 => op_eqlN (b := 7) rfl rfl ⟨rfl, Fr.refl _ _⟩) (HW.op rfl (fun w1 H1 => op_pickT rfl (by kernel_rfl) rfl ⟨rfl, Fr.refl _ _⟩) (HW.op rfl (fun w1 H1 => op_move rfl ⟨rfl, Fr.refl _ _⟩) (HW.fltY (mk := fun bq => (.agg #[(vU32 0), (.slice none 0 0), (.slice none 0 0), (.bool false), (vU32 260), bq.2])) (ent := fun bq => .row bq.2 111 3 [Sg.mk 256 5 [49, 50, 51, 52, 53, 54, 55, 56]].length (List.flatMap sgc [Sg.mk 256 5 [49, 50, 51, 52, 53, 54, 55, 56]])) rfl rfl rfl (by kernel_rfl) (fun w1 H1 => op_callF Fa.C80 rfl ((one16l_ok 256 260 _).mono (fun e w2 ⟨v, he, hO⟩ => ⟨_, he, (0, v), rfl, hO, True.intro⟩))) (HW.opFsY 0 rfl rfl rfl (fun _ => rfl) (by kernel_rfl) (fun bq w1 H1 => op_callF Fa.C40 rfl ((icheck_ok 0 _ _ _ [] [] false 260 ([Sg.mk 256 5 [49, 50, 51, 52, 53, 54, 55, 56]]) _ (Arr.nil _ _) (Arr.nil _ _) (H1.arrR (i := 9) rfl) (by decide) (by decide) (by decide)).mono (fun e w2 hq => ⟨_, hq.1, rfl, hq.2⟩))) (HW.yes rfl rfl rfl (by kernel_rfl) (fun w1 H1 => op_eqlN (b := 2) rfl rfl ⟨rfl, Fr.refl _ _⟩) (HW.op rfl (fun w1 H1 => op_pickT rfl (by kernel_rfl) rfl ⟨rfl, Fr.refl _ _⟩) (HW.op rfl (fun w1 H1 => op_move rfl ⟨rfl, Fr.refl _ _⟩) (HW.fltY (mk := fun bq => (.agg #[(vU32 0), (.slice none 0 0), (.slice none 0 0), (.bool false), (vU32 257), bq.2])) (ent := fun bq => .row bq.2 111 3 [Sg.mk 257 5 [49, 50, 51, 52, 53, 54, 55, 56]].length (List.flatMap sgc [Sg.mk 257 5 [49, 50, 51, 52, 53, 54, 55, 56]])) rfl rfl rfl (by kernel_rfl) (fun w1 H1 => op_callF Fa.C80 rfl ((one16l_ok 257 257 _).mono (fun e w2 ⟨v, he, hO⟩ => ⟨_, he, (0, v), rfl, hO, True.intro⟩))) (HW.opFsY 0 rfl rfl rfl (fun _ => rfl) (by kernel_rfl) (fun bq w1 H1 => op_callF Fa.C40 rfl ((icheck_ok 0 _ _ _ [] [] false 257 ([Sg.mk 257 5 [49, 50, 51, 52, 53, 54, 55, 56]]) _ (Arr.nil _ _) (Arr.nil _ _) (H1.arrR (i := 9) rfl) (by decide) (by decide) (by decide)).mono (fun e w2 hq => ⟨_, hq.1, rfl, hq.2⟩))) (HW.yes rfl rfl rfl (by kernel_rfl) (fun w1 H1 => op_eqlN (b := 2) rfl rfl ⟨rfl, Fr.refl _ _⟩) (HW.op rfl (fun w1 H1 => op_pickT rfl (by kernel_rfl) rfl ⟨rfl, Fr.refl _ _⟩) (HW.op rfl (fun w1 H1 => op_move rfl ⟨rfl, Fr.refl _ _⟩) (HW.fltY (mk := fun bq => (.agg #[(vU32 0), (.slice none 0 0), (.slice none 0 0), (.bool false), (vU32 0), bq.2])) (ent := fun bq => .row bq.2 111 3 [Sg.mk 0 5 [49, 50, 51, 52, 53, 54, 55, 56]].length (List.flatMap sgc [Sg.mk 0 5 [49, 50, 51, 52, 53, 54, 55, 56]])) rfl rfl rfl (by kernel_rfl) (fun w1 H1 => op_callF Fa.C80 rfl ((one16l_ok 0 0 _).mono (fun e w2 ⟨v, he, hO⟩ => ⟨_, he, (0, v), rfl, hO, True.intro⟩))) (HW.opFsY 0 rfl rfl rfl (fun _ => rfl) (by kernel_rfl) (fun bq w1 H1 => op_callF Fa.C40 rfl ((icheck_ok 0 _ _ _ [] [] false 0 ([Sg.mk 0 5 [49, 50, 51, 52, 53, 54, 55, 56]]) _ (Arr.nil _ _) (Arr.nil _ _) (H1.arrR (i := 9) rfl) (by decide) (by decide) (by decide)).mono (fun e w2 hq => ⟨_, hq.1, rfl, hq.2⟩))) (HW.yes rfl rfl rfl (by kernel_rfl) (fun w1 H1 => op_eqlN (b := 2) rfl rfl ⟨rfl, Fr.refl _ _⟩) (HW.op rfl (fun w1 H1 => op_pickT rfl (by kernel_rfl) rfl ⟨rfl, Fr.refl _ _⟩) (HW.op rfl (fun w1 H1 => op_move rfl ⟨rfl, Fr.refl _ _⟩) (HW.yes rfl rfl rfl (by kernel_rfl) (fun w1 H1 => op_loadS (vs := [_, _, _, _, _, _]) rfl (H1.cells (i := 4) rfl rfl) Try.underlying59 rfl Fa.I59 rfl ⟨rfl, Fr.refl _ _⟩) (HW.fltY (mk := fun bq => bq.2) (ent := fun bq => .row bq.2 22 1 (if imE ((imG (imB 0 [] [] false 256 ([Sg.mk 256 5 [49, 50, 51, 52, 53, 54, 55, 56]]))).pg) ((imG (imB 0 [] [] false 256 ([Sg.mk 256 5 [49, 50, 51, 52, 53, 54, 55, 56]]))).xs) ((imG (imB 0 [] [] false 256 ([Sg.mk 256 5 [49, 50, 51, 52, 53, 54, 55, 56]]))).ps) ((imG (imB 0 [] [] false 256 ([Sg.mk 256 5 [49, 50, 51, 52, 53, 54, 55, 56]]))).en) ((imG (imB 0 [] [] false 256 ([Sg.mk 256 5 [49, 50, 51, 52, 53, 54, 55, 56]]))).sg) = 0 then pagesTo ((imG (imB 0 [] [] false 256 ([Sg.mk 256 5 [49, 50, 51, 52, 53, 54, 55, 56]]))).sg) ((imG (imB 0 [] [] false 256 ([Sg.mk 256 5 [49, 50, 51, 52, 53, 54, 55, 56]]))).sg).length else []).length (List.map vU32 (if imE ((imG (imB 0 [] [] false 256 ([Sg.mk 256 5 [49, 50, 51, 52, 53, 54, 55, 56]]))).pg) ((imG (imB 0 [] [] false 256 ([Sg.mk 256 5 [49, 50, 51, 52, 53, 54, 55, 56]]))).xs) ((imG (imB 0 [] [] false 256 ([Sg.mk 256 5 [49, 50, 51, 52, 53, 54, 55, 56]]))).ps) ((imG (imB 0 [] [] false 256 ([Sg.mk 256 5 [49, 50, 51, 52, 53, 54, 55, 56]]))).en) ((imG (imB 0 [] [] false 256 ([Sg.mk 256 5 [49, 50, 51, 52, 53, 54, 55, 56]]))).sg) = 0 then pagesTo ((imG (imB 0 [] [] false 256 ([Sg.mk 256 5 [49, 50, 51, 52, 53, 54, 55, 56]]))).sg) ((imG (imB 0 [] [] false 256 ([Sg.mk 256 5 [49, 50, 51, 52, 53, 54, 55, 56]]))).sg).length else []))) rfl rfl rfl (by kernel_rfl) (fun w1 H1 => op_callF Fa.C42 rfl ((ipgs_ok ((imG (imB 0 [] [] false 256 ([Sg.mk 256 5 [49, 50, 51, 52, 53, 54, 55, 56]]))).pg) _ _ _ ((imG (imB 0 [] [] false 256 ([Sg.mk 256 5 [49, 50, 51, 52, 53, 54, 55, 56]]))).xs) ((imG (imB 0 [] [] false 256 ([Sg.mk 256 5 [49, 50, 51, 52, 53, 54, 55, 56]]))).ps) ((imG (imB 0 [] [] false 256 ([Sg.mk 256 5 [49, 50, 51, 52, 53, 54, 55, 56]]))).c) ((imG (imB 0 [] [] false 256 ([Sg.mk 256 5 [49, 50, 51, 52, 53, 54, 55, 56]]))).en) ((imG (imB 0 [] [] false 256 ([Sg.mk 256 5 [49, 50, 51, 52, 53, 54, 55, 56]]))).sg) _ (H1.arrR (i := 1) rfl) (H1.arrR (i := 2) rfl) (H1.arrR (i := 3) rfl) (xlt _) (plt _) (slt _) (get_bounds (by decide +kernel) (by decide +kernel)).2.2.2 (Nat.le_trans (get_bounds (by decide +kernel) (by decide +kernel)).2.2.1 (by decide))).mono (fun e w2 ⟨v, he, hO⟩ => ⟨_, he, (0, v), rfl, hO, True.intro⟩))) (HW.opFsY 0 rfl rfl rfl (fun _ => rfl) (by kernel_rfl) (fun bq w1 H1 => op_lenA Try.underlying64 rfl (H1.arrR (i := 9) rfl) ⟨rfl, Fr.refl _ _⟩) (HW.yes rfl rfl rfl (by kernel_rfl) (fun w1 H1 => op_eqlN (b := 1) rfl rfl ⟨rfl, Fr.refl _ _⟩) (HW.op rfl (fun w1 H1 => op_pickT rfl (by kernel_rfl) rfl ⟨rfl, Fr.refl _ _⟩) (HW.op rfl (fun w1 H1 => op_assign rfl ⟨rfl, Fr.refl _ _⟩)  HW.nil))))))))))))))))))))))))))))))))))))) (by kernel_rfl) ?_
  intro β18 w18 H18
  refine WL.nil ?_
  refine WQ.next ?_
  refine WC.ret ?_
  refine WQ.out (.tmp rfl .nil) ?_
  exact ⟨rfl, H18.fr⟩
end Go.Proofs.Ytpnghdalnghpcaa
/-! from WImg14 -/
namespace Go.Proofs.Ytpnghdalnghpcaa
open Go.Owl Go.Spec
theorem one16r_ok (q : Nat) (r : Rd) (n : Int) (T : List Nat) (w : World) (H : Own T w w [.blk q [str r.rest, vN r.f] 47]) (hr : r.rest.length < 2 ^ 47) :
    Calls Try.prog 98 #[ptr q 0, vI n] w (fun e w' => e = .returned (vU32 (numR r n).1.1) ∧ Own T w w' [.blk q [str (numR r n).2.rest, vN (numR r n).2.f] 47]) := by
  have h := one16_ok q r.rest r.f n T w H hr
  have hl := (Like.re r).num n
  rw [hl.1, hl.2.1, hl.2.2] at h
  exact h
theorem take16r_ok (q : Nat) (r : Rd) (n : Int) (T : List Nat) (w : World) (H : Own T w w [.blk q [str r.rest, vN r.f] 47]) (hr : r.rest.length < 2 ^ 47) :
    Calls Try.prog 31 #[ptr q 0, vI n] w (fun e w' => e = .returned (.tuple #[str (takeR r n).1.1, vN (takeR r n).1.2]) ∧ Own T w w' [.blk q [str (takeR r n).2.rest, vN (takeR r n).2.f] 47]) := by
  have h := ftake_ok q r.rest r.f n T w H hr
  have hl := (Like.re r).take n
  rw [hl.1, hl.2.1, hl.2.2] at h
  exact h
theorem end16r_ok (q : Nat) (r : Rd) (T : List Nat) (w : World) (H : Own T w w [.blk q [str r.rest, vN r.f] 47]) (hr : r.rest.length < 2 ^ 47) :
    Calls Try.prog 35 #[ptr q 0] w (fun e w' => e = .returned (vN (endR r).1) ∧ Own T w w' [.blk q [str (endR r).2.rest, vN (endR r).2.f] 47]) := by
  have h := fend_ok q r.rest r.f T w H hr
  have hl := (Like.re r).end_
  rw [hl.1, hl.2.1, hl.2.2] at h
  exact h
end Go.Proofs.Ytpnghdalnghpcaa
/-! from WImg15 -/
namespace Go.Proofs.Ytpnghdalnghpcaa
open Go.Owl Go.Spec
set_option maxHeartbeats 3000000 in
set_option maxRecDepth 100000 in
theorem rget_ok (s : List UInt8) (w : World) (hs : s.length < 2 ^ 47) :
    Calls Try.prog 50 #[(str s)] w (fun e w' => ∃ v u q, e = .returned (.tuple #[.agg #[vU32 (imG s).pg, v, u, .bool (imG s).c, vU32 (imG s).en, q], vN (imGE s)]) ∧ Own [] w w' [.row v 130 2 (imG s).xs.length (List.flatMap xtc (imG s).xs), .row u 92 1 (imG s).ps.length (List.map vU16 (imG s).ps), .row q 111 3 (imG s).sg.length (List.flatMap sgc (imG s).sg)]) := by
  refine enter (args := [(str s)]) Try.func50 rfl rfl ?_
  have H0 : Own [] w w [] := Own.start w []
  refine WC.seq ?_
  refine WC.region ?_
  refine WL.op rfl rfl (op_alloc H0 Fa.I59 (fun b1 w1 H1 => ?_))
  refine WL.op rfl rfl (op_assign rfl ?_)
  refine WL.nil ?_
  refine WQ.next ?_
  refine WC.seq ?_
  refine WC.region ?_
  refine WL.op rfl rfl (op_move rfl ?_)
  refine WL.op rfl rfl (op_build (cs := [_, _]) Fa.I47 Fa.PL47 rfl rfl ?_)
  refine WL.op rfl rfl (op_box H1 rfl rfl (fun b2 w2 H2 => ?_))
  refine WL.op rfl rfl (op_assign rfl ?_)
  refine WL.nil ?_
  refine WQ.next ?_
  refine WC.seq ?_
  refine WC.region ?_
  have H3 : Own [] w w2 [.blk b1 [(vU32 0), (.slice none 0 0), (.slice none 0 0), (.bool false), (vU32 0), (.slice none 0 0)] 59, .blk b2 [(str (Rd.mk s 0 0 (Nat.zero_le _)).rest), (vN (Rd.mk s 0 0 (Nat.zero_le _)).f)] 47] := by have h := H2; rw [← rest0 s 0 (Nat.zero_le _)] at h; exact h
  refine WL.op rfl rfl (op_move rfl ?_)
  refine WL.op rfl rfl (op_callF Fa.C31 rfl ((take16r_ok b2 (Rd.mk s 0 0 (Nat.zero_le _)) (4) _ _ (H3.part [1] rfl rfl) (by refine rest_lt ?_; first | (rw [g1_t]; exact hs) | (rw [g2_t]; exact hs) | (rw [g4_t]; exact hs) | (rw [g6_t]; exact hs) | (rw [g7_t]; exact hs) | (rw [g8_t]; exact hs) | (rw [g10_t]; exact hs) | (rw [xsD_t, g3_t]; exact hs) | (rw [numR_s, xsD_t, g3_t]; exact hs) | (rw [psD_t, g5_t]; exact hs) | (rw [sgD_t, g9_t]; exact hs) | (rw [numR_s, sgD_t, g9_t]; exact hs) | (rw [numR_s, numR_s, sgD_t, g9_t]; exact hs) | (rw [numR_s, numR_s, numR_s, sgD_t, g9_t]; exact hs) | exact hs)).mono (fun e w4 hq => ?_)))
  obtain ⟨rfl, hq4⟩ := hq
  refine ⟨_, rfl, ?_⟩
  have H4 : Own [] w w4 [.blk b1 [(vU32 0), (.slice none 0 0), (.slice none 0 0), (.bool false), (vU32 0), (.slice none 0 0)] 59, .blk b2 [(str ((takeR (Rd.mk s 0 0 (Nat.zero_le _)) 4).2).rest), (vN ((takeR (Rd.mk s 0 0 (Nat.zero_le _)) 4).2).f)] 47] := H3.splice [1] [.blk b2 [(str ((takeR (Rd.mk s 0 0 (Nat.zero_le _)) 4).2).rest), (vN ((takeR (Rd.mk s 0 0 (Nat.zero_le _)) 4).2).f)] 47] [] rfl rfl hq4 (Fits.solid True.intro Fits.nil)
  refine WL.op rfl rfl (op_move rfl ?_)
  refine WL.op rfl rfl (op_extract rfl rfl ?_)
  refine WL.op rfl rfl (op_extract rfl rfl ?_)
  refine WL.op rfl rfl (op_assign rfl ?_)
  refine WL.op rfl rfl (op_assign rfl ?_)
  refine WL.nil ?_
  refine WQ.next ?_
  refine WC.seq ?_
  refine WC.region ?_
  have H5 : Own [] w w4 [.blk b1 [(vU32 0), (.slice none 0 0), (.slice none 0 0), (.bool false), (vU32 0), (.slice none 0 0)] 59, .blk b2 [(str ((g1 s).2).rest), (vN ((g1 s).2).f)] 47] := by have h := H4; rw [g1_e] at h; exact h
  rw [g1_e]
  refine WL.op rfl rfl (op_alloc H5 Fa.I59 (fun b6 w6 H6 => ?_))
  refine WL.nil ?_
  refine WQ.next ?_
  refine WC.seq ?_
  refine WC.region ?_
  refine WL.op rfl rfl (op_move rfl ?_)
  refine WL.op rfl rfl (op_callF Fa.C98 rfl ((one16r_ok b2 ((g1 s).2) (4) _ _ (H6.part [1] rfl rfl) (by refine rest_lt ?_; first | (rw [g1_t]; exact hs) | (rw [g2_t]; exact hs) | (rw [g4_t]; exact hs) | (rw [g6_t]; exact hs) | (rw [g7_t]; exact hs) | (rw [g8_t]; exact hs) | (rw [g10_t]; exact hs) | (rw [xsD_t, g3_t]; exact hs) | (rw [numR_s, xsD_t, g3_t]; exact hs) | (rw [psD_t, g5_t]; exact hs) | (rw [sgD_t, g9_t]; exact hs) | (rw [numR_s, sgD_t, g9_t]; exact hs) | (rw [numR_s, numR_s, sgD_t, g9_t]; exact hs) | (rw [numR_s, numR_s, numR_s, sgD_t, g9_t]; exact hs) | exact hs)).mono (fun e w7 hq => ?_)))
  obtain ⟨rfl, hq7⟩ := hq
  refine ⟨_, rfl, ?_⟩
  have H7 : Own [] w w7 [.blk b1 [(vU32 0), (.slice none 0 0), (.slice none 0 0), (.bool false), (vU32 0), (.slice none 0 0)] 59, .blk b2 [(str ((numR ((g1 s).2) 4).2).rest), (vN ((numR ((g1 s).2) 4).2).f)] 47, .blk b6 [(vU32 0), (.slice none 0 0), (.slice none 0 0), (.bool false), (vU32 0), (.slice none 0 0)] 59] := H6.splice [1] [.blk b2 [(str ((numR ((g1 s).2) 4).2).rest), (vN ((numR ((g1 s).2) 4).2).f)] 47] [] rfl rfl hq7 (Fits.solid True.intro Fits.nil)
  refine WL.op rfl rfl (op_fieldAddr rfl Fa.F59_0 ?_)
  refine WL.op rfl rfl (op_fieldAddr rfl Fa.F56_0 ?_)
  refine WL.op rfl rfl (op_storeB (i := 2) H7 rfl rfl rfl rfl rfl Fa.I22 (fun w8 H8 => ?_))
  refine WL.nil ?_
  refine WQ.next ?_
  refine WC.seq ?_
  refine WC.region ?_
  have H9 : Own [] w w8 [.blk b1 [(vU32 0), (.slice none 0 0), (.slice none 0 0), (.bool false), (vU32 0), (.slice none 0 0)] 59, .blk b2 [(str ((g2 s).2).rest), (vN ((g2 s).2).f)] 47, .blk b6 [(vU32 (g2 s).1.1), (.slice none 0 0), (.slice none 0 0), (.bool false), (vU32 0), (.slice none 0 0)] 59] := by have h := H8; rw [g2_e] at h; exact h
  have H10 : Own [] w w8 [.blk b1 [(vU32 0), (.slice none 0 0), (.slice none 0 0), (.bool false), (vU32 0), (.slice none 0 0)] 59, .blk b2 [(str ((g2 s).2).rest), (vN ((g2 s).2).f)] 47, .blk b6 [(vU32 (g2 s).1.1), (.slice none 0 0), (.slice none 0 0), (.bool false), (vU32 0), (.slice none 0 0)] 59, .row (.slice none 0 0) 130 2 0 (List.flatMap xtc [])] := H9.nilRow 130 2
  have H11 : Own [] w w8 [.blk b1 [(vU32 0), (.slice none 0 0), (.slice none 0 0), (.bool false), (vU32 0), (.slice none 0 0)] 59, .blk b2 [(str ((g2 s).2).rest), (vN ((g2 s).2).f)] 47, .blk b6 [(vU32 (g2 s).1.1), (.slice none 0 0), (.slice none 0 0), (.bool false), (vU32 0), (.slice none 0 0)] 59, .row (.slice none 0 0) 130 2 0 (List.flatMap xtc []), .row (.slice none 0 0) 92 1 0 (List.map vU16 [])] := H10.nilRow 92 1
  have H12 : Own [] w w8 [.blk b1 [(vU32 0), (.slice none 0 0), (.slice none 0 0), (.bool false), (vU32 0), (.slice none 0 0)] 59, .blk b2 [(str ((g2 s).2).rest), (vN ((g2 s).2).f)] 47, .blk b6 [(vU32 (g2 s).1.1), (.slice none 0 0), (.slice none 0 0), (.bool false), (vU32 0), (.slice none 0 0)] 59, .row (.slice none 0 0) 130 2 0 (List.flatMap xtc []), .row (.slice none 0 0) 92 1 0 (List.map vU16 []), .row (.slice none 0 0) 111 3 0 (List.flatMap sgc [])] := H11.nilRow 111 3
  refine WL.op rfl rfl (op_move rfl ?_)
  refine WL.op rfl rfl (op_callF Fa.C98 rfl ((one16r_ok b2 ((g2 s).2) (1) _ _ (H12.part [1] rfl rfl) (by refine rest_lt ?_; first | (rw [g1_t]; exact hs) | (rw [g2_t]; exact hs) | (rw [g4_t]; exact hs) | (rw [g6_t]; exact hs) | (rw [g7_t]; exact hs) | (rw [g8_t]; exact hs) | (rw [g10_t]; exact hs) | (rw [xsD_t, g3_t]; exact hs) | (rw [numR_s, xsD_t, g3_t]; exact hs) | (rw [psD_t, g5_t]; exact hs) | (rw [sgD_t, g9_t]; exact hs) | (rw [numR_s, sgD_t, g9_t]; exact hs) | (rw [numR_s, numR_s, sgD_t, g9_t]; exact hs) | (rw [numR_s, numR_s, numR_s, sgD_t, g9_t]; exact hs) | exact hs)).mono (fun e w13 hq => ?_)))
  obtain ⟨rfl, hq13⟩ := hq
  refine ⟨_, rfl, ?_⟩
  have H13 : Own [] w w13 [.blk b1 [(vU32 0), (.slice none 0 0), (.slice none 0 0), (.bool false), (vU32 0), (.slice none 0 0)] 59, .blk b2 [(str ((numR ((g2 s).2) 1).2).rest), (vN ((numR ((g2 s).2) 1).2).f)] 47, .blk b6 [(vU32 (g2 s).1.1), (.slice none 0 0), (.slice none 0 0), (.bool false), (vU32 0), (.slice none 0 0)] 59, .row (.slice none 0 0) 130 2 0 (List.flatMap xtc []), .row (.slice none 0 0) 92 1 0 (List.map vU16 []), .row (.slice none 0 0) 111 3 0 (List.flatMap sgc [])] := H12.splice [1] [.blk b2 [(str ((numR ((g2 s).2) 1).2).rest), (vN ((numR ((g2 s).2) 1).2).f)] 47] [] rfl rfl hq13 (Fits.solid True.intro Fits.nil)
  have H14 : Own [] w w13 [.blk b1 [(vU32 0), (.slice none 0 0), (.slice none 0 0), (.bool false), (vU32 0), (.slice none 0 0)] 59, .blk b2 [(str ((g3 s).2).rest), (vN ((g3 s).2).f)] 47, .blk b6 [(vU32 (g2 s).1.1), (.slice none 0 0), (.slice none 0 0), (.bool false), (vU32 0), (.slice none 0 0)] 59, .row (.slice none 0 0) 130 2 0 (List.flatMap xtc []), .row (.slice none 0 0) 92 1 0 (List.map vU16 []), .row (.slice none 0 0) 111 3 0 (List.flatMap sgc [])] := by have h := H13; rw [g3_e] at h; exact h
  rw [g3_e]
  refine WL.op rfl rfl (op_assign rfl ?_)
  refine WL.nil ?_
  refine WQ.next ?_
  refine WC.seq ?_
  refine WC.seq ?_
  refine WC.region ?_
  refine WL.op rfl rfl (op_assign rfl ?_)
  refine WL.nil ?_
  refine WQ.next ?_
  refine WC.block ?_
  refine WC.loop (α := Nat × Value) (fun (k, x) => [(2, (ptr b1 0)), (4, (ptr b2 0)), (5, (str (g1 s).1.1)), (7, (ptr b6 0)), (8, (vU32 (g3 s).1.1)), (9, (vU32 (UInt32.ofNat k)))]) (fun (k, x) w' => (k ≤ (g3 s).1.1.toNat) ∧ Own [] w w' [.blk b1 [(vU32 0), (.slice none 0 0), (.slice none 0 0), (.bool false), (vU32 0), (.slice none 0 0)] 59, .blk b2 [(str (xsD (g3 s).2 k).rest), (vN (xsD (g3 s).2 k).f)] 47, .blk b6 [(vU32 (g2 s).1.1), x, (.slice none 0 0), (.bool false), (vU32 0), (.slice none 0 0)] 59, .row x 130 2 k (List.flatMap xtc (xsL (g3 s).2 k)), .row (.slice none 0 0) 92 1 0 (List.map vU16 []), .row (.slice none 0 0) 111 3 0 (List.flatMap sgc [])]) (fun (k, x) => (g3 s).1.1.toNat - k) (0, (.slice none 0 0)) ⟨(Nat.zero_le _), (by rw [xsD_0]; exact H14)⟩ ⟨rfl, rfl, rfl, rfl, rfl, rfl, trivial⟩ ?_
  rintro ⟨k, x⟩ w15 ⟨hk1, H15⟩
  show WC _ _ _ _ _ [(2, (ptr b1 0)), (4, (ptr b2 0)), (5, (str (g1 s).1.1)), (7, (ptr b6 0)), (8, (vU32 (g3 s).1.1)), (9, (vU32 (UInt32.ofNat k)))] _
  have hnl := (g3 s).1.1.toNat_lt
  have hct := u32_lt (k := k) (n := (g3 s).1.1) (by omega)
  refine WC.seq ?_
  refine WC.seq ?_
  refine WC.region ?_
  refine WL.op rfl rfl (op_move rfl ?_)
  refine WL.op rfl rfl (op_move rfl ?_)
  refine WL.op rfl rfl (op_lssU32 rfl rfl ?_)
  refine WL.nil ?_
  refine WQ.next ?_
  refine WC.cond rfl (fun (hb16 : (decide ((UInt32.ofNat k) < (g3 s).1.1)) = true) => ?_) (fun (hb16 : (decide ((UInt32.ofNat k) < (g3 s).1.1)) = false) => ?_)
  ·
    have hc16 := of_decide_eq_true hb16
    have hkn := hct.1 hc16
    refine WC.skip ?_
    refine WQ.next ?_
    refine WC.seq ?_
    refine WC.block ?_
    refine WC.seq ?_
    refine WC.region ?_
    refine WL.op rfl rfl (op_move rfl ?_)
    refine WL.op rfl rfl (op_callF Fa.C98 rfl ((one16r_ok b2 (xsD (g3 s).2 k) (1) _ _ (H15.part [1] rfl rfl) (by refine rest_lt ?_; first | (rw [g1_t]; exact hs) | (rw [g2_t]; exact hs) | (rw [g4_t]; exact hs) | (rw [g6_t]; exact hs) | (rw [g7_t]; exact hs) | (rw [g8_t]; exact hs) | (rw [g10_t]; exact hs) | (rw [xsD_t, g3_t]; exact hs) | (rw [numR_s, xsD_t, g3_t]; exact hs) | (rw [psD_t, g5_t]; exact hs) | (rw [sgD_t, g9_t]; exact hs) | (rw [numR_s, sgD_t, g9_t]; exact hs) | (rw [numR_s, numR_s, sgD_t, g9_t]; exact hs) | (rw [numR_s, numR_s, numR_s, sgD_t, g9_t]; exact hs) | exact hs)).mono (fun e w17 hq => ?_)))
    obtain ⟨rfl, hq17⟩ := hq
    refine ⟨_, rfl, ?_⟩
    have H17 : Own [] w w17 [.blk b1 [(vU32 0), (.slice none 0 0), (.slice none 0 0), (.bool false), (vU32 0), (.slice none 0 0)] 59, .blk b2 [(str ((numR (xsD (g3 s).2 k) 1).2).rest), (vN ((numR (xsD (g3 s).2 k) 1).2).f)] 47, .blk b6 [(vU32 (g2 s).1.1), x, (.slice none 0 0), (.bool false), (vU32 0), (.slice none 0 0)] 59, .row x 130 2 k (List.flatMap xtc (xsL (g3 s).2 k)), .row (.slice none 0 0) 92 1 0 (List.map vU16 []), .row (.slice none 0 0) 111 3 0 (List.flatMap sgc [])] := H15.splice [1] [.blk b2 [(str ((numR (xsD (g3 s).2 k) 1).2).rest), (vN ((numR (xsD (g3 s).2 k) 1).2).f)] 47] [] rfl rfl hq17 (Fits.solid True.intro Fits.nil)
    refine WL.op rfl rfl (op_build (cs := [_, _]) Fa.I130 Fa.PL130 rfl rfl ?_)
    refine WL.op rfl rfl (op_alloc H17 Fa.I130 (fun b18 w18 H18 => ?_))
    refine WL.op rfl rfl (op_storeBW (i := 6) H18 rfl rfl rfl rfl rfl Fa.I130 (fun w19 H19 => ?_))
    refine WL.nil ?_
    refine WQ.next ?_
    refine WC.seq ?_
    refine WC.region ?_
    refine WL.op rfl rfl (op_move rfl ?_)
    refine WL.op rfl rfl (op_callF Fa.C98 rfl ((one16r_ok b2 ((numR (xsD (g3 s).2 k) 1).2) (2) _ _ (H19.part [1] rfl rfl) (by refine rest_lt ?_; first | (rw [g1_t]; exact hs) | (rw [g2_t]; exact hs) | (rw [g4_t]; exact hs) | (rw [g6_t]; exact hs) | (rw [g7_t]; exact hs) | (rw [g8_t]; exact hs) | (rw [g10_t]; exact hs) | (rw [xsD_t, g3_t]; exact hs) | (rw [numR_s, xsD_t, g3_t]; exact hs) | (rw [psD_t, g5_t]; exact hs) | (rw [sgD_t, g9_t]; exact hs) | (rw [numR_s, sgD_t, g9_t]; exact hs) | (rw [numR_s, numR_s, sgD_t, g9_t]; exact hs) | (rw [numR_s, numR_s, numR_s, sgD_t, g9_t]; exact hs) | exact hs)).mono (fun e w20 hq => ?_)))
    obtain ⟨rfl, hq20⟩ := hq
    refine ⟨_, rfl, ?_⟩
    have H20 : Own [] w w20 [.blk b1 [(vU32 0), (.slice none 0 0), (.slice none 0 0), (.bool false), (vU32 0), (.slice none 0 0)] 59, .blk b2 [(str ((numR ((numR (xsD (g3 s).2 k) 1).2) 2).2).rest), (vN ((numR ((numR (xsD (g3 s).2 k) 1).2) 2).2).f)] 47, .blk b6 [(vU32 (g2 s).1.1), x, (.slice none 0 0), (.bool false), (vU32 0), (.slice none 0 0)] 59, .row x 130 2 k (List.flatMap xtc (xsL (g3 s).2 k)), .row (.slice none 0 0) 92 1 0 (List.map vU16 []), .row (.slice none 0 0) 111 3 0 (List.flatMap sgc []), .blk b18 [(vU32 (numR (xsD (g3 s).2 k) 1).1.1), (vU32 0)] 130] := H19.splice [1] [.blk b2 [(str ((numR ((numR (xsD (g3 s).2 k) 1).2) 2).2).rest), (vN ((numR ((numR (xsD (g3 s).2 k) 1).2) 2).2).f)] 47] [] rfl rfl hq20 (Fits.solid True.intro Fits.nil)
    refine WL.op rfl rfl (op_fieldAddr rfl Fa.F130_1 ?_)
    refine WL.op rfl rfl (op_storeB (i := 6) H20 rfl rfl rfl rfl rfl Fa.I22 (fun w21 H21 => ?_))
    refine WL.nil ?_
    refine WQ.next ?_
    refine WC.region ?_
    refine WL.op rfl rfl (op_fieldAddr rfl Fa.F59_0 ?_)
    refine WL.op rfl rfl (op_fieldAddr rfl Fa.F56_1 ?_)
    refine WL.op rfl rfl (op_load rfl (H21.cell (i := 2) rfl rfl) Try.underlying53 rfl ?_)
    refine WL.op rfl rfl (op_loadS (vs := [_, _]) rfl (H21.cells (i := 6) rfl rfl) Try.underlying130 rfl Fa.I130 rfl ?_)
    refine WL.op rfl rfl (op_buildSlice (cs := [_, _]) H21 Try.underlying53 Fa.I130 rfl rfl rfl rfl (by decide) (by decide) (fun b22 w22 H22 => ?_))
    refine WL.op rfl rfl (op_appendF (f := xtc) (l := (xsL (g3 s).2 k)) (l' := [(Xt.mk ((numR (xsD (g3 s).2 k) 1).1.1) ((numR ((numR (xsD (g3 s).2 k) 1).2) 2).1.1))]) (i := 3) H22 Try.underlying53 Fa.I130 rfl rfl rfl rfl (Src.ofArr Try.underlying53 (H22.arrR (i := 7) rfl)) (one_flat (fun _ => by simp [xtc, Value.oneCell'])) (by omega) (by omega) (fun v23 w23 H23 => ?_))
    refine WL.op rfl rfl (op_fieldAddr rfl Fa.F59_0 ?_)
    refine WL.op rfl rfl (op_fieldAddr rfl Fa.F56_1 ?_)
    refine WL.op rfl rfl (op_storeB (i := 2) H23 rfl rfl rfl rfl (Arr.one (H23.arrR (i := 3) rfl)) Fa.I53 (fun w24 H24 => ?_))
    refine WL.nil ?_
    refine WQ.inNormal ?_
    refine WQ.next ?_
    refine WC.region ?_
    refine WL.op rfl rfl (op_move rfl ?_)
    refine WL.op rfl rfl (op_addU32 (b := 1) rfl rfl ?_)
    refine WL.op rfl rfl (op_assign rfl ?_)
    refine WL.nil ?_
    exact WQ.round (k + 1, v23) ⟨(by omega), (by rw [xsD_s, xsL_s]; exact (H24.take 6))⟩ ⟨rfl, rfl, rfl, rfl, rfl, (congrArg (fun n => some (vU32 n)) (u32_succ _)), trivial⟩ (by show (g3 s).1.1.toNat - (k + 1) < (g3 s).1.1.toNat - k; omega)
  ·
    have hc16 := of_decide_eq_false hb16
    refine WC.exit ?_
    refine WQ.thenExit ?_
    refine WQ.thenExit ?_
    refine WQ.inHere ?_
    refine WQ.next ?_
    refine WC.seq ?_
    refine WC.region ?_
    have hkx : ¬ k < (g3 s).1.1.toNat := fun h => hc16 (hct.2 h)
    obtain rfl : k = (g3 s).1.1.toNat := by omega
    have H25 : Own [] w w15 [.blk b1 [(vU32 0), (.slice none 0 0), (.slice none 0 0), (.bool false), (vU32 0), (.slice none 0 0)] 59, .blk b2 [(str (g4 s).rest), (vN (g4 s).f)] 47, .blk b6 [(vU32 (g2 s).1.1), x, (.slice none 0 0), (.bool false), (vU32 0), (.slice none 0 0)] 59, .row x 130 2 (g3 s).1.1.toNat (List.flatMap xtc (gX s)), .row (.slice none 0 0) 92 1 0 (List.map vU16 []), .row (.slice none 0 0) 111 3 0 (List.flatMap sgc [])] := by have h := H15; rw [g4_e] at h; rw [gX_e] at h; exact h
    refine WL.op rfl rfl (op_move rfl ?_)
    refine WL.op rfl rfl (op_callF Fa.C98 rfl ((one16r_ok b2 (g4 s) (1) _ _ (H25.part [1] rfl rfl) (by refine rest_lt ?_; first | (rw [g1_t]; exact hs) | (rw [g2_t]; exact hs) | (rw [g4_t]; exact hs) | (rw [g6_t]; exact hs) | (rw [g7_t]; exact hs) | (rw [g8_t]; exact hs) | (rw [g10_t]; exact hs) | (rw [xsD_t, g3_t]; exact hs) | (rw [numR_s, xsD_t, g3_t]; exact hs) | (rw [psD_t, g5_t]; exact hs) | (rw [sgD_t, g9_t]; exact hs) | (rw [numR_s, sgD_t, g9_t]; exact hs) | (rw [numR_s, numR_s, sgD_t, g9_t]; exact hs) | (rw [numR_s, numR_s, numR_s, sgD_t, g9_t]; exact hs) | exact hs)).mono (fun e w26 hq => ?_)))
    obtain ⟨rfl, hq26⟩ := hq
    refine ⟨_, rfl, ?_⟩
    have H26 : Own [] w w26 [.blk b1 [(vU32 0), (.slice none 0 0), (.slice none 0 0), (.bool false), (vU32 0), (.slice none 0 0)] 59, .blk b2 [(str ((numR (g4 s) 1).2).rest), (vN ((numR (g4 s) 1).2).f)] 47, .blk b6 [(vU32 (g2 s).1.1), x, (.slice none 0 0), (.bool false), (vU32 0), (.slice none 0 0)] 59, .row x 130 2 (g3 s).1.1.toNat (List.flatMap xtc (gX s)), .row (.slice none 0 0) 92 1 0 (List.map vU16 []), .row (.slice none 0 0) 111 3 0 (List.flatMap sgc [])] := H25.splice [1] [.blk b2 [(str ((numR (g4 s) 1).2).rest), (vN ((numR (g4 s) 1).2).f)] 47] [] rfl rfl hq26 (Fits.solid True.intro Fits.nil)
    have H27 : Own [] w w26 [.blk b1 [(vU32 0), (.slice none 0 0), (.slice none 0 0), (.bool false), (vU32 0), (.slice none 0 0)] 59, .blk b2 [(str ((g5 s).2).rest), (vN ((g5 s).2).f)] 47, .blk b6 [(vU32 (g2 s).1.1), x, (.slice none 0 0), (.bool false), (vU32 0), (.slice none 0 0)] 59, .row x 130 2 (g3 s).1.1.toNat (List.flatMap xtc (gX s)), .row (.slice none 0 0) 92 1 0 (List.map vU16 []), .row (.slice none 0 0) 111 3 0 (List.flatMap sgc [])] := by have h := H26; rw [g5_e] at h; exact h
    rw [g5_e]
    refine WL.op rfl rfl (op_assign rfl ?_)
    refine WL.nil ?_
    refine WQ.next ?_
    refine WC.seq ?_
    refine WC.seq ?_
    refine WC.region ?_
    refine WL.op rfl rfl (op_assign rfl ?_)
    refine WL.nil ?_
    refine WQ.next ?_
    refine WC.block ?_
    refine WC.loop (α := Nat × Value) (fun (j, y) => [(2, (ptr b1 0)), (4, (ptr b2 0)), (5, (str (g1 s).1.1)), (7, (ptr b6 0)), (8, (vU32 (g5 s).1.1)), (11, (vU32 (UInt32.ofNat j)))]) (fun (j, y) w' => (j ≤ (g5 s).1.1.toNat) ∧ Own [] w w' [.blk b1 [(vU32 0), (.slice none 0 0), (.slice none 0 0), (.bool false), (vU32 0), (.slice none 0 0)] 59, .blk b2 [(str (psD (g5 s).2 j).rest), (vN (psD (g5 s).2 j).f)] 47, .blk b6 [(vU32 (g2 s).1.1), x, y, (.bool false), (vU32 0), (.slice none 0 0)] 59, .row x 130 2 (g3 s).1.1.toNat (List.flatMap xtc (gX s)), .row y 92 1 j (List.map vU16 (psL (g5 s).2 j)), .row (.slice none 0 0) 111 3 0 (List.flatMap sgc [])]) (fun (j, y) => (g5 s).1.1.toNat - j) (0, (.slice none 0 0)) ⟨(Nat.zero_le _), (by rw [psD_0]; exact H27)⟩ ⟨rfl, rfl, rfl, rfl, rfl, rfl, trivial⟩ ?_
    rintro ⟨j, y⟩ w28 ⟨hj1, H28⟩
    show WC _ _ _ _ _ [(2, (ptr b1 0)), (4, (ptr b2 0)), (5, (str (g1 s).1.1)), (7, (ptr b6 0)), (8, (vU32 (g5 s).1.1)), (11, (vU32 (UInt32.ofNat j)))] _
    have hnl := (g5 s).1.1.toNat_lt
    have hct := u32_lt (k := j) (n := (g5 s).1.1) (by omega)
    refine WC.seq ?_
    refine WC.seq ?_
    refine WC.region ?_
    refine WL.op rfl rfl (op_move rfl ?_)
    refine WL.op rfl rfl (op_move rfl ?_)
    refine WL.op rfl rfl (op_lssU32 rfl rfl ?_)
    refine WL.nil ?_
    refine WQ.next ?_
    refine WC.cond rfl (fun (hb29 : (decide ((UInt32.ofNat j) < (g5 s).1.1)) = true) => ?_) (fun (hb29 : (decide ((UInt32.ofNat j) < (g5 s).1.1)) = false) => ?_)
    ·
      have hc29 := of_decide_eq_true hb29
      have hkn := hct.1 hc29
      refine WC.skip ?_
      refine WQ.next ?_
      refine WC.seq ?_
      refine WC.block ?_
      refine WC.drawn 11 rfl Fa.M H28 ?_
      intro w30 H30
      refine WD.named (fun W hW => ?_)
      have st16_23 : ∀ (b41121 : _) (v41141 : _) (wS : World), Own [] w wS [.blk b1 [(vU32 0), (.slice none 0 0), (.slice none 0 0), (.bool false), (vU32 0), (.slice none 0 0)] 59, .blk b2 [(str ((numR (psD (g5 s).2 j) 2).2).rest), (vN ((numR (psD (g5 s).2 j) 2).2).f)] 47, .blk b6 [(vU32 (g2 s).1.1), x, v41141, (.bool false), (vU32 0), (.slice none 0 0)] 59, .row x 130 2 (g3 s).1.1.toNat (List.flatMap xtc (gX s)), .row v41141 92 1 (j + 1) (List.map vU16 ((psL (g5 s).2 j) ++ [(UInt16.ofNat (numR (psD (g5 s).2 j) 2).1.1.toNat)])), .row (.slice none 0 0) 111 3 0 (List.flatMap sgc []), .row (.slice (some ⟨b41121, 0, none⟩) 1 1) 92 1 1 (List.map vU16 [(UInt16.ofNat (numR (psD (g5 s).2 j) 2).1.1.toNat)])] → W 0 #[true, true, true, true, true, true, true, true, true, true, true] [(2, (ptr b1 0)), (4, (ptr b2 0)), (5, (str (g1 s).1.1)), (7, (ptr b6 0)), (8, (vU32 (g5 s).1.1)), (11, (vU32 (UInt32.ofNat j))), (51, (vU32 (UInt32.ofNat j))), (52, (vU32 (g5 s).1.1)), (53, (.bool (decide ((UInt32.ofNat j) < (g5 s).1.1)))), (56, (ptr b6 0)), (57, (ptr b6 2)), (58, y), (59, (ptr b2 0)), (60, (vU32 (numR (psD (g5 s).2 j) 2).1.1)), (61, (vU16 (UInt16.ofNat (numR (psD (g5 s).2 j) 2).1.1.toNat))), (62, (.slice (some ⟨b41121, 0, none⟩) 1 1)), (63, v41141), (64, (ptr b6 0)), (65, (ptr b6 2))] wS := by
        intro b41121 v41141 wS HS
        rw [hW]
        refine WD.done (by kernel_rfl) ?_
        refine WQ.inNormal ?_
        refine WQ.next ?_
        refine WC.region ?_
        refine WL.op rfl rfl (op_move rfl ?_)
        refine WL.op rfl rfl (op_addU32 (b := 1) rfl rfl ?_)
        refine WL.op rfl rfl (op_assign rfl ?_)
        refine WL.nil ?_
        exact WQ.round (j + 1, v41141) ⟨(by omega), (by rw [psD_s, psL_s]; exact (HS.take 6))⟩ ⟨rfl, rfl, rfl, rfl, rfl, (congrArg (fun n => some (vU32 n)) (u32_succ _)), trivial⟩ (by show (g5 s).1.1.toNat - (j + 1) < (g5 s).1.1.toNat - j; omega)
      have st16_22 : ∀ (b41121 : _) (v41141 : _) (wS : World), Own [] w wS [.blk b1 [(vU32 0), (.slice none 0 0), (.slice none 0 0), (.bool false), (vU32 0), (.slice none 0 0)] 59, .blk b2 [(str ((numR (psD (g5 s).2 j) 2).2).rest), (vN ((numR (psD (g5 s).2 j) 2).2).f)] 47, .blk b6 [(vU32 (g2 s).1.1), x, y, (.bool false), (vU32 0), (.slice none 0 0)] 59, .row x 130 2 (g3 s).1.1.toNat (List.flatMap xtc (gX s)), .row v41141 92 1 (j + 1) (List.map vU16 ((psL (g5 s).2 j) ++ [(UInt16.ofNat (numR (psD (g5 s).2 j) 2).1.1.toNat)])), .row (.slice none 0 0) 111 3 0 (List.flatMap sgc []), .row (.slice (some ⟨b41121, 0, none⟩) 1 1) 92 1 1 (List.map vU16 [(UInt16.ofNat (numR (psD (g5 s).2 j) 2).1.1.toNat)])] → W 1 #[true, true, true, true, true, true, true, true, true, true, false] [(2, (ptr b1 0)), (4, (ptr b2 0)), (5, (str (g1 s).1.1)), (7, (ptr b6 0)), (8, (vU32 (g5 s).1.1)), (11, (vU32 (UInt32.ofNat j))), (51, (vU32 (UInt32.ofNat j))), (52, (vU32 (g5 s).1.1)), (53, (.bool (decide ((UInt32.ofNat j) < (g5 s).1.1)))), (56, (ptr b6 0)), (57, (ptr b6 2)), (58, y), (59, (ptr b2 0)), (60, (vU32 (numR (psD (g5 s).2 j) 2).1.1)), (61, (vU16 (UInt16.ofNat (numR (psD (g5 s).2 j) 2).1.1.toNat))), (62, (.slice (some ⟨b41121, 0, none⟩) 1 1)), (63, v41141), (64, (ptr b6 0)), (65, (ptr b6 2))] wS := by
        intro b41121 v41141 wS HS
        rw [hW]
        refine WD.all1 (i := 10) (by kernel_rfl) ?_
        ·
          refine WS.op (i := 10) rfl rfl rfl (op_storeB (i := 2) HS rfl rfl rfl rfl (Arr.one (HS.arrR (i := 4) rfl)) Fa.I54 (fun w41201 H41201 => ?_))
          have hq := st16_23 b41121 v41141 w41201 H41201
          rw [hW] at hq
          refine WD.cov ?_ hq
          exact ⟨rfl, rfl, rfl, rfl, rfl, rfl, rfl, rfl, rfl, rfl, rfl, rfl, rfl, rfl, rfl, rfl, rfl, rfl, rfl, trivial⟩
      have st16_21 : ∀ (b41121 : _) (v41141 : _) (wS : World), Own [] w wS [.blk b1 [(vU32 0), (.slice none 0 0), (.slice none 0 0), (.bool false), (vU32 0), (.slice none 0 0)] 59, .blk b2 [(str ((numR (psD (g5 s).2 j) 2).2).rest), (vN ((numR (psD (g5 s).2 j) 2).2).f)] 47, .blk b6 [(vU32 (g2 s).1.1), x, y, (.bool false), (vU32 0), (.slice none 0 0)] 59, .row x 130 2 (g3 s).1.1.toNat (List.flatMap xtc (gX s)), .row v41141 92 1 (j + 1) (List.map vU16 ((psL (g5 s).2 j) ++ [(UInt16.ofNat (numR (psD (g5 s).2 j) 2).1.1.toNat)])), .row (.slice none 0 0) 111 3 0 (List.flatMap sgc []), .row (.slice (some ⟨b41121, 0, none⟩) 1 1) 92 1 1 (List.map vU16 [(UInt16.ofNat (numR (psD (g5 s).2 j) 2).1.1.toNat)])] → W 2 #[true, true, true, true, true, true, true, true, true, false, false] [(2, (ptr b1 0)), (4, (ptr b2 0)), (5, (str (g1 s).1.1)), (7, (ptr b6 0)), (8, (vU32 (g5 s).1.1)), (11, (vU32 (UInt32.ofNat j))), (51, (vU32 (UInt32.ofNat j))), (52, (vU32 (g5 s).1.1)), (53, (.bool (decide ((UInt32.ofNat j) < (g5 s).1.1)))), (56, (ptr b6 0)), (57, (ptr b6 2)), (58, y), (59, (ptr b2 0)), (60, (vU32 (numR (psD (g5 s).2 j) 2).1.1)), (61, (vU16 (UInt16.ofNat (numR (psD (g5 s).2 j) 2).1.1.toNat))), (62, (.slice (some ⟨b41121, 0, none⟩) 1 1)), (63, v41141), (64, (ptr b6 0))] wS := by
        intro b41121 v41141 wS HS
        rw [hW]
        refine WD.all1 (i := 9) (by kernel_rfl) ?_
        ·
          refine WS.op (i := 9) rfl rfl rfl (op_fieldAddr rfl Fa.F56_2 ?_)
          have hq := st16_22 b41121 v41141 wS HS
          rw [hW] at hq
          refine WD.cov ?_ hq
          exact ⟨rfl, rfl, rfl, rfl, rfl, rfl, rfl, rfl, rfl, rfl, rfl, rfl, rfl, rfl, rfl, rfl, rfl, rfl, rfl, trivial⟩
      have st16_20 : ∀ (b41121 : _) (v41141 : _) (wS : World), Own [] w wS [.blk b1 [(vU32 0), (.slice none 0 0), (.slice none 0 0), (.bool false), (vU32 0), (.slice none 0 0)] 59, .blk b2 [(str ((numR (psD (g5 s).2 j) 2).2).rest), (vN ((numR (psD (g5 s).2 j) 2).2).f)] 47, .blk b6 [(vU32 (g2 s).1.1), x, y, (.bool false), (vU32 0), (.slice none 0 0)] 59, .row x 130 2 (g3 s).1.1.toNat (List.flatMap xtc (gX s)), .row v41141 92 1 (j + 1) (List.map vU16 ((psL (g5 s).2 j) ++ [(UInt16.ofNat (numR (psD (g5 s).2 j) 2).1.1.toNat)])), .row (.slice none 0 0) 111 3 0 (List.flatMap sgc []), .row (.slice (some ⟨b41121, 0, none⟩) 1 1) 92 1 1 (List.map vU16 [(UInt16.ofNat (numR (psD (g5 s).2 j) 2).1.1.toNat)])] → W 3 #[true, true, true, true, true, true, true, true, false, false, false] [(2, (ptr b1 0)), (4, (ptr b2 0)), (5, (str (g1 s).1.1)), (7, (ptr b6 0)), (8, (vU32 (g5 s).1.1)), (11, (vU32 (UInt32.ofNat j))), (51, (vU32 (UInt32.ofNat j))), (52, (vU32 (g5 s).1.1)), (53, (.bool (decide ((UInt32.ofNat j) < (g5 s).1.1)))), (56, (ptr b6 0)), (57, (ptr b6 2)), (58, y), (59, (ptr b2 0)), (60, (vU32 (numR (psD (g5 s).2 j) 2).1.1)), (61, (vU16 (UInt16.ofNat (numR (psD (g5 s).2 j) 2).1.1.toNat))), (62, (.slice (some ⟨b41121, 0, none⟩) 1 1)), (63, v41141)] wS := by
        intro b41121 v41141 wS HS
        rw [hW]
        refine WD.all1 (i := 8) (by kernel_rfl) ?_
        ·
          refine WS.op (i := 8) rfl rfl rfl (op_fieldAddr rfl Fa.F59_0 ?_)
          have hq := st16_21 b41121 v41141 wS HS
          rw [hW] at hq
          refine WD.cov ?_ hq
          exact ⟨rfl, rfl, rfl, rfl, rfl, rfl, rfl, rfl, rfl, rfl, rfl, rfl, rfl, rfl, rfl, rfl, rfl, rfl, trivial⟩
      have st16_19 : ∀ (b41121 : _) (wS : World), Own [] w wS [.blk b1 [(vU32 0), (.slice none 0 0), (.slice none 0 0), (.bool false), (vU32 0), (.slice none 0 0)] 59, .blk b2 [(str ((numR (psD (g5 s).2 j) 2).2).rest), (vN ((numR (psD (g5 s).2 j) 2).2).f)] 47, .blk b6 [(vU32 (g2 s).1.1), x, y, (.bool false), (vU32 0), (.slice none 0 0)] 59, .row x 130 2 (g3 s).1.1.toNat (List.flatMap xtc (gX s)), .row y 92 1 j (List.map vU16 (psL (g5 s).2 j)), .row (.slice none 0 0) 111 3 0 (List.flatMap sgc []), .row (.slice (some ⟨b41121, 0, none⟩) 1 1) 92 1 1 (List.map vU16 [(UInt16.ofNat (numR (psD (g5 s).2 j) 2).1.1.toNat)])] → W 4 #[true, true, true, true, true, true, true, false, false, false, false] [(2, (ptr b1 0)), (4, (ptr b2 0)), (5, (str (g1 s).1.1)), (7, (ptr b6 0)), (8, (vU32 (g5 s).1.1)), (11, (vU32 (UInt32.ofNat j))), (51, (vU32 (UInt32.ofNat j))), (52, (vU32 (g5 s).1.1)), (53, (.bool (decide ((UInt32.ofNat j) < (g5 s).1.1)))), (56, (ptr b6 0)), (57, (ptr b6 2)), (58, y), (59, (ptr b2 0)), (60, (vU32 (numR (psD (g5 s).2 j) 2).1.1)), (61, (vU16 (UInt16.ofNat (numR (psD (g5 s).2 j) 2).1.1.toNat))), (62, (.slice (some ⟨b41121, 0, none⟩) 1 1))] wS := by
        intro b41121 wS HS
        rw [hW]
        refine WD.all1 (i := 7) (by kernel_rfl) ?_
        ·
          refine WS.op (i := 7) rfl rfl rfl (op_appendM (f := vU16) (l := (psL (g5 s).2 j)) (l' := [(UInt16.ofNat (numR (psD (g5 s).2 j) 2).1.1.toNat)]) (i := 4) HS Try.underlying54 Fa.I92 rfl rfl rfl rfl (Src.ofArr Try.underlying54 (HS.arrR (i := 6) rfl)) (one_mapM (fun _ => rfl)) (by omega) (by omega) (fun v41141 w41141 H41141 => ?_))
          have hq := st16_20 b41121 v41141 w41141 H41141
          rw [hW] at hq
          refine WD.cov ?_ hq
          exact ⟨rfl, rfl, rfl, rfl, rfl, rfl, rfl, rfl, rfl, rfl, rfl, rfl, rfl, rfl, rfl, rfl, rfl, trivial⟩
      have st16_17 : ∀ (wS : World), Own [] w wS [.blk b1 [(vU32 0), (.slice none 0 0), (.slice none 0 0), (.bool false), (vU32 0), (.slice none 0 0)] 59, .blk b2 [(str ((numR (psD (g5 s).2 j) 2).2).rest), (vN ((numR (psD (g5 s).2 j) 2).2).f)] 47, .blk b6 [(vU32 (g2 s).1.1), x, y, (.bool false), (vU32 0), (.slice none 0 0)] 59, .row x 130 2 (g3 s).1.1.toNat (List.flatMap xtc (gX s)), .row y 92 1 j (List.map vU16 (psL (g5 s).2 j)), .row (.slice none 0 0) 111 3 0 (List.flatMap sgc [])] → W 5 #[true, true, true, true, true, true, false, false, false, false, false] [(2, (ptr b1 0)), (4, (ptr b2 0)), (5, (str (g1 s).1.1)), (7, (ptr b6 0)), (8, (vU32 (g5 s).1.1)), (11, (vU32 (UInt32.ofNat j))), (51, (vU32 (UInt32.ofNat j))), (52, (vU32 (g5 s).1.1)), (53, (.bool (decide ((UInt32.ofNat j) < (g5 s).1.1)))), (56, (ptr b6 0)), (57, (ptr b6 2)), (58, y), (59, (ptr b2 0)), (60, (vU32 (numR (psD (g5 s).2 j) 2).1.1)), (61, (vU16 (UInt16.ofNat (numR (psD (g5 s).2 j) 2).1.1.toNat)))] wS := by
        intro wS HS
        rw [hW]
        refine WD.all1 (i := 6) (by kernel_rfl) ?_
        ·
          refine WS.op (i := 6) rfl rfl rfl (op_buildSlice (cs := [_]) HS Try.underlying54 Fa.I92 rfl rfl rfl rfl (by decide) (by decide) (fun b41121 w41121 H41121 => ?_))
          have hq := st16_19 b41121 w41121 H41121
          rw [hW] at hq
          refine WD.cov ?_ hq
          exact ⟨rfl, rfl, rfl, rfl, rfl, rfl, rfl, rfl, rfl, rfl, rfl, rfl, rfl, rfl, rfl, rfl, trivial⟩
      have st16_18 : ∀ (b41121 : _) (wS : World), Own [] w wS [.blk b1 [(vU32 0), (.slice none 0 0), (.slice none 0 0), (.bool false), (vU32 0), (.slice none 0 0)] 59, .blk b2 [(str ((numR (psD (g5 s).2 j) 2).2).rest), (vN ((numR (psD (g5 s).2 j) 2).2).f)] 47, .blk b6 [(vU32 (g2 s).1.1), x, y, (.bool false), (vU32 0), (.slice none 0 0)] 59, .row x 130 2 (g3 s).1.1.toNat (List.flatMap xtc (gX s)), .row y 92 1 j (List.map vU16 (psL (g5 s).2 j)), .row (.slice none 0 0) 111 3 0 (List.flatMap sgc []), .row (.slice (some ⟨b41121, 0, none⟩) 1 1) 92 1 1 (List.map vU16 [(UInt16.ofNat (numR (psD (g5 s).2 j) 2).1.1.toNat)])] → W 5 #[true, true, false, true, true, true, true, false, false, false, false] [(2, (ptr b1 0)), (4, (ptr b2 0)), (5, (str (g1 s).1.1)), (7, (ptr b6 0)), (8, (vU32 (g5 s).1.1)), (11, (vU32 (UInt32.ofNat j))), (51, (vU32 (UInt32.ofNat j))), (52, (vU32 (g5 s).1.1)), (53, (.bool (decide ((UInt32.ofNat j) < (g5 s).1.1)))), (56, (ptr b6 0)), (57, (ptr b6 2)), (59, (ptr b2 0)), (60, (vU32 (numR (psD (g5 s).2 j) 2).1.1)), (61, (vU16 (UInt16.ofNat (numR (psD (g5 s).2 j) 2).1.1.toNat))), (62, (.slice (some ⟨b41121, 0, none⟩) 1 1))] wS := by
        intro b41121 wS HS
        rw [hW]
        refine WD.all1 (i := 2) (by kernel_rfl) ?_
        ·
          refine WS.op (i := 2) rfl rfl rfl (op_load rfl (HS.cell (i := 2) rfl rfl) Try.underlying54 rfl ?_)
          have hq := st16_19 b41121 wS HS
          rw [hW] at hq
          refine WD.cov ?_ hq
          exact ⟨rfl, rfl, rfl, rfl, rfl, rfl, rfl, rfl, rfl, rfl, rfl, rfl, rfl, rfl, rfl, rfl, trivial⟩
      have st16_14 : ∀ (wS : World), Own [] w wS [.blk b1 [(vU32 0), (.slice none 0 0), (.slice none 0 0), (.bool false), (vU32 0), (.slice none 0 0)] 59, .blk b2 [(str ((numR (psD (g5 s).2 j) 2).2).rest), (vN ((numR (psD (g5 s).2 j) 2).2).f)] 47, .blk b6 [(vU32 (g2 s).1.1), x, y, (.bool false), (vU32 0), (.slice none 0 0)] 59, .row x 130 2 (g3 s).1.1.toNat (List.flatMap xtc (gX s)), .row y 92 1 j (List.map vU16 (psL (g5 s).2 j)), .row (.slice none 0 0) 111 3 0 (List.flatMap sgc [])] → W 6 #[true, true, true, true, true, false, false, false, false, false, false] [(2, (ptr b1 0)), (4, (ptr b2 0)), (5, (str (g1 s).1.1)), (7, (ptr b6 0)), (8, (vU32 (g5 s).1.1)), (11, (vU32 (UInt32.ofNat j))), (51, (vU32 (UInt32.ofNat j))), (52, (vU32 (g5 s).1.1)), (53, (.bool (decide ((UInt32.ofNat j) < (g5 s).1.1)))), (56, (ptr b6 0)), (57, (ptr b6 2)), (58, y), (59, (ptr b2 0)), (60, (vU32 (numR (psD (g5 s).2 j) 2).1.1))] wS := by
        intro wS HS
        rw [hW]
        refine WD.all1 (i := 5) (by kernel_rfl) ?_
        ·
          refine WS.op (i := 5) rfl rfl rfl (op_convU32U16 (hs := Try.underlying22) (hd := Try.underlying92) rfl ?_)
          have hq := st16_17 wS HS
          rw [hW] at hq
          refine WD.cov ?_ hq
          exact ⟨rfl, rfl, rfl, rfl, rfl, rfl, rfl, rfl, rfl, rfl, rfl, rfl, rfl, rfl, rfl, trivial⟩
      have st16_15 : ∀ (wS : World), Own [] w wS [.blk b1 [(vU32 0), (.slice none 0 0), (.slice none 0 0), (.bool false), (vU32 0), (.slice none 0 0)] 59, .blk b2 [(str ((numR (psD (g5 s).2 j) 2).2).rest), (vN ((numR (psD (g5 s).2 j) 2).2).f)] 47, .blk b6 [(vU32 (g2 s).1.1), x, y, (.bool false), (vU32 0), (.slice none 0 0)] 59, .row x 130 2 (g3 s).1.1.toNat (List.flatMap xtc (gX s)), .row y 92 1 j (List.map vU16 (psL (g5 s).2 j)), .row (.slice none 0 0) 111 3 0 (List.flatMap sgc [])] → W 6 #[true, true, false, true, true, true, false, false, false, false, false] [(2, (ptr b1 0)), (4, (ptr b2 0)), (5, (str (g1 s).1.1)), (7, (ptr b6 0)), (8, (vU32 (g5 s).1.1)), (11, (vU32 (UInt32.ofNat j))), (51, (vU32 (UInt32.ofNat j))), (52, (vU32 (g5 s).1.1)), (53, (.bool (decide ((UInt32.ofNat j) < (g5 s).1.1)))), (56, (ptr b6 0)), (57, (ptr b6 2)), (59, (ptr b2 0)), (60, (vU32 (numR (psD (g5 s).2 j) 2).1.1)), (61, (vU16 (UInt16.ofNat (numR (psD (g5 s).2 j) 2).1.1.toNat)))] wS := by
        intro wS HS
        rw [hW]
        refine WD.all2 (i := 2) (j := 6) (by kernel_rfl) ?_ ?_
        ·
          refine WS.op (i := 2) rfl rfl rfl (op_load rfl (HS.cell (i := 2) rfl rfl) Try.underlying54 rfl ?_)
          have hq := st16_17 wS HS
          rw [hW] at hq
          refine WD.cov ?_ hq
          exact ⟨rfl, rfl, rfl, rfl, rfl, rfl, rfl, rfl, rfl, rfl, rfl, rfl, rfl, rfl, rfl, trivial⟩
        ·
          refine WS.op (i := 6) rfl rfl rfl (op_buildSlice (cs := [_]) HS Try.underlying54 Fa.I92 rfl rfl rfl rfl (by decide) (by decide) (fun b41121 w41121 H41121 => ?_))
          have hq := st16_18 b41121 w41121 H41121
          rw [hW] at hq
          refine WD.cov ?_ hq
          exact ⟨rfl, rfl, rfl, rfl, rfl, rfl, rfl, rfl, rfl, rfl, rfl, rfl, rfl, rfl, rfl, trivial⟩
      have st16_16 : ∀ (b41121 : _) (wS : World), Own [] w wS [.blk b1 [(vU32 0), (.slice none 0 0), (.slice none 0 0), (.bool false), (vU32 0), (.slice none 0 0)] 59, .blk b2 [(str ((numR (psD (g5 s).2 j) 2).2).rest), (vN ((numR (psD (g5 s).2 j) 2).2).f)] 47, .blk b6 [(vU32 (g2 s).1.1), x, y, (.bool false), (vU32 0), (.slice none 0 0)] 59, .row x 130 2 (g3 s).1.1.toNat (List.flatMap xtc (gX s)), .row y 92 1 j (List.map vU16 (psL (g5 s).2 j)), .row (.slice none 0 0) 111 3 0 (List.flatMap sgc []), .row (.slice (some ⟨b41121, 0, none⟩) 1 1) 92 1 1 (List.map vU16 [(UInt16.ofNat (numR (psD (g5 s).2 j) 2).1.1.toNat)])] → W 6 #[true, false, false, true, true, true, true, false, false, false, false] [(2, (ptr b1 0)), (4, (ptr b2 0)), (5, (str (g1 s).1.1)), (7, (ptr b6 0)), (8, (vU32 (g5 s).1.1)), (11, (vU32 (UInt32.ofNat j))), (51, (vU32 (UInt32.ofNat j))), (52, (vU32 (g5 s).1.1)), (53, (.bool (decide ((UInt32.ofNat j) < (g5 s).1.1)))), (56, (ptr b6 0)), (59, (ptr b2 0)), (60, (vU32 (numR (psD (g5 s).2 j) 2).1.1)), (61, (vU16 (UInt16.ofNat (numR (psD (g5 s).2 j) 2).1.1.toNat))), (62, (.slice (some ⟨b41121, 0, none⟩) 1 1))] wS := by
        intro b41121 wS HS
        rw [hW]
        refine WD.all1 (i := 1) (by kernel_rfl) ?_
        ·
          refine WS.op (i := 1) rfl rfl rfl (op_fieldAddr rfl Fa.F56_2 ?_)
          have hq := st16_18 b41121 wS HS
          rw [hW] at hq
          refine WD.cov ?_ hq
          exact ⟨rfl, rfl, rfl, rfl, rfl, rfl, rfl, rfl, rfl, rfl, rfl, rfl, rfl, rfl, rfl, trivial⟩
      have st16_10 : ∀ (wS : World), Own [] w wS [.blk b1 [(vU32 0), (.slice none 0 0), (.slice none 0 0), (.bool false), (vU32 0), (.slice none 0 0)] 59, .blk b2 [(str (psD (g5 s).2 j).rest), (vN (psD (g5 s).2 j).f)] 47, .blk b6 [(vU32 (g2 s).1.1), x, y, (.bool false), (vU32 0), (.slice none 0 0)] 59, .row x 130 2 (g3 s).1.1.toNat (List.flatMap xtc (gX s)), .row y 92 1 j (List.map vU16 (psL (g5 s).2 j)), .row (.slice none 0 0) 111 3 0 (List.flatMap sgc [])] → W 7 #[true, true, true, true, false, false, false, false, false, false, false] [(2, (ptr b1 0)), (4, (ptr b2 0)), (5, (str (g1 s).1.1)), (7, (ptr b6 0)), (8, (vU32 (g5 s).1.1)), (11, (vU32 (UInt32.ofNat j))), (51, (vU32 (UInt32.ofNat j))), (52, (vU32 (g5 s).1.1)), (53, (.bool (decide ((UInt32.ofNat j) < (g5 s).1.1)))), (56, (ptr b6 0)), (57, (ptr b6 2)), (58, y), (59, (ptr b2 0))] wS := by
        intro wS HS
        rw [hW]
        refine WD.all1 (i := 4) (by kernel_rfl) ?_
        ·
          refine WS.op (i := 4) rfl rfl rfl (op_callF Fa.C98 rfl ((one16r_ok b2 (psD (g5 s).2 j) (2) _ _ (HS.part [1] rfl rfl) (by refine rest_lt ?_; first | (rw [g1_t]; exact hs) | (rw [g2_t]; exact hs) | (rw [g4_t]; exact hs) | (rw [g6_t]; exact hs) | (rw [g7_t]; exact hs) | (rw [g8_t]; exact hs) | (rw [g10_t]; exact hs) | (rw [xsD_t, g3_t]; exact hs) | (rw [numR_s, xsD_t, g3_t]; exact hs) | (rw [psD_t, g5_t]; exact hs) | (rw [sgD_t, g9_t]; exact hs) | (rw [numR_s, sgD_t, g9_t]; exact hs) | (rw [numR_s, numR_s, sgD_t, g9_t]; exact hs) | (rw [numR_s, numR_s, numR_s, sgD_t, g9_t]; exact hs) | exact hs)).mono (fun e w41081 hq => ?_)))
          obtain ⟨rfl, hq41081⟩ := hq
          refine ⟨_, rfl, ?_⟩
          have H41081 : Own [] w w41081 [.blk b1 [(vU32 0), (.slice none 0 0), (.slice none 0 0), (.bool false), (vU32 0), (.slice none 0 0)] 59, .blk b2 [(str ((numR (psD (g5 s).2 j) 2).2).rest), (vN ((numR (psD (g5 s).2 j) 2).2).f)] 47, .blk b6 [(vU32 (g2 s).1.1), x, y, (.bool false), (vU32 0), (.slice none 0 0)] 59, .row x 130 2 (g3 s).1.1.toNat (List.flatMap xtc (gX s)), .row y 92 1 j (List.map vU16 (psL (g5 s).2 j)), .row (.slice none 0 0) 111 3 0 (List.flatMap sgc [])] := HS.splice [1] [.blk b2 [(str ((numR (psD (g5 s).2 j) 2).2).rest), (vN ((numR (psD (g5 s).2 j) 2).2).f)] 47] [] rfl rfl hq41081 (Fits.solid True.intro Fits.nil)
          have hq := st16_14 w41081 H41081
          rw [hW] at hq
          refine WD.cov ?_ hq
          exact ⟨rfl, rfl, rfl, rfl, rfl, rfl, rfl, rfl, rfl, rfl, rfl, rfl, rfl, rfl, trivial⟩
      have st16_11 : ∀ (wS : World), Own [] w wS [.blk b1 [(vU32 0), (.slice none 0 0), (.slice none 0 0), (.bool false), (vU32 0), (.slice none 0 0)] 59, .blk b2 [(str ((numR (psD (g5 s).2 j) 2).2).rest), (vN ((numR (psD (g5 s).2 j) 2).2).f)] 47, .blk b6 [(vU32 (g2 s).1.1), x, y, (.bool false), (vU32 0), (.slice none 0 0)] 59, .row x 130 2 (g3 s).1.1.toNat (List.flatMap xtc (gX s)), .row y 92 1 j (List.map vU16 (psL (g5 s).2 j)), .row (.slice none 0 0) 111 3 0 (List.flatMap sgc [])] → W 7 #[true, true, false, true, true, false, false, false, false, false, false] [(2, (ptr b1 0)), (4, (ptr b2 0)), (5, (str (g1 s).1.1)), (7, (ptr b6 0)), (8, (vU32 (g5 s).1.1)), (11, (vU32 (UInt32.ofNat j))), (51, (vU32 (UInt32.ofNat j))), (52, (vU32 (g5 s).1.1)), (53, (.bool (decide ((UInt32.ofNat j) < (g5 s).1.1)))), (56, (ptr b6 0)), (57, (ptr b6 2)), (59, (ptr b2 0)), (60, (vU32 (numR (psD (g5 s).2 j) 2).1.1))] wS := by
        intro wS HS
        rw [hW]
        refine WD.all2 (i := 2) (j := 5) (by kernel_rfl) ?_ ?_
        ·
          refine WS.op (i := 2) rfl rfl rfl (op_load rfl (HS.cell (i := 2) rfl rfl) Try.underlying54 rfl ?_)
          have hq := st16_14 wS HS
          rw [hW] at hq
          refine WD.cov ?_ hq
          exact ⟨rfl, rfl, rfl, rfl, rfl, rfl, rfl, rfl, rfl, rfl, rfl, rfl, rfl, rfl, trivial⟩
        ·
          refine WS.op (i := 5) rfl rfl rfl (op_convU32U16 (hs := Try.underlying22) (hd := Try.underlying92) rfl ?_)
          have hq := st16_15 wS HS
          rw [hW] at hq
          refine WD.cov ?_ hq
          exact ⟨rfl, rfl, rfl, rfl, rfl, rfl, rfl, rfl, rfl, rfl, rfl, rfl, rfl, rfl, trivial⟩
      have st16_12 : ∀ (wS : World), Own [] w wS [.blk b1 [(vU32 0), (.slice none 0 0), (.slice none 0 0), (.bool false), (vU32 0), (.slice none 0 0)] 59, .blk b2 [(str ((numR (psD (g5 s).2 j) 2).2).rest), (vN ((numR (psD (g5 s).2 j) 2).2).f)] 47, .blk b6 [(vU32 (g2 s).1.1), x, y, (.bool false), (vU32 0), (.slice none 0 0)] 59, .row x 130 2 (g3 s).1.1.toNat (List.flatMap xtc (gX s)), .row y 92 1 j (List.map vU16 (psL (g5 s).2 j)), .row (.slice none 0 0) 111 3 0 (List.flatMap sgc [])] → W 7 #[true, false, false, true, true, true, false, false, false, false, false] [(2, (ptr b1 0)), (4, (ptr b2 0)), (5, (str (g1 s).1.1)), (7, (ptr b6 0)), (8, (vU32 (g5 s).1.1)), (11, (vU32 (UInt32.ofNat j))), (51, (vU32 (UInt32.ofNat j))), (52, (vU32 (g5 s).1.1)), (53, (.bool (decide ((UInt32.ofNat j) < (g5 s).1.1)))), (56, (ptr b6 0)), (59, (ptr b2 0)), (60, (vU32 (numR (psD (g5 s).2 j) 2).1.1)), (61, (vU16 (UInt16.ofNat (numR (psD (g5 s).2 j) 2).1.1.toNat)))] wS := by
        intro wS HS
        rw [hW]
        refine WD.all2 (i := 1) (j := 6) (by kernel_rfl) ?_ ?_
        ·
          refine WS.op (i := 1) rfl rfl rfl (op_fieldAddr rfl Fa.F56_2 ?_)
          have hq := st16_15 wS HS
          rw [hW] at hq
          refine WD.cov ?_ hq
          exact ⟨rfl, rfl, rfl, rfl, rfl, rfl, rfl, rfl, rfl, rfl, rfl, rfl, rfl, rfl, trivial⟩
        ·
          refine WS.op (i := 6) rfl rfl rfl (op_buildSlice (cs := [_]) HS Try.underlying54 Fa.I92 rfl rfl rfl rfl (by decide) (by decide) (fun b41121 w41121 H41121 => ?_))
          have hq := st16_16 b41121 w41121 H41121
          rw [hW] at hq
          refine WD.cov ?_ hq
          exact ⟨rfl, rfl, rfl, rfl, rfl, rfl, rfl, rfl, rfl, rfl, rfl, rfl, rfl, rfl, trivial⟩
      have st16_13 : ∀ (b41121 : _) (wS : World), Own [] w wS [.blk b1 [(vU32 0), (.slice none 0 0), (.slice none 0 0), (.bool false), (vU32 0), (.slice none 0 0)] 59, .blk b2 [(str ((numR (psD (g5 s).2 j) 2).2).rest), (vN ((numR (psD (g5 s).2 j) 2).2).f)] 47, .blk b6 [(vU32 (g2 s).1.1), x, y, (.bool false), (vU32 0), (.slice none 0 0)] 59, .row x 130 2 (g3 s).1.1.toNat (List.flatMap xtc (gX s)), .row y 92 1 j (List.map vU16 (psL (g5 s).2 j)), .row (.slice none 0 0) 111 3 0 (List.flatMap sgc []), .row (.slice (some ⟨b41121, 0, none⟩) 1 1) 92 1 1 (List.map vU16 [(UInt16.ofNat (numR (psD (g5 s).2 j) 2).1.1.toNat)])] → W 7 #[false, false, false, true, true, true, true, false, false, false, false] [(2, (ptr b1 0)), (4, (ptr b2 0)), (5, (str (g1 s).1.1)), (7, (ptr b6 0)), (8, (vU32 (g5 s).1.1)), (11, (vU32 (UInt32.ofNat j))), (51, (vU32 (UInt32.ofNat j))), (52, (vU32 (g5 s).1.1)), (53, (.bool (decide ((UInt32.ofNat j) < (g5 s).1.1)))), (59, (ptr b2 0)), (60, (vU32 (numR (psD (g5 s).2 j) 2).1.1)), (61, (vU16 (UInt16.ofNat (numR (psD (g5 s).2 j) 2).1.1.toNat))), (62, (.slice (some ⟨b41121, 0, none⟩) 1 1))] wS := by
        intro b41121 wS HS
        rw [hW]
        refine WD.all1 (i := 0) (by kernel_rfl) ?_
        ·
          refine WS.op (i := 0) rfl rfl rfl (op_fieldAddr rfl Fa.F59_0 ?_)
          have hq := st16_16 b41121 wS HS
          rw [hW] at hq
          refine WD.cov ?_ hq
          exact ⟨rfl, rfl, rfl, rfl, rfl, rfl, rfl, rfl, rfl, rfl, rfl, rfl, rfl, rfl, trivial⟩
      have st16_6 : ∀ (wS : World), Own [] w wS [.blk b1 [(vU32 0), (.slice none 0 0), (.slice none 0 0), (.bool false), (vU32 0), (.slice none 0 0)] 59, .blk b2 [(str (psD (g5 s).2 j).rest), (vN (psD (g5 s).2 j).f)] 47, .blk b6 [(vU32 (g2 s).1.1), x, y, (.bool false), (vU32 0), (.slice none 0 0)] 59, .row x 130 2 (g3 s).1.1.toNat (List.flatMap xtc (gX s)), .row y 92 1 j (List.map vU16 (psL (g5 s).2 j)), .row (.slice none 0 0) 111 3 0 (List.flatMap sgc [])] → W 8 #[true, true, true, false, false, false, false, false, false, false, false] [(2, (ptr b1 0)), (4, (ptr b2 0)), (5, (str (g1 s).1.1)), (7, (ptr b6 0)), (8, (vU32 (g5 s).1.1)), (11, (vU32 (UInt32.ofNat j))), (51, (vU32 (UInt32.ofNat j))), (52, (vU32 (g5 s).1.1)), (53, (.bool (decide ((UInt32.ofNat j) < (g5 s).1.1)))), (56, (ptr b6 0)), (57, (ptr b6 2)), (58, y)] wS := by
        intro wS HS
        rw [hW]
        refine WD.all1 (i := 3) (by kernel_rfl) ?_
        ·
          refine WS.op (i := 3) rfl rfl rfl (op_move rfl ?_)
          have hq := st16_10 wS HS
          rw [hW] at hq
          refine WD.cov ?_ hq
          exact ⟨rfl, rfl, rfl, rfl, rfl, rfl, rfl, rfl, rfl, rfl, rfl, rfl, rfl, trivial⟩
      have st16_7 : ∀ (wS : World), Own [] w wS [.blk b1 [(vU32 0), (.slice none 0 0), (.slice none 0 0), (.bool false), (vU32 0), (.slice none 0 0)] 59, .blk b2 [(str (psD (g5 s).2 j).rest), (vN (psD (g5 s).2 j).f)] 47, .blk b6 [(vU32 (g2 s).1.1), x, y, (.bool false), (vU32 0), (.slice none 0 0)] 59, .row x 130 2 (g3 s).1.1.toNat (List.flatMap xtc (gX s)), .row y 92 1 j (List.map vU16 (psL (g5 s).2 j)), .row (.slice none 0 0) 111 3 0 (List.flatMap sgc [])] → W 8 #[true, true, false, true, false, false, false, false, false, false, false] [(2, (ptr b1 0)), (4, (ptr b2 0)), (5, (str (g1 s).1.1)), (7, (ptr b6 0)), (8, (vU32 (g5 s).1.1)), (11, (vU32 (UInt32.ofNat j))), (51, (vU32 (UInt32.ofNat j))), (52, (vU32 (g5 s).1.1)), (53, (.bool (decide ((UInt32.ofNat j) < (g5 s).1.1)))), (56, (ptr b6 0)), (57, (ptr b6 2)), (59, (ptr b2 0))] wS := by
        intro wS HS
        rw [hW]
        refine WD.all2 (i := 2) (j := 4) (by kernel_rfl) ?_ ?_
        ·
          refine WS.op (i := 2) rfl rfl rfl (op_load rfl (HS.cell (i := 2) rfl rfl) Try.underlying54 rfl ?_)
          have hq := st16_10 wS HS
          rw [hW] at hq
          refine WD.cov ?_ hq
          exact ⟨rfl, rfl, rfl, rfl, rfl, rfl, rfl, rfl, rfl, rfl, rfl, rfl, rfl, trivial⟩
        ·
          refine WS.op (i := 4) rfl rfl rfl (op_callF Fa.C98 rfl ((one16r_ok b2 (psD (g5 s).2 j) (2) _ _ (HS.part [1] rfl rfl) (by refine rest_lt ?_; first | (rw [g1_t]; exact hs) | (rw [g2_t]; exact hs) | (rw [g4_t]; exact hs) | (rw [g6_t]; exact hs) | (rw [g7_t]; exact hs) | (rw [g8_t]; exact hs) | (rw [g10_t]; exact hs) | (rw [xsD_t, g3_t]; exact hs) | (rw [numR_s, xsD_t, g3_t]; exact hs) | (rw [psD_t, g5_t]; exact hs) | (rw [sgD_t, g9_t]; exact hs) | (rw [numR_s, sgD_t, g9_t]; exact hs) | (rw [numR_s, numR_s, sgD_t, g9_t]; exact hs) | (rw [numR_s, numR_s, numR_s, sgD_t, g9_t]; exact hs) | exact hs)).mono (fun e w41081 hq => ?_)))
          obtain ⟨rfl, hq41081⟩ := hq
          refine ⟨_, rfl, ?_⟩
          have H41081 : Own [] w w41081 [.blk b1 [(vU32 0), (.slice none 0 0), (.slice none 0 0), (.bool false), (vU32 0), (.slice none 0 0)] 59, .blk b2 [(str ((numR (psD (g5 s).2 j) 2).2).rest), (vN ((numR (psD (g5 s).2 j) 2).2).f)] 47, .blk b6 [(vU32 (g2 s).1.1), x, y, (.bool false), (vU32 0), (.slice none 0 0)] 59, .row x 130 2 (g3 s).1.1.toNat (List.flatMap xtc (gX s)), .row y 92 1 j (List.map vU16 (psL (g5 s).2 j)), .row (.slice none 0 0) 111 3 0 (List.flatMap sgc [])] := HS.splice [1] [.blk b2 [(str ((numR (psD (g5 s).2 j) 2).2).rest), (vN ((numR (psD (g5 s).2 j) 2).2).f)] 47] [] rfl rfl hq41081 (Fits.solid True.intro Fits.nil)
          have hq := st16_11 w41081 H41081
          rw [hW] at hq
          refine WD.cov ?_ hq
          exact ⟨rfl, rfl, rfl, rfl, rfl, rfl, rfl, rfl, rfl, rfl, rfl, rfl, rfl, trivial⟩
      have st16_8 : ∀ (wS : World), Own [] w wS [.blk b1 [(vU32 0), (.slice none 0 0), (.slice none 0 0), (.bool false), (vU32 0), (.slice none 0 0)] 59, .blk b2 [(str ((numR (psD (g5 s).2 j) 2).2).rest), (vN ((numR (psD (g5 s).2 j) 2).2).f)] 47, .blk b6 [(vU32 (g2 s).1.1), x, y, (.bool false), (vU32 0), (.slice none 0 0)] 59, .row x 130 2 (g3 s).1.1.toNat (List.flatMap xtc (gX s)), .row y 92 1 j (List.map vU16 (psL (g5 s).2 j)), .row (.slice none 0 0) 111 3 0 (List.flatMap sgc [])] → W 8 #[true, false, false, true, true, false, false, false, false, false, false] [(2, (ptr b1 0)), (4, (ptr b2 0)), (5, (str (g1 s).1.1)), (7, (ptr b6 0)), (8, (vU32 (g5 s).1.1)), (11, (vU32 (UInt32.ofNat j))), (51, (vU32 (UInt32.ofNat j))), (52, (vU32 (g5 s).1.1)), (53, (.bool (decide ((UInt32.ofNat j) < (g5 s).1.1)))), (56, (ptr b6 0)), (59, (ptr b2 0)), (60, (vU32 (numR (psD (g5 s).2 j) 2).1.1))] wS := by
        intro wS HS
        rw [hW]
        refine WD.all2 (i := 1) (j := 5) (by kernel_rfl) ?_ ?_
        ·
          refine WS.op (i := 1) rfl rfl rfl (op_fieldAddr rfl Fa.F56_2 ?_)
          have hq := st16_11 wS HS
          rw [hW] at hq
          refine WD.cov ?_ hq
          exact ⟨rfl, rfl, rfl, rfl, rfl, rfl, rfl, rfl, rfl, rfl, rfl, rfl, rfl, trivial⟩
        ·
          refine WS.op (i := 5) rfl rfl rfl (op_convU32U16 (hs := Try.underlying22) (hd := Try.underlying92) rfl ?_)
          have hq := st16_12 wS HS
          rw [hW] at hq
          refine WD.cov ?_ hq
          exact ⟨rfl, rfl, rfl, rfl, rfl, rfl, rfl, rfl, rfl, rfl, rfl, rfl, rfl, trivial⟩
      have st16_9 : ∀ (wS : World), Own [] w wS [.blk b1 [(vU32 0), (.slice none 0 0), (.slice none 0 0), (.bool false), (vU32 0), (.slice none 0 0)] 59, .blk b2 [(str ((numR (psD (g5 s).2 j) 2).2).rest), (vN ((numR (psD (g5 s).2 j) 2).2).f)] 47, .blk b6 [(vU32 (g2 s).1.1), x, y, (.bool false), (vU32 0), (.slice none 0 0)] 59, .row x 130 2 (g3 s).1.1.toNat (List.flatMap xtc (gX s)), .row y 92 1 j (List.map vU16 (psL (g5 s).2 j)), .row (.slice none 0 0) 111 3 0 (List.flatMap sgc [])] → W 8 #[false, false, false, true, true, true, false, false, false, false, false] [(2, (ptr b1 0)), (4, (ptr b2 0)), (5, (str (g1 s).1.1)), (7, (ptr b6 0)), (8, (vU32 (g5 s).1.1)), (11, (vU32 (UInt32.ofNat j))), (51, (vU32 (UInt32.ofNat j))), (52, (vU32 (g5 s).1.1)), (53, (.bool (decide ((UInt32.ofNat j) < (g5 s).1.1)))), (59, (ptr b2 0)), (60, (vU32 (numR (psD (g5 s).2 j) 2).1.1)), (61, (vU16 (UInt16.ofNat (numR (psD (g5 s).2 j) 2).1.1.toNat)))] wS := by
        intro wS HS
        rw [hW]
        refine WD.all2 (i := 0) (j := 6) (by kernel_rfl) ?_ ?_
        ·
          refine WS.op (i := 0) rfl rfl rfl (op_fieldAddr rfl Fa.F59_0 ?_)
          have hq := st16_12 wS HS
          rw [hW] at hq
          refine WD.cov ?_ hq
          exact ⟨rfl, rfl, rfl, rfl, rfl, rfl, rfl, rfl, rfl, rfl, rfl, rfl, rfl, trivial⟩
        ·
          refine WS.op (i := 6) rfl rfl rfl (op_buildSlice (cs := [_]) HS Try.underlying54 Fa.I92 rfl rfl rfl rfl (by decide) (by decide) (fun b41121 w41121 H41121 => ?_))
          have hq := st16_13 b41121 w41121 H41121
          rw [hW] at hq
          refine WD.cov ?_ hq
          exact ⟨rfl, rfl, rfl, rfl, rfl, rfl, rfl, rfl, rfl, rfl, rfl, rfl, rfl, trivial⟩
      have st16_3 : ∀ (wS : World), Own [] w wS [.blk b1 [(vU32 0), (.slice none 0 0), (.slice none 0 0), (.bool false), (vU32 0), (.slice none 0 0)] 59, .blk b2 [(str (psD (g5 s).2 j).rest), (vN (psD (g5 s).2 j).f)] 47, .blk b6 [(vU32 (g2 s).1.1), x, y, (.bool false), (vU32 0), (.slice none 0 0)] 59, .row x 130 2 (g3 s).1.1.toNat (List.flatMap xtc (gX s)), .row y 92 1 j (List.map vU16 (psL (g5 s).2 j)), .row (.slice none 0 0) 111 3 0 (List.flatMap sgc [])] → W 9 #[true, true, false, false, false, false, false, false, false, false, false] [(2, (ptr b1 0)), (4, (ptr b2 0)), (5, (str (g1 s).1.1)), (7, (ptr b6 0)), (8, (vU32 (g5 s).1.1)), (11, (vU32 (UInt32.ofNat j))), (51, (vU32 (UInt32.ofNat j))), (52, (vU32 (g5 s).1.1)), (53, (.bool (decide ((UInt32.ofNat j) < (g5 s).1.1)))), (56, (ptr b6 0)), (57, (ptr b6 2))] wS := by
        intro wS HS
        rw [hW]
        refine WD.all2 (i := 2) (j := 3) (by kernel_rfl) ?_ ?_
        ·
          refine WS.op (i := 2) rfl rfl rfl (op_load rfl (HS.cell (i := 2) rfl rfl) Try.underlying54 rfl ?_)
          have hq := st16_6 wS HS
          rw [hW] at hq
          refine WD.cov ?_ hq
          exact ⟨rfl, rfl, rfl, rfl, rfl, rfl, rfl, rfl, rfl, rfl, rfl, rfl, trivial⟩
        ·
          refine WS.op (i := 3) rfl rfl rfl (op_move rfl ?_)
          have hq := st16_7 wS HS
          rw [hW] at hq
          refine WD.cov ?_ hq
          exact ⟨rfl, rfl, rfl, rfl, rfl, rfl, rfl, rfl, rfl, rfl, rfl, rfl, trivial⟩
      have st16_4 : ∀ (wS : World), Own [] w wS [.blk b1 [(vU32 0), (.slice none 0 0), (.slice none 0 0), (.bool false), (vU32 0), (.slice none 0 0)] 59, .blk b2 [(str (psD (g5 s).2 j).rest), (vN (psD (g5 s).2 j).f)] 47, .blk b6 [(vU32 (g2 s).1.1), x, y, (.bool false), (vU32 0), (.slice none 0 0)] 59, .row x 130 2 (g3 s).1.1.toNat (List.flatMap xtc (gX s)), .row y 92 1 j (List.map vU16 (psL (g5 s).2 j)), .row (.slice none 0 0) 111 3 0 (List.flatMap sgc [])] → W 9 #[true, false, false, true, false, false, false, false, false, false, false] [(2, (ptr b1 0)), (4, (ptr b2 0)), (5, (str (g1 s).1.1)), (7, (ptr b6 0)), (8, (vU32 (g5 s).1.1)), (11, (vU32 (UInt32.ofNat j))), (51, (vU32 (UInt32.ofNat j))), (52, (vU32 (g5 s).1.1)), (53, (.bool (decide ((UInt32.ofNat j) < (g5 s).1.1)))), (56, (ptr b6 0)), (59, (ptr b2 0))] wS := by
        intro wS HS
        rw [hW]
        refine WD.all2 (i := 1) (j := 4) (by kernel_rfl) ?_ ?_
        ·
          refine WS.op (i := 1) rfl rfl rfl (op_fieldAddr rfl Fa.F56_2 ?_)
          have hq := st16_7 wS HS
          rw [hW] at hq
          refine WD.cov ?_ hq
          exact ⟨rfl, rfl, rfl, rfl, rfl, rfl, rfl, rfl, rfl, rfl, rfl, rfl, trivial⟩
        ·
          refine WS.op (i := 4) rfl rfl rfl (op_callF Fa.C98 rfl ((one16r_ok b2 (psD (g5 s).2 j) (2) _ _ (HS.part [1] rfl rfl) (by refine rest_lt ?_; first | (rw [g1_t]; exact hs) | (rw [g2_t]; exact hs) | (rw [g4_t]; exact hs) | (rw [g6_t]; exact hs) | (rw [g7_t]; exact hs) | (rw [g8_t]; exact hs) | (rw [g10_t]; exact hs) | (rw [xsD_t, g3_t]; exact hs) | (rw [numR_s, xsD_t, g3_t]; exact hs) | (rw [psD_t, g5_t]; exact hs) | (rw [sgD_t, g9_t]; exact hs) | (rw [numR_s, sgD_t, g9_t]; exact hs) | (rw [numR_s, numR_s, sgD_t, g9_t]; exact hs) | (rw [numR_s, numR_s, numR_s, sgD_t, g9_t]; exact hs) | exact hs)).mono (fun e w41081 hq => ?_)))
          obtain ⟨rfl, hq41081⟩ := hq
          refine ⟨_, rfl, ?_⟩
          have H41081 : Own [] w w41081 [.blk b1 [(vU32 0), (.slice none 0 0), (.slice none 0 0), (.bool false), (vU32 0), (.slice none 0 0)] 59, .blk b2 [(str ((numR (psD (g5 s).2 j) 2).2).rest), (vN ((numR (psD (g5 s).2 j) 2).2).f)] 47, .blk b6 [(vU32 (g2 s).1.1), x, y, (.bool false), (vU32 0), (.slice none 0 0)] 59, .row x 130 2 (g3 s).1.1.toNat (List.flatMap xtc (gX s)), .row y 92 1 j (List.map vU16 (psL (g5 s).2 j)), .row (.slice none 0 0) 111 3 0 (List.flatMap sgc [])] := HS.splice [1] [.blk b2 [(str ((numR (psD (g5 s).2 j) 2).2).rest), (vN ((numR (psD (g5 s).2 j) 2).2).f)] 47] [] rfl rfl hq41081 (Fits.solid True.intro Fits.nil)
          have hq := st16_8 w41081 H41081
          rw [hW] at hq
          refine WD.cov ?_ hq
          exact ⟨rfl, rfl, rfl, rfl, rfl, rfl, rfl, rfl, rfl, rfl, rfl, rfl, trivial⟩
      have st16_5 : ∀ (wS : World), Own [] w wS [.blk b1 [(vU32 0), (.slice none 0 0), (.slice none 0 0), (.bool false), (vU32 0), (.slice none 0 0)] 59, .blk b2 [(str ((numR (psD (g5 s).2 j) 2).2).rest), (vN ((numR (psD (g5 s).2 j) 2).2).f)] 47, .blk b6 [(vU32 (g2 s).1.1), x, y, (.bool false), (vU32 0), (.slice none 0 0)] 59, .row x 130 2 (g3 s).1.1.toNat (List.flatMap xtc (gX s)), .row y 92 1 j (List.map vU16 (psL (g5 s).2 j)), .row (.slice none 0 0) 111 3 0 (List.flatMap sgc [])] → W 9 #[false, false, false, true, true, false, false, false, false, false, false] [(2, (ptr b1 0)), (4, (ptr b2 0)), (5, (str (g1 s).1.1)), (7, (ptr b6 0)), (8, (vU32 (g5 s).1.1)), (11, (vU32 (UInt32.ofNat j))), (51, (vU32 (UInt32.ofNat j))), (52, (vU32 (g5 s).1.1)), (53, (.bool (decide ((UInt32.ofNat j) < (g5 s).1.1)))), (59, (ptr b2 0)), (60, (vU32 (numR (psD (g5 s).2 j) 2).1.1))] wS := by
        intro wS HS
        rw [hW]
        refine WD.all2 (i := 0) (j := 5) (by kernel_rfl) ?_ ?_
        ·
          refine WS.op (i := 0) rfl rfl rfl (op_fieldAddr rfl Fa.F59_0 ?_)
          have hq := st16_8 wS HS
          rw [hW] at hq
          refine WD.cov ?_ hq
          exact ⟨rfl, rfl, rfl, rfl, rfl, rfl, rfl, rfl, rfl, rfl, rfl, rfl, trivial⟩
        ·
          refine WS.op (i := 5) rfl rfl rfl (op_convU32U16 (hs := Try.underlying22) (hd := Try.underlying92) rfl ?_)
          have hq := st16_9 wS HS
          rw [hW] at hq
          refine WD.cov ?_ hq
          exact ⟨rfl, rfl, rfl, rfl, rfl, rfl, rfl, rfl, rfl, rfl, rfl, rfl, trivial⟩
      have st16_1 : ∀ (wS : World), Own [] w wS [.blk b1 [(vU32 0), (.slice none 0 0), (.slice none 0 0), (.bool false), (vU32 0), (.slice none 0 0)] 59, .blk b2 [(str (psD (g5 s).2 j).rest), (vN (psD (g5 s).2 j).f)] 47, .blk b6 [(vU32 (g2 s).1.1), x, y, (.bool false), (vU32 0), (.slice none 0 0)] 59, .row x 130 2 (g3 s).1.1.toNat (List.flatMap xtc (gX s)), .row y 92 1 j (List.map vU16 (psL (g5 s).2 j)), .row (.slice none 0 0) 111 3 0 (List.flatMap sgc [])] → W 10 #[true, false, false, false, false, false, false, false, false, false, false] [(2, (ptr b1 0)), (4, (ptr b2 0)), (5, (str (g1 s).1.1)), (7, (ptr b6 0)), (8, (vU32 (g5 s).1.1)), (11, (vU32 (UInt32.ofNat j))), (51, (vU32 (UInt32.ofNat j))), (52, (vU32 (g5 s).1.1)), (53, (.bool (decide ((UInt32.ofNat j) < (g5 s).1.1)))), (56, (ptr b6 0))] wS := by
        intro wS HS
        rw [hW]
        refine WD.all2 (i := 1) (j := 3) (by kernel_rfl) ?_ ?_
        ·
          refine WS.op (i := 1) rfl rfl rfl (op_fieldAddr rfl Fa.F56_2 ?_)
          have hq := st16_3 wS HS
          rw [hW] at hq
          refine WD.cov ?_ hq
          exact ⟨rfl, rfl, rfl, rfl, rfl, rfl, rfl, rfl, rfl, rfl, rfl, trivial⟩
        ·
          refine WS.op (i := 3) rfl rfl rfl (op_move rfl ?_)
          have hq := st16_4 wS HS
          rw [hW] at hq
          refine WD.cov ?_ hq
          exact ⟨rfl, rfl, rfl, rfl, rfl, rfl, rfl, rfl, rfl, rfl, rfl, trivial⟩
      have st16_2 : ∀ (wS : World), Own [] w wS [.blk b1 [(vU32 0), (.slice none 0 0), (.slice none 0 0), (.bool false), (vU32 0), (.slice none 0 0)] 59, .blk b2 [(str (psD (g5 s).2 j).rest), (vN (psD (g5 s).2 j).f)] 47, .blk b6 [(vU32 (g2 s).1.1), x, y, (.bool false), (vU32 0), (.slice none 0 0)] 59, .row x 130 2 (g3 s).1.1.toNat (List.flatMap xtc (gX s)), .row y 92 1 j (List.map vU16 (psL (g5 s).2 j)), .row (.slice none 0 0) 111 3 0 (List.flatMap sgc [])] → W 10 #[false, false, false, true, false, false, false, false, false, false, false] [(2, (ptr b1 0)), (4, (ptr b2 0)), (5, (str (g1 s).1.1)), (7, (ptr b6 0)), (8, (vU32 (g5 s).1.1)), (11, (vU32 (UInt32.ofNat j))), (51, (vU32 (UInt32.ofNat j))), (52, (vU32 (g5 s).1.1)), (53, (.bool (decide ((UInt32.ofNat j) < (g5 s).1.1)))), (59, (ptr b2 0))] wS := by
        intro wS HS
        rw [hW]
        refine WD.all2 (i := 0) (j := 4) (by kernel_rfl) ?_ ?_
        ·
          refine WS.op (i := 0) rfl rfl rfl (op_fieldAddr rfl Fa.F59_0 ?_)
          have hq := st16_4 wS HS
          rw [hW] at hq
          refine WD.cov ?_ hq
          exact ⟨rfl, rfl, rfl, rfl, rfl, rfl, rfl, rfl, rfl, rfl, rfl, trivial⟩
        ·
          refine WS.op (i := 4) rfl rfl rfl (op_callF Fa.C98 rfl ((one16r_ok b2 (psD (g5 s).2 j) (2) _ _ (HS.part [1] rfl rfl) (by refine rest_lt ?_; first | (rw [g1_t]; exact hs) | (rw [g2_t]; exact hs) | (rw [g4_t]; exact hs) | (rw [g6_t]; exact hs) | (rw [g7_t]; exact hs) | (rw [g8_t]; exact hs) | (rw [g10_t]; exact hs) | (rw [xsD_t, g3_t]; exact hs) | (rw [numR_s, xsD_t, g3_t]; exact hs) | (rw [psD_t, g5_t]; exact hs) | (rw [sgD_t, g9_t]; exact hs) | (rw [numR_s, sgD_t, g9_t]; exact hs) | (rw [numR_s, numR_s, sgD_t, g9_t]; exact hs) | (rw [numR_s, numR_s, numR_s, sgD_t, g9_t]; exact hs) | exact hs)).mono (fun e w41081 hq => ?_)))
          obtain ⟨rfl, hq41081⟩ := hq
          refine ⟨_, rfl, ?_⟩
          have H41081 : Own [] w w41081 [.blk b1 [(vU32 0), (.slice none 0 0), (.slice none 0 0), (.bool false), (vU32 0), (.slice none 0 0)] 59, .blk b2 [(str ((numR (psD (g5 s).2 j) 2).2).rest), (vN ((numR (psD (g5 s).2 j) 2).2).f)] 47, .blk b6 [(vU32 (g2 s).1.1), x, y, (.bool false), (vU32 0), (.slice none 0 0)] 59, .row x 130 2 (g3 s).1.1.toNat (List.flatMap xtc (gX s)), .row y 92 1 j (List.map vU16 (psL (g5 s).2 j)), .row (.slice none 0 0) 111 3 0 (List.flatMap sgc [])] := HS.splice [1] [.blk b2 [(str ((numR (psD (g5 s).2 j) 2).2).rest), (vN ((numR (psD (g5 s).2 j) 2).2).f)] 47] [] rfl rfl hq41081 (Fits.solid True.intro Fits.nil)
          have hq := st16_5 w41081 H41081
          rw [hW] at hq
          refine WD.cov ?_ hq
          exact ⟨rfl, rfl, rfl, rfl, rfl, rfl, rfl, rfl, rfl, rfl, rfl, trivial⟩
      have st16_0 : ∀ (wS : World), Own [] w wS [.blk b1 [(vU32 0), (.slice none 0 0), (.slice none 0 0), (.bool false), (vU32 0), (.slice none 0 0)] 59, .blk b2 [(str (psD (g5 s).2 j).rest), (vN (psD (g5 s).2 j).f)] 47, .blk b6 [(vU32 (g2 s).1.1), x, y, (.bool false), (vU32 0), (.slice none 0 0)] 59, .row x 130 2 (g3 s).1.1.toNat (List.flatMap xtc (gX s)), .row y 92 1 j (List.map vU16 (psL (g5 s).2 j)), .row (.slice none 0 0) 111 3 0 (List.flatMap sgc [])] → W 11 #[false, false, false, false, false, false, false, false, false, false, false] [(2, (ptr b1 0)), (4, (ptr b2 0)), (5, (str (g1 s).1.1)), (7, (ptr b6 0)), (8, (vU32 (g5 s).1.1)), (11, (vU32 (UInt32.ofNat j))), (51, (vU32 (UInt32.ofNat j))), (52, (vU32 (g5 s).1.1)), (53, (.bool (decide ((UInt32.ofNat j) < (g5 s).1.1))))] wS := by
        intro wS HS
        rw [hW]
        refine WD.all2 (i := 0) (j := 3) (by kernel_rfl) ?_ ?_
        ·
          refine WS.op (i := 0) rfl rfl rfl (op_fieldAddr rfl Fa.F59_0 ?_)
          have hq := st16_1 wS HS
          rw [hW] at hq
          refine WD.cov ?_ hq
          exact ⟨rfl, rfl, rfl, rfl, rfl, rfl, rfl, rfl, rfl, rfl, trivial⟩
        ·
          refine WS.op (i := 3) rfl rfl rfl (op_move rfl ?_)
          have hq := st16_2 wS HS
          rw [hW] at hq
          refine WD.cov ?_ hq
          exact ⟨rfl, rfl, rfl, rfl, rfl, rfl, rfl, rfl, rfl, rfl, trivial⟩
      have hq := st16_0 w30 H30
      rw [hW] at hq ⊢
      refine WD.cov ?_ hq
      exact ⟨rfl, rfl, rfl, rfl, rfl, rfl, rfl, rfl, rfl, trivial⟩
    ·
      have hc29 := of_decide_eq_false hb29
      refine WC.exit ?_
      refine WQ.thenExit ?_
      refine WQ.thenExit ?_
      refine WQ.inHere ?_
      refine WQ.next ?_
      refine WC.seq ?_
      refine WC.region ?_
      have hkx : ¬ j < (g5 s).1.1.toNat := fun h => hc29 (hct.2 h)
      obtain rfl : j = (g5 s).1.1.toNat := by omega
      have H32 : Own [] w w28 [.blk b1 [(vU32 0), (.slice none 0 0), (.slice none 0 0), (.bool false), (vU32 0), (.slice none 0 0)] 59, .blk b2 [(str (g6 s).rest), (vN (g6 s).f)] 47, .blk b6 [(vU32 (g2 s).1.1), x, y, (.bool false), (vU32 0), (.slice none 0 0)] 59, .row x 130 2 (g3 s).1.1.toNat (List.flatMap xtc (gX s)), .row y 92 1 (g5 s).1.1.toNat (List.map vU16 (gP s)), .row (.slice none 0 0) 111 3 0 (List.flatMap sgc [])] := by have h := H28; rw [g6_e] at h; rw [gP_e] at h; exact h
      refine WL.op rfl rfl (op_move rfl ?_)
      refine WL.op rfl rfl (op_callF Fa.C98 rfl ((one16r_ok b2 (g6 s) (1) _ _ (H32.part [1] rfl rfl) (by refine rest_lt ?_; first | (rw [g1_t]; exact hs) | (rw [g2_t]; exact hs) | (rw [g4_t]; exact hs) | (rw [g6_t]; exact hs) | (rw [g7_t]; exact hs) | (rw [g8_t]; exact hs) | (rw [g10_t]; exact hs) | (rw [xsD_t, g3_t]; exact hs) | (rw [numR_s, xsD_t, g3_t]; exact hs) | (rw [psD_t, g5_t]; exact hs) | (rw [sgD_t, g9_t]; exact hs) | (rw [numR_s, sgD_t, g9_t]; exact hs) | (rw [numR_s, numR_s, sgD_t, g9_t]; exact hs) | (rw [numR_s, numR_s, numR_s, sgD_t, g9_t]; exact hs) | exact hs)).mono (fun e w33 hq => ?_)))
      obtain ⟨rfl, hq33⟩ := hq
      refine ⟨_, rfl, ?_⟩
      have H33 : Own [] w w33 [.blk b1 [(vU32 0), (.slice none 0 0), (.slice none 0 0), (.bool false), (vU32 0), (.slice none 0 0)] 59, .blk b2 [(str ((numR (g6 s) 1).2).rest), (vN ((numR (g6 s) 1).2).f)] 47, .blk b6 [(vU32 (g2 s).1.1), x, y, (.bool false), (vU32 0), (.slice none 0 0)] 59, .row x 130 2 (g3 s).1.1.toNat (List.flatMap xtc (gX s)), .row y 92 1 (g5 s).1.1.toNat (List.map vU16 (gP s)), .row (.slice none 0 0) 111 3 0 (List.flatMap sgc [])] := H32.splice [1] [.blk b2 [(str ((numR (g6 s) 1).2).rest), (vN ((numR (g6 s) 1).2).f)] 47] [] rfl rfl hq33 (Fits.solid True.intro Fits.nil)
      have H34 : Own [] w w33 [.blk b1 [(vU32 0), (.slice none 0 0), (.slice none 0 0), (.bool false), (vU32 0), (.slice none 0 0)] 59, .blk b2 [(str ((g7 s).2).rest), (vN ((g7 s).2).f)] 47, .blk b6 [(vU32 (g2 s).1.1), x, y, (.bool false), (vU32 0), (.slice none 0 0)] 59, .row x 130 2 (g3 s).1.1.toNat (List.flatMap xtc (gX s)), .row y 92 1 (g5 s).1.1.toNat (List.map vU16 (gP s)), .row (.slice none 0 0) 111 3 0 (List.flatMap sgc [])] := by have h := H33; rw [g7_e] at h; exact h
      rw [g7_e]
      refine WL.op rfl rfl (op_assign rfl ?_)
      refine WL.nil ?_
      refine WQ.next ?_
      refine WC.seq ?_
      refine WC.region ?_
      refine WL.op rfl rfl (op_move rfl ?_)
      refine WL.op rfl rfl (op_eqlU32 (b := 1) rfl rfl ?_)
      refine WL.op rfl rfl (op_fieldAddr rfl Fa.F59_0 ?_)
      refine WL.op rfl rfl (op_fieldAddr rfl Fa.F56_3 ?_)
      refine WL.op rfl rfl (op_storeB (i := 2) H34 rfl rfl rfl rfl rfl Fa.I4 (fun w35 H35 => ?_))
      refine WL.nil ?_
      refine WQ.next ?_
      refine WC.seq ?_
      refine WC.region ?_
      refine WL.op rfl rfl (op_move rfl ?_)
      refine WL.op rfl rfl (op_callF Fa.C98 rfl ((one16r_ok b2 ((g7 s).2) (4) _ _ (H35.part [1] rfl rfl) (by refine rest_lt ?_; first | (rw [g1_t]; exact hs) | (rw [g2_t]; exact hs) | (rw [g4_t]; exact hs) | (rw [g6_t]; exact hs) | (rw [g7_t]; exact hs) | (rw [g8_t]; exact hs) | (rw [g10_t]; exact hs) | (rw [xsD_t, g3_t]; exact hs) | (rw [numR_s, xsD_t, g3_t]; exact hs) | (rw [psD_t, g5_t]; exact hs) | (rw [sgD_t, g9_t]; exact hs) | (rw [numR_s, sgD_t, g9_t]; exact hs) | (rw [numR_s, numR_s, sgD_t, g9_t]; exact hs) | (rw [numR_s, numR_s, numR_s, sgD_t, g9_t]; exact hs) | exact hs)).mono (fun e w36 hq => ?_)))
      obtain ⟨rfl, hq36⟩ := hq
      refine ⟨_, rfl, ?_⟩
      have H36 : Own [] w w36 [.blk b1 [(vU32 0), (.slice none 0 0), (.slice none 0 0), (.bool false), (vU32 0), (.slice none 0 0)] 59, .blk b2 [(str ((numR ((g7 s).2) 4).2).rest), (vN ((numR ((g7 s).2) 4).2).f)] 47, .blk b6 [(vU32 (g2 s).1.1), x, y, (.bool (decide ((g7 s).1.1 = (1 : UInt32)))), (vU32 0), (.slice none 0 0)] 59, .row x 130 2 (g3 s).1.1.toNat (List.flatMap xtc (gX s)), .row y 92 1 (g5 s).1.1.toNat (List.map vU16 (gP s)), .row (.slice none 0 0) 111 3 0 (List.flatMap sgc [])] := H35.splice [1] [.blk b2 [(str ((numR ((g7 s).2) 4).2).rest), (vN ((numR ((g7 s).2) 4).2).f)] 47] [] rfl rfl hq36 (Fits.solid True.intro Fits.nil)
      refine WL.op rfl rfl (op_fieldAddr rfl Fa.F59_1 ?_)
      have H37 : Own [] w w36 [.blk b1 [(vU32 0), (.slice none 0 0), (.slice none 0 0), (.bool false), (vU32 0), (.slice none 0 0)] 59, .blk b2 [(str ((g8 s).2).rest), (vN ((g8 s).2).f)] 47, .blk b6 [(vU32 (g2 s).1.1), x, y, (.bool (decide ((g7 s).1.1 = (1 : UInt32)))), (vU32 0), (.slice none 0 0)] 59, .row x 130 2 (g3 s).1.1.toNat (List.flatMap xtc (gX s)), .row y 92 1 (g5 s).1.1.toNat (List.map vU16 (gP s)), .row (.slice none 0 0) 111 3 0 (List.flatMap sgc [])] := by have h := H36; rw [g8_e] at h; exact h
      rw [g8_e]
      refine WL.op rfl rfl (op_storeB (i := 2) H37 rfl rfl rfl rfl rfl Fa.I22 (fun w38 H38 => ?_))
      refine WL.nil ?_
      refine WQ.next ?_
      refine WC.seq ?_
      refine WC.region ?_
      refine WL.op rfl rfl (op_move rfl ?_)
      refine WL.op rfl rfl (op_callF Fa.C98 rfl ((one16r_ok b2 ((g8 s).2) (1) _ _ (H38.part [1] rfl rfl) (by refine rest_lt ?_; first | (rw [g1_t]; exact hs) | (rw [g2_t]; exact hs) | (rw [g4_t]; exact hs) | (rw [g6_t]; exact hs) | (rw [g7_t]; exact hs) | (rw [g8_t]; exact hs) | (rw [g10_t]; exact hs) | (rw [xsD_t, g3_t]; exact hs) | (rw [numR_s, xsD_t, g3_t]; exact hs) | (rw [psD_t, g5_t]; exact hs) | (rw [sgD_t, g9_t]; exact hs) | (rw [numR_s, sgD_t, g9_t]; exact hs) | (rw [numR_s, numR_s, sgD_t, g9_t]; exact hs) | (rw [numR_s, numR_s, numR_s, sgD_t, g9_t]; exact hs) | exact hs)).mono (fun e w39 hq => ?_)))
      obtain ⟨rfl, hq39⟩ := hq
      refine ⟨_, rfl, ?_⟩
      have H39 : Own [] w w39 [.blk b1 [(vU32 0), (.slice none 0 0), (.slice none 0 0), (.bool false), (vU32 0), (.slice none 0 0)] 59, .blk b2 [(str ((numR ((g8 s).2) 1).2).rest), (vN ((numR ((g8 s).2) 1).2).f)] 47, .blk b6 [(vU32 (g2 s).1.1), x, y, (.bool (decide ((g7 s).1.1 = (1 : UInt32)))), (vU32 (g8 s).1.1), (.slice none 0 0)] 59, .row x 130 2 (g3 s).1.1.toNat (List.flatMap xtc (gX s)), .row y 92 1 (g5 s).1.1.toNat (List.map vU16 (gP s)), .row (.slice none 0 0) 111 3 0 (List.flatMap sgc [])] := H38.splice [1] [.blk b2 [(str ((numR ((g8 s).2) 1).2).rest), (vN ((numR ((g8 s).2) 1).2).f)] 47] [] rfl rfl hq39 (Fits.solid True.intro Fits.nil)
      have H40 : Own [] w w39 [.blk b1 [(vU32 0), (.slice none 0 0), (.slice none 0 0), (.bool false), (vU32 0), (.slice none 0 0)] 59, .blk b2 [(str ((g9 s).2).rest), (vN ((g9 s).2).f)] 47, .blk b6 [(vU32 (g2 s).1.1), x, y, (.bool (decide ((g7 s).1.1 = (1 : UInt32)))), (vU32 (g8 s).1.1), (.slice none 0 0)] 59, .row x 130 2 (g3 s).1.1.toNat (List.flatMap xtc (gX s)), .row y 92 1 (g5 s).1.1.toNat (List.map vU16 (gP s)), .row (.slice none 0 0) 111 3 0 (List.flatMap sgc [])] := by have h := H39; rw [g9_e] at h; exact h
      rw [g9_e]
      refine WL.op rfl rfl (op_assign rfl ?_)
      refine WL.nil ?_
      refine WQ.next ?_
      refine WC.seq ?_
      refine WC.seq ?_
      refine WC.region ?_
      refine WL.op rfl rfl (op_assign rfl ?_)
      refine WL.nil ?_
      refine WQ.next ?_
      refine WC.block ?_
      refine WC.loop (α := Nat × Value) (fun (i, z) => [(2, (ptr b1 0)), (4, (ptr b2 0)), (5, (str (g1 s).1.1)), (7, (ptr b6 0)), (8, (vU32 (g9 s).1.1)), (12, (vU32 (g7 s).1.1)), (13, (vU32 (UInt32.ofNat i)))]) (fun (i, z) w' => (i ≤ (g9 s).1.1.toNat) ∧ Own [] w w' [.blk b1 [(vU32 0), (.slice none 0 0), (.slice none 0 0), (.bool false), (vU32 0), (.slice none 0 0)] 59, .blk b2 [(str (sgD (g9 s).2 i).rest), (vN (sgD (g9 s).2 i).f)] 47, .blk b6 [(vU32 (g2 s).1.1), x, y, (.bool (decide ((g7 s).1.1 = (1 : UInt32)))), (vU32 (g8 s).1.1), z] 59, .row x 130 2 (g3 s).1.1.toNat (List.flatMap xtc (gX s)), .row y 92 1 (g5 s).1.1.toNat (List.map vU16 (gP s)), .row z 111 3 i (List.flatMap sgc (sgL (g9 s).2 i))]) (fun (i, z) => (g9 s).1.1.toNat - i) (0, (.slice none 0 0)) ⟨(Nat.zero_le _), (by rw [sgD_0]; exact H40)⟩ ⟨rfl, rfl, rfl, rfl, rfl, rfl, rfl, trivial⟩ ?_
      rintro ⟨i, z⟩ w41 ⟨hi1, H41⟩
      show WC _ _ _ _ _ [(2, (ptr b1 0)), (4, (ptr b2 0)), (5, (str (g1 s).1.1)), (7, (ptr b6 0)), (8, (vU32 (g9 s).1.1)), (12, (vU32 (g7 s).1.1)), (13, (vU32 (UInt32.ofNat i)))] _
      have hnl := (g9 s).1.1.toNat_lt
      have hct := u32_lt (k := i) (n := (g9 s).1.1) (by omega)
      refine WC.seq ?_
      refine WC.seq ?_
      refine WC.region ?_
      refine WL.op rfl rfl (op_move rfl ?_)
      refine WL.op rfl rfl (op_move rfl ?_)
      refine WL.op rfl rfl (op_lssU32 rfl rfl ?_)
      refine WL.nil ?_
      refine WQ.next ?_
      refine WC.cond rfl (fun (hb42 : (decide ((UInt32.ofNat i) < (g9 s).1.1)) = true) => ?_) (fun (hb42 : (decide ((UInt32.ofNat i) < (g9 s).1.1)) = false) => ?_)
      ·
        have hc42 := of_decide_eq_true hb42
        have hkn := hct.1 hc42
        refine WC.skip ?_
        refine WQ.next ?_
        refine WC.seq ?_
        refine WC.block ?_
        refine WC.seq ?_
        refine WC.region ?_
        refine WL.op rfl rfl (op_move rfl ?_)
        refine WL.op rfl rfl (op_callF Fa.C98 rfl ((one16r_ok b2 (sgD (g9 s).2 i) (4) _ _ (H41.part [1] rfl rfl) (by refine rest_lt ?_; first | (rw [g1_t]; exact hs) | (rw [g2_t]; exact hs) | (rw [g4_t]; exact hs) | (rw [g6_t]; exact hs) | (rw [g7_t]; exact hs) | (rw [g8_t]; exact hs) | (rw [g10_t]; exact hs) | (rw [xsD_t, g3_t]; exact hs) | (rw [numR_s, xsD_t, g3_t]; exact hs) | (rw [psD_t, g5_t]; exact hs) | (rw [sgD_t, g9_t]; exact hs) | (rw [numR_s, sgD_t, g9_t]; exact hs) | (rw [numR_s, numR_s, sgD_t, g9_t]; exact hs) | (rw [numR_s, numR_s, numR_s, sgD_t, g9_t]; exact hs) | exact hs)).mono (fun e w43 hq => ?_)))
        obtain ⟨rfl, hq43⟩ := hq
        refine ⟨_, rfl, ?_⟩
        have H43 : Own [] w w43 [.blk b1 [(vU32 0), (.slice none 0 0), (.slice none 0 0), (.bool false), (vU32 0), (.slice none 0 0)] 59, .blk b2 [(str ((numR (sgD (g9 s).2 i) 4).2).rest), (vN ((numR (sgD (g9 s).2 i) 4).2).f)] 47, .blk b6 [(vU32 (g2 s).1.1), x, y, (.bool (decide ((g7 s).1.1 = (1 : UInt32)))), (vU32 (g8 s).1.1), z] 59, .row x 130 2 (g3 s).1.1.toNat (List.flatMap xtc (gX s)), .row y 92 1 (g5 s).1.1.toNat (List.map vU16 (gP s)), .row z 111 3 i (List.flatMap sgc (sgL (g9 s).2 i))] := H41.splice [1] [.blk b2 [(str ((numR (sgD (g9 s).2 i) 4).2).rest), (vN ((numR (sgD (g9 s).2 i) 4).2).f)] 47] [] rfl rfl hq43 (Fits.solid True.intro Fits.nil)
        refine WL.op rfl rfl (op_build (cs := [_, _, _]) Fa.I111 Fa.PL111 rfl rfl ?_)
        refine WL.op rfl rfl (op_alloc H43 Fa.I111 (fun b44 w44 H44 => ?_))
        refine WL.op rfl rfl (op_storeBW (i := 6) H44 rfl rfl rfl rfl rfl Fa.I111 (fun w45 H45 => ?_))
        refine WL.nil ?_
        refine WQ.next ?_
        refine WC.seq ?_
        refine WC.region ?_
        refine WL.op rfl rfl (op_move rfl ?_)
        refine WL.op rfl rfl (op_callF Fa.C98 rfl ((one16r_ok b2 ((numR (sgD (g9 s).2 i) 4).2) (1) _ _ (H45.part [1] rfl rfl) (by refine rest_lt ?_; first | (rw [g1_t]; exact hs) | (rw [g2_t]; exact hs) | (rw [g4_t]; exact hs) | (rw [g6_t]; exact hs) | (rw [g7_t]; exact hs) | (rw [g8_t]; exact hs) | (rw [g10_t]; exact hs) | (rw [xsD_t, g3_t]; exact hs) | (rw [numR_s, xsD_t, g3_t]; exact hs) | (rw [psD_t, g5_t]; exact hs) | (rw [sgD_t, g9_t]; exact hs) | (rw [numR_s, sgD_t, g9_t]; exact hs) | (rw [numR_s, numR_s, sgD_t, g9_t]; exact hs) | (rw [numR_s, numR_s, numR_s, sgD_t, g9_t]; exact hs) | exact hs)).mono (fun e w46 hq => ?_)))
        obtain ⟨rfl, hq46⟩ := hq
        refine ⟨_, rfl, ?_⟩
        have H46 : Own [] w w46 [.blk b1 [(vU32 0), (.slice none 0 0), (.slice none 0 0), (.bool false), (vU32 0), (.slice none 0 0)] 59, .blk b2 [(str ((numR ((numR (sgD (g9 s).2 i) 4).2) 1).2).rest), (vN ((numR ((numR (sgD (g9 s).2 i) 4).2) 1).2).f)] 47, .blk b6 [(vU32 (g2 s).1.1), x, y, (.bool (decide ((g7 s).1.1 = (1 : UInt32)))), (vU32 (g8 s).1.1), z] 59, .row x 130 2 (g3 s).1.1.toNat (List.flatMap xtc (gX s)), .row y 92 1 (g5 s).1.1.toNat (List.map vU16 (gP s)), .row z 111 3 i (List.flatMap sgc (sgL (g9 s).2 i)), .blk b44 [(vU32 (numR (sgD (g9 s).2 i) 4).1.1), (vU8 0), (str [])] 111] := H45.splice [1] [.blk b2 [(str ((numR ((numR (sgD (g9 s).2 i) 4).2) 1).2).rest), (vN ((numR ((numR (sgD (g9 s).2 i) 4).2) 1).2).f)] 47] [] rfl rfl hq46 (Fits.solid True.intro Fits.nil)
        refine WL.op rfl rfl (op_convU32U8 (hs := Try.underlying22) (hd := Try.underlying5) rfl ?_)
        refine WL.op rfl rfl (op_fieldAddr rfl Fa.F111_1 ?_)
        refine WL.op rfl rfl (op_storeB (i := 6) H46 rfl rfl rfl rfl rfl Fa.I5 (fun w47 H47 => ?_))
        refine WL.nil ?_
        refine WQ.next ?_
        refine WC.seq ?_
        refine WC.region ?_
        refine WL.op rfl rfl (op_move rfl ?_)
        refine WL.op rfl rfl (op_callF Fa.C98 rfl ((one16r_ok b2 ((numR ((numR (sgD (g9 s).2 i) 4).2) 1).2) (4) _ _ (H47.part [1] rfl rfl) (by refine rest_lt ?_; first | (rw [g1_t]; exact hs) | (rw [g2_t]; exact hs) | (rw [g4_t]; exact hs) | (rw [g6_t]; exact hs) | (rw [g7_t]; exact hs) | (rw [g8_t]; exact hs) | (rw [g10_t]; exact hs) | (rw [xsD_t, g3_t]; exact hs) | (rw [numR_s, xsD_t, g3_t]; exact hs) | (rw [psD_t, g5_t]; exact hs) | (rw [sgD_t, g9_t]; exact hs) | (rw [numR_s, sgD_t, g9_t]; exact hs) | (rw [numR_s, numR_s, sgD_t, g9_t]; exact hs) | (rw [numR_s, numR_s, numR_s, sgD_t, g9_t]; exact hs) | exact hs)).mono (fun e w48 hq => ?_)))
        obtain ⟨rfl, hq48⟩ := hq
        refine ⟨_, rfl, ?_⟩
        have H48 : Own [] w w48 [.blk b1 [(vU32 0), (.slice none 0 0), (.slice none 0 0), (.bool false), (vU32 0), (.slice none 0 0)] 59, .blk b2 [(str ((numR ((numR ((numR (sgD (g9 s).2 i) 4).2) 1).2) 4).2).rest), (vN ((numR ((numR ((numR (sgD (g9 s).2 i) 4).2) 1).2) 4).2).f)] 47, .blk b6 [(vU32 (g2 s).1.1), x, y, (.bool (decide ((g7 s).1.1 = (1 : UInt32)))), (vU32 (g8 s).1.1), z] 59, .row x 130 2 (g3 s).1.1.toNat (List.flatMap xtc (gX s)), .row y 92 1 (g5 s).1.1.toNat (List.map vU16 (gP s)), .row z 111 3 i (List.flatMap sgc (sgL (g9 s).2 i)), .blk b44 [(vU32 (numR (sgD (g9 s).2 i) 4).1.1), (vU8 (UInt8.ofNat (numR ((numR (sgD (g9 s).2 i) 4).2) 1).1.1.toNat)), (str [])] 111] := H47.splice [1] [.blk b2 [(str ((numR ((numR ((numR (sgD (g9 s).2 i) 4).2) 1).2) 4).2).rest), (vN ((numR ((numR ((numR (sgD (g9 s).2 i) 4).2) 1).2) 4).2).f)] 47] [] rfl rfl hq48 (Fits.solid True.intro Fits.nil)
        refine WL.op rfl rfl (op_assign rfl ?_)
        refine WL.nil ?_
        refine WQ.next ?_
        refine WC.seq ?_
        refine WC.seq ?_
        refine WC.region ?_
        refine WL.op rfl rfl (op_move rfl ?_)
        refine WL.op rfl rfl (op_gtrU32 (b := 131072) rfl rfl ?_)
        refine WL.nil ?_
        refine WQ.next ?_
        refine WC.cond rfl (fun (hb49 : (decide ((numR ((numR ((numR (sgD (g9 s).2 i) 4).2) 1).2) 4).1.1 > (131072 : UInt32))) = true) => ?_) (fun (hb49 : (decide ((numR ((numR ((numR (sgD (g9 s).2 i) 4).2) 1).2) 4).1.1 > (131072 : UInt32))) = false) => ?_)
        ·
          have hc49 := of_decide_eq_true hb49
          refine WC.seq ?_
          refine WC.region ?_
          refine WL.op rfl rfl (op_build (cs := [_, _, _, _, _, _]) Fa.I59 Fa.PL59 rfl rfl ?_)
          refine WL.op rfl rfl (op_storeBW (i := 0) H48 rfl rfl rfl rfl rfl Fa.I59 (fun w50 H50 => ?_))
          refine WL.op rfl rfl (op_assign rfl ?_)
          refine WL.nil ?_
          refine WQ.next ?_
          refine WC.ret ?_
          refine WQ.thenRet ?_
          refine WQ.inRet ?_
          refine WQ.thenRet ?_
          refine WQ.thenRet ?_
          refine WQ.inRet ?_
          refine WQ.thenRet ?_
          refine WQ.out (.cell rfl (run_loadVarS (vs := [_, _, _, _, _, _]) (H50.cells (i := 0) rfl rfl) Try.underlying59 rfl Fa.I59 rfl) (.tmp rfl .nil)) ?_
          have hb : gBad s = true := seg_big hkn (fun h => absurd hc49 (UInt32.not_lt.2 h))
          rw [(get_bad hb).1, (get_bad hb).2]
          exact ⟨.slice none 0 0, .slice none 0 0, .slice none 0 0, rfl, (((H50.sel [] rfl rfl).nilRow 130 2).nilRow 92 1).nilRow 111 3⟩
        ·
          have hc49 := of_decide_eq_false hb49
          have hsz := UInt32.not_lt.1 hc49
          refine WC.skip ?_
          refine WQ.next ?_
          refine WC.seq ?_
          refine WC.region ?_
          refine WL.op rfl rfl (op_move rfl ?_)
          refine WL.op rfl rfl (op_move rfl ?_)
          refine WL.op rfl rfl (op_convU32N (hs := Try.underlying22) (hd := Try.underlying3) rfl ?_)
          refine WL.op rfl rfl (op_callF Fa.C31 rfl ((take16r_ok b2 ((numR ((numR ((numR (sgD (g9 s).2 i) 4).2) 1).2) 4).2) (((numR ((numR ((numR (sgD (g9 s).2 i) 4).2) 1).2) 4).1.1.toNat : Nat)) _ _ (H48.part [1] rfl rfl) (by refine rest_lt ?_; first | (rw [g1_t]; exact hs) | (rw [g2_t]; exact hs) | (rw [g4_t]; exact hs) | (rw [g6_t]; exact hs) | (rw [g7_t]; exact hs) | (rw [g8_t]; exact hs) | (rw [g10_t]; exact hs) | (rw [xsD_t, g3_t]; exact hs) | (rw [numR_s, xsD_t, g3_t]; exact hs) | (rw [psD_t, g5_t]; exact hs) | (rw [sgD_t, g9_t]; exact hs) | (rw [numR_s, sgD_t, g9_t]; exact hs) | (rw [numR_s, numR_s, sgD_t, g9_t]; exact hs) | (rw [numR_s, numR_s, numR_s, sgD_t, g9_t]; exact hs) | exact hs)).mono (fun e w51 hq => ?_)))
          obtain ⟨rfl, hq51⟩ := hq
          refine ⟨_, rfl, ?_⟩
          have H51 : Own [] w w51 [.blk b1 [(vU32 0), (.slice none 0 0), (.slice none 0 0), (.bool false), (vU32 0), (.slice none 0 0)] 59, .blk b2 [(str ((takeR ((numR ((numR ((numR (sgD (g9 s).2 i) 4).2) 1).2) 4).2) ((numR ((numR ((numR (sgD (g9 s).2 i) 4).2) 1).2) 4).1.1.toNat : Nat)).2).rest), (vN ((takeR ((numR ((numR ((numR (sgD (g9 s).2 i) 4).2) 1).2) 4).2) ((numR ((numR ((numR (sgD (g9 s).2 i) 4).2) 1).2) 4).1.1.toNat : Nat)).2).f)] 47, .blk b6 [(vU32 (g2 s).1.1), x, y, (.bool (decide ((g7 s).1.1 = (1 : UInt32)))), (vU32 (g8 s).1.1), z] 59, .row x 130 2 (g3 s).1.1.toNat (List.flatMap xtc (gX s)), .row y 92 1 (g5 s).1.1.toNat (List.map vU16 (gP s)), .row z 111 3 i (List.flatMap sgc (sgL (g9 s).2 i)), .blk b44 [(vU32 (numR (sgD (g9 s).2 i) 4).1.1), (vU8 (UInt8.ofNat (numR ((numR (sgD (g9 s).2 i) 4).2) 1).1.1.toNat)), (str [])] 111] := H48.splice [1] [.blk b2 [(str ((takeR ((numR ((numR ((numR (sgD (g9 s).2 i) 4).2) 1).2) 4).2) ((numR ((numR ((numR (sgD (g9 s).2 i) 4).2) 1).2) 4).1.1.toNat : Nat)).2).rest), (vN ((takeR ((numR ((numR ((numR (sgD (g9 s).2 i) 4).2) 1).2) 4).2) ((numR ((numR ((numR (sgD (g9 s).2 i) 4).2) 1).2) 4).1.1.toNat : Nat)).2).f)] 47] [] rfl rfl hq51 (Fits.solid True.intro Fits.nil)
          refine WL.op rfl rfl (op_move rfl ?_)
          refine WL.op rfl rfl (op_extract rfl rfl ?_)
          refine WL.op rfl rfl (op_extract rfl rfl ?_)
          refine WL.op rfl rfl (op_fieldAddr rfl Fa.F111_2 ?_)
          refine WL.op rfl rfl (op_storeB (i := 6) H51 rfl rfl rfl rfl rfl Fa.I9 (fun w52 H52 => ?_))
          refine WL.nil ?_
          refine WQ.next ?_
          refine WC.region ?_
          refine WL.op rfl rfl (op_fieldAddr rfl Fa.F59_2 ?_)
          refine WL.op rfl rfl (op_load rfl (H52.cell (i := 2) rfl rfl) Try.underlying57 rfl ?_)
          refine WL.op rfl rfl (op_loadS (vs := [_, _, _]) rfl (H52.cells (i := 6) rfl rfl) Try.underlying111 rfl Fa.I111 rfl ?_)
          refine WL.op rfl rfl (op_buildSlice (cs := [_, _, _]) H52 Try.underlying57 Fa.I111 rfl rfl rfl rfl (by decide) (by decide) (fun b53 w53 H53 => ?_))
          refine WL.op rfl rfl (op_appendF (f := sgc) (l := (sgL (g9 s).2 i)) (l' := [(Sg.mk ((numR (sgD (g9 s).2 i) 4).1.1) (UInt8.ofNat (numR ((numR (sgD (g9 s).2 i) 4).2) 1).1.1.toNat) ((takeR ((numR ((numR ((numR (sgD (g9 s).2 i) 4).2) 1).2) 4).2) ((numR ((numR ((numR (sgD (g9 s).2 i) 4).2) 1).2) 4).1.1.toNat : Nat)).1.1))]) (i := 5) H53 Try.underlying57 Fa.I111 rfl rfl rfl rfl (Src.ofArr Try.underlying57 (H53.arrR (i := 7) rfl)) (one_flat (fun _ => by simp [sgc, Value.oneCell'])) (by omega) (by omega) (fun v54 w54 H54 => ?_))
          refine WL.op rfl rfl (op_fieldAddr rfl Fa.F59_2 ?_)
          refine WL.op rfl rfl (op_storeB (i := 2) H54 rfl rfl rfl rfl (Arr.one (H54.arrR (i := 5) rfl)) Fa.I57 (fun w55 H55 => ?_))
          refine WL.nil ?_
          refine WQ.inNormal ?_
          refine WQ.next ?_
          refine WC.region ?_
          refine WL.op rfl rfl (op_move rfl ?_)
          refine WL.op rfl rfl (op_addU32 (b := 1) rfl rfl ?_)
          refine WL.op rfl rfl (op_assign rfl ?_)
          refine WL.nil ?_
          exact WQ.round (i + 1, v54) ⟨(by omega), (by rw [sgD_s, sgL_s, segR_yes hsz]; exact (H55.take 6))⟩ ⟨rfl, rfl, rfl, rfl, rfl, rfl, (congrArg (fun n => some (vU32 n)) (u32_succ _)), trivial⟩ (by show (g9 s).1.1.toNat - (i + 1) < (g9 s).1.1.toNat - i; omega)
      ·
        have hc42 := of_decide_eq_false hb42
        refine WC.exit ?_
        refine WQ.thenExit ?_
        refine WQ.thenExit ?_
        refine WQ.inHere ?_
        refine WQ.next ?_
        refine WC.seq ?_
        refine WC.seq ?_
        refine WC.region ?_
        have hkx : ¬ i < (g9 s).1.1.toNat := fun h => hc42 (hct.2 h)
        obtain rfl : i = (g9 s).1.1.toNat := by omega
        have H56 : Own [] w w41 [.blk b1 [(vU32 0), (.slice none 0 0), (.slice none 0 0), (.bool false), (vU32 0), (.slice none 0 0)] 59, .blk b2 [(str (g10 s).rest), (vN (g10 s).f)] 47, .blk b6 [(vU32 (g2 s).1.1), x, y, (.bool (decide ((g7 s).1.1 = (1 : UInt32)))), (vU32 (g8 s).1.1), z] 59, .row x 130 2 (g3 s).1.1.toNat (List.flatMap xtc (gX s)), .row y 92 1 (g5 s).1.1.toNat (List.map vU16 (gP s)), .row z 111 3 (g9 s).1.1.toNat (List.flatMap sgc (gS s))] := by have h := H41; rw [g10_e] at h; rw [gS_e] at h; exact h
        refine WL.op rfl rfl (op_move rfl ?_)
        refine WL.op rfl rfl (op_callF Fa.C35 rfl ((end16r_ok b2 (g10 s)  _ _ (H56.part [1] rfl rfl) (by refine rest_lt ?_; first | (rw [g1_t]; exact hs) | (rw [g2_t]; exact hs) | (rw [g4_t]; exact hs) | (rw [g6_t]; exact hs) | (rw [g7_t]; exact hs) | (rw [g8_t]; exact hs) | (rw [g10_t]; exact hs) | (rw [xsD_t, g3_t]; exact hs) | (rw [numR_s, xsD_t, g3_t]; exact hs) | (rw [psD_t, g5_t]; exact hs) | (rw [sgD_t, g9_t]; exact hs) | (rw [numR_s, sgD_t, g9_t]; exact hs) | (rw [numR_s, numR_s, sgD_t, g9_t]; exact hs) | (rw [numR_s, numR_s, numR_s, sgD_t, g9_t]; exact hs) | exact hs)).mono (fun e w57 hq => ?_)))
        obtain ⟨rfl, hq57⟩ := hq
        refine ⟨_, rfl, ?_⟩
        have H57 : Own [] w w57 [.blk b1 [(vU32 0), (.slice none 0 0), (.slice none 0 0), (.bool false), (vU32 0), (.slice none 0 0)] 59, .blk b2 [(str ((endR (g10 s)).2).rest), (vN ((endR (g10 s)).2).f)] 47, .blk b6 [(vU32 (g2 s).1.1), x, y, (.bool (decide ((g7 s).1.1 = (1 : UInt32)))), (vU32 (g8 s).1.1), z] 59, .row x 130 2 (g3 s).1.1.toNat (List.flatMap xtc (gX s)), .row y 92 1 (g5 s).1.1.toNat (List.map vU16 (gP s)), .row z 111 3 (g9 s).1.1.toNat (List.flatMap sgc (gS s))] := H56.splice [1] [.blk b2 [(str ((endR (g10 s)).2).rest), (vN ((endR (g10 s)).2).f)] 47] [] rfl rfl hq57 (Fits.solid True.intro Fits.nil)
        refine WL.op rfl rfl (op_neqN (b := 0) rfl rfl ?_)
        refine WL.op rfl rfl (op_move rfl ?_)
        refine WL.split (t := 111) rfl (fun (hb58 : (decide ((endR (g10 s)).1 ≠ 0)) = true) => ?_) (fun (hb58 : (decide ((endR (g10 s)).1 ≠ 0)) = false) => ?_)
        ·
          have hc58 := of_decide_eq_true hb58
          refine WL.no rfl rfl rfl hb58 rfl ?_
          refine WL.no rfl rfl rfl hb58 rfl ?_
          refine WL.op rfl rfl (op_pickT rfl hb58 rfl ?_)
          refine WL.op rfl rfl (op_move rfl ?_)
          refine WL.no rfl rfl rfl rfl rfl ?_
          refine WL.no rfl rfl rfl rfl rfl ?_
          refine WL.op rfl rfl (op_pickT rfl rfl rfl ?_)
          refine WL.op rfl rfl (op_move rfl ?_)
          refine WL.no rfl rfl rfl rfl rfl ?_
          refine WL.no rfl rfl rfl rfl rfl ?_
          refine WL.no rfl rfl rfl rfl rfl ?_
          refine WL.op rfl rfl (op_pickT rfl rfl rfl ?_)
          refine WL.nil ?_
          refine WQ.next ?_
          refine WC.yes rfl rfl ?_
          refine WC.seq ?_
          refine WC.region ?_
          refine WL.op rfl rfl (op_build (cs := [_, _, _, _, _, _]) Fa.I59 Fa.PL59 rfl rfl ?_)
          refine WL.op rfl rfl (op_storeBW (i := 0) H57 rfl rfl rfl rfl rfl Fa.I59 (fun w59 H59 => ?_))
          refine WL.op rfl rfl (op_assign rfl ?_)
          refine WL.nil ?_
          refine WQ.next ?_
          refine WC.ret ?_
          refine WQ.thenRet ?_
          refine WQ.out (.cell rfl (run_loadVarS (vs := [_, _, _, _, _, _]) (H59.cells (i := 0) rfl rfl) Try.underlying59 rfl Fa.I59 rfl) (.tmp rfl .nil)) ?_
          have hb : gBad s = true := by (rw [gBad, imE_dec, hb58]) <;> rfl
          rw [(get_bad hb).1, (get_bad hb).2]
          exact ⟨.slice none 0 0, .slice none 0 0, .slice none 0 0, rfl, (((H59.sel [] rfl rfl).nilRow 130 2).nilRow 92 1).nilRow 111 3⟩
        ·
          have hc58 := of_decide_eq_false hb58
          refine WL.yes rfl rfl rfl hb58 rfl (op_move rfl ?_)
          refine WL.yes rfl rfl rfl hb58 rfl (op_neqStr rfl rfl ?_)
          refine WL.op rfl rfl (op_pickF rfl hb58 rfl ?_)
          refine WL.op rfl rfl (op_move rfl ?_)
          refine WL.split (t := 115) rfl (fun (hb60 : (decide ((g1 s).1.1 ≠ [65, 73, 77, 49])) = true) => ?_) (fun (hb60 : (decide ((g1 s).1.1 ≠ [65, 73, 77, 49])) = false) => ?_)
          ·
            have hc60 := of_decide_eq_true hb60
            refine WL.no rfl rfl rfl hb60 rfl ?_
            refine WL.no rfl rfl rfl hb60 rfl ?_
            refine WL.op rfl rfl (op_pickT rfl hb60 rfl ?_)
            refine WL.op rfl rfl (op_move rfl ?_)
            refine WL.no rfl rfl rfl rfl rfl ?_
            refine WL.no rfl rfl rfl rfl rfl ?_
            refine WL.no rfl rfl rfl rfl rfl ?_
            refine WL.op rfl rfl (op_pickT rfl rfl rfl ?_)
            refine WL.nil ?_
            refine WQ.next ?_
            refine WC.yes rfl rfl ?_
            refine WC.seq ?_
            refine WC.region ?_
            refine WL.op rfl rfl (op_build (cs := [_, _, _, _, _, _]) Fa.I59 Fa.PL59 rfl rfl ?_)
            refine WL.op rfl rfl (op_storeBW (i := 0) H57 rfl rfl rfl rfl rfl Fa.I59 (fun w61 H61 => ?_))
            refine WL.op rfl rfl (op_assign rfl ?_)
            refine WL.nil ?_
            refine WQ.next ?_
            refine WC.ret ?_
            refine WQ.thenRet ?_
            refine WQ.out (.cell rfl (run_loadVarS (vs := [_, _, _, _, _, _]) (H61.cells (i := 0) rfl rfl) Try.underlying59 rfl Fa.I59 rfl) (.tmp rfl .nil)) ?_
            have hb : gBad s = true := by (rw [gBad, imE_dec, hb58, hb60]) <;> rfl
            rw [(get_bad hb).1, (get_bad hb).2]
            exact ⟨.slice none 0 0, .slice none 0 0, .slice none 0 0, rfl, (((H61.sel [] rfl rfl).nilRow 130 2).nilRow 92 1).nilRow 111 3⟩
          ·
            have hc60 := of_decide_eq_false hb60
            refine WL.yes rfl rfl rfl hb60 rfl (op_move rfl ?_)
            refine WL.yes rfl rfl rfl hb60 rfl (op_gtrU32 (b := 1) rfl rfl ?_)
            refine WL.op rfl rfl (op_pickF rfl hb60 rfl ?_)
            refine WL.op rfl rfl (op_move rfl ?_)
            refine WL.split (t := 119) rfl (fun (hb62 : (decide ((g7 s).1.1 > (1 : UInt32))) = true) => ?_) (fun (hb62 : (decide ((g7 s).1.1 > (1 : UInt32))) = false) => ?_)
            ·
              have hc62 := of_decide_eq_true hb62
              refine WL.no rfl rfl rfl hb62 rfl ?_
              refine WL.no rfl rfl rfl hb62 rfl ?_
              refine WL.no rfl rfl rfl hb62 rfl ?_
              refine WL.op rfl rfl (op_pickT rfl hb62 rfl ?_)
              refine WL.nil ?_
              refine WQ.next ?_
              refine WC.yes rfl rfl ?_
              refine WC.seq ?_
              refine WC.region ?_
              refine WL.op rfl rfl (op_build (cs := [_, _, _, _, _, _]) Fa.I59 Fa.PL59 rfl rfl ?_)
              refine WL.op rfl rfl (op_storeBW (i := 0) H57 rfl rfl rfl rfl rfl Fa.I59 (fun w63 H63 => ?_))
              refine WL.op rfl rfl (op_assign rfl ?_)
              refine WL.nil ?_
              refine WQ.next ?_
              refine WC.ret ?_
              refine WQ.thenRet ?_
              refine WQ.out (.cell rfl (run_loadVarS (vs := [_, _, _, _, _, _]) (H63.cells (i := 0) rfl rfl) Try.underlying59 rfl Fa.I59 rfl) (.tmp rfl .nil)) ?_
              have hb : gBad s = true := by (rw [gBad, imE_dec, hb58, hb60, hb62]) <;> rfl
              rw [(get_bad hb).1, (get_bad hb).2]
              exact ⟨.slice none 0 0, .slice none 0 0, .slice none 0 0, rfl, (((H63.sel [] rfl rfl).nilRow 130 2).nilRow 92 1).nilRow 111 3⟩
            ·
              have hc62 := of_decide_eq_false hb62
              refine WL.yes rfl rfl rfl hb62 rfl (op_loadS (vs := [_, _, _, _, _, _]) rfl (H57.cells (i := 2) rfl rfl) Try.underlying59 rfl Fa.I59 rfl ?_)
              refine WL.yes rfl rfl rfl hb62 rfl (op_callF Fa.C47 rfl ((rmay16_ok ((g2 s).1.1) _ _ _ (gX s) (gP s) (decide ((g7 s).1.1 = (1 : UInt32))) ((g8 s).1.1) (gS s) _ (Arr.lenF ((H57.arrR (i := 3) rfl)) (fun _ => rfl) (by decide)) (Arr.lenM (H57.arrR (i := 4) rfl)) (Arr.lenF ((H57.arrR (i := 5) rfl)) (fun _ => rfl) (by decide)) (by have := gX_len s; have := (g3 s).1.1.toNat_lt; omega) (by have := gP_len s; have := (g5 s).1.1.toNat_lt; omega) (by have := gS_len s; have := (g9 s).1.1.toNat_lt; omega) (gS_30 s)).mono (fun e w64 hq => ?_)))
              obtain ⟨rfl, hf64⟩ := hq
              refine ⟨_, rfl, ?_⟩
              have H64 := H57.fr' hf64
              refine WL.yes rfl rfl rfl hb62 rfl (op_not rfl ?_)
              refine WL.op rfl rfl (op_pickF rfl hb62 rfl ?_)
              refine WL.nil ?_
              refine WQ.next ?_
              refine WC.cond rfl (fun (hb65 : (!(rMay ((g2 s).1.1) (gX s) (gP s) ((g8 s).1.1) (gS s))) = true) => ?_) (fun (hb65 : (!(rMay ((g2 s).1.1) (gX s) (gP s) ((g8 s).1.1) (gS s))) = false) => ?_)
              ·
                have hn65 := (Bool.not_eq_true' _).mp hb65
                refine WC.seq ?_
                refine WC.region ?_
                refine WL.op rfl rfl (op_build (cs := [_, _, _, _, _, _]) Fa.I59 Fa.PL59 rfl rfl ?_)
                refine WL.op rfl rfl (op_storeBW (i := 0) H64 rfl rfl rfl rfl rfl Fa.I59 (fun w66 H66 => ?_))
                refine WL.op rfl rfl (op_assign rfl ?_)
                refine WL.nil ?_
                refine WQ.next ?_
                refine WC.ret ?_
                refine WQ.thenRet ?_
                refine WQ.out (.cell rfl (run_loadVarS (vs := [_, _, _, _, _, _]) (H66.cells (i := 0) rfl rfl) Try.underlying59 rfl Fa.I59 rfl) (.tmp rfl .nil)) ?_
                have hb : gBad s = true := by (rw [gBad, imE_dec, hb58, hb60, hb62, hn65]) <;> rfl
                rw [(get_bad hb).1, (get_bad hb).2]
                exact ⟨.slice none 0 0, .slice none 0 0, .slice none 0 0, rfl, (((H66.sel [] rfl rfl).nilRow 130 2).nilRow 92 1).nilRow 111 3⟩
              ·
                have hn65 := (Bool.not_eq_false' _).mp hb65
                refine WC.skip ?_
                refine WQ.next ?_
                refine WC.seq ?_
                refine WC.region ?_
                refine WL.op rfl rfl (op_loadS (vs := [_, _, _, _, _, _]) rfl (H64.cells (i := 2) rfl rfl) Try.underlying59 rfl Fa.I59 rfl ?_)
                refine WL.op rfl rfl (op_storeBW (i := 0) H64 rfl rfl rfl rfl (one_cons rfl (one_cons (Arr.one (H64.arrR (i := 3) rfl)) (one_cons (Arr.one (H64.arrR (i := 4) rfl)) (one_cons rfl (one_cons rfl (one_cons (Arr.one (H64.arrR (i := 5) rfl)) one_nil)))))) Fa.I59 (fun w67 H67 => ?_))
                refine WL.op rfl rfl (op_assign rfl ?_)
                refine WL.nil ?_
                refine WQ.next ?_
                refine WC.ret ?_
                refine WQ.out (.cell rfl (run_loadVarS (vs := [_, _, _, _, _, _]) (H67.cells (i := 0) rfl rfl) Try.underlying59 rfl Fa.I59 rfl) (.tmp rfl .nil)) ?_
                have hb : gBad s = false := by (rw [gBad, imE_dec, hb58, hb60, hb62, hn65]) <;> rfl
                exact iget_fin (x := x) (y := y) (z := z) hb rfl (H67.sel [3, 4, 5] rfl rfl)
end Go.Proofs.Ytpnghdalnghpcaa
/-! from WImg16 -/
namespace Go.Proofs.Ytpnghdalnghpcaa
open Go.Owl Go.Spec
set_option maxHeartbeats 2000000 in
set_option maxRecDepth 100000 in
theorem imageCodes_ok (pg : UInt32) (c : Bool) (ev pv sv : Value) (xs : List Xt) (ps : List UInt16) (en : UInt32) (sg : List Sg) (pg' : UInt32) (c' : Bool) (ev' pv' sv' : Value) (xs' : List Xt) (ps' : List UInt16) (en' : UInt32) (sg' : List Sg) (s : List UInt8) (w : World) (hE : Arr w ev 2 xs.length (List.flatMap xtc xs)) (hP : Arr w pv 1 ps.length (List.map vU16 ps)) (hS : Arr w sv 3 sg.length (List.flatMap sgc sg)) (hF : Arr w ev' 2 xs'.length (List.flatMap xtc xs')) (hQ : Arr w pv' 1 ps'.length (List.map vU16 ps')) (hR : Arr w sv' 3 sg'.length (List.flatMap sgc sg')) (hn : xs.length < 2 ^ 47) (hm : ps.length < 2 ^ 47) (hk : sg.length < 2 ^ 47) (hn' : xs'.length < 2 ^ 47) (hm' : ps'.length < 2 ^ 47) (hk' : sg'.length < 2 ^ 47) (hB : ∀ x ∈ sg, x.b.length ≤ 140737488351232) (hB' : ∀ x ∈ sg', x.b.length ≤ 140737488351232) (hs : s.length ≤ 140737488351232) :
    Calls Try.prog 7 #[(.agg #[(vU32 pg), ev, pv, (.bool c), (vU32 en), sv]), (.agg #[(vU32 pg'), ev', pv', (.bool c'), (vU32 en'), sv']), (str s)] w (fun e w' => e = .returned (.bool true) ∧ Fr [] w w') := by
  refine enter (args := [(.agg #[(vU32 pg), ev, pv, (.bool c), (vU32 en), sv]), (.agg #[(vU32 pg'), ev', pv', (.bool c'), (vU32 en'), sv']), (str s)]) Try.func7 rfl rfl ?_
  have H0 : Own [] w w [] := Own.start w []
  refine WC.seq ?_
  refine WC.region ?_
  refine WL.op rfl rfl (op_box H0 rfl rfl (fun b1 w1 H1 => ?_))
  refine WL.op rfl rfl (op_box H1 rfl rfl (fun b2 w2 H2 => ?_))
  refine WL.op rfl rfl (op_assign rfl ?_)
  refine WL.nil ?_
  refine WQ.next ?_
  refine WC.seq ?_
  refine WC.seq ?_
  refine WC.region ?_
  refine WL.op rfl rfl (op_loadS (vs := [_, _, _, _, _, _]) rfl (H2.cells (i := 0) rfl rfl) Try.underlying59 rfl Fa.I59 rfl ?_)
  refine WL.op rfl rfl (op_callF Fa.C37 rfl ((large16_ok pg _ _ _ xs ps c en sg _ (H2.arr hE) (H2.arr hP) (H2.arr hS) (by assumption) (by assumption) (by assumption) (by assumption)).mono (fun e w3 hq => ?_)))
  obtain ⟨rfl, hf3⟩ := hq
  refine ⟨_, rfl, ?_⟩
  have H3 := H2.fr' hf3
  refine WL.op rfl rfl (op_move rfl ?_)
  refine WL.split (t := 18) rfl (fun (hb4 : (large16 xs ps sg) = true) => ?_) (fun (hb4 : (large16 xs ps sg) = false) => ?_)
  ·
    refine WL.no rfl rfl rfl hb4 rfl ?_
    refine WL.no rfl rfl rfl hb4 rfl ?_
    refine WL.op rfl rfl (op_pickT rfl hb4 rfl ?_)
    refine WL.op rfl rfl (op_move rfl ?_)
    refine WL.no rfl rfl rfl rfl rfl ?_
    refine WL.no rfl rfl rfl rfl rfl ?_
    refine WL.no rfl rfl rfl rfl rfl ?_
    refine WL.op rfl rfl (op_pickT rfl rfl rfl ?_)
    refine WL.nil ?_
    refine WQ.next ?_
    refine WC.yes rfl rfl ?_
    refine WC.seq ?_
    refine WC.region ?_
    refine WL.op rfl rfl (op_callF Fa.C38 rfl ((alive16_ok _).mono (fun e w5 hq => ?_)))
    obtain ⟨rfl, hf5⟩ := hq
    refine ⟨_, rfl, ?_⟩
    have H5 := H3.fr' hf5
    refine WL.op rfl rfl (op_assign rfl ?_)
    refine WL.nil ?_
    refine WQ.next ?_
    refine WC.ret ?_
    refine WQ.thenRet ?_
    refine WQ.out (.tmp rfl .nil) ?_
    exact ⟨rfl, H5.fr⟩
  ·
    have hl1 := large16_no hb4
    refine WL.yes rfl rfl rfl hb4 rfl (op_loadS (vs := [_, _, _, _, _, _]) rfl (H3.cells (i := 1) rfl rfl) Try.underlying59 rfl Fa.I59 rfl ?_)
    refine WL.yes rfl rfl rfl hb4 rfl (op_callF Fa.C37 rfl ((large16_ok pg' _ _ _ xs' ps' c' en' sg' _ (H3.arr hF) (H3.arr hQ) (H3.arr hR) (by assumption) (by assumption) (by assumption) (by assumption)).mono (fun e w6 hq => ?_)))
    obtain ⟨rfl, hf6⟩ := hq
    refine ⟨_, rfl, ?_⟩
    have H6 := H3.fr' hf6
    refine WL.op rfl rfl (op_pickF rfl hb4 rfl ?_)
    refine WL.op rfl rfl (op_move rfl ?_)
    refine WL.split (t := 22) rfl (fun (hb7 : (large16 xs' ps' sg') = true) => ?_) (fun (hb7 : (large16 xs' ps' sg') = false) => ?_)
    ·
      refine WL.no rfl rfl rfl hb7 rfl ?_
      refine WL.no rfl rfl rfl hb7 rfl ?_
      refine WL.no rfl rfl rfl hb7 rfl ?_
      refine WL.op rfl rfl (op_pickT rfl hb7 rfl ?_)
      refine WL.nil ?_
      refine WQ.next ?_
      refine WC.yes rfl rfl ?_
      refine WC.seq ?_
      refine WC.region ?_
      refine WL.op rfl rfl (op_callF Fa.C38 rfl ((alive16_ok _).mono (fun e w8 hq => ?_)))
      obtain ⟨rfl, hf8⟩ := hq
      refine ⟨_, rfl, ?_⟩
      have H8 := H6.fr' hf8
      refine WL.op rfl rfl (op_assign rfl ?_)
      refine WL.nil ?_
      refine WQ.next ?_
      refine WC.ret ?_
      refine WQ.thenRet ?_
      refine WQ.out (.tmp rfl .nil) ?_
      exact ⟨rfl, H8.fr⟩
    ·
      have hl2 := large16_no hb7
      have hb1 : ∀ x ∈ sg, x.b.length ≤ 2 ^ 30 := fun x hx => Nat.le_trans (hl1.2.2.2 x hx) (by decide)
      refine WL.yes rfl rfl rfl hb7 rfl (op_move rfl ?_)
      refine WL.yes rfl rfl rfl hb7 rfl (op_lenStr Try.underlying9 rfl ?_)
      refine WL.yes rfl rfl rfl hb7 rfl (op_gtrN (b := 262144) rfl rfl ?_)
      refine WL.op rfl rfl (op_pickF rfl hb7 rfl ?_)
      refine WL.nil ?_
      refine WQ.next ?_
      refine WC.cond rfl (fun (hb9 : (decide (s.length > 262144)) = true) => ?_) (fun (hb9 : (decide (s.length > 262144)) = false) => ?_)
      ·
        have hc9 := of_decide_eq_true hb9
        refine WC.seq ?_
        refine WC.region ?_
        refine WL.op rfl rfl (op_callF Fa.C38 rfl ((alive16_ok _).mono (fun e w10 hq => ?_)))
        obtain ⟨rfl, hf10⟩ := hq
        refine ⟨_, rfl, ?_⟩
        have H10 := H6.fr' hf10
        refine WL.op rfl rfl (op_assign rfl ?_)
        refine WL.nil ?_
        refine WQ.next ?_
        refine WC.ret ?_
        refine WQ.thenRet ?_
        refine WQ.out (.tmp rfl .nil) ?_
        exact ⟨rfl, H10.fr⟩
      ·
        have hc9 := of_decide_eq_false hb9
        refine WC.skip ?_
        refine WQ.next ?_
        refine WC.seq ?_
        refine WC.region ?_
        refine WL.op rfl rfl (op_loadS (vs := [_, _, _, _, _, _]) rfl (H6.cells (i := 0) rfl rfl) Try.underlying59 rfl Fa.I59 rfl ?_)
        refine WL.op rfl rfl (op_callF Fa.C39 rfl ((copy16_ok pg _ _ _ xs ps c en sg _ (H6.arr hE) (H6.arr hP) (H6.arr hS) (by omega) (by omega) (by omega)).mono (fun e w11 hq => ?_)))
        obtain ⟨v11, u11, q11, rfl, hq11⟩ := hq
        refine ⟨_, rfl, ?_⟩
        have H11 : Own [] w w11 [.blk b1 [(vU32 pg), ev, pv, (.bool c), (vU32 en), sv] 59, .blk b2 [(vU32 pg'), ev', pv', (.bool c'), (vU32 en'), sv'] 59, .row v11 130 2 xs.length (List.flatMap xtc xs), .row u11 92 1 ps.length (List.map vU16 ps), .row q11 111 3 sg.length (List.flatMap sgc sg)] := H6.splice [] [] [.row v11 130 2 xs.length (List.flatMap xtc xs), .row u11 92 1 ps.length (List.map vU16 ps), .row q11 111 3 sg.length (List.flatMap sgc sg)] rfl rfl hq11 (Fits.solid True.intro (Fits.solid True.intro (Fits.solid True.intro Fits.nil)))
        refine WL.op rfl rfl (op_alloc H11 Fa.I59 (fun b12 w12 H12 => ?_))
        refine WL.op rfl rfl (op_storeBW (i := 5) H12 rfl rfl rfl rfl (one_cons rfl (one_cons (Arr.one (H12.arrR (i := 2) rfl)) (one_cons (Arr.one (H12.arrR (i := 3) rfl)) (one_cons rfl (one_cons rfl (one_cons (Arr.one (H12.arrR (i := 4) rfl)) one_nil)))))) Fa.I59 (fun w13 H13 => ?_))
        refine WL.nil ?_
        refine WQ.next ?_
        refine WC.seq ?_
        refine WC.region ?_
        refine WL.op rfl rfl (op_loadS (vs := [_, _, _, _, _, _]) rfl (H13.cells (i := 5) rfl rfl) Try.underlying59 rfl Fa.I59 rfl ?_)
        refine WL.op rfl rfl (op_callF Fa.C40 rfl ((icheck_ok pg _ _ _ xs ps c en sg _ (H13.arrR (i := 2) rfl) (H13.arrR (i := 3) rfl) (H13.arrR (i := 4) rfl) (by omega) (by omega) (by omega)).mono (fun e w14 hq => ?_)))
        obtain ⟨rfl, hf14⟩ := hq
        refine ⟨_, rfl, ?_⟩
        have H14 := H13.fr' hf14
        refine WL.op rfl rfl (op_assign rfl ?_)
        refine WL.nil ?_
        refine WQ.next ?_
        refine WC.seq ?_
        refine WC.region ?_
        refine WL.op rfl rfl (op_loadS (vs := [_, _, _, _, _, _]) rfl (H14.cells (i := 5) rfl rfl) Try.underlying59 rfl Fa.I59 rfl ?_)
        refine WL.op rfl rfl (op_callF Fa.C41 rfl ((iput_ok pg _ _ _ xs ps c en sg _ (H14.arrR (i := 2) rfl) (H14.arrR (i := 3) rfl) (H14.arrR (i := 4) rfl) (by omega) (by omega) (by omega) hb1).mono (fun e w15 hq => ?_)))
        obtain ⟨rfl, hf15⟩ := hq
        refine ⟨_, rfl, ?_⟩
        have H15 := H14.fr' hf15
        refine WL.op rfl rfl (op_move rfl ?_)
        refine WL.op rfl rfl (op_extract rfl rfl ?_)
        refine WL.op rfl rfl (op_extract rfl rfl ?_)
        refine WL.op rfl rfl (op_assign rfl ?_)
        refine WL.op rfl rfl (op_assign rfl ?_)
        refine WL.nil ?_
        refine WQ.next ?_
        refine WC.seq ?_
        refine WC.region ?_
        refine WL.op rfl rfl (op_loadS (vs := [_, _, _, _, _, _]) rfl (H15.cells (i := 5) rfl rfl) Try.underlying59 rfl Fa.I59 rfl ?_)
        refine WL.op rfl rfl (op_callF Fa.C42 rfl ((ipgs_ok pg _ _ _ xs ps c en sg _ (H15.arrR (i := 2) rfl) (H15.arrR (i := 3) rfl) (H15.arrR (i := 4) rfl) (by omega) (by omega) (by omega) hb1 (by omega)).mono (fun e w16 hq => ?_)))
        obtain ⟨v16, rfl, hq16⟩ := hq
        refine ⟨_, rfl, ?_⟩
        have H16 : Own [] w w16 [.blk b1 [(vU32 pg), ev, pv, (.bool c), (vU32 en), sv] 59, .blk b2 [(vU32 pg'), ev', pv', (.bool c'), (vU32 en'), sv'] 59, .row v11 130 2 xs.length (List.flatMap xtc xs), .row u11 92 1 ps.length (List.map vU16 ps), .row q11 111 3 sg.length (List.flatMap sgc sg), .blk b12 [(vU32 pg), v11, u11, (.bool c), (vU32 en), q11] 59, .row v16 22 1 (if imE pg xs ps en sg = 0 then pagesTo sg sg.length else []).length (List.map vU32 (if imE pg xs ps en sg = 0 then pagesTo sg sg.length else []))] := H15.splice [] [] [.row v16 22 1 (if imE pg xs ps en sg = 0 then pagesTo sg sg.length else []).length (List.map vU32 (if imE pg xs ps en sg = 0 then pagesTo sg sg.length else []))] rfl rfl hq16 (Fits.solid True.intro Fits.nil)
        refine WL.op rfl rfl (op_assign rfl ?_)
        refine WL.nil ?_
        refine WQ.next ?_
        refine WC.seq ?_
        refine WC.seq ?_
        refine WC.draw 26 Fa.M H16 (HW.op rfl (fun w1 H1 => op_loadS (vs := [_, _, _, _, _, _]) rfl (H1.cells (i := 5) rfl rfl) Try.underlying59 rfl Fa.I59 rfl ⟨rfl, Fr.refl _ _⟩) (HW.op rfl (fun w1 H1 => op_loadS (vs := [_, _, _, _, _, _]) rfl (H1.cells (i := 0) rfl rfl) Try.underlying59 rfl Fa.I59 rfl ⟨rfl, Fr.refl _ _⟩) (HW.op rfl (fun w1 H1 => op_callF Fa.C43 rfl ((risame_ok pg c _ _ _ xs ps en sg pg c _ _ _ xs ps en sg _ (H1.arrR (i := 2) rfl) (H1.arrR (i := 3) rfl) (H1.arrR (i := 4) rfl) (H1.arr hE) (H1.arr hP) (H1.arr hS) (by first | omega | exact xlt _) (by first | omega | exact plt _) (by first | omega | exact slt _)).mono (fun e w2 hq => ⟨_, hq.1, rfl, hq.2⟩))) (HW.op rfl (fun w1 H1 => op_not rfl ⟨rfl, Fr.refl _ _⟩) (HW.op rfl (fun w1 H1 => op_move rfl ⟨rfl, Fr.refl _ _⟩) (HW.yes rfl rfl rfl (congrArg Bool.not (sameI_refl _ _ _ _ _ _)) (fun w1 H1 => op_loadS (vs := [_, _, _, _, _, _]) rfl (H1.cells (i := 5) rfl rfl) Try.underlying59 rfl Fa.I59 rfl ⟨rfl, Fr.refl _ _⟩) (HW.yes rfl rfl rfl (congrArg Bool.not (sameI_refl _ _ _ _ _ _)) (fun w1 H1 => op_loadS (vs := [_, _, _, _, _, _]) rfl (H1.cells (i := 1) rfl rfl) Try.underlying59 rfl Fa.I59 rfl ⟨rfl, Fr.refl _ _⟩) (HW.yes rfl rfl rfl (congrArg Bool.not (sameI_refl _ _ _ _ _ _)) (fun w1 H1 => op_callF Fa.C44 rfl ((isame_ok pg c _ _ _ xs ps en sg pg' c' _ _ _ xs' ps' en' sg' _ (H1.arrR (i := 2) rfl) (H1.arrR (i := 3) rfl) (H1.arrR (i := 4) rfl) (H1.arr hF) (H1.arr hQ) (H1.arr hR) (by first | omega | exact xlt _) (by first | omega | exact plt _) (by first | omega | exact slt _)).mono (fun e w2 hq => ⟨_, hq.1, rfl, hq.2⟩))) (HW.yes rfl rfl rfl (congrArg Bool.not (sameI_refl _ _ _ _ _ _)) (fun w1 H1 => op_loadS (vs := [_, _, _, _, _, _]) rfl (H1.cells (i := 0) rfl rfl) Try.underlying59 rfl Fa.I59 rfl ⟨rfl, Fr.refl _ _⟩) (HW.yes rfl rfl rfl (congrArg Bool.not (sameI_refl _ _ _ _ _ _)) (fun w1 H1 => op_loadS (vs := [_, _, _, _, _, _]) rfl (H1.cells (i := 1) rfl rfl) Try.underlying59 rfl Fa.I59 rfl ⟨rfl, Fr.refl _ _⟩) (HW.yes rfl rfl rfl (congrArg Bool.not (sameI_refl _ _ _ _ _ _)) (fun w1 H1 => op_callF Fa.C43 rfl ((risame_ok pg c _ _ _ xs ps en sg pg' c' _ _ _ xs' ps' en' sg' _ (H1.arr hE) (H1.arr hP) (H1.arr hS) (H1.arr hF) (H1.arr hQ) (H1.arr hR) (by first | omega | exact xlt _) (by first | omega | exact plt _) (by first | omega | exact slt _)).mono (fun e w2 hq => ⟨_, hq.1, rfl, hq.2⟩))) (HW.yes rfl rfl rfl (congrArg Bool.not (sameI_refl _ _ _ _ _ _)) (fun w1 H1 => op_neqB Try.underlying4 rfl rfl ⟨rfl, Fr.refl _ _⟩) (HW.op rfl (fun w1 H1 => op_pickF rfl (congrArg Bool.not (sameI_refl _ _ _ _ _ _)) rfl ⟨rfl, Fr.refl _ _⟩) (HW.op rfl (fun w1 H1 => op_move rfl ⟨rfl, Fr.refl _ _⟩) (HW.yes rfl rfl rfl (by simp) (fun w1 H1 => op_loadS (vs := [_, _, _, _, _, _]) rfl (H1.cells (i := 5) rfl rfl) Try.underlying59 rfl Fa.I59 rfl ⟨rfl, Fr.refl _ _⟩) (HW.yes rfl rfl rfl (by simp) (fun w1 H1 => op_loadS (vs := [_, _, _, _, _, _]) rfl (H1.cells (i := 0) rfl rfl) Try.underlying59 rfl Fa.I59 rfl ⟨rfl, Fr.refl _ _⟩) (HW.yes rfl rfl rfl (by simp) (fun w1 H1 => op_callF Fa.C44 rfl ((isame_ok pg c _ _ _ xs ps en sg pg c _ _ _ xs ps en sg _ (H1.arrR (i := 2) rfl) (H1.arrR (i := 3) rfl) (H1.arrR (i := 4) rfl) (H1.arr hE) (H1.arr hP) (H1.arr hS) (by first | omega | exact xlt _) (by first | omega | exact plt _) (by first | omega | exact slt _)).mono (fun e w2 hq => ⟨_, hq.1, rfl, hq.2⟩))) (HW.yes rfl rfl rfl (by simp) (fun w1 H1 => op_not rfl ⟨rfl, Fr.refl _ _⟩) (HW.op rfl (fun w1 H1 => op_pickF rfl (by simp) rfl ⟨rfl, Fr.refl _ _⟩) (HW.op rfl (fun w1 H1 => op_move rfl ⟨rfl, Fr.refl _ _⟩) (HW.yes rfl rfl rfl (congrArg Bool.not (sameI_refl _ _ _ _ _ _)) (fun w1 H1 => op_move rfl ⟨rfl, Fr.refl _ _⟩) (HW.yes rfl rfl rfl (congrArg Bool.not (sameI_refl _ _ _ _ _ _)) (fun w1 H1 => op_loadS (vs := [_, _, _, _, _, _]) rfl (H1.cells (i := 0) rfl rfl) Try.underlying59 rfl Fa.I59 rfl ⟨rfl, Fr.refl _ _⟩) (HW.fltY (mk := fun bq => bq.2) (ent := fun bq => .row bq.2 22 1 (if rMay pg xs ps en sg then pagesTo sg sg.length else []).length (List.map vU32 (if rMay pg xs ps en sg then pagesTo sg sg.length else []))) rfl rfl rfl (congrArg Bool.not (sameI_refl _ _ _ _ _ _)) (fun w1 H1 => op_callF Fa.C46 rfl ((rpgs_ok pg _ _ _ xs ps c en sg _ (H1.arr hE) (H1.arr hP) (H1.arr hS) (by omega) (by omega) (by omega) hb1 (by omega)).mono (fun e w2 ⟨v, he, hO⟩ => ⟨_, he, (0, v), rfl, hO, True.intro⟩))) (HW.opFsY 0 rfl rfl rfl (fun _ => rfl) (congrArg Bool.not (sameI_refl _ _ _ _ _ _)) (fun bq w1 H1 => op_callF Fa.C45 rfl ((same15_ok _ _ (if imE pg xs ps en sg = 0 then pagesTo sg sg.length else []) (if rMay pg xs ps en sg then pagesTo sg sg.length else []) _ (H1.arrR (i := 6) rfl) (H1.arrR (i := 7) rfl) (pages_lt hb1 hl1.2.2.1)).mono (fun e w2 hq => ⟨_, hq.1, rfl, hq.2⟩))) (HW.yes rfl rfl rfl (congrArg Bool.not (sameI_refl _ _ _ _ _ _)) (fun w1 H1 => op_not rfl ⟨rfl, Fr.refl _ _⟩) (HW.op rfl (fun w1 H1 => op_pickF rfl (congrArg Bool.not (sameI_refl _ _ _ _ _ _)) rfl ⟨rfl, Fr.refl _ _⟩)  HW.nil)))))))))))))))))))))))))) (by kernel_rfl) ?_
        intro β23 w23 H23
        refine WL.nil ?_
        refine WQ.next ?_
        refine WC.no rfl (congrArg Bool.not (decide_eq_true (pages_eq hl1.2.2.2))) ?_
        refine WC.skip ?_
        refine WQ.next ?_
        refine WC.seq ?_
        refine WC.seq ?_
        refine WC.region ?_
        refine WL.op rfl rfl (op_loadS (vs := [_, _, _, _, _, _]) rfl (H23.cells (i := 0) rfl rfl) Try.underlying59 rfl Fa.I59 rfl ?_)
        refine WL.op rfl rfl (op_callF Fa.C47 rfl ((rmay16_ok pg _ _ _ xs ps c en sg _ (H23.arr hE) (H23.arr hP) (H23.arr hS) (by omega) (by omega) (by omega) hb1).mono (fun e w24 hq => ?_)))
        obtain ⟨rfl, hf24⟩ := hq
        refine ⟨_, rfl, ?_⟩
        have H24 := H23.fr' hf24
        refine WL.op rfl rfl (op_move rfl ?_)
        refine WL.split (t := 67) rfl (fun (hb25 : (rMay pg xs ps en sg) = true) => ?_) (fun (hb25 : (rMay pg xs ps en sg) = false) => ?_)
        ·
          refine WL.yes rfl rfl rfl hb25 rfl (op_move rfl ?_)
          refine WL.yes rfl rfl rfl hb25 rfl (op_neqN (b := 0) rfl rfl ?_)
          refine WL.yes rfl rfl rfl hb25 rfl (op_move rfl ?_)
          refine WL.yes rfl rfl rfl (decide_eq_false (fun h => h (may_yes hl1.2.2.2 hb25))) rfl (op_move rfl ?_)
          refine WL.yes rfl rfl rfl (decide_eq_false (fun h => h (may_yes hl1.2.2.2 hb25))) rfl (op_neqN (b := 0) rfl rfl ?_)
          refine WL.yes rfl rfl rfl hb25 rfl (op_pickF rfl (decide_eq_false (fun h => h (may_yes hl1.2.2.2 hb25))) rfl ?_)
          refine WL.yes rfl rfl rfl hb25 rfl (op_move rfl ?_)
          refine WL.yes rfl rfl rfl (decide_eq_false (fun h => h (may_yes hl1.2.2.2 hb25))) rfl (op_move rfl ?_)
          refine WL.yes rfl rfl rfl (decide_eq_false (fun h => h (may_yes hl1.2.2.2 hb25))) rfl (op_loadS (vs := [_, _, _, _, _, _]) rfl (H24.cells (i := 0) rfl rfl) Try.underlying59 rfl Fa.I59 rfl ?_)
          refine WL.yes rfl rfl rfl (decide_eq_false (fun h => h (may_yes hl1.2.2.2 hb25))) rfl (op_callF Fa.C48 rfl ((rput_ok pg _ _ _ xs ps c en sg _ (H24.arr hE) (H24.arr hP) (H24.arr hS) (by omega) (by omega) (by omega) hb1).mono (fun e w26 hq => ?_)))
          obtain ⟨rfl, hf26⟩ := hq
          refine ⟨_, rfl, ?_⟩
          have H26 := H24.fr' hf26
          refine WL.yes rfl rfl rfl (decide_eq_false (fun h => h (may_yes hl1.2.2.2 hb25))) rfl (op_neqStr rfl rfl ?_)
          refine WL.yes rfl rfl rfl hb25 rfl (op_pickF rfl (decide_eq_false (fun h => h (may_yes hl1.2.2.2 hb25))) rfl ?_)
          refine WL.op rfl rfl (op_pickT rfl hb25 rfl ?_)
          refine WL.op rfl rfl (op_move rfl ?_)
          refine WL.yes rfl rfl rfl (decide_eq_false (fun h => h (put_eq (may_yes hl1.2.2.2 hb25)))) rfl (op_loadS (vs := [_, _, _, _, _, _]) rfl (H26.cells (i := 0) rfl rfl) Try.underlying59 rfl Fa.I59 rfl ?_)
          refine WL.yes rfl rfl rfl (decide_eq_false (fun h => h (put_eq (may_yes hl1.2.2.2 hb25)))) rfl (op_callF Fa.C47 rfl ((rmay16_ok pg _ _ _ xs ps c en sg _ (H26.arr hE) (H26.arr hP) (H26.arr hS) (by omega) (by omega) (by omega) hb1).mono (fun e w27 hq => ?_)))
          obtain ⟨rfl, hf27⟩ := hq
          refine ⟨_, rfl, ?_⟩
          have H27 := H26.fr' hf27
          refine WL.yes rfl rfl rfl (decide_eq_false (fun h => h (put_eq (may_yes hl1.2.2.2 hb25)))) rfl (op_not rfl ?_)
          refine WL.yes rfl rfl rfl (decide_eq_false (fun h => h (put_eq (may_yes hl1.2.2.2 hb25)))) rfl (op_move rfl ?_)
          refine WL.no rfl rfl rfl (congrArg Bool.not hb25) rfl ?_
          refine WL.no rfl rfl rfl (congrArg Bool.not hb25) rfl ?_
          refine WL.no rfl rfl rfl (congrArg Bool.not hb25) rfl ?_
          refine WL.non rfl rfl rfl rfl ?_
          refine WL.non rfl rfl rfl rfl ?_
          refine WL.no rfl rfl rfl (congrArg Bool.not hb25) rfl ?_
          refine WL.no rfl rfl rfl (congrArg Bool.not hb25) rfl ?_
          refine WL.non rfl rfl rfl rfl ?_
          refine WL.non rfl rfl rfl rfl ?_
          refine WL.no rfl rfl rfl (congrArg Bool.not hb25) rfl ?_
          refine WL.yes rfl rfl rfl (decide_eq_false (fun h => h (put_eq (may_yes hl1.2.2.2 hb25)))) rfl (op_pickF rfl (congrArg Bool.not hb25) rfl ?_)
          refine WL.op rfl rfl (op_pickF rfl (decide_eq_false (fun h => h (put_eq (may_yes hl1.2.2.2 hb25)))) rfl ?_)
          refine WL.nil ?_
          refine WQ.next ?_
          refine WC.no rfl rfl ?_
          refine WC.skip ?_
          refine WQ.next ?_
          refine WC.seq ?_
          refine WC.region ?_
          refine WL.op rfl rfl (op_move rfl ?_)
          refine WL.op rfl rfl (op_callF Fa.C49 rfl ((iget_ok s _ (by omega)).mono (fun e w28 hq => ?_)))
          obtain ⟨v28, u28, q28, rfl, hq28⟩ := hq
          refine ⟨_, rfl, ?_⟩
          have H28 : Own [] w w28 [.blk b1 [(vU32 pg), ev, pv, (.bool c), (vU32 en), sv] 59, .blk b2 [(vU32 pg'), ev', pv', (.bool c'), (vU32 en'), sv'] 59, .row v11 130 2 xs.length (List.flatMap xtc xs), .row u11 92 1 ps.length (List.map vU16 ps), .row q11 111 3 sg.length (List.flatMap sgc sg), .blk b12 [(vU32 pg), v11, u11, (.bool c), (vU32 en), q11] 59, .row v16 22 1 (if imE pg xs ps en sg = 0 then pagesTo sg sg.length else []).length (List.map vU32 (if imE pg xs ps en sg = 0 then pagesTo sg sg.length else [])), .row (β23 22).2 22 1 (if rMay pg xs ps en sg then pagesTo sg sg.length else []).length (List.map vU32 (if rMay pg xs ps en sg then pagesTo sg sg.length else [])), .row v28 130 2 (imG s).xs.length (List.flatMap xtc (imG s).xs), .row u28 92 1 (imG s).ps.length (List.map vU16 (imG s).ps), .row q28 111 3 (imG s).sg.length (List.flatMap sgc (imG s).sg)] := H27.splice [] [] [.row v28 130 2 (imG s).xs.length (List.flatMap xtc (imG s).xs), .row u28 92 1 (imG s).ps.length (List.map vU16 (imG s).ps), .row q28 111 3 (imG s).sg.length (List.flatMap sgc (imG s).sg)] rfl rfl hq28 (Fits.solid True.intro (Fits.solid True.intro (Fits.solid True.intro Fits.nil)))
          refine WL.op rfl rfl (op_move rfl ?_)
          refine WL.op rfl rfl (op_extract rfl rfl ?_)
          refine WL.op rfl rfl (op_extract rfl rfl ?_)
          refine WL.op rfl rfl (op_alloc H28 Fa.I59 (fun b29 w29 H29 => ?_))
          refine WL.op rfl rfl (op_storeBW (i := 11) H29 rfl rfl rfl rfl (one_cons rfl (one_cons (Arr.one (H29.arrR (i := 8) rfl)) (one_cons (Arr.one (H29.arrR (i := 9) rfl)) (one_cons rfl (one_cons rfl (one_cons (Arr.one (H29.arrR (i := 10) rfl)) one_nil)))))) Fa.I59 (fun w30 H30 => ?_))
          refine WL.op rfl rfl (op_assign rfl ?_)
          refine WL.nil ?_
          refine WQ.next ?_
          refine WC.seq ?_
          refine WC.region ?_
          refine WL.op rfl rfl (op_move rfl ?_)
          refine WL.op rfl rfl (op_callF Fa.C50 rfl ((rget_ok s _ (by omega)).mono (fun e w31 hq => ?_)))
          obtain ⟨v31, u31, q31, rfl, hq31⟩ := hq
          refine ⟨_, rfl, ?_⟩
          have H31 : Own [] w w31 [.blk b1 [(vU32 pg), ev, pv, (.bool c), (vU32 en), sv] 59, .blk b2 [(vU32 pg'), ev', pv', (.bool c'), (vU32 en'), sv'] 59, .row v11 130 2 xs.length (List.flatMap xtc xs), .row u11 92 1 ps.length (List.map vU16 ps), .row q11 111 3 sg.length (List.flatMap sgc sg), .blk b12 [(vU32 pg), v11, u11, (.bool c), (vU32 en), q11] 59, .row v16 22 1 (if imE pg xs ps en sg = 0 then pagesTo sg sg.length else []).length (List.map vU32 (if imE pg xs ps en sg = 0 then pagesTo sg sg.length else [])), .row (β23 22).2 22 1 (if rMay pg xs ps en sg then pagesTo sg sg.length else []).length (List.map vU32 (if rMay pg xs ps en sg then pagesTo sg sg.length else [])), .row v28 130 2 (imG s).xs.length (List.flatMap xtc (imG s).xs), .row u28 92 1 (imG s).ps.length (List.map vU16 (imG s).ps), .row q28 111 3 (imG s).sg.length (List.flatMap sgc (imG s).sg), .blk b29 [(vU32 (imG s).pg), v28, u28, (.bool (imG s).c), (vU32 (imG s).en), q28] 59, .row v31 130 2 (imG s).xs.length (List.flatMap xtc (imG s).xs), .row u31 92 1 (imG s).ps.length (List.map vU16 (imG s).ps), .row q31 111 3 (imG s).sg.length (List.flatMap sgc (imG s).sg)] := H30.splice [] [] [.row v31 130 2 (imG s).xs.length (List.flatMap xtc (imG s).xs), .row u31 92 1 (imG s).ps.length (List.map vU16 (imG s).ps), .row q31 111 3 (imG s).sg.length (List.flatMap sgc (imG s).sg)] rfl rfl hq31 (Fits.solid True.intro (Fits.solid True.intro (Fits.solid True.intro Fits.nil)))
          refine WL.op rfl rfl (op_move rfl ?_)
          refine WL.op rfl rfl (op_extract rfl rfl ?_)
          refine WL.op rfl rfl (op_extract rfl rfl ?_)
          refine WL.op rfl rfl (op_alloc H31 Fa.I59 (fun b32 w32 H32 => ?_))
          refine WL.op rfl rfl (op_storeBW (i := 15) H32 rfl rfl rfl rfl (one_cons rfl (one_cons (Arr.one (H32.arrR (i := 12) rfl)) (one_cons (Arr.one (H32.arrR (i := 13) rfl)) (one_cons rfl (one_cons rfl (one_cons (Arr.one (H32.arrR (i := 14) rfl)) one_nil)))))) Fa.I59 (fun w33 H33 => ?_))
          refine WL.op rfl rfl (op_assign rfl ?_)
          refine WL.nil ?_
          refine WQ.next ?_
          refine WC.seq ?_
          refine WC.region ?_
          refine WL.op rfl rfl (op_loadS (vs := [_, _, _, _, _, _]) rfl (H33.cells (i := 11) rfl rfl) Try.underlying59 rfl Fa.I59 rfl ?_)
          refine WL.op rfl rfl (op_loadS (vs := [_, _, _, _, _, _]) rfl (H33.cells (i := 15) rfl rfl) Try.underlying59 rfl Fa.I59 rfl ?_)
          refine WL.op rfl rfl (op_callF Fa.C43 rfl ((risame_ok ((imG s).pg) ((imG s).c) _ _ _ ((imG s).xs) ((imG s).ps) ((imG s).en) ((imG s).sg) ((imG s).pg) ((imG s).c) _ _ _ ((imG s).xs) ((imG s).ps) ((imG s).en) ((imG s).sg) _ (H33.arrR (i := 8) rfl) (H33.arrR (i := 9) rfl) (H33.arrR (i := 10) rfl) (H33.arrR (i := 12) rfl) (H33.arrR (i := 13) rfl) (H33.arrR (i := 14) rfl) (by first | omega | exact xlt _) (by first | omega | exact plt _) (by first | omega | exact slt _)).mono (fun e w34 hq => ?_)))
          obtain ⟨rfl, hf34⟩ := hq
          refine ⟨_, rfl, ?_⟩
          have H34 := H33.fr' hf34
          refine WL.op rfl rfl (op_move rfl ?_)
          refine WL.yes rfl rfl rfl (sameI_refl _ _ _ _ _ _) rfl (op_move rfl ?_)
          refine WL.yes rfl rfl rfl (sameI_refl _ _ _ _ _ _) rfl (op_move rfl ?_)
          refine WL.yes rfl rfl rfl (sameI_refl _ _ _ _ _ _) rfl (op_eqlN rfl rfl ?_)
          refine WL.op rfl rfl (op_pickT rfl (sameI_refl _ _ _ _ _ _) rfl ?_)
          refine WL.op rfl rfl (op_move rfl ?_)
          refine WL.yes rfl rfl rfl (decide_eq_true rfl) rfl (op_callF Fa.C38 rfl ((alive16_ok _).mono (fun e w35 hq => ?_)))
          obtain ⟨rfl, hf35⟩ := hq
          refine ⟨_, rfl, ?_⟩
          have H35 := H34.fr' hf35
          refine WL.op rfl rfl (op_pickT rfl (decide_eq_true rfl) rfl ?_)
          refine WL.op rfl rfl (op_assign rfl ?_)
          refine WL.nil ?_
          refine WQ.next ?_
          refine WC.ret ?_
          refine WQ.out (.tmp rfl .nil) ?_
          exact ⟨rfl, H35.fr⟩
        ·
          refine WL.no rfl rfl rfl hb25 rfl ?_
          refine WL.no rfl rfl rfl hb25 rfl ?_
          refine WL.no rfl rfl rfl hb25 rfl ?_
          refine WL.non rfl rfl rfl rfl ?_
          refine WL.non rfl rfl rfl rfl ?_
          refine WL.no rfl rfl rfl hb25 rfl ?_
          refine WL.no rfl rfl rfl hb25 rfl ?_
          refine WL.non rfl rfl rfl rfl ?_
          refine WL.non rfl rfl rfl rfl ?_
          refine WL.non rfl rfl rfl rfl ?_
          refine WL.non rfl rfl rfl rfl ?_
          refine WL.no rfl rfl rfl hb25 rfl ?_
          refine WL.op rfl rfl (op_pickF rfl hb25 rfl ?_)
          refine WL.op rfl rfl (op_move rfl ?_)
          refine WL.yes rfl rfl rfl rfl rfl (op_loadS (vs := [_, _, _, _, _, _]) rfl (H24.cells (i := 0) rfl rfl) Try.underlying59 rfl Fa.I59 rfl ?_)
          refine WL.yes rfl rfl rfl rfl rfl (op_callF Fa.C47 rfl ((rmay16_ok pg _ _ _ xs ps c en sg _ (H24.arr hE) (H24.arr hP) (H24.arr hS) (by omega) (by omega) (by omega) hb1).mono (fun e w36 hq => ?_)))
          obtain ⟨rfl, hf36⟩ := hq
          refine ⟨_, rfl, ?_⟩
          have H36 := H24.fr' hf36
          refine WL.yes rfl rfl rfl rfl rfl (op_not rfl ?_)
          refine WL.yes rfl rfl rfl rfl rfl (op_move rfl ?_)
          refine WL.yes rfl rfl rfl (congrArg Bool.not hb25) rfl (op_move rfl ?_)
          refine WL.yes rfl rfl rfl (congrArg Bool.not hb25) rfl (op_neqN (b := 2) rfl rfl ?_)
          refine WL.yes rfl rfl rfl (congrArg Bool.not hb25) rfl (op_move rfl ?_)
          refine WL.yes rfl rfl rfl (decide_eq_false (fun h => h (may_no hl1.2.2.2 hb25))) rfl (op_move rfl ?_)
          refine WL.yes rfl rfl rfl (decide_eq_false (fun h => h (may_no hl1.2.2.2 hb25))) rfl (op_neqN (b := 2) rfl rfl ?_)
          refine WL.yes rfl rfl rfl (congrArg Bool.not hb25) rfl (op_pickF rfl (decide_eq_false (fun h => h (may_no hl1.2.2.2 hb25))) rfl ?_)
          refine WL.yes rfl rfl rfl (congrArg Bool.not hb25) rfl (op_move rfl ?_)
          refine WL.yes rfl rfl rfl (decide_eq_false (fun h => h (may_no hl1.2.2.2 hb25))) rfl (op_move rfl ?_)
          refine WL.yes rfl rfl rfl (decide_eq_false (fun h => h (may_no hl1.2.2.2 hb25))) rfl (op_neqStr rfl rfl ?_)
          refine WL.yes rfl rfl rfl (congrArg Bool.not hb25) rfl (op_pickF rfl (decide_eq_false (fun h => h (may_no hl1.2.2.2 hb25))) rfl ?_)
          refine WL.yes rfl rfl rfl rfl rfl (op_pickT rfl (congrArg Bool.not hb25) rfl ?_)
          refine WL.op rfl rfl (op_pickF rfl rfl rfl ?_)
          refine WL.nil ?_
          refine WQ.next ?_
          refine WC.no rfl (decide_eq_false (fun h => h (put_no (may_no hl1.2.2.2 hb25)))) ?_
          refine WC.skip ?_
          refine WQ.next ?_
          refine WC.seq ?_
          refine WC.region ?_
          refine WL.op rfl rfl (op_move rfl ?_)
          refine WL.op rfl rfl (op_callF Fa.C49 rfl ((iget_ok s _ (by omega)).mono (fun e w37 hq => ?_)))
          obtain ⟨v37, u37, q37, rfl, hq37⟩ := hq
          refine ⟨_, rfl, ?_⟩
          have H37 : Own [] w w37 [.blk b1 [(vU32 pg), ev, pv, (.bool c), (vU32 en), sv] 59, .blk b2 [(vU32 pg'), ev', pv', (.bool c'), (vU32 en'), sv'] 59, .row v11 130 2 xs.length (List.flatMap xtc xs), .row u11 92 1 ps.length (List.map vU16 ps), .row q11 111 3 sg.length (List.flatMap sgc sg), .blk b12 [(vU32 pg), v11, u11, (.bool c), (vU32 en), q11] 59, .row v16 22 1 (if imE pg xs ps en sg = 0 then pagesTo sg sg.length else []).length (List.map vU32 (if imE pg xs ps en sg = 0 then pagesTo sg sg.length else [])), .row (β23 22).2 22 1 (if rMay pg xs ps en sg then pagesTo sg sg.length else []).length (List.map vU32 (if rMay pg xs ps en sg then pagesTo sg sg.length else [])), .row v37 130 2 (imG s).xs.length (List.flatMap xtc (imG s).xs), .row u37 92 1 (imG s).ps.length (List.map vU16 (imG s).ps), .row q37 111 3 (imG s).sg.length (List.flatMap sgc (imG s).sg)] := H36.splice [] [] [.row v37 130 2 (imG s).xs.length (List.flatMap xtc (imG s).xs), .row u37 92 1 (imG s).ps.length (List.map vU16 (imG s).ps), .row q37 111 3 (imG s).sg.length (List.flatMap sgc (imG s).sg)] rfl rfl hq37 (Fits.solid True.intro (Fits.solid True.intro (Fits.solid True.intro Fits.nil)))
          refine WL.op rfl rfl (op_move rfl ?_)
          refine WL.op rfl rfl (op_extract rfl rfl ?_)
          refine WL.op rfl rfl (op_extract rfl rfl ?_)
          refine WL.op rfl rfl (op_alloc H37 Fa.I59 (fun b38 w38 H38 => ?_))
          refine WL.op rfl rfl (op_storeBW (i := 11) H38 rfl rfl rfl rfl (one_cons rfl (one_cons (Arr.one (H38.arrR (i := 8) rfl)) (one_cons (Arr.one (H38.arrR (i := 9) rfl)) (one_cons rfl (one_cons rfl (one_cons (Arr.one (H38.arrR (i := 10) rfl)) one_nil)))))) Fa.I59 (fun w39 H39 => ?_))
          refine WL.op rfl rfl (op_assign rfl ?_)
          refine WL.nil ?_
          refine WQ.next ?_
          refine WC.seq ?_
          refine WC.region ?_
          refine WL.op rfl rfl (op_move rfl ?_)
          refine WL.op rfl rfl (op_callF Fa.C50 rfl ((rget_ok s _ (by omega)).mono (fun e w40 hq => ?_)))
          obtain ⟨v40, u40, q40, rfl, hq40⟩ := hq
          refine ⟨_, rfl, ?_⟩
          have H40 : Own [] w w40 [.blk b1 [(vU32 pg), ev, pv, (.bool c), (vU32 en), sv] 59, .blk b2 [(vU32 pg'), ev', pv', (.bool c'), (vU32 en'), sv'] 59, .row v11 130 2 xs.length (List.flatMap xtc xs), .row u11 92 1 ps.length (List.map vU16 ps), .row q11 111 3 sg.length (List.flatMap sgc sg), .blk b12 [(vU32 pg), v11, u11, (.bool c), (vU32 en), q11] 59, .row v16 22 1 (if imE pg xs ps en sg = 0 then pagesTo sg sg.length else []).length (List.map vU32 (if imE pg xs ps en sg = 0 then pagesTo sg sg.length else [])), .row (β23 22).2 22 1 (if rMay pg xs ps en sg then pagesTo sg sg.length else []).length (List.map vU32 (if rMay pg xs ps en sg then pagesTo sg sg.length else [])), .row v37 130 2 (imG s).xs.length (List.flatMap xtc (imG s).xs), .row u37 92 1 (imG s).ps.length (List.map vU16 (imG s).ps), .row q37 111 3 (imG s).sg.length (List.flatMap sgc (imG s).sg), .blk b38 [(vU32 (imG s).pg), v37, u37, (.bool (imG s).c), (vU32 (imG s).en), q37] 59, .row v40 130 2 (imG s).xs.length (List.flatMap xtc (imG s).xs), .row u40 92 1 (imG s).ps.length (List.map vU16 (imG s).ps), .row q40 111 3 (imG s).sg.length (List.flatMap sgc (imG s).sg)] := H39.splice [] [] [.row v40 130 2 (imG s).xs.length (List.flatMap xtc (imG s).xs), .row u40 92 1 (imG s).ps.length (List.map vU16 (imG s).ps), .row q40 111 3 (imG s).sg.length (List.flatMap sgc (imG s).sg)] rfl rfl hq40 (Fits.solid True.intro (Fits.solid True.intro (Fits.solid True.intro Fits.nil)))
          refine WL.op rfl rfl (op_move rfl ?_)
          refine WL.op rfl rfl (op_extract rfl rfl ?_)
          refine WL.op rfl rfl (op_extract rfl rfl ?_)
          refine WL.op rfl rfl (op_alloc H40 Fa.I59 (fun b41 w41 H41 => ?_))
          refine WL.op rfl rfl (op_storeBW (i := 15) H41 rfl rfl rfl rfl (one_cons rfl (one_cons (Arr.one (H41.arrR (i := 12) rfl)) (one_cons (Arr.one (H41.arrR (i := 13) rfl)) (one_cons rfl (one_cons rfl (one_cons (Arr.one (H41.arrR (i := 14) rfl)) one_nil)))))) Fa.I59 (fun w42 H42 => ?_))
          refine WL.op rfl rfl (op_assign rfl ?_)
          refine WL.nil ?_
          refine WQ.next ?_
          refine WC.seq ?_
          refine WC.region ?_
          refine WL.op rfl rfl (op_loadS (vs := [_, _, _, _, _, _]) rfl (H42.cells (i := 11) rfl rfl) Try.underlying59 rfl Fa.I59 rfl ?_)
          refine WL.op rfl rfl (op_loadS (vs := [_, _, _, _, _, _]) rfl (H42.cells (i := 15) rfl rfl) Try.underlying59 rfl Fa.I59 rfl ?_)
          refine WL.op rfl rfl (op_callF Fa.C43 rfl ((risame_ok ((imG s).pg) ((imG s).c) _ _ _ ((imG s).xs) ((imG s).ps) ((imG s).en) ((imG s).sg) ((imG s).pg) ((imG s).c) _ _ _ ((imG s).xs) ((imG s).ps) ((imG s).en) ((imG s).sg) _ (H42.arrR (i := 8) rfl) (H42.arrR (i := 9) rfl) (H42.arrR (i := 10) rfl) (H42.arrR (i := 12) rfl) (H42.arrR (i := 13) rfl) (H42.arrR (i := 14) rfl) (by first | omega | exact xlt _) (by first | omega | exact plt _) (by first | omega | exact slt _)).mono (fun e w43 hq => ?_)))
          obtain ⟨rfl, hf43⟩ := hq
          refine ⟨_, rfl, ?_⟩
          have H43 := H42.fr' hf43
          refine WL.op rfl rfl (op_move rfl ?_)
          refine WL.yes rfl rfl rfl (sameI_refl _ _ _ _ _ _) rfl (op_move rfl ?_)
          refine WL.yes rfl rfl rfl (sameI_refl _ _ _ _ _ _) rfl (op_move rfl ?_)
          refine WL.yes rfl rfl rfl (sameI_refl _ _ _ _ _ _) rfl (op_eqlN rfl rfl ?_)
          refine WL.op rfl rfl (op_pickT rfl (sameI_refl _ _ _ _ _ _) rfl ?_)
          refine WL.op rfl rfl (op_move rfl ?_)
          refine WL.yes rfl rfl rfl (decide_eq_true rfl) rfl (op_callF Fa.C38 rfl ((alive16_ok _).mono (fun e w44 hq => ?_)))
          obtain ⟨rfl, hf44⟩ := hq
          refine ⟨_, rfl, ?_⟩
          have H44 := H43.fr' hf44
          refine WL.op rfl rfl (op_pickT rfl (decide_eq_true rfl) rfl ?_)
          refine WL.op rfl rfl (op_assign rfl ?_)
          refine WL.nil ?_
          refine WQ.next ?_
          refine WC.ret ?_
          refine WQ.out (.tmp rfl .nil) ?_
          exact ⟨rfl, H44.fr⟩
end Go.Proofs.Ytpnghdalnghpcaa
