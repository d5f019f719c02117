/- General lemmas and walks: WSeal4, WSeal6. No condition but what each theorem names. -/
import Derived.Test.YtpnghdalnghpcaaQcf708baf
import Derived.Test.YtpnghdalnghpcaaQ30ebda58
import Derived.Test.YtpnghdalnghpcaaQ8b1839b4
/-! from WSeal4 -/
namespace Go.Proofs.Ytpnghdalnghpcaa
open Go.Owl Go.Spec
abbrev zz1 := slS ([107]) 0 [] [] false 256 ([(Sg.mk 256 5 [49, 50, 51, 52, 53, 54, 55, 56])])
abbrev zz2 := zz1.getD (zz1.length - 1) 0
abbrev zz3 := zz1.take (zz1.length - 1)
abbrev zz4 := vN (zz1.length - 1)
abbrev zz5 := vN zz1.length
abbrev zz6 := opI ([107]) zz1
set_option maxHeartbeats 2000000 in
set_option maxRecDepth 100000 in
theorem alive17_ok  (w : World) :
    Calls Try.prog 66 #[] w (fun e w' => e = .returned (.bool true) ∧ Fr [] w w') := by
  refine enter (args := []) Try.func66 rfl rfl ?_
  have H0 : Own [] w w [] := Own.start w []
  refine WC.seq ?_
  refine WC.region ?_
  refine WL.op rfl rfl (op_assign rfl ?_)
  refine WL.nil ?_
  refine WQ.next ?_
  refine WC.seq ?_
  refine WC.region ?_
  refine WL.op rfl rfl (op_build (cs := [_, _, _]) Fa.I111 Fa.PL111 rfl rfl ?_)
  refine WL.op rfl rfl (op_buildSlice (cs := [_, _, _]) H0 Try.underlying57 Fa.I111 rfl rfl rfl rfl (by decide) (by decide) (fun b1 w1 H1 => ?_))
  refine WL.op rfl rfl (op_build (cs := [_, _, _, _, _, _]) Fa.I59 Fa.PL59 rfl rfl ?_)
  refine WL.op rfl rfl (op_alloc H1 Fa.I59 (fun b2 w2 H2 => ?_))
  refine WL.op rfl rfl (op_storeBW (i := 1) H2 rfl rfl rfl rfl (one_cons rfl (one_cons rfl (one_cons rfl (one_cons rfl (one_cons rfl (one_cons (Arr.one (H2.arrR (i := 0) rfl)) one_nil)))))) Fa.I59 (fun w3 H3 => ?_))
  refine WL.nil ?_
  refine WQ.next ?_
  refine WC.seq ?_
  refine WC.region ?_
  refine WL.op rfl rfl (op_loadS (vs := [_, _, _, _, _, _]) rfl (H3.cells (i := 1) rfl rfl) Try.underlying59 rfl Fa.I59 rfl ?_)
  refine WL.op rfl rfl (op_callF Fa.C67 rfl ((seal_ok ([107]) 0 _ _ _ [] [] false 256 ([(Sg.mk 256 5 [49, 50, 51, 52, 53, 54, 55, 56])]) _ (Arr.nil _ _) (Arr.nil _ _) (Arr.lenF ((H3.arrR (i := 0) rfl)) (fun _ => rfl) (by decide)) (by decide +kernel) (by decide +kernel) (by decide +kernel) (by decide +kernel) (by decide +kernel) (by decide +kernel)).mono (fun e w4 hq => ?_)))
  obtain ⟨rfl, hf4⟩ := hq
  refine ⟨_, rfl, ?_⟩
  have H4 := H3.fr' hf4
  refine WL.op rfl rfl (op_move rfl ?_)
  refine WL.op rfl rfl (op_extract rfl rfl ?_)
  refine WL.op rfl rfl (op_extract rfl rfl ?_)
  refine WL.op rfl rfl (op_assign rfl ?_)
  refine WL.op rfl rfl (op_assign rfl ?_)
  refine WL.nil ?_
  refine WQ.next ?_
  refine WC.seq ?_
  refine WC.seq ?_
  refine WC.region ?_
  refine WL.op rfl rfl (op_move rfl ?_)
  refine WL.op rfl rfl (op_neqN (b := 0) rfl rfl ?_)
  refine WL.op rfl rfl (op_move rfl ?_)
  refine WL.yes rfl rfl rfl (by kernel_rfl) rfl (op_move rfl ?_)
  refine WL.yes rfl rfl rfl (by kernel_rfl) rfl (op_lenStr Try.underlying9 rfl ?_)
  refine WL.yes rfl rfl rfl (by kernel_rfl) rfl (op_lssN (b := 32) rfl rfl ?_)
  refine WL.op rfl rfl (op_pickF rfl (by kernel_rfl) rfl ?_)
  refine WL.nil ?_
  refine WQ.next ?_
  refine WC.no rfl (by kernel_rfl) ?_
  refine WC.skip ?_
  refine WQ.next ?_
  refine WC.seq ?_
  refine WC.region ?_
  refine WL.op rfl rfl (op_move rfl ?_)
  refine WL.op rfl rfl (op_callF Fa.C68 rfl ((sopen_ok ([107]) zz1 _ (by decide +kernel) (by decide +kernel)).mono (fun e w5 hq => ?_)))
  obtain ⟨v5, u5, q5, rfl, hq5⟩ := hq
  refine ⟨_, rfl, ?_⟩
  have H5 : Own [] w w5 [.row (.slice (some ⟨b1, 0, none⟩) 1 1) 111 3 1 (List.flatMap sgc [(Sg.mk 256 5 [49, 50, 51, 52, 53, 54, 55, 56])]), .blk b2 [(vU32 0), (.slice none 0 0), (.slice none 0 0), (.bool false), (vU32 256), (.slice (some ⟨b1, 0, none⟩) 1 1)] 59, .row v5 130 2 zz6.xs.length (List.flatMap xtc zz6.xs), .row u5 92 1 zz6.ps.length (List.map vU16 zz6.ps), .row q5 111 3 zz6.sg.length (List.flatMap sgc zz6.sg)] := H4.splice [] [] [.row v5 130 2 zz6.xs.length (List.flatMap xtc zz6.xs), .row u5 92 1 zz6.ps.length (List.map vU16 zz6.ps), .row q5 111 3 zz6.sg.length (List.flatMap sgc zz6.sg)] rfl rfl hq5 (Fits.solid True.intro (Fits.solid True.intro (Fits.solid True.intro Fits.nil)))
  refine WL.op rfl rfl (op_move rfl ?_)
  refine WL.op rfl rfl (op_extract rfl rfl ?_)
  refine WL.op rfl rfl (op_extract rfl rfl ?_)
  refine WL.op rfl rfl (op_alloc H5 Fa.I59 (fun b6 w6 H6 => ?_))
  refine WL.op rfl rfl (op_storeBW (i := 5) H6 rfl rfl rfl rfl (one_cons rfl (one_cons (Arr.one (H6.arrR (i := 2) rfl)) (one_cons (Arr.one (H6.arrR (i := 3) rfl)) (one_cons rfl (one_cons rfl (one_cons (Arr.one (H6.arrR (i := 4) rfl)) one_nil)))))) Fa.I59 (fun w7 H7 => ?_))
  refine WL.op rfl rfl (op_assign rfl ?_)
  refine WL.nil ?_
  refine WQ.next ?_
  refine WC.seq ?_
  refine WC.region ?_
  refine WL.op rfl rfl (op_move rfl ?_)
  refine WL.op rfl rfl (op_callF Fa.C68 rfl ((sopen_ok ([108]) zz1 _ (by decide +kernel) (by decide +kernel)).mono (fun e w8 hq => ?_)))
  obtain ⟨v8, u8, q8, rfl, hq8⟩ := hq
  refine ⟨_, rfl, ?_⟩
  have H8 : Own [] w w8 [.row (.slice (some ⟨b1, 0, none⟩) 1 1) 111 3 1 (List.flatMap sgc [(Sg.mk 256 5 [49, 50, 51, 52, 53, 54, 55, 56])]), .blk b2 [(vU32 0), (.slice none 0 0), (.slice none 0 0), (.bool false), (vU32 256), (.slice (some ⟨b1, 0, none⟩) 1 1)] 59, .row v5 130 2 zz6.xs.length (List.flatMap xtc zz6.xs), .row u5 92 1 zz6.ps.length (List.map vU16 zz6.ps), .row q5 111 3 zz6.sg.length (List.flatMap sgc zz6.sg), .blk b6 [(vU32 zz6.pg), v5, u5, (.bool zz6.c), (vU32 zz6.en), q5] 59, .row v8 130 2 (opI ([108]) zz1).xs.length (List.flatMap xtc (opI ([108]) zz1).xs), .row u8 92 1 (opI ([108]) zz1).ps.length (List.map vU16 (opI ([108]) zz1).ps), .row q8 111 3 (opI ([108]) zz1).sg.length (List.flatMap sgc (opI ([108]) zz1).sg)] := H7.splice [] [] [.row v8 130 2 (opI ([108]) zz1).xs.length (List.flatMap xtc (opI ([108]) zz1).xs), .row u8 92 1 (opI ([108]) zz1).ps.length (List.map vU16 (opI ([108]) zz1).ps), .row q8 111 3 (opI ([108]) zz1).sg.length (List.flatMap sgc (opI ([108]) zz1).sg)] rfl rfl hq8 (Fits.solid True.intro (Fits.solid True.intro (Fits.solid True.intro Fits.nil)))
  refine WL.op rfl rfl (op_move rfl ?_)
  refine WL.op rfl rfl (op_extract rfl rfl ?_)
  refine WL.op rfl rfl (op_extract rfl rfl ?_)
  refine WL.op rfl rfl (op_alloc H8 Fa.I59 (fun b9 w9 H9 => ?_))
  refine WL.op rfl rfl (op_storeBW (i := 9) H9 rfl rfl rfl rfl (one_cons rfl (one_cons (Arr.one (H9.arrR (i := 6) rfl)) (one_cons (Arr.one (H9.arrR (i := 7) rfl)) (one_cons rfl (one_cons rfl (one_cons (Arr.one (H9.arrR (i := 8) rfl)) one_nil)))))) Fa.I59 (fun w10 H10 => ?_))
  refine WL.op rfl rfl (op_assign rfl ?_)
  refine WL.nil ?_
  refine WQ.next ?_
  refine WC.seq ?_
  refine WC.drawn 21 rfl Fa.M H10 ?_
  intro w11 H11
  refine WD.early (i := 0) rfl rfl rfl rfl rfl (by kernel_rfl) ?_
  refine WD.early (i := 1) rfl rfl rfl rfl rfl (by kernel_rfl) ?_
  refine WD.early (i := 5) rfl rfl rfl rfl rfl (by kernel_rfl) ?_
  refine WD.early (i := 6) rfl rfl rfl rfl rfl (by kernel_rfl) ?_
  refine WD.named (fun W hW => ?_)
  let e7 : List (Nat × Value) → List (Nat × Value) := fun r => (0, (.bool false)) :: (1, (ptr b2 0)) :: (2, (str zz1)) :: (3, (vN (imE 0 [] [] 256 ([(Sg.mk 256 5 [49, 50, 51, 52, 53, 54, 55, 56])])))) :: (4, (ptr b6 0)) :: (5, (vN (opC ([107]) zz1))) :: (6, (ptr b9 0)) :: (7, (vN (opC ([108]) zz1))) :: (12, (.agg #[(vU32 256), (vU8 5), (str [49, 50, 51, 52, 53, 54, 55, 56])])) :: (13, (.slice (some ⟨b1, 0, none⟩) 1 1)) :: (14, (.agg #[(vU32 0), (.slice none 0 0), (.slice none 0 0), (.bool false), (vU32 256), (.slice (some ⟨b1, 0, none⟩) 1 1)])) :: (15, (.tuple #[(str zz1), (vN (imE 0 [] [] 256 ([(Sg.mk 256 5 [49, 50, 51, 52, 53, 54, 55, 56])])))])) :: (16, (.agg #[(vU32 0), (.slice none 0 0), (.slice none 0 0), (.bool false), (vU32 256), (.slice (some ⟨b1, 0, none⟩) 1 1)])) :: (17, (.tuple #[(str zz1), (vN (imE 0 [] [] 256 ([(Sg.mk 256 5 [49, 50, 51, 52, 53, 54, 55, 56])])))])) :: (18, (str zz1)) :: (19, (vN (imE 0 [] [] 256 ([(Sg.mk 256 5 [49, 50, 51, 52, 53, 54, 55, 56])])))) :: (20, (vN (imE 0 [] [] 256 ([(Sg.mk 256 5 [49, 50, 51, 52, 53, 54, 55, 56])])))) :: (21, (.bool (decide ((imE 0 [] [] 256 ([(Sg.mk 256 5 [49, 50, 51, 52, 53, 54, 55, 56])])) ≠ 0)))) :: (22, (.bool (decide ((imE 0 [] [] 256 ([(Sg.mk 256 5 [49, 50, 51, 52, 53, 54, 55, 56])])) ≠ 0)))) :: (23, (str zz1)) :: (24, zz5) :: (25, (.bool (decide (zz1.length < 32)))) :: (26, (.bool (decide (zz1.length < 32)))) :: (27, (.tuple #[(.agg #[(vU32 zz6.pg), v5, u5, (.bool zz6.c), (vU32 zz6.en), q5]), (vN (opC ([107]) zz1))])) :: (28, (str zz1)) :: (29, (.tuple #[(.agg #[(vU32 zz6.pg), v5, u5, (.bool zz6.c), (vU32 zz6.en), q5]), (vN (opC ([107]) zz1))])) :: (30, (.agg #[(vU32 zz6.pg), v5, u5, (.bool zz6.c), (vU32 zz6.en), q5])) :: (31, (vN (opC ([107]) zz1))) :: (32, (.tuple #[(.agg #[(vU32 (opI ([108]) zz1).pg), v8, u8, (.bool (opI ([108]) zz1).c), (vU32 (opI ([108]) zz1).en), q8]), (vN (opC ([108]) zz1))])) :: (33, (str zz1)) :: (34, (.tuple #[(.agg #[(vU32 (opI ([108]) zz1).pg), v8, u8, (.bool (opI ([108]) zz1).c), (vU32 (opI ([108]) zz1).en), q8]), (vN (opC ([108]) zz1))])) :: (35, (.agg #[(vU32 (opI ([108]) zz1).pg), v8, u8, (.bool (opI ([108]) zz1).c), (vU32 (opI ([108]) zz1).en), q8])) :: (36, (vN (opC ([108]) zz1))) :: (38, (str zz1)) :: (39, (str zz1)) :: (43, (str zz1)) :: (44, (str zz1)) :: r
  let l7 : List Ent → List Ent := fun r => (.row (.slice (some ⟨b1, 0, none⟩) 1 1) 111 3 1 (List.flatMap sgc [(Sg.mk 256 5 [49, 50, 51, 52, 53, 54, 55, 56])])) :: (.blk b2 [(vU32 0), (.slice none 0 0), (.slice none 0 0), (.bool false), (vU32 256), (.slice (some ⟨b1, 0, none⟩) 1 1)] 59) :: (.row v5 130 2 zz6.xs.length (List.flatMap xtc zz6.xs)) :: (.row u5 92 1 zz6.ps.length (List.map vU16 zz6.ps)) :: (.row q5 111 3 zz6.sg.length (List.flatMap sgc zz6.sg)) :: (.blk b6 [(vU32 zz6.pg), v5, u5, (.bool zz6.c), (vU32 zz6.en), q5] 59) :: (.row v8 130 2 (opI ([108]) zz1).xs.length (List.flatMap xtc (opI ([108]) zz1).xs)) :: (.row u8 92 1 (opI ([108]) zz1).ps.length (List.map vU16 (opI ([108]) zz1).ps)) :: (.row q8 111 3 (opI ([108]) zz1).sg.length (List.flatMap sgc (opI ([108]) zz1).sg)) :: (.blk b9 [(vU32 (opI ([108]) zz1).pg), v8, u8, (.bool (opI ([108]) zz1).c), (vU32 (opI ([108]) zz1).en), q8] 59) :: r
  have st7_70 : ∀ (b22361 : _) (v22281 : _) (u22281 : _) (q22281 : _) (b22221 : _) (wS : World), Own [] w wS (l7 [.row (.slice (some ⟨b22221, 0, none⟩) 1 1) 5 1 1 (List.map vU8 [(zz2 + (1 : UInt8))]), .row v22281 130 2 (opI ([107]) (zz3 ++ [(zz2 + (1 : UInt8))])).xs.length (List.flatMap xtc (opI ([107]) (zz3 ++ [(zz2 + (1 : UInt8))])).xs), .row u22281 92 1 (opI ([107]) (zz3 ++ [(zz2 + (1 : UInt8))])).ps.length (List.map vU16 (opI ([107]) (zz3 ++ [(zz2 + (1 : UInt8))])).ps), .row q22281 111 3 (opI ([107]) (zz3 ++ [(zz2 + (1 : UInt8))])).sg.length (List.flatMap sgc (opI ([107]) (zz3 ++ [(zz2 + (1 : UInt8))])).sg), .blk b22361 [(vU32 (opI ([107]) (zz3 ++ [(zz2 + (1 : UInt8))])).pg), v22281, u22281, (.bool (opI ([107]) (zz3 ++ [(zz2 + (1 : UInt8))])).c), (vU32 (opI ([107]) (zz3 ++ [(zz2 + (1 : UInt8))])).en), q22281] 59]) → W 0 #[true, true, true, true, true, true, true, true, true, true, true, true, true, true, true, true, true, true, true, true, true] (e7 [(8, (ptr b22361 0)), (9, (vN (opC ([107]) (zz3 ++ [(zz2 + (1 : UInt8))])))), (37, (.tuple #[(.agg #[(vU32 (opI ([107]) (zz3 ++ [(zz2 + (1 : UInt8))])).pg), v22281, u22281, (.bool (opI ([107]) (zz3 ++ [(zz2 + (1 : UInt8))])).c), (vU32 (opI ([107]) (zz3 ++ [(zz2 + (1 : UInt8))])).en), q22281]), (vN (opC ([107]) (zz3 ++ [(zz2 + (1 : UInt8))])))])), (40, zz5), (41, zz4), (42, (str zz3)), (45, zz5), (46, zz4), (47, (vU8 zz2)), (48, (vU8 (zz2 + (1 : UInt8)))), (49, (.slice (some ⟨b22221, 0, none⟩) 1 1)), (50, (str [(zz2 + (1 : UInt8))])), (51, (str (zz3 ++ [(zz2 + (1 : UInt8))]))), (52, (.tuple #[(.agg #[(vU32 (opI ([107]) (zz3 ++ [(zz2 + (1 : UInt8))])).pg), v22281, u22281, (.bool (opI ([107]) (zz3 ++ [(zz2 + (1 : UInt8))])).c), (vU32 (opI ([107]) (zz3 ++ [(zz2 + (1 : UInt8))])).en), q22281]), (vN (opC ([107]) (zz3 ++ [(zz2 + (1 : UInt8))])))])), (53, (.agg #[(vU32 (opI ([107]) (zz3 ++ [(zz2 + (1 : UInt8))])).pg), v22281, u22281, (.bool (opI ([107]) (zz3 ++ [(zz2 + (1 : UInt8))])).c), (vU32 (opI ([107]) (zz3 ++ [(zz2 + (1 : UInt8))])).en), q22281])), (54, (vN (opC ([107]) (zz3 ++ [(zz2 + (1 : UInt8))]))))]) wS := by
    intro b22361 v22281 u22281 q22281 b22221 wS HS
    rw [hW]
    refine WD.done (by kernel_rfl) ?_
    refine WQ.next ?_
    refine WC.seq ?_
    refine WC.region ?_
    refine WL.op rfl rfl (op_callF Fa.C68 rfl ((sopen_ok ([107]) ([]) _ (by decide +kernel) (by decide +kernel)).mono (fun e w13 hq => ?_)))
    obtain ⟨v13, u13, q13, rfl, hq13⟩ := hq
    refine ⟨_, rfl, ?_⟩
    have H13 : Own [] w w13 [.row (.slice (some ⟨b1, 0, none⟩) 1 1) 111 3 1 (List.flatMap sgc [(Sg.mk 256 5 [49, 50, 51, 52, 53, 54, 55, 56])]), .blk b2 [(vU32 0), (.slice none 0 0), (.slice none 0 0), (.bool false), (vU32 256), (.slice (some ⟨b1, 0, none⟩) 1 1)] 59, .row v5 130 2 zz6.xs.length (List.flatMap xtc zz6.xs), .row u5 92 1 zz6.ps.length (List.map vU16 zz6.ps), .row q5 111 3 zz6.sg.length (List.flatMap sgc zz6.sg), .blk b6 [(vU32 zz6.pg), v5, u5, (.bool zz6.c), (vU32 zz6.en), q5] 59, .row v8 130 2 (opI ([108]) zz1).xs.length (List.flatMap xtc (opI ([108]) zz1).xs), .row u8 92 1 (opI ([108]) zz1).ps.length (List.map vU16 (opI ([108]) zz1).ps), .row q8 111 3 (opI ([108]) zz1).sg.length (List.flatMap sgc (opI ([108]) zz1).sg), .blk b9 [(vU32 (opI ([108]) zz1).pg), v8, u8, (.bool (opI ([108]) zz1).c), (vU32 (opI ([108]) zz1).en), q8] 59, .row (.slice (some ⟨b22221, 0, none⟩) 1 1) 5 1 1 (List.map vU8 [(zz2 + (1 : UInt8))]), .row v22281 130 2 (opI ([107]) (zz3 ++ [(zz2 + (1 : UInt8))])).xs.length (List.flatMap xtc (opI ([107]) (zz3 ++ [(zz2 + (1 : UInt8))])).xs), .row u22281 92 1 (opI ([107]) (zz3 ++ [(zz2 + (1 : UInt8))])).ps.length (List.map vU16 (opI ([107]) (zz3 ++ [(zz2 + (1 : UInt8))])).ps), .row q22281 111 3 (opI ([107]) (zz3 ++ [(zz2 + (1 : UInt8))])).sg.length (List.flatMap sgc (opI ([107]) (zz3 ++ [(zz2 + (1 : UInt8))])).sg), .blk b22361 [(vU32 (opI ([107]) (zz3 ++ [(zz2 + (1 : UInt8))])).pg), v22281, u22281, (.bool (opI ([107]) (zz3 ++ [(zz2 + (1 : UInt8))])).c), (vU32 (opI ([107]) (zz3 ++ [(zz2 + (1 : UInt8))])).en), q22281] 59, .row v13 130 2 (opI ([107]) ([])).xs.length (List.flatMap xtc (opI ([107]) ([])).xs), .row u13 92 1 (opI ([107]) ([])).ps.length (List.map vU16 (opI ([107]) ([])).ps), .row q13 111 3 (opI ([107]) ([])).sg.length (List.flatMap sgc (opI ([107]) ([])).sg)] := HS.splice [] [] [.row v13 130 2 (opI ([107]) ([])).xs.length (List.flatMap xtc (opI ([107]) ([])).xs), .row u13 92 1 (opI ([107]) ([])).ps.length (List.map vU16 (opI ([107]) ([])).ps), .row q13 111 3 (opI ([107]) ([])).sg.length (List.flatMap sgc (opI ([107]) ([])).sg)] rfl rfl hq13 (Fits.solid True.intro (Fits.solid True.intro (Fits.solid True.intro Fits.nil)))
    refine WL.op rfl rfl (op_move rfl ?_)
    refine WL.op rfl rfl (op_extract rfl rfl ?_)
    refine WL.op rfl rfl (op_extract rfl rfl ?_)
    refine WL.op rfl rfl (op_alloc H13 Fa.I59 (fun b14 w14 H14 => ?_))
    refine WL.op rfl rfl (op_storeBW (i := 18) H14 rfl rfl rfl rfl (one_cons rfl (one_cons (Arr.one (H14.arrR (i := 15) rfl)) (one_cons (Arr.one (H14.arrR (i := 16) rfl)) (one_cons rfl (one_cons rfl (one_cons (Arr.one (H14.arrR (i := 17) rfl)) one_nil)))))) Fa.I59 (fun w15 H15 => ?_))
    refine WL.op rfl rfl (op_assign rfl ?_)
    refine WL.nil ?_
    refine WQ.next ?_
    refine WC.seq ?_
    refine WC.region ?_
    refine WL.op rfl rfl (op_move rfl ?_)
    refine WL.op rfl rfl (op_eqlN (b := 0) rfl rfl ?_)
    refine WL.op rfl rfl (op_move rfl ?_)
    refine WL.yes rfl rfl rfl (by kernel_rfl) rfl (op_loadS (vs := [_, _, _, _, _, _]) rfl (H15.cells (i := 1) rfl rfl) Try.underlying59 rfl Fa.I59 rfl ?_)
    refine WL.yes rfl rfl rfl (by kernel_rfl) rfl (op_loadS (vs := [_, _, _, _, _, _]) rfl (H15.cells (i := 5) rfl rfl) Try.underlying59 rfl Fa.I59 rfl ?_)
    refine WL.yes rfl rfl rfl (by kernel_rfl) rfl (op_callF Fa.C43 rfl ((risame_ok 0 false _ _ _ [] [] 256 ([(Sg.mk 256 5 [49, 50, 51, 52, 53, 54, 55, 56])]) (zz6.pg) (zz6.c) _ _ _ (zz6.xs) (zz6.ps) (zz6.en) (zz6.sg) _ (Arr.nil _ _) (Arr.nil _ _) (Arr.lenF ((H15.arrR (i := 0) rfl)) (fun _ => rfl) (by decide)) (H15.arrR (i := 2) rfl) (H15.arrR (i := 3) rfl) (H15.arrR (i := 4) rfl) (by decide) (by decide) (by decide)).mono (fun e w16 hq => ?_)))
    obtain ⟨rfl, hf16⟩ := hq
    refine ⟨_, rfl, ?_⟩
    have H16 := H15.fr' hf16
    refine WL.op rfl rfl (op_pickT rfl (by kernel_rfl) rfl ?_)
    refine WL.op rfl rfl (op_move rfl ?_)
    refine WL.yes rfl rfl rfl (by kernel_rfl) rfl (op_move rfl ?_)
    refine WL.yes rfl rfl rfl (by kernel_rfl) rfl (op_eqlN (b := 170) rfl rfl ?_)
    refine WL.op rfl rfl (op_pickT rfl (by kernel_rfl) rfl ?_)
    refine WL.op rfl rfl (op_move rfl ?_)
    refine WL.yes rfl rfl rfl (by kernel_rfl) rfl (op_move rfl ?_)
    refine WL.yes rfl rfl rfl (by kernel_rfl) rfl (op_eqlN (b := 170) rfl rfl ?_)
    refine WL.op rfl rfl (op_pickT rfl (by kernel_rfl) rfl ?_)
    refine WL.op rfl rfl (op_move rfl ?_)
    refine WL.yes rfl rfl rfl (by kernel_rfl) rfl (op_move rfl ?_)
    refine WL.yes rfl rfl rfl (by kernel_rfl) rfl (op_eqlN (b := 7) rfl rfl ?_)
    refine WL.op rfl rfl (op_pickT rfl (by kernel_rfl) rfl ?_)
    refine WL.op rfl rfl (op_assign rfl ?_)
    refine WL.nil ?_
    refine WQ.next ?_
    refine WC.ret ?_
    refine WQ.out (.tmp rfl .nil) ?_
    exact ⟨rfl, H16.fr⟩
  have st7_69 : ∀ (b22361 : _) (v22281 : _) (u22281 : _) (q22281 : _) (b22221 : _) (wS : World), Own [] w wS (l7 [.row (.slice (some ⟨b22221, 0, none⟩) 1 1) 5 1 1 (List.map vU8 [(zz2 + (1 : UInt8))]), .row v22281 130 2 (opI ([107]) (zz3 ++ [(zz2 + (1 : UInt8))])).xs.length (List.flatMap xtc (opI ([107]) (zz3 ++ [(zz2 + (1 : UInt8))])).xs), .row u22281 92 1 (opI ([107]) (zz3 ++ [(zz2 + (1 : UInt8))])).ps.length (List.map vU16 (opI ([107]) (zz3 ++ [(zz2 + (1 : UInt8))])).ps), .row q22281 111 3 (opI ([107]) (zz3 ++ [(zz2 + (1 : UInt8))])).sg.length (List.flatMap sgc (opI ([107]) (zz3 ++ [(zz2 + (1 : UInt8))])).sg), .blk b22361 [(vU32 (opI ([107]) (zz3 ++ [(zz2 + (1 : UInt8))])).pg), v22281, u22281, (.bool (opI ([107]) (zz3 ++ [(zz2 + (1 : UInt8))])).c), (vU32 (opI ([107]) (zz3 ++ [(zz2 + (1 : UInt8))])).en), q22281] 59]) → W 1 #[true, true, true, true, true, true, true, true, true, true, true, true, true, true, true, true, true, true, true, true, false] (e7 [(8, (ptr b22361 0)), (37, (.tuple #[(.agg #[(vU32 (opI ([107]) (zz3 ++ [(zz2 + (1 : UInt8))])).pg), v22281, u22281, (.bool (opI ([107]) (zz3 ++ [(zz2 + (1 : UInt8))])).c), (vU32 (opI ([107]) (zz3 ++ [(zz2 + (1 : UInt8))])).en), q22281]), (vN (opC ([107]) (zz3 ++ [(zz2 + (1 : UInt8))])))])), (40, zz5), (41, zz4), (42, (str zz3)), (45, zz5), (46, zz4), (47, (vU8 zz2)), (48, (vU8 (zz2 + (1 : UInt8)))), (49, (.slice (some ⟨b22221, 0, none⟩) 1 1)), (50, (str [(zz2 + (1 : UInt8))])), (51, (str (zz3 ++ [(zz2 + (1 : UInt8))]))), (52, (.tuple #[(.agg #[(vU32 (opI ([107]) (zz3 ++ [(zz2 + (1 : UInt8))])).pg), v22281, u22281, (.bool (opI ([107]) (zz3 ++ [(zz2 + (1 : UInt8))])).c), (vU32 (opI ([107]) (zz3 ++ [(zz2 + (1 : UInt8))])).en), q22281]), (vN (opC ([107]) (zz3 ++ [(zz2 + (1 : UInt8))])))])), (53, (.agg #[(vU32 (opI ([107]) (zz3 ++ [(zz2 + (1 : UInt8))])).pg), v22281, u22281, (.bool (opI ([107]) (zz3 ++ [(zz2 + (1 : UInt8))])).c), (vU32 (opI ([107]) (zz3 ++ [(zz2 + (1 : UInt8))])).en), q22281])), (54, (vN (opC ([107]) (zz3 ++ [(zz2 + (1 : UInt8))]))))]) wS := by
    intro b22361 v22281 u22281 q22281 b22221 wS HS
    rw [hW]
    refine WD.all1 (i := 20) (by kernel_rfl) ?_
    ·
      refine WS.op (i := 20) rfl rfl rfl (op_assign rfl ?_)
      have hq := st7_70 b22361 v22281 u22281 q22281 b22221 wS HS
      rw [hW] at hq
      refine WD.cov ?_ hq
      exact by repeat (first | exact trivial | refine ⟨rfl, ?_⟩)
  have st7_67 : ∀ (b22361 : _) (v22281 : _) (u22281 : _) (q22281 : _) (b22221 : _) (wS : World), Own [] w wS (l7 [.row (.slice (some ⟨b22221, 0, none⟩) 1 1) 5 1 1 (List.map vU8 [(zz2 + (1 : UInt8))]), .row v22281 130 2 (opI ([107]) (zz3 ++ [(zz2 + (1 : UInt8))])).xs.length (List.flatMap xtc (opI ([107]) (zz3 ++ [(zz2 + (1 : UInt8))])).xs), .row u22281 92 1 (opI ([107]) (zz3 ++ [(zz2 + (1 : UInt8))])).ps.length (List.map vU16 (opI ([107]) (zz3 ++ [(zz2 + (1 : UInt8))])).ps), .row q22281 111 3 (opI ([107]) (zz3 ++ [(zz2 + (1 : UInt8))])).sg.length (List.flatMap sgc (opI ([107]) (zz3 ++ [(zz2 + (1 : UInt8))])).sg), .blk b22361 [(vU32 0), (.slice none 0 0), (.slice none 0 0), (.bool false), (vU32 0), (.slice none 0 0)] 59]) → W 2 #[true, true, true, true, true, true, true, true, true, true, true, true, true, true, true, true, true, true, true, false, false] (e7 [(8, (ptr b22361 0)), (37, (.tuple #[(.agg #[(vU32 (opI ([107]) (zz3 ++ [(zz2 + (1 : UInt8))])).pg), v22281, u22281, (.bool (opI ([107]) (zz3 ++ [(zz2 + (1 : UInt8))])).c), (vU32 (opI ([107]) (zz3 ++ [(zz2 + (1 : UInt8))])).en), q22281]), (vN (opC ([107]) (zz3 ++ [(zz2 + (1 : UInt8))])))])), (40, zz5), (41, zz4), (42, (str zz3)), (45, zz5), (46, zz4), (47, (vU8 zz2)), (48, (vU8 (zz2 + (1 : UInt8)))), (49, (.slice (some ⟨b22221, 0, none⟩) 1 1)), (50, (str [(zz2 + (1 : UInt8))])), (51, (str (zz3 ++ [(zz2 + (1 : UInt8))]))), (52, (.tuple #[(.agg #[(vU32 (opI ([107]) (zz3 ++ [(zz2 + (1 : UInt8))])).pg), v22281, u22281, (.bool (opI ([107]) (zz3 ++ [(zz2 + (1 : UInt8))])).c), (vU32 (opI ([107]) (zz3 ++ [(zz2 + (1 : UInt8))])).en), q22281]), (vN (opC ([107]) (zz3 ++ [(zz2 + (1 : UInt8))])))])), (53, (.agg #[(vU32 (opI ([107]) (zz3 ++ [(zz2 + (1 : UInt8))])).pg), v22281, u22281, (.bool (opI ([107]) (zz3 ++ [(zz2 + (1 : UInt8))])).c), (vU32 (opI ([107]) (zz3 ++ [(zz2 + (1 : UInt8))])).en), q22281])), (54, (vN (opC ([107]) (zz3 ++ [(zz2 + (1 : UInt8))]))))]) wS := by
    intro b22361 v22281 u22281 q22281 b22221 wS HS
    rw [hW]
    refine WD.all1 (i := 19) (by kernel_rfl) ?_
    ·
      refine WS.op (i := 19) rfl rfl rfl (op_storeBW (i := 14) HS rfl rfl rfl rfl (one_cons rfl (one_cons (Arr.one (HS.arrR (i := 11) rfl)) (one_cons (Arr.one (HS.arrR (i := 12) rfl)) (one_cons rfl (one_cons rfl (one_cons (Arr.one (HS.arrR (i := 13) rfl)) one_nil)))))) Fa.I59 (fun w22381 H22381 => ?_))
      have hq := st7_69 b22361 v22281 u22281 q22281 b22221 w22381 H22381
      rw [hW] at hq
      refine WD.cov ?_ hq
      exact by repeat (first | exact trivial | refine ⟨rfl, ?_⟩)
  have st7_68 : ∀ (b22361 : _) (v22281 : _) (u22281 : _) (q22281 : _) (b22221 : _) (wS : World), Own [] w wS (l7 [.row (.slice (some ⟨b22221, 0, none⟩) 1 1) 5 1 1 (List.map vU8 [(zz2 + (1 : UInt8))]), .row v22281 130 2 (opI ([107]) (zz3 ++ [(zz2 + (1 : UInt8))])).xs.length (List.flatMap xtc (opI ([107]) (zz3 ++ [(zz2 + (1 : UInt8))])).xs), .row u22281 92 1 (opI ([107]) (zz3 ++ [(zz2 + (1 : UInt8))])).ps.length (List.map vU16 (opI ([107]) (zz3 ++ [(zz2 + (1 : UInt8))])).ps), .row q22281 111 3 (opI ([107]) (zz3 ++ [(zz2 + (1 : UInt8))])).sg.length (List.flatMap sgc (opI ([107]) (zz3 ++ [(zz2 + (1 : UInt8))])).sg), .blk b22361 [(vU32 (opI ([107]) (zz3 ++ [(zz2 + (1 : UInt8))])).pg), v22281, u22281, (.bool (opI ([107]) (zz3 ++ [(zz2 + (1 : UInt8))])).c), (vU32 (opI ([107]) (zz3 ++ [(zz2 + (1 : UInt8))])).en), q22281] 59]) → W 2 #[true, true, true, true, true, true, true, true, true, true, true, true, true, true, true, true, true, false, true, true, false] (e7 [(8, (ptr b22361 0)), (37, (.tuple #[(.agg #[(vU32 (opI ([107]) (zz3 ++ [(zz2 + (1 : UInt8))])).pg), v22281, u22281, (.bool (opI ([107]) (zz3 ++ [(zz2 + (1 : UInt8))])).c), (vU32 (opI ([107]) (zz3 ++ [(zz2 + (1 : UInt8))])).en), q22281]), (vN (opC ([107]) (zz3 ++ [(zz2 + (1 : UInt8))])))])), (40, zz5), (41, zz4), (42, (str zz3)), (45, zz5), (46, zz4), (47, (vU8 zz2)), (48, (vU8 (zz2 + (1 : UInt8)))), (49, (.slice (some ⟨b22221, 0, none⟩) 1 1)), (50, (str [(zz2 + (1 : UInt8))])), (51, (str (zz3 ++ [(zz2 + (1 : UInt8))]))), (52, (.tuple #[(.agg #[(vU32 (opI ([107]) (zz3 ++ [(zz2 + (1 : UInt8))])).pg), v22281, u22281, (.bool (opI ([107]) (zz3 ++ [(zz2 + (1 : UInt8))])).c), (vU32 (opI ([107]) (zz3 ++ [(zz2 + (1 : UInt8))])).en), q22281]), (vN (opC ([107]) (zz3 ++ [(zz2 + (1 : UInt8))])))])), (53, (.agg #[(vU32 (opI ([107]) (zz3 ++ [(zz2 + (1 : UInt8))])).pg), v22281, u22281, (.bool (opI ([107]) (zz3 ++ [(zz2 + (1 : UInt8))])).c), (vU32 (opI ([107]) (zz3 ++ [(zz2 + (1 : UInt8))])).en), q22281]))]) wS := by
    intro b22361 v22281 u22281 q22281 b22221 wS HS
    rw [hW]
    refine WD.all1 (i := 17) (by kernel_rfl) ?_
    ·
      refine WS.op (i := 17) rfl rfl rfl (op_extract rfl rfl ?_)
      have hq := st7_69 b22361 v22281 u22281 q22281 b22221 wS HS
      rw [hW] at hq
      refine WD.cov ?_ hq
      exact by repeat (first | exact trivial | refine ⟨rfl, ?_⟩)
  have st7_64 : ∀ (v22281 : _) (u22281 : _) (q22281 : _) (b22221 : _) (wS : World), Own [] w wS (l7 [.row (.slice (some ⟨b22221, 0, none⟩) 1 1) 5 1 1 (List.map vU8 [(zz2 + (1 : UInt8))]), .row v22281 130 2 (opI ([107]) (zz3 ++ [(zz2 + (1 : UInt8))])).xs.length (List.flatMap xtc (opI ([107]) (zz3 ++ [(zz2 + (1 : UInt8))])).xs), .row u22281 92 1 (opI ([107]) (zz3 ++ [(zz2 + (1 : UInt8))])).ps.length (List.map vU16 (opI ([107]) (zz3 ++ [(zz2 + (1 : UInt8))])).ps), .row q22281 111 3 (opI ([107]) (zz3 ++ [(zz2 + (1 : UInt8))])).sg.length (List.flatMap sgc (opI ([107]) (zz3 ++ [(zz2 + (1 : UInt8))])).sg)]) → W 3 #[true, true, true, true, true, true, true, true, true, true, true, true, true, true, true, true, true, true, false, false, false] (e7 [(37, (.tuple #[(.agg #[(vU32 (opI ([107]) (zz3 ++ [(zz2 + (1 : UInt8))])).pg), v22281, u22281, (.bool (opI ([107]) (zz3 ++ [(zz2 + (1 : UInt8))])).c), (vU32 (opI ([107]) (zz3 ++ [(zz2 + (1 : UInt8))])).en), q22281]), (vN (opC ([107]) (zz3 ++ [(zz2 + (1 : UInt8))])))])), (40, zz5), (41, zz4), (42, (str zz3)), (45, zz5), (46, zz4), (47, (vU8 zz2)), (48, (vU8 (zz2 + (1 : UInt8)))), (49, (.slice (some ⟨b22221, 0, none⟩) 1 1)), (50, (str [(zz2 + (1 : UInt8))])), (51, (str (zz3 ++ [(zz2 + (1 : UInt8))]))), (52, (.tuple #[(.agg #[(vU32 (opI ([107]) (zz3 ++ [(zz2 + (1 : UInt8))])).pg), v22281, u22281, (.bool (opI ([107]) (zz3 ++ [(zz2 + (1 : UInt8))])).c), (vU32 (opI ([107]) (zz3 ++ [(zz2 + (1 : UInt8))])).en), q22281]), (vN (opC ([107]) (zz3 ++ [(zz2 + (1 : UInt8))])))])), (53, (.agg #[(vU32 (opI ([107]) (zz3 ++ [(zz2 + (1 : UInt8))])).pg), v22281, u22281, (.bool (opI ([107]) (zz3 ++ [(zz2 + (1 : UInt8))])).c), (vU32 (opI ([107]) (zz3 ++ [(zz2 + (1 : UInt8))])).en), q22281])), (54, (vN (opC ([107]) (zz3 ++ [(zz2 + (1 : UInt8))]))))]) wS := by
    intro v22281 u22281 q22281 b22221 wS HS
    rw [hW]
    refine WD.all1 (i := 18) (by kernel_rfl) ?_
    ·
      refine WS.op (i := 18) rfl rfl rfl (op_alloc HS Fa.I59 (fun b22361 w22361 H22361 => ?_))
      have hq := st7_67 b22361 v22281 u22281 q22281 b22221 w22361 H22361
      rw [hW] at hq
      refine WD.cov ?_ hq
      exact by repeat (first | exact trivial | refine ⟨rfl, ?_⟩)
  have st7_65 : ∀ (b22361 : _) (v22281 : _) (u22281 : _) (q22281 : _) (b22221 : _) (wS : World), Own [] w wS (l7 [.row (.slice (some ⟨b22221, 0, none⟩) 1 1) 5 1 1 (List.map vU8 [(zz2 + (1 : UInt8))]), .row v22281 130 2 (opI ([107]) (zz3 ++ [(zz2 + (1 : UInt8))])).xs.length (List.flatMap xtc (opI ([107]) (zz3 ++ [(zz2 + (1 : UInt8))])).xs), .row u22281 92 1 (opI ([107]) (zz3 ++ [(zz2 + (1 : UInt8))])).ps.length (List.map vU16 (opI ([107]) (zz3 ++ [(zz2 + (1 : UInt8))])).ps), .row q22281 111 3 (opI ([107]) (zz3 ++ [(zz2 + (1 : UInt8))])).sg.length (List.flatMap sgc (opI ([107]) (zz3 ++ [(zz2 + (1 : UInt8))])).sg), .blk b22361 [(vU32 0), (.slice none 0 0), (.slice none 0 0), (.bool false), (vU32 0), (.slice none 0 0)] 59]) → W 3 #[true, true, true, true, true, true, true, true, true, true, true, true, true, true, true, true, true, false, true, false, false] (e7 [(8, (ptr b22361 0)), (37, (.tuple #[(.agg #[(vU32 (opI ([107]) (zz3 ++ [(zz2 + (1 : UInt8))])).pg), v22281, u22281, (.bool (opI ([107]) (zz3 ++ [(zz2 + (1 : UInt8))])).c), (vU32 (opI ([107]) (zz3 ++ [(zz2 + (1 : UInt8))])).en), q22281]), (vN (opC ([107]) (zz3 ++ [(zz2 + (1 : UInt8))])))])), (40, zz5), (41, zz4), (42, (str zz3)), (45, zz5), (46, zz4), (47, (vU8 zz2)), (48, (vU8 (zz2 + (1 : UInt8)))), (49, (.slice (some ⟨b22221, 0, none⟩) 1 1)), (50, (str [(zz2 + (1 : UInt8))])), (51, (str (zz3 ++ [(zz2 + (1 : UInt8))]))), (52, (.tuple #[(.agg #[(vU32 (opI ([107]) (zz3 ++ [(zz2 + (1 : UInt8))])).pg), v22281, u22281, (.bool (opI ([107]) (zz3 ++ [(zz2 + (1 : UInt8))])).c), (vU32 (opI ([107]) (zz3 ++ [(zz2 + (1 : UInt8))])).en), q22281]), (vN (opC ([107]) (zz3 ++ [(zz2 + (1 : UInt8))])))])), (53, (.agg #[(vU32 (opI ([107]) (zz3 ++ [(zz2 + (1 : UInt8))])).pg), v22281, u22281, (.bool (opI ([107]) (zz3 ++ [(zz2 + (1 : UInt8))])).c), (vU32 (opI ([107]) (zz3 ++ [(zz2 + (1 : UInt8))])).en), q22281]))]) wS := by
    intro b22361 v22281 u22281 q22281 b22221 wS HS
    rw [hW]
    refine WD.all2 (i := 17) (j := 19) (by kernel_rfl) ?_ ?_
    ·
      refine WS.op (i := 17) rfl rfl rfl (op_extract rfl rfl ?_)
      have hq := st7_67 b22361 v22281 u22281 q22281 b22221 wS HS
      rw [hW] at hq
      refine WD.cov ?_ hq
      exact by repeat (first | exact trivial | refine ⟨rfl, ?_⟩)
    ·
      refine WS.op (i := 19) rfl rfl rfl (op_storeBW (i := 14) HS rfl rfl rfl rfl (one_cons rfl (one_cons (Arr.one (HS.arrR (i := 11) rfl)) (one_cons (Arr.one (HS.arrR (i := 12) rfl)) (one_cons rfl (one_cons rfl (one_cons (Arr.one (HS.arrR (i := 13) rfl)) one_nil)))))) Fa.I59 (fun w22381 H22381 => ?_))
      have hq := st7_68 b22361 v22281 u22281 q22281 b22221 w22381 H22381
      rw [hW] at hq
      refine WD.cov ?_ hq
      exact by repeat (first | exact trivial | refine ⟨rfl, ?_⟩)
  have st7_66 : ∀ (b22361 : _) (v22281 : _) (u22281 : _) (q22281 : _) (b22221 : _) (wS : World), Own [] w wS (l7 [.row (.slice (some ⟨b22221, 0, none⟩) 1 1) 5 1 1 (List.map vU8 [(zz2 + (1 : UInt8))]), .row v22281 130 2 (opI ([107]) (zz3 ++ [(zz2 + (1 : UInt8))])).xs.length (List.flatMap xtc (opI ([107]) (zz3 ++ [(zz2 + (1 : UInt8))])).xs), .row u22281 92 1 (opI ([107]) (zz3 ++ [(zz2 + (1 : UInt8))])).ps.length (List.map vU16 (opI ([107]) (zz3 ++ [(zz2 + (1 : UInt8))])).ps), .row q22281 111 3 (opI ([107]) (zz3 ++ [(zz2 + (1 : UInt8))])).sg.length (List.flatMap sgc (opI ([107]) (zz3 ++ [(zz2 + (1 : UInt8))])).sg), .blk b22361 [(vU32 0), (.slice none 0 0), (.slice none 0 0), (.bool false), (vU32 0), (.slice none 0 0)] 59]) → W 3 #[true, true, true, true, true, true, true, true, true, true, true, true, true, true, true, true, false, true, true, false, false] (e7 [(8, (ptr b22361 0)), (37, (.tuple #[(.agg #[(vU32 (opI ([107]) (zz3 ++ [(zz2 + (1 : UInt8))])).pg), v22281, u22281, (.bool (opI ([107]) (zz3 ++ [(zz2 + (1 : UInt8))])).c), (vU32 (opI ([107]) (zz3 ++ [(zz2 + (1 : UInt8))])).en), q22281]), (vN (opC ([107]) (zz3 ++ [(zz2 + (1 : UInt8))])))])), (40, zz5), (41, zz4), (42, (str zz3)), (45, zz5), (46, zz4), (47, (vU8 zz2)), (48, (vU8 (zz2 + (1 : UInt8)))), (49, (.slice (some ⟨b22221, 0, none⟩) 1 1)), (50, (str [(zz2 + (1 : UInt8))])), (51, (str (zz3 ++ [(zz2 + (1 : UInt8))]))), (52, (.tuple #[(.agg #[(vU32 (opI ([107]) (zz3 ++ [(zz2 + (1 : UInt8))])).pg), v22281, u22281, (.bool (opI ([107]) (zz3 ++ [(zz2 + (1 : UInt8))])).c), (vU32 (opI ([107]) (zz3 ++ [(zz2 + (1 : UInt8))])).en), q22281]), (vN (opC ([107]) (zz3 ++ [(zz2 + (1 : UInt8))])))])), (54, (vN (opC ([107]) (zz3 ++ [(zz2 + (1 : UInt8))]))))]) wS := by
    intro b22361 v22281 u22281 q22281 b22221 wS HS
    rw [hW]
    refine WD.all1 (i := 16) (by kernel_rfl) ?_
    ·
      refine WS.op (i := 16) rfl rfl rfl (op_extract rfl rfl ?_)
      have hq := st7_67 b22361 v22281 u22281 q22281 b22221 wS HS
      rw [hW] at hq
      refine WD.cov ?_ hq
      exact by repeat (first | exact trivial | refine ⟨rfl, ?_⟩)
  have st7_61 : ∀ (v22281 : _) (u22281 : _) (q22281 : _) (b22221 : _) (wS : World), Own [] w wS (l7 [.row (.slice (some ⟨b22221, 0, none⟩) 1 1) 5 1 1 (List.map vU8 [(zz2 + (1 : UInt8))]), .row v22281 130 2 (opI ([107]) (zz3 ++ [(zz2 + (1 : UInt8))])).xs.length (List.flatMap xtc (opI ([107]) (zz3 ++ [(zz2 + (1 : UInt8))])).xs), .row u22281 92 1 (opI ([107]) (zz3 ++ [(zz2 + (1 : UInt8))])).ps.length (List.map vU16 (opI ([107]) (zz3 ++ [(zz2 + (1 : UInt8))])).ps), .row q22281 111 3 (opI ([107]) (zz3 ++ [(zz2 + (1 : UInt8))])).sg.length (List.flatMap sgc (opI ([107]) (zz3 ++ [(zz2 + (1 : UInt8))])).sg)]) → W 4 #[true, true, true, true, true, true, true, true, true, true, true, true, true, true, true, true, true, false, false, false, false] (e7 [(37, (.tuple #[(.agg #[(vU32 (opI ([107]) (zz3 ++ [(zz2 + (1 : UInt8))])).pg), v22281, u22281, (.bool (opI ([107]) (zz3 ++ [(zz2 + (1 : UInt8))])).c), (vU32 (opI ([107]) (zz3 ++ [(zz2 + (1 : UInt8))])).en), q22281]), (vN (opC ([107]) (zz3 ++ [(zz2 + (1 : UInt8))])))])), (40, zz5), (41, zz4), (42, (str zz3)), (45, zz5), (46, zz4), (47, (vU8 zz2)), (48, (vU8 (zz2 + (1 : UInt8)))), (49, (.slice (some ⟨b22221, 0, none⟩) 1 1)), (50, (str [(zz2 + (1 : UInt8))])), (51, (str (zz3 ++ [(zz2 + (1 : UInt8))]))), (52, (.tuple #[(.agg #[(vU32 (opI ([107]) (zz3 ++ [(zz2 + (1 : UInt8))])).pg), v22281, u22281, (.bool (opI ([107]) (zz3 ++ [(zz2 + (1 : UInt8))])).c), (vU32 (opI ([107]) (zz3 ++ [(zz2 + (1 : UInt8))])).en), q22281]), (vN (opC ([107]) (zz3 ++ [(zz2 + (1 : UInt8))])))])), (53, (.agg #[(vU32 (opI ([107]) (zz3 ++ [(zz2 + (1 : UInt8))])).pg), v22281, u22281, (.bool (opI ([107]) (zz3 ++ [(zz2 + (1 : UInt8))])).c), (vU32 (opI ([107]) (zz3 ++ [(zz2 + (1 : UInt8))])).en), q22281]))]) wS := by
    intro v22281 u22281 q22281 b22221 wS HS
    rw [hW]
    refine WD.all2 (i := 17) (j := 18) (by kernel_rfl) ?_ ?_
    ·
      refine WS.op (i := 17) rfl rfl rfl (op_extract rfl rfl ?_)
      have hq := st7_64 v22281 u22281 q22281 b22221 wS HS
      rw [hW] at hq
      refine WD.cov ?_ hq
      exact by repeat (first | exact trivial | refine ⟨rfl, ?_⟩)
    ·
      refine WS.op (i := 18) rfl rfl rfl (op_alloc HS Fa.I59 (fun b22361 w22361 H22361 => ?_))
      have hq := st7_65 b22361 v22281 u22281 q22281 b22221 w22361 H22361
      rw [hW] at hq
      refine WD.cov ?_ hq
      exact by repeat (first | exact trivial | refine ⟨rfl, ?_⟩)
  have st7_62 : ∀ (v22281 : _) (u22281 : _) (q22281 : _) (b22221 : _) (wS : World), Own [] w wS (l7 [.row (.slice (some ⟨b22221, 0, none⟩) 1 1) 5 1 1 (List.map vU8 [(zz2 + (1 : UInt8))]), .row v22281 130 2 (opI ([107]) (zz3 ++ [(zz2 + (1 : UInt8))])).xs.length (List.flatMap xtc (opI ([107]) (zz3 ++ [(zz2 + (1 : UInt8))])).xs), .row u22281 92 1 (opI ([107]) (zz3 ++ [(zz2 + (1 : UInt8))])).ps.length (List.map vU16 (opI ([107]) (zz3 ++ [(zz2 + (1 : UInt8))])).ps), .row q22281 111 3 (opI ([107]) (zz3 ++ [(zz2 + (1 : UInt8))])).sg.length (List.flatMap sgc (opI ([107]) (zz3 ++ [(zz2 + (1 : UInt8))])).sg)]) → W 4 #[true, true, true, true, true, true, true, true, true, true, true, true, true, true, true, true, false, true, false, false, false] (e7 [(37, (.tuple #[(.agg #[(vU32 (opI ([107]) (zz3 ++ [(zz2 + (1 : UInt8))])).pg), v22281, u22281, (.bool (opI ([107]) (zz3 ++ [(zz2 + (1 : UInt8))])).c), (vU32 (opI ([107]) (zz3 ++ [(zz2 + (1 : UInt8))])).en), q22281]), (vN (opC ([107]) (zz3 ++ [(zz2 + (1 : UInt8))])))])), (40, zz5), (41, zz4), (42, (str zz3)), (45, zz5), (46, zz4), (47, (vU8 zz2)), (48, (vU8 (zz2 + (1 : UInt8)))), (49, (.slice (some ⟨b22221, 0, none⟩) 1 1)), (50, (str [(zz2 + (1 : UInt8))])), (51, (str (zz3 ++ [(zz2 + (1 : UInt8))]))), (52, (.tuple #[(.agg #[(vU32 (opI ([107]) (zz3 ++ [(zz2 + (1 : UInt8))])).pg), v22281, u22281, (.bool (opI ([107]) (zz3 ++ [(zz2 + (1 : UInt8))])).c), (vU32 (opI ([107]) (zz3 ++ [(zz2 + (1 : UInt8))])).en), q22281]), (vN (opC ([107]) (zz3 ++ [(zz2 + (1 : UInt8))])))])), (54, (vN (opC ([107]) (zz3 ++ [(zz2 + (1 : UInt8))]))))]) wS := by
    intro v22281 u22281 q22281 b22221 wS HS
    rw [hW]
    refine WD.all2 (i := 16) (j := 18) (by kernel_rfl) ?_ ?_
    ·
      refine WS.op (i := 16) rfl rfl rfl (op_extract rfl rfl ?_)
      have hq := st7_64 v22281 u22281 q22281 b22221 wS HS
      rw [hW] at hq
      refine WD.cov ?_ hq
      exact by repeat (first | exact trivial | refine ⟨rfl, ?_⟩)
    ·
      refine WS.op (i := 18) rfl rfl rfl (op_alloc HS Fa.I59 (fun b22361 w22361 H22361 => ?_))
      have hq := st7_66 b22361 v22281 u22281 q22281 b22221 w22361 H22361
      rw [hW] at hq
      refine WD.cov ?_ hq
      exact by repeat (first | exact trivial | refine ⟨rfl, ?_⟩)
  have st7_63 : ∀ (b22361 : _) (v22281 : _) (u22281 : _) (q22281 : _) (b22221 : _) (wS : World), Own [] w wS (l7 [.row (.slice (some ⟨b22221, 0, none⟩) 1 1) 5 1 1 (List.map vU8 [(zz2 + (1 : UInt8))]), .row v22281 130 2 (opI ([107]) (zz3 ++ [(zz2 + (1 : UInt8))])).xs.length (List.flatMap xtc (opI ([107]) (zz3 ++ [(zz2 + (1 : UInt8))])).xs), .row u22281 92 1 (opI ([107]) (zz3 ++ [(zz2 + (1 : UInt8))])).ps.length (List.map vU16 (opI ([107]) (zz3 ++ [(zz2 + (1 : UInt8))])).ps), .row q22281 111 3 (opI ([107]) (zz3 ++ [(zz2 + (1 : UInt8))])).sg.length (List.flatMap sgc (opI ([107]) (zz3 ++ [(zz2 + (1 : UInt8))])).sg), .blk b22361 [(vU32 0), (.slice none 0 0), (.slice none 0 0), (.bool false), (vU32 0), (.slice none 0 0)] 59]) → W 4 #[true, true, true, true, true, true, true, true, true, true, true, true, true, true, true, true, false, false, true, false, false] (e7 [(8, (ptr b22361 0)), (37, (.tuple #[(.agg #[(vU32 (opI ([107]) (zz3 ++ [(zz2 + (1 : UInt8))])).pg), v22281, u22281, (.bool (opI ([107]) (zz3 ++ [(zz2 + (1 : UInt8))])).c), (vU32 (opI ([107]) (zz3 ++ [(zz2 + (1 : UInt8))])).en), q22281]), (vN (opC ([107]) (zz3 ++ [(zz2 + (1 : UInt8))])))])), (40, zz5), (41, zz4), (42, (str zz3)), (45, zz5), (46, zz4), (47, (vU8 zz2)), (48, (vU8 (zz2 + (1 : UInt8)))), (49, (.slice (some ⟨b22221, 0, none⟩) 1 1)), (50, (str [(zz2 + (1 : UInt8))])), (51, (str (zz3 ++ [(zz2 + (1 : UInt8))]))), (52, (.tuple #[(.agg #[(vU32 (opI ([107]) (zz3 ++ [(zz2 + (1 : UInt8))])).pg), v22281, u22281, (.bool (opI ([107]) (zz3 ++ [(zz2 + (1 : UInt8))])).c), (vU32 (opI ([107]) (zz3 ++ [(zz2 + (1 : UInt8))])).en), q22281]), (vN (opC ([107]) (zz3 ++ [(zz2 + (1 : UInt8))])))]))]) wS := by
    intro b22361 v22281 u22281 q22281 b22221 wS HS
    rw [hW]
    refine WD.all2 (i := 16) (j := 17) (by kernel_rfl) ?_ ?_
    ·
      refine WS.op (i := 16) rfl rfl rfl (op_extract rfl rfl ?_)
      have hq := st7_65 b22361 v22281 u22281 q22281 b22221 wS HS
      rw [hW] at hq
      refine WD.cov ?_ hq
      exact by repeat (first | exact trivial | refine ⟨rfl, ?_⟩)
    ·
      refine WS.op (i := 17) rfl rfl rfl (op_extract rfl rfl ?_)
      have hq := st7_66 b22361 v22281 u22281 q22281 b22221 wS HS
      rw [hW] at hq
      refine WD.cov ?_ hq
      exact by repeat (first | exact trivial | refine ⟨rfl, ?_⟩)
  have st7_59 : ∀ (v22281 : _) (u22281 : _) (q22281 : _) (b22221 : _) (wS : World), Own [] w wS (l7 [.row (.slice (some ⟨b22221, 0, none⟩) 1 1) 5 1 1 (List.map vU8 [(zz2 + (1 : UInt8))]), .row v22281 130 2 (opI ([107]) (zz3 ++ [(zz2 + (1 : UInt8))])).xs.length (List.flatMap xtc (opI ([107]) (zz3 ++ [(zz2 + (1 : UInt8))])).xs), .row u22281 92 1 (opI ([107]) (zz3 ++ [(zz2 + (1 : UInt8))])).ps.length (List.map vU16 (opI ([107]) (zz3 ++ [(zz2 + (1 : UInt8))])).ps), .row q22281 111 3 (opI ([107]) (zz3 ++ [(zz2 + (1 : UInt8))])).sg.length (List.flatMap sgc (opI ([107]) (zz3 ++ [(zz2 + (1 : UInt8))])).sg)]) → W 5 #[true, true, true, true, true, true, true, true, true, true, true, true, true, true, true, true, false, false, false, false, false] (e7 [(37, (.tuple #[(.agg #[(vU32 (opI ([107]) (zz3 ++ [(zz2 + (1 : UInt8))])).pg), v22281, u22281, (.bool (opI ([107]) (zz3 ++ [(zz2 + (1 : UInt8))])).c), (vU32 (opI ([107]) (zz3 ++ [(zz2 + (1 : UInt8))])).en), q22281]), (vN (opC ([107]) (zz3 ++ [(zz2 + (1 : UInt8))])))])), (40, zz5), (41, zz4), (42, (str zz3)), (45, zz5), (46, zz4), (47, (vU8 zz2)), (48, (vU8 (zz2 + (1 : UInt8)))), (49, (.slice (some ⟨b22221, 0, none⟩) 1 1)), (50, (str [(zz2 + (1 : UInt8))])), (51, (str (zz3 ++ [(zz2 + (1 : UInt8))]))), (52, (.tuple #[(.agg #[(vU32 (opI ([107]) (zz3 ++ [(zz2 + (1 : UInt8))])).pg), v22281, u22281, (.bool (opI ([107]) (zz3 ++ [(zz2 + (1 : UInt8))])).c), (vU32 (opI ([107]) (zz3 ++ [(zz2 + (1 : UInt8))])).en), q22281]), (vN (opC ([107]) (zz3 ++ [(zz2 + (1 : UInt8))])))]))]) wS := by
    intro v22281 u22281 q22281 b22221 wS HS
    rw [hW]
    refine WD.all3 (i := 16) (j := 17) (m := 18) (by kernel_rfl) ?_ ?_ ?_
    ·
      refine WS.op (i := 16) rfl rfl rfl (op_extract rfl rfl ?_)
      have hq := st7_61 v22281 u22281 q22281 b22221 wS HS
      rw [hW] at hq
      refine WD.cov ?_ hq
      exact by repeat (first | exact trivial | refine ⟨rfl, ?_⟩)
    ·
      refine WS.op (i := 17) rfl rfl rfl (op_extract rfl rfl ?_)
      have hq := st7_62 v22281 u22281 q22281 b22221 wS HS
      rw [hW] at hq
      refine WD.cov ?_ hq
      exact by repeat (first | exact trivial | refine ⟨rfl, ?_⟩)
    ·
      refine WS.op (i := 18) rfl rfl rfl (op_alloc HS Fa.I59 (fun b22361 w22361 H22361 => ?_))
      have hq := st7_63 b22361 v22281 u22281 q22281 b22221 w22361 H22361
      rw [hW] at hq
      refine WD.cov ?_ hq
      exact by repeat (first | exact trivial | refine ⟨rfl, ?_⟩)
  have st7_60 : ∀ (b22361 : _) (b22221 : _) (v22281 : _) (u22281 : _) (q22281 : _) (wS : World), Own [] w wS (l7 [.row (.slice (some ⟨b22221, 0, none⟩) 1 1) 5 1 1 (List.map vU8 [(zz2 + (1 : UInt8))]), .row v22281 130 2 (opI ([107]) (zz3 ++ [(zz2 + (1 : UInt8))])).xs.length (List.flatMap xtc (opI ([107]) (zz3 ++ [(zz2 + (1 : UInt8))])).xs), .row u22281 92 1 (opI ([107]) (zz3 ++ [(zz2 + (1 : UInt8))])).ps.length (List.map vU16 (opI ([107]) (zz3 ++ [(zz2 + (1 : UInt8))])).ps), .row q22281 111 3 (opI ([107]) (zz3 ++ [(zz2 + (1 : UInt8))])).sg.length (List.flatMap sgc (opI ([107]) (zz3 ++ [(zz2 + (1 : UInt8))])).sg), .blk b22361 [(vU32 0), (.slice none 0 0), (.slice none 0 0), (.bool false), (vU32 0), (.slice none 0 0)] 59]) → W 5 #[true, true, true, true, true, true, true, true, true, true, true, true, true, true, true, false, false, false, true, false, false] (e7 [(8, (ptr b22361 0)), (40, zz5), (41, zz4), (42, (str zz3)), (45, zz5), (46, zz4), (47, (vU8 zz2)), (48, (vU8 (zz2 + (1 : UInt8)))), (49, (.slice (some ⟨b22221, 0, none⟩) 1 1)), (50, (str [(zz2 + (1 : UInt8))])), (51, (str (zz3 ++ [(zz2 + (1 : UInt8))]))), (52, (.tuple #[(.agg #[(vU32 (opI ([107]) (zz3 ++ [(zz2 + (1 : UInt8))])).pg), v22281, u22281, (.bool (opI ([107]) (zz3 ++ [(zz2 + (1 : UInt8))])).c), (vU32 (opI ([107]) (zz3 ++ [(zz2 + (1 : UInt8))])).en), q22281]), (vN (opC ([107]) (zz3 ++ [(zz2 + (1 : UInt8))])))]))]) wS := by
    intro b22361 b22221 v22281 u22281 q22281 wS HS
    rw [hW]
    refine WD.all1 (i := 15) (by kernel_rfl) ?_
    ·
      refine WS.op (i := 15) rfl rfl rfl (op_move rfl ?_)
      have hq := st7_63 b22361 v22281 u22281 q22281 b22221 wS HS
      rw [hW] at hq
      refine WD.cov ?_ hq
      exact by repeat (first | exact trivial | refine ⟨rfl, ?_⟩)
  have st7_57 : ∀ (b22221 : _) (v22281 : _) (u22281 : _) (q22281 : _) (wS : World), Own [] w wS (l7 [.row (.slice (some ⟨b22221, 0, none⟩) 1 1) 5 1 1 (List.map vU8 [(zz2 + (1 : UInt8))]), .row v22281 130 2 (opI ([107]) (zz3 ++ [(zz2 + (1 : UInt8))])).xs.length (List.flatMap xtc (opI ([107]) (zz3 ++ [(zz2 + (1 : UInt8))])).xs), .row u22281 92 1 (opI ([107]) (zz3 ++ [(zz2 + (1 : UInt8))])).ps.length (List.map vU16 (opI ([107]) (zz3 ++ [(zz2 + (1 : UInt8))])).ps), .row q22281 111 3 (opI ([107]) (zz3 ++ [(zz2 + (1 : UInt8))])).sg.length (List.flatMap sgc (opI ([107]) (zz3 ++ [(zz2 + (1 : UInt8))])).sg)]) → W 6 #[true, true, true, true, true, true, true, true, true, true, true, true, true, true, true, false, false, false, false, false, false] (e7 [(40, zz5), (41, zz4), (42, (str zz3)), (45, zz5), (46, zz4), (47, (vU8 zz2)), (48, (vU8 (zz2 + (1 : UInt8)))), (49, (.slice (some ⟨b22221, 0, none⟩) 1 1)), (50, (str [(zz2 + (1 : UInt8))])), (51, (str (zz3 ++ [(zz2 + (1 : UInt8))]))), (52, (.tuple #[(.agg #[(vU32 (opI ([107]) (zz3 ++ [(zz2 + (1 : UInt8))])).pg), v22281, u22281, (.bool (opI ([107]) (zz3 ++ [(zz2 + (1 : UInt8))])).c), (vU32 (opI ([107]) (zz3 ++ [(zz2 + (1 : UInt8))])).en), q22281]), (vN (opC ([107]) (zz3 ++ [(zz2 + (1 : UInt8))])))]))]) wS := by
    intro b22221 v22281 u22281 q22281 wS HS
    rw [hW]
    refine WD.all2 (i := 15) (j := 18) (by kernel_rfl) ?_ ?_
    ·
      refine WS.op (i := 15) rfl rfl rfl (op_move rfl ?_)
      have hq := st7_59 v22281 u22281 q22281 b22221 wS HS
      rw [hW] at hq
      refine WD.cov ?_ hq
      exact by repeat (first | exact trivial | refine ⟨rfl, ?_⟩)
    ·
      refine WS.op (i := 18) rfl rfl rfl (op_alloc HS Fa.I59 (fun b22361 w22361 H22361 => ?_))
      have hq := st7_60 b22361 b22221 v22281 u22281 q22281 w22361 H22361
      rw [hW] at hq
      refine WD.cov ?_ hq
      exact by repeat (first | exact trivial | refine ⟨rfl, ?_⟩)
  have st7_58 : ∀ (b22361 : _) (b22221 : _) (wS : World), Own [] w wS (l7 [.row (.slice (some ⟨b22221, 0, none⟩) 1 1) 5 1 1 (List.map vU8 [(zz2 + (1 : UInt8))]), .blk b22361 [(vU32 0), (.slice none 0 0), (.slice none 0 0), (.bool false), (vU32 0), (.slice none 0 0)] 59]) → W 6 #[true, true, true, true, true, true, true, true, true, true, true, true, true, true, false, false, false, false, true, false, false] (e7 [(8, (ptr b22361 0)), (40, zz5), (41, zz4), (42, (str zz3)), (45, zz5), (46, zz4), (47, (vU8 zz2)), (48, (vU8 (zz2 + (1 : UInt8)))), (49, (.slice (some ⟨b22221, 0, none⟩) 1 1)), (50, (str [(zz2 + (1 : UInt8))])), (51, (str (zz3 ++ [(zz2 + (1 : UInt8))])))]) wS := by
    intro b22361 b22221 wS HS
    rw [hW]
    refine WD.all1 (i := 14) (by kernel_rfl) ?_
    ·
      refine WS.op (i := 14) rfl rfl rfl (op_callF Fa.C68 rfl ((sopen_ok ([107]) (zz3 ++ [(zz2 + (1 : UInt8))]) _ (by decide +kernel) (by decide +kernel)).mono (fun e w22281 hq => ?_)))
      obtain ⟨v22281, u22281, q22281, rfl, hq22281⟩ := hq
      refine ⟨_, rfl, ?_⟩
      have H22281 : Own [] w w22281 [.row (.slice (some ⟨b1, 0, none⟩) 1 1) 111 3 1 (List.flatMap sgc [(Sg.mk 256 5 [49, 50, 51, 52, 53, 54, 55, 56])]), .blk b2 [(vU32 0), (.slice none 0 0), (.slice none 0 0), (.bool false), (vU32 256), (.slice (some ⟨b1, 0, none⟩) 1 1)] 59, .row v5 130 2 zz6.xs.length (List.flatMap xtc zz6.xs), .row u5 92 1 zz6.ps.length (List.map vU16 zz6.ps), .row q5 111 3 zz6.sg.length (List.flatMap sgc zz6.sg), .blk b6 [(vU32 zz6.pg), v5, u5, (.bool zz6.c), (vU32 zz6.en), q5] 59, .row v8 130 2 (opI ([108]) zz1).xs.length (List.flatMap xtc (opI ([108]) zz1).xs), .row u8 92 1 (opI ([108]) zz1).ps.length (List.map vU16 (opI ([108]) zz1).ps), .row q8 111 3 (opI ([108]) zz1).sg.length (List.flatMap sgc (opI ([108]) zz1).sg), .blk b9 [(vU32 (opI ([108]) zz1).pg), v8, u8, (.bool (opI ([108]) zz1).c), (vU32 (opI ([108]) zz1).en), q8] 59, .row (.slice (some ⟨b22221, 0, none⟩) 1 1) 5 1 1 (List.map vU8 [(zz2 + (1 : UInt8))]), .blk b22361 [(vU32 0), (.slice none 0 0), (.slice none 0 0), (.bool false), (vU32 0), (.slice none 0 0)] 59, .row v22281 130 2 (opI ([107]) (zz3 ++ [(zz2 + (1 : UInt8))])).xs.length (List.flatMap xtc (opI ([107]) (zz3 ++ [(zz2 + (1 : UInt8))])).xs), .row u22281 92 1 (opI ([107]) (zz3 ++ [(zz2 + (1 : UInt8))])).ps.length (List.map vU16 (opI ([107]) (zz3 ++ [(zz2 + (1 : UInt8))])).ps), .row q22281 111 3 (opI ([107]) (zz3 ++ [(zz2 + (1 : UInt8))])).sg.length (List.flatMap sgc (opI ([107]) (zz3 ++ [(zz2 + (1 : UInt8))])).sg)] := HS.splice [] [] [.row v22281 130 2 (opI ([107]) (zz3 ++ [(zz2 + (1 : UInt8))])).xs.length (List.flatMap xtc (opI ([107]) (zz3 ++ [(zz2 + (1 : UInt8))])).xs), .row u22281 92 1 (opI ([107]) (zz3 ++ [(zz2 + (1 : UInt8))])).ps.length (List.map vU16 (opI ([107]) (zz3 ++ [(zz2 + (1 : UInt8))])).ps), .row q22281 111 3 (opI ([107]) (zz3 ++ [(zz2 + (1 : UInt8))])).sg.length (List.flatMap sgc (opI ([107]) (zz3 ++ [(zz2 + (1 : UInt8))])).sg)] rfl rfl hq22281 (Fits.solid True.intro (Fits.solid True.intro (Fits.solid True.intro Fits.nil)))
      have hq := st7_60 b22361 b22221 v22281 u22281 q22281 w22281 (H22281.sel [0, 1, 2, 3, 4, 5, 6, 7, 8, 9, 10, 12, 13, 14, 11] rfl rfl)
      rw [hW] at hq
      refine WD.cov ?_ hq
      exact by repeat (first | exact trivial | refine ⟨rfl, ?_⟩)
  have st7_55 : ∀ (b22221 : _) (wS : World), Own [] w wS (l7 [.row (.slice (some ⟨b22221, 0, none⟩) 1 1) 5 1 1 (List.map vU8 [(zz2 + (1 : UInt8))])]) → W 7 #[true, true, true, true, true, true, true, true, true, true, true, true, true, true, false, false, false, false, false, false, false] (e7 [(40, zz5), (41, zz4), (42, (str zz3)), (45, zz5), (46, zz4), (47, (vU8 zz2)), (48, (vU8 (zz2 + (1 : UInt8)))), (49, (.slice (some ⟨b22221, 0, none⟩) 1 1)), (50, (str [(zz2 + (1 : UInt8))])), (51, (str (zz3 ++ [(zz2 + (1 : UInt8))])))]) wS := by
    intro b22221 wS HS
    rw [hW]
    refine WD.all2 (i := 14) (j := 18) (by kernel_rfl) ?_ ?_
    ·
      refine WS.op (i := 14) rfl rfl rfl (op_callF Fa.C68 rfl ((sopen_ok ([107]) (zz3 ++ [(zz2 + (1 : UInt8))]) _ (by decide +kernel) (by decide +kernel)).mono (fun e w22281 hq => ?_)))
      obtain ⟨v22281, u22281, q22281, rfl, hq22281⟩ := hq
      refine ⟨_, rfl, ?_⟩
      have H22281 : Own [] w w22281 [.row (.slice (some ⟨b1, 0, none⟩) 1 1) 111 3 1 (List.flatMap sgc [(Sg.mk 256 5 [49, 50, 51, 52, 53, 54, 55, 56])]), .blk b2 [(vU32 0), (.slice none 0 0), (.slice none 0 0), (.bool false), (vU32 256), (.slice (some ⟨b1, 0, none⟩) 1 1)] 59, .row v5 130 2 zz6.xs.length (List.flatMap xtc zz6.xs), .row u5 92 1 zz6.ps.length (List.map vU16 zz6.ps), .row q5 111 3 zz6.sg.length (List.flatMap sgc zz6.sg), .blk b6 [(vU32 zz6.pg), v5, u5, (.bool zz6.c), (vU32 zz6.en), q5] 59, .row v8 130 2 (opI ([108]) zz1).xs.length (List.flatMap xtc (opI ([108]) zz1).xs), .row u8 92 1 (opI ([108]) zz1).ps.length (List.map vU16 (opI ([108]) zz1).ps), .row q8 111 3 (opI ([108]) zz1).sg.length (List.flatMap sgc (opI ([108]) zz1).sg), .blk b9 [(vU32 (opI ([108]) zz1).pg), v8, u8, (.bool (opI ([108]) zz1).c), (vU32 (opI ([108]) zz1).en), q8] 59, .row (.slice (some ⟨b22221, 0, none⟩) 1 1) 5 1 1 (List.map vU8 [(zz2 + (1 : UInt8))]), .row v22281 130 2 (opI ([107]) (zz3 ++ [(zz2 + (1 : UInt8))])).xs.length (List.flatMap xtc (opI ([107]) (zz3 ++ [(zz2 + (1 : UInt8))])).xs), .row u22281 92 1 (opI ([107]) (zz3 ++ [(zz2 + (1 : UInt8))])).ps.length (List.map vU16 (opI ([107]) (zz3 ++ [(zz2 + (1 : UInt8))])).ps), .row q22281 111 3 (opI ([107]) (zz3 ++ [(zz2 + (1 : UInt8))])).sg.length (List.flatMap sgc (opI ([107]) (zz3 ++ [(zz2 + (1 : UInt8))])).sg)] := HS.splice [] [] [.row v22281 130 2 (opI ([107]) (zz3 ++ [(zz2 + (1 : UInt8))])).xs.length (List.flatMap xtc (opI ([107]) (zz3 ++ [(zz2 + (1 : UInt8))])).xs), .row u22281 92 1 (opI ([107]) (zz3 ++ [(zz2 + (1 : UInt8))])).ps.length (List.map vU16 (opI ([107]) (zz3 ++ [(zz2 + (1 : UInt8))])).ps), .row q22281 111 3 (opI ([107]) (zz3 ++ [(zz2 + (1 : UInt8))])).sg.length (List.flatMap sgc (opI ([107]) (zz3 ++ [(zz2 + (1 : UInt8))])).sg)] rfl rfl hq22281 (Fits.solid True.intro (Fits.solid True.intro (Fits.solid True.intro Fits.nil)))
      have hq := st7_57 b22221 v22281 u22281 q22281 w22281 H22281
      rw [hW] at hq
      refine WD.cov ?_ hq
      exact by repeat (first | exact trivial | refine ⟨rfl, ?_⟩)
    ·
      refine WS.op (i := 18) rfl rfl rfl (op_alloc HS Fa.I59 (fun b22361 w22361 H22361 => ?_))
      have hq := st7_58 b22361 b22221 w22361 H22361
      rw [hW] at hq
      refine WD.cov ?_ hq
      exact by repeat (first | exact trivial | refine ⟨rfl, ?_⟩)
  have st7_56 : ∀ (b22361 : _) (b22221 : _) (wS : World), Own [] w wS (l7 [.row (.slice (some ⟨b22221, 0, none⟩) 1 1) 5 1 1 (List.map vU8 [(zz2 + (1 : UInt8))]), .blk b22361 [(vU32 0), (.slice none 0 0), (.slice none 0 0), (.bool false), (vU32 0), (.slice none 0 0)] 59]) → W 7 #[true, true, true, true, true, true, true, true, true, true, true, true, true, false, false, false, false, false, true, false, false] (e7 [(8, (ptr b22361 0)), (40, zz5), (41, zz4), (42, (str zz3)), (45, zz5), (46, zz4), (47, (vU8 zz2)), (48, (vU8 (zz2 + (1 : UInt8)))), (49, (.slice (some ⟨b22221, 0, none⟩) 1 1)), (50, (str [(zz2 + (1 : UInt8))]))]) wS := by
    intro b22361 b22221 wS HS
    rw [hW]
    refine WD.all1 (i := 13) (by kernel_rfl) ?_
    ·
      refine WS.op (i := 13) rfl rfl rfl (op_addStr rfl rfl (by decide +kernel) ?_)
      have hq := st7_58 b22361 b22221 wS HS
      rw [hW] at hq
      refine WD.cov ?_ hq
      exact by repeat (first | exact trivial | refine ⟨rfl, ?_⟩)
  have st7_52 : ∀ (b22221 : _) (wS : World), Own [] w wS (l7 [.row (.slice (some ⟨b22221, 0, none⟩) 1 1) 5 1 1 (List.map vU8 [(zz2 + (1 : UInt8))])]) → W 8 #[true, true, true, true, true, true, true, true, true, true, true, true, true, false, false, false, false, false, false, false, false] (e7 [(40, zz5), (41, zz4), (42, (str zz3)), (45, zz5), (46, zz4), (47, (vU8 zz2)), (48, (vU8 (zz2 + (1 : UInt8)))), (49, (.slice (some ⟨b22221, 0, none⟩) 1 1)), (50, (str [(zz2 + (1 : UInt8))]))]) wS := by
    intro b22221 wS HS
    rw [hW]
    refine WD.all2 (i := 13) (j := 18) (by kernel_rfl) ?_ ?_
    ·
      refine WS.op (i := 13) rfl rfl rfl (op_addStr rfl rfl (by decide +kernel) ?_)
      have hq := st7_55 b22221 wS HS
      rw [hW] at hq
      refine WD.cov ?_ hq
      exact by repeat (first | exact trivial | refine ⟨rfl, ?_⟩)
    ·
      refine WS.op (i := 18) rfl rfl rfl (op_alloc HS Fa.I59 (fun b22361 w22361 H22361 => ?_))
      have hq := st7_56 b22361 b22221 w22361 H22361
      rw [hW] at hq
      refine WD.cov ?_ hq
      exact by repeat (first | exact trivial | refine ⟨rfl, ?_⟩)
  have st7_53 : ∀ (b22361 : _) (b22221 : _) (wS : World), Own [] w wS (l7 [.row (.slice (some ⟨b22221, 0, none⟩) 1 1) 5 1 1 (List.map vU8 [(zz2 + (1 : UInt8))]), .blk b22361 [(vU32 0), (.slice none 0 0), (.slice none 0 0), (.bool false), (vU32 0), (.slice none 0 0)] 59]) → W 8 #[true, true, true, true, true, true, true, true, true, true, true, true, false, false, false, false, false, false, true, false, false] (e7 [(8, (ptr b22361 0)), (40, zz5), (41, zz4), (42, (str zz3)), (45, zz5), (46, zz4), (47, (vU8 zz2)), (48, (vU8 (zz2 + (1 : UInt8)))), (49, (.slice (some ⟨b22221, 0, none⟩) 1 1))]) wS := by
    intro b22361 b22221 wS HS
    rw [hW]
    refine WD.all1 (i := 12) (by kernel_rfl) ?_
    ·
      refine WS.op (i := 12) rfl rfl rfl (op_bytesStr (l := [(zz2 + (1 : UInt8))]) Try.underlying73 Try.underlying5 Try.underlying9 rfl (HS.arrR (i := 10) rfl) rfl ?_)
      have hq := st7_56 b22361 b22221 wS HS
      rw [hW] at hq
      refine WD.cov ?_ hq
      exact by repeat (first | exact trivial | refine ⟨rfl, ?_⟩)
  have st7_54 : ∀ (b22361 : _) (b22221 : _) (wS : World), Own [] w wS (l7 [.row (.slice (some ⟨b22221, 0, none⟩) 1 1) 5 1 1 (List.map vU8 [(zz2 + (1 : UInt8))]), .blk b22361 [(vU32 0), (.slice none 0 0), (.slice none 0 0), (.bool false), (vU32 0), (.slice none 0 0)] 59]) → W 8 #[true, true, true, true, false, true, true, true, true, true, true, true, true, false, false, false, false, false, true, false, false] (e7 [(8, (ptr b22361 0)), (40, zz5), (41, zz4), (45, zz5), (46, zz4), (47, (vU8 zz2)), (48, (vU8 (zz2 + (1 : UInt8)))), (49, (.slice (some ⟨b22221, 0, none⟩) 1 1)), (50, (str [(zz2 + (1 : UInt8))]))]) wS := by
    intro b22361 b22221 wS HS
    rw [hW]
    refine WD.all1 (i := 4) (by kernel_rfl) ?_
    ·
      refine WS.op (i := 4) rfl rfl rfl (op_sliceStrHi Try.underlying9 rfl rfl (by decide +kernel) ?_)
      have hq := st7_56 b22361 b22221 wS HS
      rw [hW] at hq
      refine WD.cov ?_ hq
      exact by repeat (first | exact trivial | refine ⟨rfl, ?_⟩)
  have st7_47 : ∀ (b22221 : _) (wS : World), Own [] w wS (l7 [.row (.slice (some ⟨b22221, 0, none⟩) 1 1) 5 1 1 (List.map vU8 [(zz2 + (1 : UInt8))])]) → W 9 #[true, true, true, true, true, true, true, true, true, true, true, true, false, false, false, false, false, false, false, false, false] (e7 [(40, zz5), (41, zz4), (42, (str zz3)), (45, zz5), (46, zz4), (47, (vU8 zz2)), (48, (vU8 (zz2 + (1 : UInt8)))), (49, (.slice (some ⟨b22221, 0, none⟩) 1 1))]) wS := by
    intro b22221 wS HS
    rw [hW]
    refine WD.all2 (i := 12) (j := 18) (by kernel_rfl) ?_ ?_
    ·
      refine WS.op (i := 12) rfl rfl rfl (op_bytesStr (l := [(zz2 + (1 : UInt8))]) Try.underlying73 Try.underlying5 Try.underlying9 rfl (HS.arrR (i := 10) rfl) rfl ?_)
      have hq := st7_52 b22221 wS HS
      rw [hW] at hq
      refine WD.cov ?_ hq
      exact by repeat (first | exact trivial | refine ⟨rfl, ?_⟩)
    ·
      refine WS.op (i := 18) rfl rfl rfl (op_alloc HS Fa.I59 (fun b22361 w22361 H22361 => ?_))
      have hq := st7_53 b22361 b22221 w22361 H22361
      rw [hW] at hq
      refine WD.cov ?_ hq
      exact by repeat (first | exact trivial | refine ⟨rfl, ?_⟩)
  have st7_48 : ∀ (b22361 : _) (wS : World), Own [] w wS (l7 [.blk b22361 [(vU32 0), (.slice none 0 0), (.slice none 0 0), (.bool false), (vU32 0), (.slice none 0 0)] 59]) → W 9 #[true, true, true, true, true, true, true, true, true, true, true, false, false, false, false, false, false, false, true, false, false] (e7 [(8, (ptr b22361 0)), (40, zz5), (41, zz4), (42, (str zz3)), (45, zz5), (46, zz4), (47, (vU8 zz2)), (48, (vU8 (zz2 + (1 : UInt8))))]) wS := by
    intro b22361 wS HS
    rw [hW]
    refine WD.all1 (i := 11) (by kernel_rfl) ?_
    ·
      refine WS.op (i := 11) rfl rfl rfl (op_buildSlice (cs := [_]) HS Try.underlying73 Fa.I5 rfl rfl rfl rfl (by decide) (by decide) (fun b22221 w22221 H22221 => ?_))
      have hq := st7_53 b22361 b22221 w22221 (H22221.sel [0, 1, 2, 3, 4, 5, 6, 7, 8, 9, 11, 10] rfl rfl)
      rw [hW] at hq
      refine WD.cov ?_ hq
      exact by repeat (first | exact trivial | refine ⟨rfl, ?_⟩)
  have st7_49 : ∀ (b22221 : _) (wS : World), Own [] w wS (l7 [.row (.slice (some ⟨b22221, 0, none⟩) 1 1) 5 1 1 (List.map vU8 [(zz2 + (1 : UInt8))])]) → W 9 #[true, true, true, true, false, true, true, true, true, true, true, true, true, false, false, false, false, false, false, false, false] (e7 [(40, zz5), (41, zz4), (45, zz5), (46, zz4), (47, (vU8 zz2)), (48, (vU8 (zz2 + (1 : UInt8)))), (49, (.slice (some ⟨b22221, 0, none⟩) 1 1)), (50, (str [(zz2 + (1 : UInt8))]))]) wS := by
    intro b22221 wS HS
    rw [hW]
    refine WD.all2 (i := 4) (j := 18) (by kernel_rfl) ?_ ?_
    ·
      refine WS.op (i := 4) rfl rfl rfl (op_sliceStrHi Try.underlying9 rfl rfl (by decide +kernel) ?_)
      have hq := st7_52 b22221 wS HS
      rw [hW] at hq
      refine WD.cov ?_ hq
      exact by repeat (first | exact trivial | refine ⟨rfl, ?_⟩)
    ·
      refine WS.op (i := 18) rfl rfl rfl (op_alloc HS Fa.I59 (fun b22361 w22361 H22361 => ?_))
      have hq := st7_54 b22361 b22221 w22361 H22361
      rw [hW] at hq
      refine WD.cov ?_ hq
      exact by repeat (first | exact trivial | refine ⟨rfl, ?_⟩)
  have st7_50 : ∀ (b22361 : _) (b22221 : _) (wS : World), Own [] w wS (l7 [.row (.slice (some ⟨b22221, 0, none⟩) 1 1) 5 1 1 (List.map vU8 [(zz2 + (1 : UInt8))]), .blk b22361 [(vU32 0), (.slice none 0 0), (.slice none 0 0), (.bool false), (vU32 0), (.slice none 0 0)] 59]) → W 9 #[true, true, true, true, false, true, true, true, true, true, true, true, false, false, false, false, false, false, true, false, false] (e7 [(8, (ptr b22361 0)), (40, zz5), (41, zz4), (45, zz5), (46, zz4), (47, (vU8 zz2)), (48, (vU8 (zz2 + (1 : UInt8)))), (49, (.slice (some ⟨b22221, 0, none⟩) 1 1))]) wS := by
    intro b22361 b22221 wS HS
    rw [hW]
    refine WD.all2 (i := 4) (j := 12) (by kernel_rfl) ?_ ?_
    ·
      refine WS.op (i := 4) rfl rfl rfl (op_sliceStrHi Try.underlying9 rfl rfl (by decide +kernel) ?_)
      have hq := st7_53 b22361 b22221 wS HS
      rw [hW] at hq
      refine WD.cov ?_ hq
      exact by repeat (first | exact trivial | refine ⟨rfl, ?_⟩)
    ·
      refine WS.op (i := 12) rfl rfl rfl (op_bytesStr (l := [(zz2 + (1 : UInt8))]) Try.underlying73 Try.underlying5 Try.underlying9 rfl (HS.arrR (i := 10) rfl) rfl ?_)
      have hq := st7_54 b22361 b22221 wS HS
      rw [hW] at hq
      refine WD.cov ?_ hq
      exact by repeat (first | exact trivial | refine ⟨rfl, ?_⟩)
  have st7_51 : ∀ (b22361 : _) (b22221 : _) (wS : World), Own [] w wS (l7 [.row (.slice (some ⟨b22221, 0, none⟩) 1 1) 5 1 1 (List.map vU8 [(zz2 + (1 : UInt8))]), .blk b22361 [(vU32 0), (.slice none 0 0), (.slice none 0 0), (.bool false), (vU32 0), (.slice none 0 0)] 59]) → W 9 #[true, true, true, false, false, true, true, true, true, true, true, true, true, false, false, false, false, false, true, false, false] (e7 [(8, (ptr b22361 0)), (40, zz5), (45, zz5), (46, zz4), (47, (vU8 zz2)), (48, (vU8 (zz2 + (1 : UInt8)))), (49, (.slice (some ⟨b22221, 0, none⟩) 1 1)), (50, (str [(zz2 + (1 : UInt8))]))]) wS := by
    intro b22361 b22221 wS HS
    rw [hW]
    refine WD.all1 (i := 3) (by kernel_rfl) ?_
    ·
      refine WS.op (i := 3) rfl rfl rfl (op_subN (b := 1) rfl rfl (by decide +kernel) (by decide +kernel) ?_)
      have hq := st7_54 b22361 b22221 wS HS
      rw [hW] at hq
      refine WD.cov ?_ hq
      exact by repeat (first | exact trivial | refine ⟨rfl, ?_⟩)
  have st7_40 : ∀ (wS : World), Own [] w wS (l7 []) → W 10 #[true, true, true, true, true, true, true, true, true, true, true, false, false, false, false, false, false, false, false, false, false] (e7 [(40, zz5), (41, zz4), (42, (str zz3)), (45, zz5), (46, zz4), (47, (vU8 zz2)), (48, (vU8 (zz2 + (1 : UInt8))))]) wS := by
    intro wS HS
    rw [hW]
    refine WD.all2 (i := 11) (j := 18) (by kernel_rfl) ?_ ?_
    ·
      refine WS.op (i := 11) rfl rfl rfl (op_buildSlice (cs := [_]) HS Try.underlying73 Fa.I5 rfl rfl rfl rfl (by decide) (by decide) (fun b22221 w22221 H22221 => ?_))
      have hq := st7_47 b22221 w22221 H22221
      rw [hW] at hq
      refine WD.cov ?_ hq
      exact by repeat (first | exact trivial | refine ⟨rfl, ?_⟩)
    ·
      refine WS.op (i := 18) rfl rfl rfl (op_alloc HS Fa.I59 (fun b22361 w22361 H22361 => ?_))
      have hq := st7_48 b22361 w22361 H22361
      rw [hW] at hq
      refine WD.cov ?_ hq
      exact by repeat (first | exact trivial | refine ⟨rfl, ?_⟩)
  have st7_41 : ∀ (b22361 : _) (wS : World), Own [] w wS (l7 [.blk b22361 [(vU32 0), (.slice none 0 0), (.slice none 0 0), (.bool false), (vU32 0), (.slice none 0 0)] 59]) → W 10 #[true, true, true, true, true, true, true, true, true, true, false, false, false, false, false, false, false, false, true, false, false] (e7 [(8, (ptr b22361 0)), (40, zz5), (41, zz4), (42, (str zz3)), (45, zz5), (46, zz4), (47, (vU8 zz2))]) wS := by
    intro b22361 wS HS
    rw [hW]
    refine WD.all1 (i := 10) (by kernel_rfl) ?_
    ·
      refine WS.op (i := 10) rfl rfl rfl (op_addU8 (b := 1) rfl rfl ?_)
      have hq := st7_48 b22361 wS HS
      rw [hW] at hq
      refine WD.cov ?_ hq
      exact by repeat (first | exact trivial | refine ⟨rfl, ?_⟩)
  have st7_42 : ∀ (b22221 : _) (wS : World), Own [] w wS (l7 [.row (.slice (some ⟨b22221, 0, none⟩) 1 1) 5 1 1 (List.map vU8 [(zz2 + (1 : UInt8))])]) → W 10 #[true, true, true, true, false, true, true, true, true, true, true, true, false, false, false, false, false, false, false, false, false] (e7 [(40, zz5), (41, zz4), (45, zz5), (46, zz4), (47, (vU8 zz2)), (48, (vU8 (zz2 + (1 : UInt8)))), (49, (.slice (some ⟨b22221, 0, none⟩) 1 1))]) wS := by
    intro b22221 wS HS
    rw [hW]
    refine WD.all3 (i := 4) (j := 12) (m := 18) (by kernel_rfl) ?_ ?_ ?_
    ·
      refine WS.op (i := 4) rfl rfl rfl (op_sliceStrHi Try.underlying9 rfl rfl (by decide +kernel) ?_)
      have hq := st7_47 b22221 wS HS
      rw [hW] at hq
      refine WD.cov ?_ hq
      exact by repeat (first | exact trivial | refine ⟨rfl, ?_⟩)
    ·
      refine WS.op (i := 12) rfl rfl rfl (op_bytesStr (l := [(zz2 + (1 : UInt8))]) Try.underlying73 Try.underlying5 Try.underlying9 rfl (HS.arrR (i := 10) rfl) rfl ?_)
      have hq := st7_49 b22221 wS HS
      rw [hW] at hq
      refine WD.cov ?_ hq
      exact by repeat (first | exact trivial | refine ⟨rfl, ?_⟩)
    ·
      refine WS.op (i := 18) rfl rfl rfl (op_alloc HS Fa.I59 (fun b22361 w22361 H22361 => ?_))
      have hq := st7_50 b22361 b22221 w22361 H22361
      rw [hW] at hq
      refine WD.cov ?_ hq
      exact by repeat (first | exact trivial | refine ⟨rfl, ?_⟩)
  have st7_43 : ∀ (b22361 : _) (wS : World), Own [] w wS (l7 [.blk b22361 [(vU32 0), (.slice none 0 0), (.slice none 0 0), (.bool false), (vU32 0), (.slice none 0 0)] 59]) → W 10 #[true, true, true, true, false, true, true, true, true, true, true, false, false, false, false, false, false, false, true, false, false] (e7 [(8, (ptr b22361 0)), (40, zz5), (41, zz4), (45, zz5), (46, zz4), (47, (vU8 zz2)), (48, (vU8 (zz2 + (1 : UInt8))))]) wS := by
    intro b22361 wS HS
    rw [hW]
    refine WD.all2 (i := 4) (j := 11) (by kernel_rfl) ?_ ?_
    ·
      refine WS.op (i := 4) rfl rfl rfl (op_sliceStrHi Try.underlying9 rfl rfl (by decide +kernel) ?_)
      have hq := st7_48 b22361 wS HS
      rw [hW] at hq
      refine WD.cov ?_ hq
      exact by repeat (first | exact trivial | refine ⟨rfl, ?_⟩)
    ·
      refine WS.op (i := 11) rfl rfl rfl (op_buildSlice (cs := [_]) HS Try.underlying73 Fa.I5 rfl rfl rfl rfl (by decide) (by decide) (fun b22221 w22221 H22221 => ?_))
      have hq := st7_50 b22361 b22221 w22221 (H22221.sel [0, 1, 2, 3, 4, 5, 6, 7, 8, 9, 11, 10] rfl rfl)
      rw [hW] at hq
      refine WD.cov ?_ hq
      exact by repeat (first | exact trivial | refine ⟨rfl, ?_⟩)
  have st7_44 : ∀ (b22221 : _) (wS : World), Own [] w wS (l7 [.row (.slice (some ⟨b22221, 0, none⟩) 1 1) 5 1 1 (List.map vU8 [(zz2 + (1 : UInt8))])]) → W 10 #[true, true, true, false, false, true, true, true, true, true, true, true, true, false, false, false, false, false, false, false, false] (e7 [(40, zz5), (45, zz5), (46, zz4), (47, (vU8 zz2)), (48, (vU8 (zz2 + (1 : UInt8)))), (49, (.slice (some ⟨b22221, 0, none⟩) 1 1)), (50, (str [(zz2 + (1 : UInt8))]))]) wS := by
    intro b22221 wS HS
    rw [hW]
    refine WD.all2 (i := 3) (j := 18) (by kernel_rfl) ?_ ?_
    ·
      refine WS.op (i := 3) rfl rfl rfl (op_subN (b := 1) rfl rfl (by decide +kernel) (by decide +kernel) ?_)
      have hq := st7_49 b22221 wS HS
      rw [hW] at hq
      refine WD.cov ?_ hq
      exact by repeat (first | exact trivial | refine ⟨rfl, ?_⟩)
    ·
      refine WS.op (i := 18) rfl rfl rfl (op_alloc HS Fa.I59 (fun b22361 w22361 H22361 => ?_))
      have hq := st7_51 b22361 b22221 w22361 H22361
      rw [hW] at hq
      refine WD.cov ?_ hq
      exact by repeat (first | exact trivial | refine ⟨rfl, ?_⟩)
  have st7_45 : ∀ (b22361 : _) (b22221 : _) (wS : World), Own [] w wS (l7 [.row (.slice (some ⟨b22221, 0, none⟩) 1 1) 5 1 1 (List.map vU8 [(zz2 + (1 : UInt8))]), .blk b22361 [(vU32 0), (.slice none 0 0), (.slice none 0 0), (.bool false), (vU32 0), (.slice none 0 0)] 59]) → W 10 #[true, true, true, false, false, true, true, true, true, true, true, true, false, false, false, false, false, false, true, false, false] (e7 [(8, (ptr b22361 0)), (40, zz5), (45, zz5), (46, zz4), (47, (vU8 zz2)), (48, (vU8 (zz2 + (1 : UInt8)))), (49, (.slice (some ⟨b22221, 0, none⟩) 1 1))]) wS := by
    intro b22361 b22221 wS HS
    rw [hW]
    refine WD.all2 (i := 3) (j := 12) (by kernel_rfl) ?_ ?_
    ·
      refine WS.op (i := 3) rfl rfl rfl (op_subN (b := 1) rfl rfl (by decide +kernel) (by decide +kernel) ?_)
      have hq := st7_50 b22361 b22221 wS HS
      rw [hW] at hq
      refine WD.cov ?_ hq
      exact by repeat (first | exact trivial | refine ⟨rfl, ?_⟩)
    ·
      refine WS.op (i := 12) rfl rfl rfl (op_bytesStr (l := [(zz2 + (1 : UInt8))]) Try.underlying73 Try.underlying5 Try.underlying9 rfl (HS.arrR (i := 10) rfl) rfl ?_)
      have hq := st7_51 b22361 b22221 wS HS
      rw [hW] at hq
      refine WD.cov ?_ hq
      exact by repeat (first | exact trivial | refine ⟨rfl, ?_⟩)
  have st7_46 : ∀ (b22361 : _) (b22221 : _) (wS : World), Own [] w wS (l7 [.row (.slice (some ⟨b22221, 0, none⟩) 1 1) 5 1 1 (List.map vU8 [(zz2 + (1 : UInt8))]), .blk b22361 [(vU32 0), (.slice none 0 0), (.slice none 0 0), (.bool false), (vU32 0), (.slice none 0 0)] 59]) → W 10 #[true, true, false, false, false, true, true, true, true, true, true, true, true, false, false, false, false, false, true, false, false] (e7 [(8, (ptr b22361 0)), (45, zz5), (46, zz4), (47, (vU8 zz2)), (48, (vU8 (zz2 + (1 : UInt8)))), (49, (.slice (some ⟨b22221, 0, none⟩) 1 1)), (50, (str [(zz2 + (1 : UInt8))]))]) wS := by
    intro b22361 b22221 wS HS
    rw [hW]
    refine WD.all1 (i := 2) (by kernel_rfl) ?_
    ·
      refine WS.op (i := 2) rfl rfl rfl (op_lenStr Try.underlying9 rfl ?_)
      have hq := st7_51 b22361 b22221 wS HS
      rw [hW] at hq
      refine WD.cov ?_ hq
      exact by repeat (first | exact trivial | refine ⟨rfl, ?_⟩)
  have st7_32 : ∀ (wS : World), Own [] w wS (l7 []) → W 11 #[true, true, true, true, true, true, true, true, true, true, false, false, false, false, false, false, false, false, false, false, false] (e7 [(40, zz5), (41, zz4), (42, (str zz3)), (45, zz5), (46, zz4), (47, (vU8 zz2))]) wS := by
    intro wS HS
    rw [hW]
    refine WD.all2 (i := 10) (j := 18) (by kernel_rfl) ?_ ?_
    ·
      refine WS.op (i := 10) rfl rfl rfl (op_addU8 (b := 1) rfl rfl ?_)
      have hq := st7_40 wS HS
      rw [hW] at hq
      refine WD.cov ?_ hq
      exact by repeat (first | exact trivial | refine ⟨rfl, ?_⟩)
    ·
      refine WS.op (i := 18) rfl rfl rfl (op_alloc HS Fa.I59 (fun b22361 w22361 H22361 => ?_))
      have hq := st7_41 b22361 w22361 H22361
      rw [hW] at hq
      refine WD.cov ?_ hq
      exact by repeat (first | exact trivial | refine ⟨rfl, ?_⟩)
  have st7_33 : ∀ (b22361 : _) (wS : World), Own [] w wS (l7 [.blk b22361 [(vU32 0), (.slice none 0 0), (.slice none 0 0), (.bool false), (vU32 0), (.slice none 0 0)] 59]) → W 11 #[true, true, true, true, true, true, true, true, true, false, false, false, false, false, false, false, false, false, true, false, false] (e7 [(8, (ptr b22361 0)), (40, zz5), (41, zz4), (42, (str zz3)), (45, zz5), (46, zz4)]) wS := by
    intro b22361 wS HS
    rw [hW]
    refine WD.all1 (i := 9) (by kernel_rfl) ?_
    ·
      refine WS.op (i := 9) rfl rfl rfl (op_indexStrD Try.underlying9 rfl rfl (by decide +kernel) ?_)
      have hq := st7_41 b22361 wS HS
      rw [hW] at hq
      refine WD.cov ?_ hq
      exact by repeat (first | exact trivial | refine ⟨rfl, ?_⟩)
  have st7_34 : ∀ (wS : World), Own [] w wS (l7 []) → W 11 #[true, true, true, true, false, true, true, true, true, true, true, false, false, false, false, false, false, false, false, false, false] (e7 [(40, zz5), (41, zz4), (45, zz5), (46, zz4), (47, (vU8 zz2)), (48, (vU8 (zz2 + (1 : UInt8))))]) wS := by
    intro wS HS
    rw [hW]
    refine WD.all3 (i := 4) (j := 11) (m := 18) (by kernel_rfl) ?_ ?_ ?_
    ·
      refine WS.op (i := 4) rfl rfl rfl (op_sliceStrHi Try.underlying9 rfl rfl (by decide +kernel) ?_)
      have hq := st7_40 wS HS
      rw [hW] at hq
      refine WD.cov ?_ hq
      exact by repeat (first | exact trivial | refine ⟨rfl, ?_⟩)
    ·
      refine WS.op (i := 11) rfl rfl rfl (op_buildSlice (cs := [_]) HS Try.underlying73 Fa.I5 rfl rfl rfl rfl (by decide) (by decide) (fun b22221 w22221 H22221 => ?_))
      have hq := st7_42 b22221 w22221 H22221
      rw [hW] at hq
      refine WD.cov ?_ hq
      exact by repeat (first | exact trivial | refine ⟨rfl, ?_⟩)
    ·
      refine WS.op (i := 18) rfl rfl rfl (op_alloc HS Fa.I59 (fun b22361 w22361 H22361 => ?_))
      have hq := st7_43 b22361 w22361 H22361
      rw [hW] at hq
      refine WD.cov ?_ hq
      exact by repeat (first | exact trivial | refine ⟨rfl, ?_⟩)
  have st7_35 : ∀ (b22361 : _) (wS : World), Own [] w wS (l7 [.blk b22361 [(vU32 0), (.slice none 0 0), (.slice none 0 0), (.bool false), (vU32 0), (.slice none 0 0)] 59]) → W 11 #[true, true, true, true, false, true, true, true, true, true, false, false, false, false, false, false, false, false, true, false, false] (e7 [(8, (ptr b22361 0)), (40, zz5), (41, zz4), (45, zz5), (46, zz4), (47, (vU8 zz2))]) wS := by
    intro b22361 wS HS
    rw [hW]
    refine WD.all2 (i := 4) (j := 10) (by kernel_rfl) ?_ ?_
    ·
      refine WS.op (i := 4) rfl rfl rfl (op_sliceStrHi Try.underlying9 rfl rfl (by decide +kernel) ?_)
      have hq := st7_41 b22361 wS HS
      rw [hW] at hq
      refine WD.cov ?_ hq
      exact by repeat (first | exact trivial | refine ⟨rfl, ?_⟩)
    ·
      refine WS.op (i := 10) rfl rfl rfl (op_addU8 (b := 1) rfl rfl ?_)
      have hq := st7_43 b22361 wS HS
      rw [hW] at hq
      refine WD.cov ?_ hq
      exact by repeat (first | exact trivial | refine ⟨rfl, ?_⟩)
  have st7_36 : ∀ (b22221 : _) (wS : World), Own [] w wS (l7 [.row (.slice (some ⟨b22221, 0, none⟩) 1 1) 5 1 1 (List.map vU8 [(zz2 + (1 : UInt8))])]) → W 11 #[true, true, true, false, false, true, true, true, true, true, true, true, false, false, false, false, false, false, false, false, false] (e7 [(40, zz5), (45, zz5), (46, zz4), (47, (vU8 zz2)), (48, (vU8 (zz2 + (1 : UInt8)))), (49, (.slice (some ⟨b22221, 0, none⟩) 1 1))]) wS := by
    intro b22221 wS HS
    rw [hW]
    refine WD.all3 (i := 3) (j := 12) (m := 18) (by kernel_rfl) ?_ ?_ ?_
    ·
      refine WS.op (i := 3) rfl rfl rfl (op_subN (b := 1) rfl rfl (by decide +kernel) (by decide +kernel) ?_)
      have hq := st7_42 b22221 wS HS
      rw [hW] at hq
      refine WD.cov ?_ hq
      exact by repeat (first | exact trivial | refine ⟨rfl, ?_⟩)
    ·
      refine WS.op (i := 12) rfl rfl rfl (op_bytesStr (l := [(zz2 + (1 : UInt8))]) Try.underlying73 Try.underlying5 Try.underlying9 rfl (HS.arrR (i := 10) rfl) rfl ?_)
      have hq := st7_44 b22221 wS HS
      rw [hW] at hq
      refine WD.cov ?_ hq
      exact by repeat (first | exact trivial | refine ⟨rfl, ?_⟩)
    ·
      refine WS.op (i := 18) rfl rfl rfl (op_alloc HS Fa.I59 (fun b22361 w22361 H22361 => ?_))
      have hq := st7_45 b22361 b22221 w22361 H22361
      rw [hW] at hq
      refine WD.cov ?_ hq
      exact by repeat (first | exact trivial | refine ⟨rfl, ?_⟩)
  have st7_37 : ∀ (b22361 : _) (wS : World), Own [] w wS (l7 [.blk b22361 [(vU32 0), (.slice none 0 0), (.slice none 0 0), (.bool false), (vU32 0), (.slice none 0 0)] 59]) → W 11 #[true, true, true, false, false, true, true, true, true, true, true, false, false, false, false, false, false, false, true, false, false] (e7 [(8, (ptr b22361 0)), (40, zz5), (45, zz5), (46, zz4), (47, (vU8 zz2)), (48, (vU8 (zz2 + (1 : UInt8))))]) wS := by
    intro b22361 wS HS
    rw [hW]
    refine WD.all2 (i := 3) (j := 11) (by kernel_rfl) ?_ ?_
    ·
      refine WS.op (i := 3) rfl rfl rfl (op_subN (b := 1) rfl rfl (by decide +kernel) (by decide +kernel) ?_)
      have hq := st7_43 b22361 wS HS
      rw [hW] at hq
      refine WD.cov ?_ hq
      exact by repeat (first | exact trivial | refine ⟨rfl, ?_⟩)
    ·
      refine WS.op (i := 11) rfl rfl rfl (op_buildSlice (cs := [_]) HS Try.underlying73 Fa.I5 rfl rfl rfl rfl (by decide) (by decide) (fun b22221 w22221 H22221 => ?_))
      have hq := st7_45 b22361 b22221 w22221 (H22221.sel [0, 1, 2, 3, 4, 5, 6, 7, 8, 9, 11, 10] rfl rfl)
      rw [hW] at hq
      refine WD.cov ?_ hq
      exact by repeat (first | exact trivial | refine ⟨rfl, ?_⟩)
  have st7_38 : ∀ (b22221 : _) (wS : World), Own [] w wS (l7 [.row (.slice (some ⟨b22221, 0, none⟩) 1 1) 5 1 1 (List.map vU8 [(zz2 + (1 : UInt8))])]) → W 11 #[true, true, false, false, false, true, true, true, true, true, true, true, true, false, false, false, false, false, false, false, false] (e7 [(45, zz5), (46, zz4), (47, (vU8 zz2)), (48, (vU8 (zz2 + (1 : UInt8)))), (49, (.slice (some ⟨b22221, 0, none⟩) 1 1)), (50, (str [(zz2 + (1 : UInt8))]))]) wS := by
    intro b22221 wS HS
    rw [hW]
    refine WD.all2 (i := 2) (j := 18) (by kernel_rfl) ?_ ?_
    ·
      refine WS.op (i := 2) rfl rfl rfl (op_lenStr Try.underlying9 rfl ?_)
      have hq := st7_44 b22221 wS HS
      rw [hW] at hq
      refine WD.cov ?_ hq
      exact by repeat (first | exact trivial | refine ⟨rfl, ?_⟩)
    ·
      refine WS.op (i := 18) rfl rfl rfl (op_alloc HS Fa.I59 (fun b22361 w22361 H22361 => ?_))
      have hq := st7_46 b22361 b22221 w22361 H22361
      rw [hW] at hq
      refine WD.cov ?_ hq
      exact by repeat (first | exact trivial | refine ⟨rfl, ?_⟩)
  have st7_39 : ∀ (b22361 : _) (b22221 : _) (wS : World), Own [] w wS (l7 [.row (.slice (some ⟨b22221, 0, none⟩) 1 1) 5 1 1 (List.map vU8 [(zz2 + (1 : UInt8))]), .blk b22361 [(vU32 0), (.slice none 0 0), (.slice none 0 0), (.bool false), (vU32 0), (.slice none 0 0)] 59]) → W 11 #[true, true, false, false, false, true, true, true, true, true, true, true, false, false, false, false, false, false, true, false, false] (e7 [(8, (ptr b22361 0)), (45, zz5), (46, zz4), (47, (vU8 zz2)), (48, (vU8 (zz2 + (1 : UInt8)))), (49, (.slice (some ⟨b22221, 0, none⟩) 1 1))]) wS := by
    intro b22361 b22221 wS HS
    rw [hW]
    refine WD.all2 (i := 2) (j := 12) (by kernel_rfl) ?_ ?_
    ·
      refine WS.op (i := 2) rfl rfl rfl (op_lenStr Try.underlying9 rfl ?_)
      have hq := st7_45 b22361 b22221 wS HS
      rw [hW] at hq
      refine WD.cov ?_ hq
      exact by repeat (first | exact trivial | refine ⟨rfl, ?_⟩)
    ·
      refine WS.op (i := 12) rfl rfl rfl (op_bytesStr (l := [(zz2 + (1 : UInt8))]) Try.underlying73 Try.underlying5 Try.underlying9 rfl (HS.arrR (i := 10) rfl) rfl ?_)
      have hq := st7_46 b22361 b22221 wS HS
      rw [hW] at hq
      refine WD.cov ?_ hq
      exact by repeat (first | exact trivial | refine ⟨rfl, ?_⟩)
  have st7_24 : ∀ (wS : World), Own [] w wS (l7 []) → W 12 #[true, true, true, true, true, true, true, true, true, false, false, false, false, false, false, false, false, false, false, false, false] (e7 [(40, zz5), (41, zz4), (42, (str zz3)), (45, zz5), (46, zz4)]) wS := by
    intro wS HS
    rw [hW]
    refine WD.all2 (i := 9) (j := 18) (by kernel_rfl) ?_ ?_
    ·
      refine WS.op (i := 9) rfl rfl rfl (op_indexStrD Try.underlying9 rfl rfl (by decide +kernel) ?_)
      have hq := st7_32 wS HS
      rw [hW] at hq
      refine WD.cov ?_ hq
      exact by repeat (first | exact trivial | refine ⟨rfl, ?_⟩)
    ·
      refine WS.op (i := 18) rfl rfl rfl (op_alloc HS Fa.I59 (fun b22361 w22361 H22361 => ?_))
      have hq := st7_33 b22361 w22361 H22361
      rw [hW] at hq
      refine WD.cov ?_ hq
      exact by repeat (first | exact trivial | refine ⟨rfl, ?_⟩)
  have st7_25 : ∀ (b22361 : _) (wS : World), Own [] w wS (l7 [.blk b22361 [(vU32 0), (.slice none 0 0), (.slice none 0 0), (.bool false), (vU32 0), (.slice none 0 0)] 59]) → W 12 #[true, true, true, true, true, true, true, true, false, false, false, false, false, false, false, false, false, false, true, false, false] (e7 [(8, (ptr b22361 0)), (40, zz5), (41, zz4), (42, (str zz3)), (45, zz5)]) wS := by
    intro b22361 wS HS
    rw [hW]
    refine WD.all1 (i := 8) (by kernel_rfl) ?_
    ·
      refine WS.op (i := 8) rfl rfl rfl (op_subN (b := 1) rfl rfl (by decide +kernel) (by decide +kernel) ?_)
      have hq := st7_33 b22361 wS HS
      rw [hW] at hq
      refine WD.cov ?_ hq
      exact by repeat (first | exact trivial | refine ⟨rfl, ?_⟩)
  have st7_26 : ∀ (wS : World), Own [] w wS (l7 []) → W 12 #[true, true, true, true, false, true, true, true, true, true, false, false, false, false, false, false, false, false, false, false, false] (e7 [(40, zz5), (41, zz4), (45, zz5), (46, zz4), (47, (vU8 zz2))]) wS := by
    intro wS HS
    rw [hW]
    refine WD.all3 (i := 4) (j := 10) (m := 18) (by kernel_rfl) ?_ ?_ ?_
    ·
      refine WS.op (i := 4) rfl rfl rfl (op_sliceStrHi Try.underlying9 rfl rfl (by decide +kernel) ?_)
      have hq := st7_32 wS HS
      rw [hW] at hq
      refine WD.cov ?_ hq
      exact by repeat (first | exact trivial | refine ⟨rfl, ?_⟩)
    ·
      refine WS.op (i := 10) rfl rfl rfl (op_addU8 (b := 1) rfl rfl ?_)
      have hq := st7_34 wS HS
      rw [hW] at hq
      refine WD.cov ?_ hq
      exact by repeat (first | exact trivial | refine ⟨rfl, ?_⟩)
    ·
      refine WS.op (i := 18) rfl rfl rfl (op_alloc HS Fa.I59 (fun b22361 w22361 H22361 => ?_))
      have hq := st7_35 b22361 w22361 H22361
      rw [hW] at hq
      refine WD.cov ?_ hq
      exact by repeat (first | exact trivial | refine ⟨rfl, ?_⟩)
  have st7_27 : ∀ (b22361 : _) (wS : World), Own [] w wS (l7 [.blk b22361 [(vU32 0), (.slice none 0 0), (.slice none 0 0), (.bool false), (vU32 0), (.slice none 0 0)] 59]) → W 12 #[true, true, true, true, false, true, true, true, true, false, false, false, false, false, false, false, false, false, true, false, false] (e7 [(8, (ptr b22361 0)), (40, zz5), (41, zz4), (45, zz5), (46, zz4)]) wS := by
    intro b22361 wS HS
    rw [hW]
    refine WD.all2 (i := 4) (j := 9) (by kernel_rfl) ?_ ?_
    ·
      refine WS.op (i := 4) rfl rfl rfl (op_sliceStrHi Try.underlying9 rfl rfl (by decide +kernel) ?_)
      have hq := st7_33 b22361 wS HS
      rw [hW] at hq
      refine WD.cov ?_ hq
      exact by repeat (first | exact trivial | refine ⟨rfl, ?_⟩)
    ·
      refine WS.op (i := 9) rfl rfl rfl (op_indexStrD Try.underlying9 rfl rfl (by decide +kernel) ?_)
      have hq := st7_35 b22361 wS HS
      rw [hW] at hq
      refine WD.cov ?_ hq
      exact by repeat (first | exact trivial | refine ⟨rfl, ?_⟩)
  have st7_28 : ∀ (wS : World), Own [] w wS (l7 []) → W 12 #[true, true, true, false, false, true, true, true, true, true, true, false, false, false, false, false, false, false, false, false, false] (e7 [(40, zz5), (45, zz5), (46, zz4), (47, (vU8 zz2)), (48, (vU8 (zz2 + (1 : UInt8))))]) wS := by
    intro wS HS
    rw [hW]
    refine WD.all3 (i := 3) (j := 11) (m := 18) (by kernel_rfl) ?_ ?_ ?_
    ·
      refine WS.op (i := 3) rfl rfl rfl (op_subN (b := 1) rfl rfl (by decide +kernel) (by decide +kernel) ?_)
      have hq := st7_34 wS HS
      rw [hW] at hq
      refine WD.cov ?_ hq
      exact by repeat (first | exact trivial | refine ⟨rfl, ?_⟩)
    ·
      refine WS.op (i := 11) rfl rfl rfl (op_buildSlice (cs := [_]) HS Try.underlying73 Fa.I5 rfl rfl rfl rfl (by decide) (by decide) (fun b22221 w22221 H22221 => ?_))
      have hq := st7_36 b22221 w22221 H22221
      rw [hW] at hq
      refine WD.cov ?_ hq
      exact by repeat (first | exact trivial | refine ⟨rfl, ?_⟩)
    ·
      refine WS.op (i := 18) rfl rfl rfl (op_alloc HS Fa.I59 (fun b22361 w22361 H22361 => ?_))
      have hq := st7_37 b22361 w22361 H22361
      rw [hW] at hq
      refine WD.cov ?_ hq
      exact by repeat (first | exact trivial | refine ⟨rfl, ?_⟩)
  have st7_29 : ∀ (b22361 : _) (wS : World), Own [] w wS (l7 [.blk b22361 [(vU32 0), (.slice none 0 0), (.slice none 0 0), (.bool false), (vU32 0), (.slice none 0 0)] 59]) → W 12 #[true, true, true, false, false, true, true, true, true, true, false, false, false, false, false, false, false, false, true, false, false] (e7 [(8, (ptr b22361 0)), (40, zz5), (45, zz5), (46, zz4), (47, (vU8 zz2))]) wS := by
    intro b22361 wS HS
    rw [hW]
    refine WD.all2 (i := 3) (j := 10) (by kernel_rfl) ?_ ?_
    ·
      refine WS.op (i := 3) rfl rfl rfl (op_subN (b := 1) rfl rfl (by decide +kernel) (by decide +kernel) ?_)
      have hq := st7_35 b22361 wS HS
      rw [hW] at hq
      refine WD.cov ?_ hq
      exact by repeat (first | exact trivial | refine ⟨rfl, ?_⟩)
    ·
      refine WS.op (i := 10) rfl rfl rfl (op_addU8 (b := 1) rfl rfl ?_)
      have hq := st7_37 b22361 wS HS
      rw [hW] at hq
      refine WD.cov ?_ hq
      exact by repeat (first | exact trivial | refine ⟨rfl, ?_⟩)
  have st7_30 : ∀ (b22221 : _) (wS : World), Own [] w wS (l7 [.row (.slice (some ⟨b22221, 0, none⟩) 1 1) 5 1 1 (List.map vU8 [(zz2 + (1 : UInt8))])]) → W 12 #[true, true, false, false, false, true, true, true, true, true, true, true, false, false, false, false, false, false, false, false, false] (e7 [(45, zz5), (46, zz4), (47, (vU8 zz2)), (48, (vU8 (zz2 + (1 : UInt8)))), (49, (.slice (some ⟨b22221, 0, none⟩) 1 1))]) wS := by
    intro b22221 wS HS
    rw [hW]
    refine WD.all3 (i := 2) (j := 12) (m := 18) (by kernel_rfl) ?_ ?_ ?_
    ·
      refine WS.op (i := 2) rfl rfl rfl (op_lenStr Try.underlying9 rfl ?_)
      have hq := st7_36 b22221 wS HS
      rw [hW] at hq
      refine WD.cov ?_ hq
      exact by repeat (first | exact trivial | refine ⟨rfl, ?_⟩)
    ·
      refine WS.op (i := 12) rfl rfl rfl (op_bytesStr (l := [(zz2 + (1 : UInt8))]) Try.underlying73 Try.underlying5 Try.underlying9 rfl (HS.arrR (i := 10) rfl) rfl ?_)
      have hq := st7_38 b22221 wS HS
      rw [hW] at hq
      refine WD.cov ?_ hq
      exact by repeat (first | exact trivial | refine ⟨rfl, ?_⟩)
    ·
      refine WS.op (i := 18) rfl rfl rfl (op_alloc HS Fa.I59 (fun b22361 w22361 H22361 => ?_))
      have hq := st7_39 b22361 b22221 w22361 H22361
      rw [hW] at hq
      refine WD.cov ?_ hq
      exact by repeat (first | exact trivial | refine ⟨rfl, ?_⟩)
  have st7_31 : ∀ (b22361 : _) (wS : World), Own [] w wS (l7 [.blk b22361 [(vU32 0), (.slice none 0 0), (.slice none 0 0), (.bool false), (vU32 0), (.slice none 0 0)] 59]) → W 12 #[true, true, false, false, false, true, true, true, true, true, true, false, false, false, false, false, false, false, true, false, false] (e7 [(8, (ptr b22361 0)), (45, zz5), (46, zz4), (47, (vU8 zz2)), (48, (vU8 (zz2 + (1 : UInt8))))]) wS := by
    intro b22361 wS HS
    rw [hW]
    refine WD.all2 (i := 2) (j := 11) (by kernel_rfl) ?_ ?_
    ·
      refine WS.op (i := 2) rfl rfl rfl (op_lenStr Try.underlying9 rfl ?_)
      have hq := st7_37 b22361 wS HS
      rw [hW] at hq
      refine WD.cov ?_ hq
      exact by repeat (first | exact trivial | refine ⟨rfl, ?_⟩)
    ·
      refine WS.op (i := 11) rfl rfl rfl (op_buildSlice (cs := [_]) HS Try.underlying73 Fa.I5 rfl rfl rfl rfl (by decide) (by decide) (fun b22221 w22221 H22221 => ?_))
      have hq := st7_39 b22361 b22221 w22221 (H22221.sel [0, 1, 2, 3, 4, 5, 6, 7, 8, 9, 11, 10] rfl rfl)
      rw [hW] at hq
      refine WD.cov ?_ hq
      exact by repeat (first | exact trivial | refine ⟨rfl, ?_⟩)
  have st7_16 : ∀ (wS : World), Own [] w wS (l7 []) → W 13 #[true, true, true, true, true, true, true, true, false, false, false, false, false, false, false, false, false, false, false, false, false] (e7 [(40, zz5), (41, zz4), (42, (str zz3)), (45, zz5)]) wS := by
    intro wS HS
    rw [hW]
    refine WD.all2 (i := 8) (j := 18) (by kernel_rfl) ?_ ?_
    ·
      refine WS.op (i := 8) rfl rfl rfl (op_subN (b := 1) rfl rfl (by decide +kernel) (by decide +kernel) ?_)
      have hq := st7_24 wS HS
      rw [hW] at hq
      refine WD.cov ?_ hq
      exact by repeat (first | exact trivial | refine ⟨rfl, ?_⟩)
    ·
      refine WS.op (i := 18) rfl rfl rfl (op_alloc HS Fa.I59 (fun b22361 w22361 H22361 => ?_))
      have hq := st7_25 b22361 w22361 H22361
      rw [hW] at hq
      refine WD.cov ?_ hq
      exact by repeat (first | exact trivial | refine ⟨rfl, ?_⟩)
  have st7_17 : ∀ (b22361 : _) (wS : World), Own [] w wS (l7 [.blk b22361 [(vU32 0), (.slice none 0 0), (.slice none 0 0), (.bool false), (vU32 0), (.slice none 0 0)] 59]) → W 13 #[true, true, true, true, true, true, true, false, false, false, false, false, false, false, false, false, false, false, true, false, false] (e7 [(8, (ptr b22361 0)), (40, zz5), (41, zz4), (42, (str zz3))]) wS := by
    intro b22361 wS HS
    rw [hW]
    refine WD.all1 (i := 7) (by kernel_rfl) ?_
    ·
      refine WS.op (i := 7) rfl rfl rfl (op_lenStr Try.underlying9 rfl ?_)
      have hq := st7_25 b22361 wS HS
      rw [hW] at hq
      refine WD.cov ?_ hq
      exact by repeat (first | exact trivial | refine ⟨rfl, ?_⟩)
  have st7_18 : ∀ (wS : World), Own [] w wS (l7 []) → W 13 #[true, true, true, true, false, true, true, true, true, false, false, false, false, false, false, false, false, false, false, false, false] (e7 [(40, zz5), (41, zz4), (45, zz5), (46, zz4)]) wS := by
    intro wS HS
    rw [hW]
    refine WD.all3 (i := 4) (j := 9) (m := 18) (by kernel_rfl) ?_ ?_ ?_
    ·
      refine WS.op (i := 4) rfl rfl rfl (op_sliceStrHi Try.underlying9 rfl rfl (by decide +kernel) ?_)
      have hq := st7_24 wS HS
      rw [hW] at hq
      refine WD.cov ?_ hq
      exact by repeat (first | exact trivial | refine ⟨rfl, ?_⟩)
    ·
      refine WS.op (i := 9) rfl rfl rfl (op_indexStrD Try.underlying9 rfl rfl (by decide +kernel) ?_)
      have hq := st7_26 wS HS
      rw [hW] at hq
      refine WD.cov ?_ hq
      exact by repeat (first | exact trivial | refine ⟨rfl, ?_⟩)
    ·
      refine WS.op (i := 18) rfl rfl rfl (op_alloc HS Fa.I59 (fun b22361 w22361 H22361 => ?_))
      have hq := st7_27 b22361 w22361 H22361
      rw [hW] at hq
      refine WD.cov ?_ hq
      exact by repeat (first | exact trivial | refine ⟨rfl, ?_⟩)
  have st7_19 : ∀ (b22361 : _) (wS : World), Own [] w wS (l7 [.blk b22361 [(vU32 0), (.slice none 0 0), (.slice none 0 0), (.bool false), (vU32 0), (.slice none 0 0)] 59]) → W 13 #[true, true, true, true, false, true, true, true, false, false, false, false, false, false, false, false, false, false, true, false, false] (e7 [(8, (ptr b22361 0)), (40, zz5), (41, zz4), (45, zz5)]) wS := by
    intro b22361 wS HS
    rw [hW]
    refine WD.all2 (i := 4) (j := 8) (by kernel_rfl) ?_ ?_
    ·
      refine WS.op (i := 4) rfl rfl rfl (op_sliceStrHi Try.underlying9 rfl rfl (by decide +kernel) ?_)
      have hq := st7_25 b22361 wS HS
      rw [hW] at hq
      refine WD.cov ?_ hq
      exact by repeat (first | exact trivial | refine ⟨rfl, ?_⟩)
    ·
      refine WS.op (i := 8) rfl rfl rfl (op_subN (b := 1) rfl rfl (by decide +kernel) (by decide +kernel) ?_)
      have hq := st7_27 b22361 wS HS
      rw [hW] at hq
      refine WD.cov ?_ hq
      exact by repeat (first | exact trivial | refine ⟨rfl, ?_⟩)
  have st7_20 : ∀ (wS : World), Own [] w wS (l7 []) → W 13 #[true, true, true, false, false, true, true, true, true, true, false, false, false, false, false, false, false, false, false, false, false] (e7 [(40, zz5), (45, zz5), (46, zz4), (47, (vU8 zz2))]) wS := by
    intro wS HS
    rw [hW]
    refine WD.all3 (i := 3) (j := 10) (m := 18) (by kernel_rfl) ?_ ?_ ?_
    ·
      refine WS.op (i := 3) rfl rfl rfl (op_subN (b := 1) rfl rfl (by decide +kernel) (by decide +kernel) ?_)
      have hq := st7_26 wS HS
      rw [hW] at hq
      refine WD.cov ?_ hq
      exact by repeat (first | exact trivial | refine ⟨rfl, ?_⟩)
    ·
      refine WS.op (i := 10) rfl rfl rfl (op_addU8 (b := 1) rfl rfl ?_)
      have hq := st7_28 wS HS
      rw [hW] at hq
      refine WD.cov ?_ hq
      exact by repeat (first | exact trivial | refine ⟨rfl, ?_⟩)
    ·
      refine WS.op (i := 18) rfl rfl rfl (op_alloc HS Fa.I59 (fun b22361 w22361 H22361 => ?_))
      have hq := st7_29 b22361 w22361 H22361
      rw [hW] at hq
      refine WD.cov ?_ hq
      exact by repeat (first | exact trivial | refine ⟨rfl, ?_⟩)
  have st7_21 : ∀ (b22361 : _) (wS : World), Own [] w wS (l7 [.blk b22361 [(vU32 0), (.slice none 0 0), (.slice none 0 0), (.bool false), (vU32 0), (.slice none 0 0)] 59]) → W 13 #[true, true, true, false, false, true, true, true, true, false, false, false, false, false, false, false, false, false, true, false, false] (e7 [(8, (ptr b22361 0)), (40, zz5), (45, zz5), (46, zz4)]) wS := by
    intro b22361 wS HS
    rw [hW]
    refine WD.all2 (i := 3) (j := 9) (by kernel_rfl) ?_ ?_
    ·
      refine WS.op (i := 3) rfl rfl rfl (op_subN (b := 1) rfl rfl (by decide +kernel) (by decide +kernel) ?_)
      have hq := st7_27 b22361 wS HS
      rw [hW] at hq
      refine WD.cov ?_ hq
      exact by repeat (first | exact trivial | refine ⟨rfl, ?_⟩)
    ·
      refine WS.op (i := 9) rfl rfl rfl (op_indexStrD Try.underlying9 rfl rfl (by decide +kernel) ?_)
      have hq := st7_29 b22361 wS HS
      rw [hW] at hq
      refine WD.cov ?_ hq
      exact by repeat (first | exact trivial | refine ⟨rfl, ?_⟩)
  have st7_22 : ∀ (wS : World), Own [] w wS (l7 []) → W 13 #[true, true, false, false, false, true, true, true, true, true, true, false, false, false, false, false, false, false, false, false, false] (e7 [(45, zz5), (46, zz4), (47, (vU8 zz2)), (48, (vU8 (zz2 + (1 : UInt8))))]) wS := by
    intro wS HS
    rw [hW]
    refine WD.all3 (i := 2) (j := 11) (m := 18) (by kernel_rfl) ?_ ?_ ?_
    ·
      refine WS.op (i := 2) rfl rfl rfl (op_lenStr Try.underlying9 rfl ?_)
      have hq := st7_28 wS HS
      rw [hW] at hq
      refine WD.cov ?_ hq
      exact by repeat (first | exact trivial | refine ⟨rfl, ?_⟩)
    ·
      refine WS.op (i := 11) rfl rfl rfl (op_buildSlice (cs := [_]) HS Try.underlying73 Fa.I5 rfl rfl rfl rfl (by decide) (by decide) (fun b22221 w22221 H22221 => ?_))
      have hq := st7_30 b22221 w22221 H22221
      rw [hW] at hq
      refine WD.cov ?_ hq
      exact by repeat (first | exact trivial | refine ⟨rfl, ?_⟩)
    ·
      refine WS.op (i := 18) rfl rfl rfl (op_alloc HS Fa.I59 (fun b22361 w22361 H22361 => ?_))
      have hq := st7_31 b22361 w22361 H22361
      rw [hW] at hq
      refine WD.cov ?_ hq
      exact by repeat (first | exact trivial | refine ⟨rfl, ?_⟩)
  have st7_23 : ∀ (b22361 : _) (wS : World), Own [] w wS (l7 [.blk b22361 [(vU32 0), (.slice none 0 0), (.slice none 0 0), (.bool false), (vU32 0), (.slice none 0 0)] 59]) → W 13 #[true, true, false, false, false, true, true, true, true, true, false, false, false, false, false, false, false, false, true, false, false] (e7 [(8, (ptr b22361 0)), (45, zz5), (46, zz4), (47, (vU8 zz2))]) wS := by
    intro b22361 wS HS
    rw [hW]
    refine WD.all2 (i := 2) (j := 10) (by kernel_rfl) ?_ ?_
    ·
      refine WS.op (i := 2) rfl rfl rfl (op_lenStr Try.underlying9 rfl ?_)
      have hq := st7_29 b22361 wS HS
      rw [hW] at hq
      refine WD.cov ?_ hq
      exact by repeat (first | exact trivial | refine ⟨rfl, ?_⟩)
    ·
      refine WS.op (i := 10) rfl rfl rfl (op_addU8 (b := 1) rfl rfl ?_)
      have hq := st7_31 b22361 wS HS
      rw [hW] at hq
      refine WD.cov ?_ hq
      exact by repeat (first | exact trivial | refine ⟨rfl, ?_⟩)
  have st7_9 : ∀ (wS : World), Own [] w wS (l7 []) → W 14 #[true, true, true, true, true, true, true, false, false, false, false, false, false, false, false, false, false, false, false, false, false] (e7 [(40, zz5), (41, zz4), (42, (str zz3))]) wS := by
    intro wS HS
    rw [hW]
    refine WD.all2 (i := 7) (j := 18) (by kernel_rfl) ?_ ?_
    ·
      refine WS.op (i := 7) rfl rfl rfl (op_lenStr Try.underlying9 rfl ?_)
      have hq := st7_16 wS HS
      rw [hW] at hq
      refine WD.cov ?_ hq
      exact by repeat (first | exact trivial | refine ⟨rfl, ?_⟩)
    ·
      refine WS.op (i := 18) rfl rfl rfl (op_alloc HS Fa.I59 (fun b22361 w22361 H22361 => ?_))
      have hq := st7_17 b22361 w22361 H22361
      rw [hW] at hq
      refine WD.cov ?_ hq
      exact by repeat (first | exact trivial | refine ⟨rfl, ?_⟩)
  have st7_10 : ∀ (wS : World), Own [] w wS (l7 []) → W 14 #[true, true, true, true, false, true, true, true, false, false, false, false, false, false, false, false, false, false, false, false, false] (e7 [(40, zz5), (41, zz4), (45, zz5)]) wS := by
    intro wS HS
    rw [hW]
    refine WD.all3 (i := 4) (j := 8) (m := 18) (by kernel_rfl) ?_ ?_ ?_
    ·
      refine WS.op (i := 4) rfl rfl rfl (op_sliceStrHi Try.underlying9 rfl rfl (by decide +kernel) ?_)
      have hq := st7_16 wS HS
      rw [hW] at hq
      refine WD.cov ?_ hq
      exact by repeat (first | exact trivial | refine ⟨rfl, ?_⟩)
    ·
      refine WS.op (i := 8) rfl rfl rfl (op_subN (b := 1) rfl rfl (by decide +kernel) (by decide +kernel) ?_)
      have hq := st7_18 wS HS
      rw [hW] at hq
      refine WD.cov ?_ hq
      exact by repeat (first | exact trivial | refine ⟨rfl, ?_⟩)
    ·
      refine WS.op (i := 18) rfl rfl rfl (op_alloc HS Fa.I59 (fun b22361 w22361 H22361 => ?_))
      have hq := st7_19 b22361 w22361 H22361
      rw [hW] at hq
      refine WD.cov ?_ hq
      exact by repeat (first | exact trivial | refine ⟨rfl, ?_⟩)
  have st7_11 : ∀ (b22361 : _) (wS : World), Own [] w wS (l7 [.blk b22361 [(vU32 0), (.slice none 0 0), (.slice none 0 0), (.bool false), (vU32 0), (.slice none 0 0)] 59]) → W 14 #[true, true, true, true, false, true, true, false, false, false, false, false, false, false, false, false, false, false, true, false, false] (e7 [(8, (ptr b22361 0)), (40, zz5), (41, zz4)]) wS := by
    intro b22361 wS HS
    rw [hW]
    refine WD.all2 (i := 4) (j := 7) (by kernel_rfl) ?_ ?_
    ·
      refine WS.op (i := 4) rfl rfl rfl (op_sliceStrHi Try.underlying9 rfl rfl (by decide +kernel) ?_)
      have hq := st7_17 b22361 wS HS
      rw [hW] at hq
      refine WD.cov ?_ hq
      exact by repeat (first | exact trivial | refine ⟨rfl, ?_⟩)
    ·
      refine WS.op (i := 7) rfl rfl rfl (op_lenStr Try.underlying9 rfl ?_)
      have hq := st7_19 b22361 wS HS
      rw [hW] at hq
      refine WD.cov ?_ hq
      exact by repeat (first | exact trivial | refine ⟨rfl, ?_⟩)
  have st7_12 : ∀ (wS : World), Own [] w wS (l7 []) → W 14 #[true, true, true, false, false, true, true, true, true, false, false, false, false, false, false, false, false, false, false, false, false] (e7 [(40, zz5), (45, zz5), (46, zz4)]) wS := by
    intro wS HS
    rw [hW]
    refine WD.all3 (i := 3) (j := 9) (m := 18) (by kernel_rfl) ?_ ?_ ?_
    ·
      refine WS.op (i := 3) rfl rfl rfl (op_subN (b := 1) rfl rfl (by decide +kernel) (by decide +kernel) ?_)
      have hq := st7_18 wS HS
      rw [hW] at hq
      refine WD.cov ?_ hq
      exact by repeat (first | exact trivial | refine ⟨rfl, ?_⟩)
    ·
      refine WS.op (i := 9) rfl rfl rfl (op_indexStrD Try.underlying9 rfl rfl (by decide +kernel) ?_)
      have hq := st7_20 wS HS
      rw [hW] at hq
      refine WD.cov ?_ hq
      exact by repeat (first | exact trivial | refine ⟨rfl, ?_⟩)
    ·
      refine WS.op (i := 18) rfl rfl rfl (op_alloc HS Fa.I59 (fun b22361 w22361 H22361 => ?_))
      have hq := st7_21 b22361 w22361 H22361
      rw [hW] at hq
      refine WD.cov ?_ hq
      exact by repeat (first | exact trivial | refine ⟨rfl, ?_⟩)
  have st7_13 : ∀ (b22361 : _) (wS : World), Own [] w wS (l7 [.blk b22361 [(vU32 0), (.slice none 0 0), (.slice none 0 0), (.bool false), (vU32 0), (.slice none 0 0)] 59]) → W 14 #[true, true, true, false, false, true, true, true, false, false, false, false, false, false, false, false, false, false, true, false, false] (e7 [(8, (ptr b22361 0)), (40, zz5), (45, zz5)]) wS := by
    intro b22361 wS HS
    rw [hW]
    refine WD.all2 (i := 3) (j := 8) (by kernel_rfl) ?_ ?_
    ·
      refine WS.op (i := 3) rfl rfl rfl (op_subN (b := 1) rfl rfl (by decide +kernel) (by decide +kernel) ?_)
      have hq := st7_19 b22361 wS HS
      rw [hW] at hq
      refine WD.cov ?_ hq
      exact by repeat (first | exact trivial | refine ⟨rfl, ?_⟩)
    ·
      refine WS.op (i := 8) rfl rfl rfl (op_subN (b := 1) rfl rfl (by decide +kernel) (by decide +kernel) ?_)
      have hq := st7_21 b22361 wS HS
      rw [hW] at hq
      refine WD.cov ?_ hq
      exact by repeat (first | exact trivial | refine ⟨rfl, ?_⟩)
  have st7_14 : ∀ (wS : World), Own [] w wS (l7 []) → W 14 #[true, true, false, false, false, true, true, true, true, true, false, false, false, false, false, false, false, false, false, false, false] (e7 [(45, zz5), (46, zz4), (47, (vU8 zz2))]) wS := by
    intro wS HS
    rw [hW]
    refine WD.all3 (i := 2) (j := 10) (m := 18) (by kernel_rfl) ?_ ?_ ?_
    ·
      refine WS.op (i := 2) rfl rfl rfl (op_lenStr Try.underlying9 rfl ?_)
      have hq := st7_20 wS HS
      rw [hW] at hq
      refine WD.cov ?_ hq
      exact by repeat (first | exact trivial | refine ⟨rfl, ?_⟩)
    ·
      refine WS.op (i := 10) rfl rfl rfl (op_addU8 (b := 1) rfl rfl ?_)
      have hq := st7_22 wS HS
      rw [hW] at hq
      refine WD.cov ?_ hq
      exact by repeat (first | exact trivial | refine ⟨rfl, ?_⟩)
    ·
      refine WS.op (i := 18) rfl rfl rfl (op_alloc HS Fa.I59 (fun b22361 w22361 H22361 => ?_))
      have hq := st7_23 b22361 w22361 H22361
      rw [hW] at hq
      refine WD.cov ?_ hq
      exact by repeat (first | exact trivial | refine ⟨rfl, ?_⟩)
  have st7_15 : ∀ (b22361 : _) (wS : World), Own [] w wS (l7 [.blk b22361 [(vU32 0), (.slice none 0 0), (.slice none 0 0), (.bool false), (vU32 0), (.slice none 0 0)] 59]) → W 14 #[true, true, false, false, false, true, true, true, true, false, false, false, false, false, false, false, false, false, true, false, false] (e7 [(8, (ptr b22361 0)), (45, zz5), (46, zz4)]) wS := by
    intro b22361 wS HS
    rw [hW]
    refine WD.all2 (i := 2) (j := 9) (by kernel_rfl) ?_ ?_
    ·
      refine WS.op (i := 2) rfl rfl rfl (op_lenStr Try.underlying9 rfl ?_)
      have hq := st7_21 b22361 wS HS
      rw [hW] at hq
      refine WD.cov ?_ hq
      exact by repeat (first | exact trivial | refine ⟨rfl, ?_⟩)
    ·
      refine WS.op (i := 9) rfl rfl rfl (op_indexStrD Try.underlying9 rfl rfl (by decide +kernel) ?_)
      have hq := st7_23 b22361 wS HS
      rw [hW] at hq
      refine WD.cov ?_ hq
      exact by repeat (first | exact trivial | refine ⟨rfl, ?_⟩)
  have st7_4 : ∀ (wS : World), Own [] w wS (l7 []) → W 15 #[true, true, true, true, false, true, true, false, false, false, false, false, false, false, false, false, false, false, false, false, false] (e7 [(40, zz5), (41, zz4)]) wS := by
    intro wS HS
    rw [hW]
    refine WD.all3 (i := 4) (j := 7) (m := 18) (by kernel_rfl) ?_ ?_ ?_
    ·
      refine WS.op (i := 4) rfl rfl rfl (op_sliceStrHi Try.underlying9 rfl rfl (by decide +kernel) ?_)
      have hq := st7_9 wS HS
      rw [hW] at hq
      refine WD.cov ?_ hq
      exact by repeat (first | exact trivial | refine ⟨rfl, ?_⟩)
    ·
      refine WS.op (i := 7) rfl rfl rfl (op_lenStr Try.underlying9 rfl ?_)
      have hq := st7_10 wS HS
      rw [hW] at hq
      refine WD.cov ?_ hq
      exact by repeat (first | exact trivial | refine ⟨rfl, ?_⟩)
    ·
      refine WS.op (i := 18) rfl rfl rfl (op_alloc HS Fa.I59 (fun b22361 w22361 H22361 => ?_))
      have hq := st7_11 b22361 w22361 H22361
      rw [hW] at hq
      refine WD.cov ?_ hq
      exact by repeat (first | exact trivial | refine ⟨rfl, ?_⟩)
  have st7_5 : ∀ (wS : World), Own [] w wS (l7 []) → W 15 #[true, true, true, false, false, true, true, true, false, false, false, false, false, false, false, false, false, false, false, false, false] (e7 [(40, zz5), (45, zz5)]) wS := by
    intro wS HS
    rw [hW]
    refine WD.all3 (i := 3) (j := 8) (m := 18) (by kernel_rfl) ?_ ?_ ?_
    ·
      refine WS.op (i := 3) rfl rfl rfl (op_subN (b := 1) rfl rfl (by decide +kernel) (by decide +kernel) ?_)
      have hq := st7_10 wS HS
      rw [hW] at hq
      refine WD.cov ?_ hq
      exact by repeat (first | exact trivial | refine ⟨rfl, ?_⟩)
    ·
      refine WS.op (i := 8) rfl rfl rfl (op_subN (b := 1) rfl rfl (by decide +kernel) (by decide +kernel) ?_)
      have hq := st7_12 wS HS
      rw [hW] at hq
      refine WD.cov ?_ hq
      exact by repeat (first | exact trivial | refine ⟨rfl, ?_⟩)
    ·
      refine WS.op (i := 18) rfl rfl rfl (op_alloc HS Fa.I59 (fun b22361 w22361 H22361 => ?_))
      have hq := st7_13 b22361 w22361 H22361
      rw [hW] at hq
      refine WD.cov ?_ hq
      exact by repeat (first | exact trivial | refine ⟨rfl, ?_⟩)
  have st7_6 : ∀ (b22361 : _) (wS : World), Own [] w wS (l7 [.blk b22361 [(vU32 0), (.slice none 0 0), (.slice none 0 0), (.bool false), (vU32 0), (.slice none 0 0)] 59]) → W 15 #[true, true, true, false, false, true, true, false, false, false, false, false, false, false, false, false, false, false, true, false, false] (e7 [(8, (ptr b22361 0)), (40, zz5)]) wS := by
    intro b22361 wS HS
    rw [hW]
    refine WD.all2 (i := 3) (j := 7) (by kernel_rfl) ?_ ?_
    ·
      refine WS.op (i := 3) rfl rfl rfl (op_subN (b := 1) rfl rfl (by decide +kernel) (by decide +kernel) ?_)
      have hq := st7_11 b22361 wS HS
      rw [hW] at hq
      refine WD.cov ?_ hq
      exact by repeat (first | exact trivial | refine ⟨rfl, ?_⟩)
    ·
      refine WS.op (i := 7) rfl rfl rfl (op_lenStr Try.underlying9 rfl ?_)
      have hq := st7_13 b22361 wS HS
      rw [hW] at hq
      refine WD.cov ?_ hq
      exact by repeat (first | exact trivial | refine ⟨rfl, ?_⟩)
  have st7_7 : ∀ (wS : World), Own [] w wS (l7 []) → W 15 #[true, true, false, false, false, true, true, true, true, false, false, false, false, false, false, false, false, false, false, false, false] (e7 [(45, zz5), (46, zz4)]) wS := by
    intro wS HS
    rw [hW]
    refine WD.all3 (i := 2) (j := 9) (m := 18) (by kernel_rfl) ?_ ?_ ?_
    ·
      refine WS.op (i := 2) rfl rfl rfl (op_lenStr Try.underlying9 rfl ?_)
      have hq := st7_12 wS HS
      rw [hW] at hq
      refine WD.cov ?_ hq
      exact by repeat (first | exact trivial | refine ⟨rfl, ?_⟩)
    ·
      refine WS.op (i := 9) rfl rfl rfl (op_indexStrD Try.underlying9 rfl rfl (by decide +kernel) ?_)
      have hq := st7_14 wS HS
      rw [hW] at hq
      refine WD.cov ?_ hq
      exact by repeat (first | exact trivial | refine ⟨rfl, ?_⟩)
    ·
      refine WS.op (i := 18) rfl rfl rfl (op_alloc HS Fa.I59 (fun b22361 w22361 H22361 => ?_))
      have hq := st7_15 b22361 w22361 H22361
      rw [hW] at hq
      refine WD.cov ?_ hq
      exact by repeat (first | exact trivial | refine ⟨rfl, ?_⟩)
  have st7_8 : ∀ (b22361 : _) (wS : World), Own [] w wS (l7 [.blk b22361 [(vU32 0), (.slice none 0 0), (.slice none 0 0), (.bool false), (vU32 0), (.slice none 0 0)] 59]) → W 15 #[true, true, false, false, false, true, true, true, false, false, false, false, false, false, false, false, false, false, true, false, false] (e7 [(8, (ptr b22361 0)), (45, zz5)]) wS := by
    intro b22361 wS HS
    rw [hW]
    refine WD.all2 (i := 2) (j := 8) (by kernel_rfl) ?_ ?_
    ·
      refine WS.op (i := 2) rfl rfl rfl (op_lenStr Try.underlying9 rfl ?_)
      have hq := st7_13 b22361 wS HS
      rw [hW] at hq
      refine WD.cov ?_ hq
      exact by repeat (first | exact trivial | refine ⟨rfl, ?_⟩)
    ·
      refine WS.op (i := 8) rfl rfl rfl (op_subN (b := 1) rfl rfl (by decide +kernel) (by decide +kernel) ?_)
      have hq := st7_15 b22361 wS HS
      rw [hW] at hq
      refine WD.cov ?_ hq
      exact by repeat (first | exact trivial | refine ⟨rfl, ?_⟩)
  have st7_1 : ∀ (wS : World), Own [] w wS (l7 []) → W 16 #[true, true, true, false, false, true, true, false, false, false, false, false, false, false, false, false, false, false, false, false, false] (e7 [(40, zz5)]) wS := by
    intro wS HS
    rw [hW]
    refine WD.all3 (i := 3) (j := 7) (m := 18) (by kernel_rfl) ?_ ?_ ?_
    ·
      refine WS.op (i := 3) rfl rfl rfl (op_subN (b := 1) rfl rfl (by decide +kernel) (by decide +kernel) ?_)
      have hq := st7_4 wS HS
      rw [hW] at hq
      refine WD.cov ?_ hq
      exact by repeat (first | exact trivial | refine ⟨rfl, ?_⟩)
    ·
      refine WS.op (i := 7) rfl rfl rfl (op_lenStr Try.underlying9 rfl ?_)
      have hq := st7_5 wS HS
      rw [hW] at hq
      refine WD.cov ?_ hq
      exact by repeat (first | exact trivial | refine ⟨rfl, ?_⟩)
    ·
      refine WS.op (i := 18) rfl rfl rfl (op_alloc HS Fa.I59 (fun b22361 w22361 H22361 => ?_))
      have hq := st7_6 b22361 w22361 H22361
      rw [hW] at hq
      refine WD.cov ?_ hq
      exact by repeat (first | exact trivial | refine ⟨rfl, ?_⟩)
  have st7_2 : ∀ (wS : World), Own [] w wS (l7 []) → W 16 #[true, true, false, false, false, true, true, true, false, false, false, false, false, false, false, false, false, false, false, false, false] (e7 [(45, zz5)]) wS := by
    intro wS HS
    rw [hW]
    refine WD.all3 (i := 2) (j := 8) (m := 18) (by kernel_rfl) ?_ ?_ ?_
    ·
      refine WS.op (i := 2) rfl rfl rfl (op_lenStr Try.underlying9 rfl ?_)
      have hq := st7_5 wS HS
      rw [hW] at hq
      refine WD.cov ?_ hq
      exact by repeat (first | exact trivial | refine ⟨rfl, ?_⟩)
    ·
      refine WS.op (i := 8) rfl rfl rfl (op_subN (b := 1) rfl rfl (by decide +kernel) (by decide +kernel) ?_)
      have hq := st7_7 wS HS
      rw [hW] at hq
      refine WD.cov ?_ hq
      exact by repeat (first | exact trivial | refine ⟨rfl, ?_⟩)
    ·
      refine WS.op (i := 18) rfl rfl rfl (op_alloc HS Fa.I59 (fun b22361 w22361 H22361 => ?_))
      have hq := st7_8 b22361 w22361 H22361
      rw [hW] at hq
      refine WD.cov ?_ hq
      exact by repeat (first | exact trivial | refine ⟨rfl, ?_⟩)
  have st7_3 : ∀ (b22361 : _) (wS : World), Own [] w wS (l7 [.blk b22361 [(vU32 0), (.slice none 0 0), (.slice none 0 0), (.bool false), (vU32 0), (.slice none 0 0)] 59]) → W 16 #[true, true, false, false, false, true, true, false, false, false, false, false, false, false, false, false, false, false, true, false, false] (e7 [(8, (ptr b22361 0))]) wS := by
    intro b22361 wS HS
    rw [hW]
    refine WD.all2 (i := 2) (j := 7) (by kernel_rfl) ?_ ?_
    ·
      refine WS.op (i := 2) rfl rfl rfl (op_lenStr Try.underlying9 rfl ?_)
      have hq := st7_6 b22361 wS HS
      rw [hW] at hq
      refine WD.cov ?_ hq
      exact by repeat (first | exact trivial | refine ⟨rfl, ?_⟩)
    ·
      refine WS.op (i := 7) rfl rfl rfl (op_lenStr Try.underlying9 rfl ?_)
      have hq := st7_8 b22361 wS HS
      rw [hW] at hq
      refine WD.cov ?_ hq
      exact by repeat (first | exact trivial | refine ⟨rfl, ?_⟩)
  have st7_0 : ∀ (wS : World), Own [] w wS (l7 []) → W 17 #[true, true, false, false, false, true, true, false, false, false, false, false, false, false, false, false, false, false, false, false, false] (e7 []) wS := by
    intro wS HS
    rw [hW]
    refine WD.all3 (i := 2) (j := 7) (m := 18) (by kernel_rfl) ?_ ?_ ?_
    ·
      refine WS.op (i := 2) rfl rfl rfl (op_lenStr Try.underlying9 rfl ?_)
      have hq := st7_1 wS HS
      rw [hW] at hq
      refine WD.cov ?_ hq
      exact by repeat (first | exact trivial | refine ⟨rfl, ?_⟩)
    ·
      refine WS.op (i := 7) rfl rfl rfl (op_lenStr Try.underlying9 rfl ?_)
      have hq := st7_2 wS HS
      rw [hW] at hq
      refine WD.cov ?_ hq
      exact by repeat (first | exact trivial | refine ⟨rfl, ?_⟩)
    ·
      refine WS.op (i := 18) rfl rfl rfl (op_alloc HS Fa.I59 (fun b22361 w22361 H22361 => ?_))
      have hq := st7_3 b22361 w22361 H22361
      rw [hW] at hq
      refine WD.cov ?_ hq
      exact by repeat (first | exact trivial | refine ⟨rfl, ?_⟩)
  have hq := st7_0 w11 H11
  rw [hW] at hq ⊢
  refine WD.cov ?_ hq
  exact by repeat (first | exact trivial | refine ⟨rfl, ?_⟩)
end Go.Proofs.Ytpnghdalnghpcaa
/-! from WSeal6 -/
namespace Go.Proofs.Ytpnghdalnghpcaa
open Go.Owl Go.Spec
set_option maxHeartbeats 2000000 in
set_option maxRecDepth 100000 in
theorem sealTells_ok (key : List UInt8) (pg : UInt32) (ev pv sv : Value) (xs : List Xt) (ps : List UInt16) (con : Bool) (en : UInt32) (sg : List Sg) (s : List UInt8) (lv : Value) (ls : List (List UInt8)) (w : World) (hE : Arr w ev 2 xs.length (List.flatMap xtc xs)) (hP : Arr w pv 1 ps.length (List.map vU16 ps)) (hS : Arr w sv 3 sg.length (List.flatMap sgc sg)) (hn : xs.length < 2 ^ 47) (hm : ps.length < 2 ^ 47) (hk : sg.length < 2 ^ 47) (hB : ∀ x ∈ sg, x.b.length ≤ 140737488351232) (hk0 : key.length ≤ 140737488351232) (hs : s.length ≤ 140737488351232) (hA : Arr w lv 1 ls.length (List.map str ls)) (hC : ∀ x ∈ ls, x.length ≤ 140737488351232) :
    Calls Try.prog 13 #[(str key), (.agg #[(vU32 pg), ev, pv, (.bool con), (vU32 en), sv]), (str s), lv] w (fun e w' => e = .returned (.bool true) ∧ Fr [] w w') := by
  refine enter (args := [(str key), (.agg #[(vU32 pg), ev, pv, (.bool con), (vU32 en), sv]), (str s), lv]) Try.func13 rfl rfl ?_
  have H0 : Own [] w w [] := Own.start w []
  refine WC.seq ?_
  refine WC.region ?_
  refine WL.op rfl rfl (op_box H0 rfl rfl (fun b1 w1 H1 => ?_))
  refine WL.op rfl rfl (op_assign rfl ?_)
  refine WL.nil ?_
  refine WQ.next ?_
  refine WC.seq ?_
  refine WC.region ?_
  refine WL.op rfl rfl (op_move rfl ?_)
  refine WL.op rfl rfl (op_lenStr Try.underlying9 rfl ?_)
  refine WL.op rfl rfl (op_move rfl ?_)
  refine WL.op rfl rfl (op_lenStr Try.underlying9 rfl ?_)
  refine WL.op rfl rfl (op_addN rfl rfl (by omega) ?_)
  refine WL.op rfl rfl (op_assign rfl ?_)
  refine WL.nil ?_
  refine WQ.next ?_
  refine WC.seq ?_
  refine WC.region ?_
  refine WL.op rfl rfl (op_assign rfl ?_)
  refine WL.nil ?_
  refine WQ.next ?_
  refine WC.cut (α := Nat) (fun k => [(0, (str key)), (2, (str s)), (3, lv), (5, (ptr b1 0)), (9, (vN (key.length + s.length + sumTo ls k))), (10, (str []))]) (fun k w' => (k = min ls.length 100) ∧ Own [] w w' [.blk b1 [(vU32 pg), ev, pv, (.bool con), (vU32 en), sv] 59]) ?_ ?_
  ·
    refine WC.seq ?_
    refine WC.region ?_
    refine WL.op rfl rfl (op_assign rfl ?_)
    refine WL.nil ?_
    refine WQ.next ?_
    refine WC.block ?_
    refine WC.loop (α := Nat) (fun k => [(0, (str key)), (2, (str s)), (3, lv), (5, (ptr b1 0)), (9, (vN (key.length + s.length + sumTo ls k))), (10, (str [])), (11, (vN k))]) (fun k w' => (k ≤ ls.length ∧ k ≤ 100) ∧ Own [] w w' [.blk b1 [(vU32 pg), ev, pv, (.bool con), (vU32 en), sv] 59]) (fun k => ls.length - k) 0 ⟨⟨by omega, by omega⟩, H1⟩ ⟨rfl, rfl, rfl, rfl, rfl, rfl, rfl, trivial⟩ ?_
    rintro k w2 ⟨hinv, H2⟩
    show WC _ _ _ _ _ [(0, (str key)), (2, (str s)), (3, lv), (5, (ptr b1 0)), (9, (vN (key.length + s.length + sumTo ls k))), (10, (str [])), (11, (vN k))] _
    have hs0 := sumTo_le hC k
    have hg0 := getD_mem hC k
    refine WC.seq ?_
    refine WC.seq ?_
    refine WC.region ?_
    refine WL.op rfl rfl (op_move rfl ?_)
    refine WL.op rfl rfl (op_move rfl ?_)
    refine WL.op rfl rfl (op_lenA Try.underlying23 rfl (H2.arr hA) ?_)
    refine WL.op rfl rfl (op_lssN rfl rfl ?_)
    refine WL.op rfl rfl (op_move rfl ?_)
    refine WL.split (t := 29) rfl (fun (hb3 : (decide (k < ls.length)) = true) => ?_) (fun (hb3 : (decide (k < ls.length)) = false) => ?_)
    ·
      have hc3 := of_decide_eq_true hb3
      refine WL.yes rfl rfl rfl hb3 rfl (op_move rfl ?_)
      refine WL.yes rfl rfl rfl hb3 rfl (op_lssN (b := 100) rfl rfl ?_)
      refine WL.op rfl rfl (op_pickT rfl hb3 rfl ?_)
      refine WL.nil ?_
      refine WQ.next ?_
      refine WC.cond rfl (fun (hb4 : (decide (k < 100)) = true) => ?_) (fun (hb4 : (decide (k < 100)) = false) => ?_)
      ·
        have hc4 := of_decide_eq_true hb4
        refine WC.skip ?_
        refine WQ.next ?_
        refine WC.seq ?_
        refine WC.block ?_
        refine WC.region ?_
        refine WL.op rfl rfl (op_move rfl ?_)
        refine WL.op rfl rfl (op_move rfl ?_)
        refine WL.op rfl rfl (op_move rfl ?_)
        refine WL.op rfl rfl (op_indexAddr1 Try.underlying23 Fa.I9 rfl (H2.arr hA) rfl (by omega) ?_)
        refine WL.op rfl rfl (op_load rfl ((H2.arr hA).at (get_map str [] (Arr.ltM (H2.arr hA) (by omega)))) Try.underlying9 rfl ?_)
        refine WL.op rfl rfl (op_lenStr Try.underlying9 rfl ?_)
        refine WL.op rfl rfl (op_addN rfl rfl (by omega) ?_)
        refine WL.op rfl rfl (op_assign rfl ?_)
        refine WL.nil ?_
        refine WQ.inNormal ?_
        refine WQ.next ?_
        refine WC.region ?_
        refine WL.op rfl rfl (op_move rfl ?_)
        refine WL.op rfl rfl (op_addN (b := 1) rfl rfl (by omega) ?_)
        refine WL.op rfl rfl (op_assign rfl ?_)
        refine WL.nil ?_
        exact WQ.round (k + 1) ⟨(by omega), H2⟩ ⟨rfl, rfl, rfl, rfl, (congrArg (fun x => some (vN x)) (by rw [sumTo]; omega)), rfl, rfl, trivial⟩ (by omega)
      ·
        have hc4 := of_decide_eq_false hb4
        refine WC.exit ?_
        refine WQ.thenExit ?_
        refine WQ.thenExit ?_
        refine WQ.inHere ?_
        exact WQ.here k ⟨(by omega), H2⟩ ⟨rfl, rfl, rfl, rfl, rfl, rfl, trivial⟩
    ·
      have hc3 := of_decide_eq_false hb3
      refine WL.no rfl rfl rfl hb3 rfl ?_
      refine WL.no rfl rfl rfl hb3 rfl ?_
      refine WL.op rfl rfl (op_pickF rfl hb3 rfl ?_)
      refine WL.nil ?_
      refine WQ.next ?_
      refine WC.no rfl rfl ?_
      refine WC.exit ?_
      refine WQ.thenExit ?_
      refine WQ.thenExit ?_
      refine WQ.inHere ?_
      exact WQ.here k ⟨(by omega), H2⟩ ⟨rfl, rfl, rfl, rfl, rfl, rfl, trivial⟩
  ·
    rintro k w5 ⟨hinv, H5⟩
    show WC _ _ _ _ _ [(0, (str key)), (2, (str s)), (3, lv), (5, (ptr b1 0)), (9, (vN (key.length + s.length + sumTo ls k))), (10, (str []))] _
    refine WC.seq ?_
    refine WC.seq ?_
    refine WC.region ?_
    refine WL.op rfl rfl (op_loadS (vs := [_, _, _, _, _, _]) rfl (H5.cells (i := 0) rfl rfl) Try.underlying59 rfl Fa.I59 rfl ?_)
    refine WL.op rfl rfl (op_callF Fa.C37 rfl ((large16_ok pg _ _ _ xs ps con en sg _ (H5.arr hE) (H5.arr hP) (H5.arr hS) hn hm hk hB).mono (fun e w6 hq => ?_)))
    obtain ⟨rfl, hf6⟩ := hq
    refine ⟨_, rfl, ?_⟩
    have H6 := H5.fr' hf6
    refine WL.op rfl rfl (op_move rfl ?_)
    refine WL.split (t := 44) rfl (fun (hb7 : (large16 xs ps sg) = true) => ?_) (fun (hb7 : (large16 xs ps sg) = false) => ?_)
    ·
      refine WL.no rfl rfl rfl hb7 rfl ?_
      refine WL.no rfl rfl rfl hb7 rfl ?_
      refine WL.op rfl rfl (op_pickT rfl hb7 rfl ?_)
      refine WL.op rfl rfl (op_move rfl ?_)
      refine WL.no rfl rfl rfl rfl rfl ?_
      refine WL.no rfl rfl rfl rfl rfl ?_
      refine WL.no rfl rfl rfl rfl rfl ?_
      refine WL.op rfl rfl (op_pickT rfl rfl rfl ?_)
      refine WL.nil ?_
      refine WQ.next ?_
      refine WC.yes rfl rfl ?_
      refine WC.seq ?_
      refine WC.region ?_
      refine WL.op rfl rfl (op_callF Fa.C66 rfl ((alive17_ok _).mono (fun e w8 hq => ?_)))
      obtain ⟨rfl, hf8⟩ := hq
      refine ⟨_, rfl, ?_⟩
      have H8 := H6.fr' hf8
      refine WL.op rfl rfl (op_assign rfl ?_)
      refine WL.nil ?_
      refine WQ.next ?_
      refine WC.ret ?_
      refine WQ.thenRet ?_
      refine WQ.out (.tmp rfl .nil) ?_
      exact ⟨rfl, H8.fr⟩
    ·
      have hl1 := large16_no hb7
      have hb1 : ∀ x ∈ sg, x.b.length ≤ 2 ^ 30 := fun x hx => Nat.le_trans (hl1.2.2.2 x hx) (by decide)
      refine WL.yes rfl rfl rfl hb7 rfl (op_move rfl ?_)
      refine WL.yes rfl rfl rfl hb7 rfl (op_gtrN (b := 65536) rfl rfl ?_)
      refine WL.op rfl rfl (op_pickF rfl hb7 rfl ?_)
      refine WL.op rfl rfl (op_move rfl ?_)
      refine WL.split (t := 48) rfl (fun (hb9 : (decide ((key.length + s.length + sumTo ls k) > 65536)) = true) => ?_) (fun (hb9 : (decide ((key.length + s.length + sumTo ls k) > 65536)) = false) => ?_)
      ·
        have hc9 := of_decide_eq_true hb9
        refine WL.no rfl rfl rfl hb9 rfl ?_
        refine WL.no rfl rfl rfl hb9 rfl ?_
        refine WL.no rfl rfl rfl hb9 rfl ?_
        refine WL.op rfl rfl (op_pickT rfl hb9 rfl ?_)
        refine WL.nil ?_
        refine WQ.next ?_
        refine WC.yes rfl rfl ?_
        refine WC.seq ?_
        refine WC.region ?_
        refine WL.op rfl rfl (op_callF Fa.C66 rfl ((alive17_ok _).mono (fun e w10 hq => ?_)))
        obtain ⟨rfl, hf10⟩ := hq
        refine ⟨_, rfl, ?_⟩
        have H10 := H6.fr' hf10
        refine WL.op rfl rfl (op_assign rfl ?_)
        refine WL.nil ?_
        refine WQ.next ?_
        refine WC.ret ?_
        refine WQ.thenRet ?_
        refine WQ.out (.tmp rfl .nil) ?_
        exact ⟨rfl, H10.fr⟩
      ·
        have hc9 := of_decide_eq_false hb9
        refine WL.yes rfl rfl rfl hb9 rfl (op_move rfl ?_)
        refine WL.yes rfl rfl rfl hb9 rfl (op_lenA Try.underlying23 rfl (H6.arr hA) ?_)
        refine WL.yes rfl rfl rfl hb9 rfl (op_gtrN (b := 50) rfl rfl ?_)
        refine WL.op rfl rfl (op_pickF rfl hb9 rfl ?_)
        refine WL.nil ?_
        refine WQ.next ?_
        refine WC.cond rfl (fun (hb11 : (decide (ls.length > 50)) = true) => ?_) (fun (hb11 : (decide (ls.length > 50)) = false) => ?_)
        ·
          have hc11 := of_decide_eq_true hb11
          refine WC.seq ?_
          refine WC.region ?_
          refine WL.op rfl rfl (op_callF Fa.C66 rfl ((alive17_ok _).mono (fun e w12 hq => ?_)))
          obtain ⟨rfl, hf12⟩ := hq
          refine ⟨_, rfl, ?_⟩
          have H12 := H6.fr' hf12
          refine WL.op rfl rfl (op_assign rfl ?_)
          refine WL.nil ?_
          refine WQ.next ?_
          refine WC.ret ?_
          refine WQ.thenRet ?_
          refine WQ.out (.tmp rfl .nil) ?_
          exact ⟨rfl, H12.fr⟩
        ·
          have hc11 := of_decide_eq_false hb11
          have hkl : k = ls.length := by omega
          have hfl : (List.flatten ls).length ≤ 65536 := by rw [← sum_flat, ← hkl]; omega
          refine WC.skip ?_
          refine WQ.next ?_
          refine WC.seq ?_
          refine WC.seq ?_
          refine WC.region ?_
          refine WL.op rfl rfl (op_assign rfl ?_)
          refine WL.nil ?_
          refine WQ.next ?_
          refine WC.block ?_
          refine WC.loop (α := Nat) (fun k => [(0, (str key)), (2, (str s)), (3, lv), (5, (ptr b1 0)), (10, (str (tk ls k))), (12, (vN k))]) (fun k w' => (k ≤ ls.length) ∧ Own [] w w' [.blk b1 [(vU32 pg), ev, pv, (.bool con), (vU32 en), sv] 59]) (fun k => ls.length - k) 0 ⟨(Nat.zero_le _), H6⟩ ⟨rfl, rfl, rfl, rfl, rfl, rfl, trivial⟩ ?_
          rintro k w13 ⟨hinv, H13⟩
          show WC _ _ _ _ _ [(0, (str key)), (2, (str s)), (3, lv), (5, (ptr b1 0)), (10, (str (tk ls k))), (12, (vN k))] _
          refine WC.seq ?_
          refine WC.seq ?_
          refine WC.region ?_
          refine WL.op rfl rfl (op_move rfl ?_)
          refine WL.op rfl rfl (op_move rfl ?_)
          refine WL.op rfl rfl (op_lenA Try.underlying23 rfl (H13.arr hA) ?_)
          refine WL.op rfl rfl (op_lssN rfl rfl ?_)
          refine WL.nil ?_
          refine WQ.next ?_
          refine WC.cond rfl (fun (hb14 : (decide (k < ls.length)) = true) => ?_) (fun (hb14 : (decide (k < ls.length)) = false) => ?_)
          ·
            have hc14 := of_decide_eq_true hb14
            refine WC.skip ?_
            refine WQ.next ?_
            refine WC.seq ?_
            refine WC.block ?_
            refine WC.region ?_
            refine WL.op rfl rfl (op_move rfl ?_)
            refine WL.op rfl rfl (op_move rfl ?_)
            refine WL.op rfl rfl (op_move rfl ?_)
            refine WL.op rfl rfl (op_indexAddr1 Try.underlying23 Fa.I9 rfl (H13.arr hA) rfl (by omega) ?_)
            refine WL.op rfl rfl (op_load rfl ((H13.arr hA).at (get_map str [] (Arr.ltM (H13.arr hA) (by omega)))) Try.underlying9 rfl ?_)
            refine WL.op rfl rfl (op_addStr rfl rfl (by have := sum_mono ls k (by omega); omega) ?_)
            refine WL.op rfl rfl (op_assign rfl ?_)
            refine WL.nil ?_
            refine WQ.inNormal ?_
            refine WQ.next ?_
            refine WC.region ?_
            refine WL.op rfl rfl (op_move rfl ?_)
            refine WL.op rfl rfl (op_addN (b := 1) rfl rfl (by omega) ?_)
            refine WL.op rfl rfl (op_assign rfl ?_)
            refine WL.nil ?_
            exact WQ.round (k + 1) ⟨(by omega), H13⟩ ⟨rfl, rfl, rfl, rfl, (congrArg (fun x => some (str x)) (tk_succ (by omega))), rfl, trivial⟩ (by omega)
          ·
            have hc14 := of_decide_eq_false hb14
            have htx : tk ls k = List.flatten ls := by rw [show k = ls.length by omega, tk_all]
            refine WC.exit ?_
            refine WQ.thenExit ?_
            refine WQ.thenExit ?_
            refine WQ.inHere ?_
            refine WQ.next ?_
            refine WC.seq ?_
            refine WC.region ?_
            refine WL.op rfl rfl (op_loadS (vs := [_, _, _, _, _, _]) rfl (H13.cells (i := 0) rfl rfl) Try.underlying59 rfl Fa.I59 rfl ?_)
            refine WL.op rfl rfl (op_callF Fa.C39 rfl ((copy16_ok pg _ _ _ xs ps con en sg _ (H13.arr hE) (H13.arr hP) (H13.arr hS) (by omega) (by omega) (by omega)).mono (fun e w15 hq => ?_)))
            obtain ⟨v15, u15, q15, rfl, hq15⟩ := hq
            refine ⟨_, rfl, ?_⟩
            have H15 : Own [] w w15 [.blk b1 [(vU32 pg), ev, pv, (.bool con), (vU32 en), sv] 59, .row v15 130 2 xs.length (List.flatMap xtc xs), .row u15 92 1 ps.length (List.map vU16 ps), .row q15 111 3 sg.length (List.flatMap sgc sg)] := H13.splice [] [] [.row v15 130 2 xs.length (List.flatMap xtc xs), .row u15 92 1 ps.length (List.map vU16 ps), .row q15 111 3 sg.length (List.flatMap sgc sg)] rfl rfl hq15 (Fits.solid True.intro (Fits.solid True.intro (Fits.solid True.intro Fits.nil)))
            refine WL.op rfl rfl (op_alloc H15 Fa.I59 (fun b16 w16 H16 => ?_))
            refine WL.op rfl rfl (op_storeBW (i := 4) H16 rfl rfl rfl rfl (one_cons rfl (one_cons (Arr.one (H16.arrR (i := 1) rfl)) (one_cons (Arr.one (H16.arrR (i := 2) rfl)) (one_cons rfl (one_cons rfl (one_cons (Arr.one (H16.arrR (i := 3) rfl)) one_nil)))))) Fa.I59 (fun w17 H17 => ?_))
            refine WL.nil ?_
            refine WQ.next ?_
            refine WC.seq ?_
            refine WC.region ?_
            refine WL.op rfl rfl (op_move rfl ?_)
            refine WL.op rfl rfl (op_loadS (vs := [_, _, _, _, _, _]) rfl (H17.cells (i := 4) rfl rfl) Try.underlying59 rfl Fa.I59 rfl ?_)
            refine WL.op rfl rfl (op_callF Fa.C67 rfl ((seal_ok key pg _ _ _ xs ps con en sg _ (H17.arrR (i := 1) rfl) (H17.arrR (i := 2) rfl) (H17.arrR (i := 3) rfl) (by omega) (by omega) (by omega) (by omega) hb1 (Nat.lt_trans (imB_38 hl1) (by decide))).mono (fun e w18 hq => ?_)))
            obtain ⟨rfl, hf18⟩ := hq
            refine ⟨_, rfl, ?_⟩
            have H18 := H17.fr' hf18
            refine WL.op rfl rfl (op_move rfl ?_)
            refine WL.op rfl rfl (op_extract rfl rfl ?_)
            refine WL.op rfl rfl (op_extract rfl rfl ?_)
            refine WL.op rfl rfl (op_assign rfl ?_)
            refine WL.op rfl rfl (op_assign rfl ?_)
            refine WL.nil ?_
            refine WQ.next ?_
            refine WC.seq ?_
            refine WC.region ?_
            refine WL.op rfl rfl (op_move rfl ?_)
            refine WL.op rfl rfl (op_move rfl ?_)
            refine WL.op rfl rfl (op_callF Fa.C68 rfl ((sopen_ok key s _ (by omega) (by omega)).mono (fun e w19 hq => ?_)))
            obtain ⟨v19, u19, q19, rfl, hq19⟩ := hq
            refine ⟨_, rfl, ?_⟩
            have H19 : Own [] w w19 [.blk b1 [(vU32 pg), ev, pv, (.bool con), (vU32 en), sv] 59, .row v15 130 2 xs.length (List.flatMap xtc xs), .row u15 92 1 ps.length (List.map vU16 ps), .row q15 111 3 sg.length (List.flatMap sgc sg), .blk b16 [(vU32 pg), v15, u15, (.bool con), (vU32 en), q15] 59, .row v19 130 2 (opI key s).xs.length (List.flatMap xtc (opI key s).xs), .row u19 92 1 (opI key s).ps.length (List.map vU16 (opI key s).ps), .row q19 111 3 (opI key s).sg.length (List.flatMap sgc (opI key s).sg)] := H18.splice [] [] [.row v19 130 2 (opI key s).xs.length (List.flatMap xtc (opI key s).xs), .row u19 92 1 (opI key s).ps.length (List.map vU16 (opI key s).ps), .row q19 111 3 (opI key s).sg.length (List.flatMap sgc (opI key s).sg)] rfl rfl hq19 (Fits.solid True.intro (Fits.solid True.intro (Fits.solid True.intro Fits.nil)))
            refine WL.op rfl rfl (op_move rfl ?_)
            refine WL.op rfl rfl (op_extract rfl rfl ?_)
            refine WL.op rfl rfl (op_extract rfl rfl ?_)
            refine WL.op rfl rfl (op_alloc H19 Fa.I59 (fun b20 w20 H20 => ?_))
            refine WL.op rfl rfl (op_storeBW (i := 8) H20 rfl rfl rfl rfl (one_cons rfl (one_cons (Arr.one (H20.arrR (i := 5) rfl)) (one_cons (Arr.one (H20.arrR (i := 6) rfl)) (one_cons rfl (one_cons rfl (one_cons (Arr.one (H20.arrR (i := 7) rfl)) one_nil)))))) Fa.I59 (fun w21 H21 => ?_))
            refine WL.op rfl rfl (op_assign rfl ?_)
            refine WL.nil ?_
            refine WQ.next ?_
            refine WC.seq ?_
            refine WC.region ?_
            refine WL.op rfl rfl (op_move rfl ?_)
            refine WL.op rfl rfl (op_move rfl ?_)
            refine WL.op rfl rfl (op_callF Fa.C69 rfl ((rsopen_ok key s _ (by omega) (by omega)).mono (fun e w22 hq => ?_)))
            obtain ⟨v22, u22, q22, rfl, hq22⟩ := hq
            refine ⟨_, rfl, ?_⟩
            have H22 : Own [] w w22 [.blk b1 [(vU32 pg), ev, pv, (.bool con), (vU32 en), sv] 59, .row v15 130 2 xs.length (List.flatMap xtc xs), .row u15 92 1 ps.length (List.map vU16 ps), .row q15 111 3 sg.length (List.flatMap sgc sg), .blk b16 [(vU32 pg), v15, u15, (.bool con), (vU32 en), q15] 59, .row v19 130 2 (opI key s).xs.length (List.flatMap xtc (opI key s).xs), .row u19 92 1 (opI key s).ps.length (List.map vU16 (opI key s).ps), .row q19 111 3 (opI key s).sg.length (List.flatMap sgc (opI key s).sg), .blk b20 [(vU32 (opI key s).pg), v19, u19, (.bool (opI key s).c), (vU32 (opI key s).en), q19] 59, .row v22 130 2 (opI key s).xs.length (List.flatMap xtc (opI key s).xs), .row u22 92 1 (opI key s).ps.length (List.map vU16 (opI key s).ps), .row q22 111 3 (opI key s).sg.length (List.flatMap sgc (opI key s).sg)] := H21.splice [] [] [.row v22 130 2 (opI key s).xs.length (List.flatMap xtc (opI key s).xs), .row u22 92 1 (opI key s).ps.length (List.map vU16 (opI key s).ps), .row q22 111 3 (opI key s).sg.length (List.flatMap sgc (opI key s).sg)] rfl rfl hq22 (Fits.solid True.intro (Fits.solid True.intro (Fits.solid True.intro Fits.nil)))
            refine WL.op rfl rfl (op_move rfl ?_)
            refine WL.op rfl rfl (op_extract rfl rfl ?_)
            refine WL.op rfl rfl (op_extract rfl rfl ?_)
            refine WL.op rfl rfl (op_alloc H22 Fa.I59 (fun b23 w23 H23 => ?_))
            refine WL.op rfl rfl (op_storeBW (i := 12) H23 rfl rfl rfl rfl (one_cons rfl (one_cons (Arr.one (H23.arrR (i := 9) rfl)) (one_cons (Arr.one (H23.arrR (i := 10) rfl)) (one_cons rfl (one_cons rfl (one_cons (Arr.one (H23.arrR (i := 11) rfl)) one_nil)))))) Fa.I59 (fun w24 H24 => ?_))
            refine WL.op rfl rfl (op_assign rfl ?_)
            refine WL.nil ?_
            refine WQ.next ?_
            refine WC.seq ?_
            refine WC.seq ?_
            refine WC.region ?_
            refine WL.op rfl rfl (op_loadS (vs := [_, _, _, _, _, _]) rfl (H24.cells (i := 4) rfl rfl) Try.underlying59 rfl Fa.I59 rfl ?_)
            refine WL.op rfl rfl (op_loadS (vs := [_, _, _, _, _, _]) rfl (H24.cells (i := 0) rfl rfl) Try.underlying59 rfl Fa.I59 rfl ?_)
            refine WL.op rfl rfl (op_callF Fa.C43 rfl ((risame_ok pg con _ _ _ xs ps en sg pg con _ _ _ xs ps en sg _ (H24.arrR (i := 1) rfl) (H24.arrR (i := 2) rfl) (H24.arrR (i := 3) rfl) (H24.arr hE) (H24.arr hP) (H24.arr hS) (by first | omega | exact (opI_len _ _).1) (by first | omega | exact (opI_len _ _).2.1) (by first | omega | exact (opI_len _ _).2.2)).mono (fun e w25 hq => ?_)))
            obtain ⟨rfl, hf25⟩ := hq
            refine ⟨_, rfl, ?_⟩
            have H25 := H24.fr' hf25
            refine WL.op rfl rfl (op_not rfl ?_)
            refine WL.op rfl rfl (op_move rfl ?_)
            refine WL.yes rfl rfl rfl (congrArg Bool.not (sameI_refl _ _ _ _ _ _)) rfl (op_loadS (vs := [_, _, _, _, _, _]) rfl (H25.cells (i := 8) rfl rfl) Try.underlying59 rfl Fa.I59 rfl ?_)
            refine WL.yes rfl rfl rfl (congrArg Bool.not (sameI_refl _ _ _ _ _ _)) rfl (op_loadS (vs := [_, _, _, _, _, _]) rfl (H25.cells (i := 12) rfl rfl) Try.underlying59 rfl Fa.I59 rfl ?_)
            refine WL.yes rfl rfl rfl (congrArg Bool.not (sameI_refl _ _ _ _ _ _)) rfl (op_callF Fa.C43 rfl ((risame_ok ((opI key s).pg) ((opI key s).c) _ _ _ ((opI key s).xs) ((opI key s).ps) ((opI key s).en) ((opI key s).sg) ((opI key s).pg) ((opI key s).c) _ _ _ ((opI key s).xs) ((opI key s).ps) ((opI key s).en) ((opI key s).sg) _ (H25.arrR (i := 5) rfl) (H25.arrR (i := 6) rfl) (H25.arrR (i := 7) rfl) (H25.arrR (i := 9) rfl) (H25.arrR (i := 10) rfl) (H25.arrR (i := 11) rfl) (by first | omega | exact (opI_len _ _).1) (by first | omega | exact (opI_len _ _).2.1) (by first | omega | exact (opI_len _ _).2.2)).mono (fun e w26 hq => ?_)))
            obtain ⟨rfl, hf26⟩ := hq
            refine ⟨_, rfl, ?_⟩
            have H26 := H25.fr' hf26
            refine WL.yes rfl rfl rfl (congrArg Bool.not (sameI_refl _ _ _ _ _ _)) rfl (op_not rfl ?_)
            refine WL.op rfl rfl (op_pickF rfl (congrArg Bool.not (sameI_refl _ _ _ _ _ _)) rfl ?_)
            refine WL.op rfl rfl (op_move rfl ?_)
            refine WL.yes rfl rfl rfl (congrArg Bool.not (sameI_refl _ _ _ _ _ _)) rfl (op_move rfl ?_)
            refine WL.yes rfl rfl rfl (congrArg Bool.not (sameI_refl _ _ _ _ _ _)) rfl (op_move rfl ?_)
            refine WL.yes rfl rfl rfl (congrArg Bool.not (sameI_refl _ _ _ _ _ _)) rfl (op_neqN rfl rfl ?_)
            refine WL.op rfl rfl (op_pickF rfl (congrArg Bool.not (sameI_refl _ _ _ _ _ _)) rfl ?_)
            refine WL.op rfl rfl (op_move rfl ?_)
            refine WL.yes rfl rfl rfl (decide_eq_false (fun h => h (rfl))) rfl (op_move rfl ?_)
            refine WL.yes rfl rfl rfl (decide_eq_false (fun h => h (rfl))) rfl (op_move rfl ?_)
            refine WL.yes rfl rfl rfl (decide_eq_false (fun h => h (rfl))) rfl (op_callF Fa.C70 rfl ((stag_ok key _ ls _ (H26.arr hA) (by omega) (by omega)).mono (fun e w27 hq => ?_)))
            obtain ⟨rfl, hf27⟩ := hq
            refine ⟨_, rfl, ?_⟩
            have H27 := H26.fr' hf27
            refine WL.yes rfl rfl rfl (decide_eq_false (fun h => h (rfl))) rfl (op_move rfl ?_)
            refine WL.yes rfl rfl rfl (decide_eq_false (fun h => h (rfl))) rfl (op_move rfl ?_)
            refine WL.yes rfl rfl rfl (decide_eq_false (fun h => h (rfl))) rfl (op_callF Fa.C71 rfl ((rmac_ok key (tk ls k) _ (by omega) (by rw [htx]; omega)).mono (fun e w28 hq => ?_)))
            obtain ⟨rfl, hf28⟩ := hq
            refine ⟨_, rfl, ?_⟩
            have H28 := H27.fr' hf28
            refine WL.yes rfl rfl rfl (decide_eq_false (fun h => h (rfl))) rfl (op_neqStr rfl rfl ?_)
            refine WL.op rfl rfl (op_pickF rfl (decide_eq_false (fun h => h (rfl))) rfl ?_)
            refine WL.nil ?_
            refine WQ.next ?_
            refine WC.no rfl (decide_eq_false (fun h => h (by rw [htx]))) ?_
            refine WC.skip ?_
            refine WQ.next ?_
            refine WC.seq ?_
            refine WC.seq ?_
            refine WC.region ?_
            refine WL.op rfl rfl (op_loadS (vs := [_, _, _, _, _, _]) rfl (H28.cells (i := 0) rfl rfl) Try.underlying59 rfl Fa.I59 rfl ?_)
            refine WL.op rfl rfl (op_callF Fa.C47 rfl ((rmay16_ok pg _ _ _ xs ps con en sg _ (H28.arr hE) (H28.arr hP) (H28.arr hS) (by omega) (by omega) (by omega) hb1).mono (fun e w29 hq => ?_)))
            obtain ⟨rfl, hf29⟩ := hq
            refine ⟨_, rfl, ?_⟩
            have H29 := H28.fr' hf29
            refine WL.op rfl rfl (op_not rfl ?_)
            refine WL.nil ?_
            refine WQ.next ?_
            refine WC.cond rfl (fun (hb30 : (!(rMay pg xs ps en sg)) = true) => ?_) (fun (hb30 : (!(rMay pg xs ps en sg)) = false) => ?_)
            ·
              have hn30 := (Bool.not_eq_true' _).mp hb30
              have hI := may_no hl1.2.2.2 hn30
              refine WC.seq ?_
              refine WC.region ?_
              refine WL.op rfl rfl (op_move rfl ?_)
              refine WL.op rfl rfl (op_eqlStr rfl rfl ?_)
              refine WL.op rfl rfl (op_move rfl ?_)
              refine WL.yes rfl rfl rfl (decide_eq_true (sl_no hI)) rfl (op_move rfl ?_)
              refine WL.yes rfl rfl rfl (decide_eq_true (sl_no hI)) rfl (op_eqlN (b := 2) rfl rfl ?_)
              refine WL.op rfl rfl (op_pickT rfl (decide_eq_true (sl_no hI)) rfl ?_)
              refine WL.op rfl rfl (op_move rfl ?_)
              refine WL.yes rfl rfl rfl (decide_eq_true (hI)) rfl (op_callF Fa.C66 rfl ((alive17_ok _).mono (fun e w31 hq => ?_)))
              obtain ⟨rfl, hf31⟩ := hq
              refine ⟨_, rfl, ?_⟩
              have H31 := H29.fr' hf31
              refine WL.op rfl rfl (op_pickT rfl (decide_eq_true (hI)) rfl ?_)
              refine WL.op rfl rfl (op_assign rfl ?_)
              refine WL.nil ?_
              refine WQ.next ?_
              refine WC.ret ?_
              refine WQ.thenRet ?_
              refine WQ.out (.tmp rfl .nil) ?_
              exact ⟨rfl, H31.fr⟩
            ·
              have hn30 := (Bool.not_eq_false' _).mp hb30
              have hI := may_yes hl1.2.2.2 hn30
              refine WC.skip ?_
              refine WQ.next ?_
              refine WC.seq ?_
              refine WC.region ?_
              refine WL.op rfl rfl (op_move rfl ?_)
              refine WL.op rfl rfl (op_move rfl ?_)
              refine WL.op rfl rfl (op_loadS (vs := [_, _, _, _, _, _]) rfl (H29.cells (i := 0) rfl rfl) Try.underlying59 rfl Fa.I59 rfl ?_)
              refine WL.op rfl rfl (op_callF Fa.C72 rfl ((rseal_ok key pg _ _ _ xs ps con en sg _ (H29.arr hE) (H29.arr hP) (H29.arr hS) (by omega) (by omega) (by omega) (by omega) hb1 (Nat.lt_trans (imS_37 hl1) (by decide))).mono (fun e w32 hq => ?_)))
              obtain ⟨rfl, hf32⟩ := hq
              refine ⟨_, rfl, ?_⟩
              have H32 := H29.fr' hf32
              refine WL.op rfl rfl (op_eqlStr rfl rfl ?_)
              refine WL.op rfl rfl (op_move rfl ?_)
              refine WL.yes rfl rfl rfl (decide_eq_true (sl_yes hI)) rfl (op_move rfl ?_)
              refine WL.yes rfl rfl rfl (decide_eq_true (sl_yes hI)) rfl (op_eqlN (b := 0) rfl rfl ?_)
              refine WL.op rfl rfl (op_pickT rfl (decide_eq_true (sl_yes hI)) rfl ?_)
              refine WL.op rfl rfl (op_move rfl ?_)
              refine WL.yes rfl rfl rfl (decide_eq_true (hI)) rfl (op_callF Fa.C66 rfl ((alive17_ok _).mono (fun e w33 hq => ?_)))
              obtain ⟨rfl, hf33⟩ := hq
              refine ⟨_, rfl, ?_⟩
              have H33 := H32.fr' hf33
              refine WL.op rfl rfl (op_pickT rfl (decide_eq_true (hI)) rfl ?_)
              refine WL.op rfl rfl (op_assign rfl ?_)
              refine WL.nil ?_
              refine WQ.next ?_
              refine WC.ret ?_
              refine WQ.out (.tmp rfl .nil) ?_
              exact ⟨rfl, H33.fr⟩
end Go.Proofs.Ytpnghdalnghpcaa
