/- General lemmas and walks: WSlot7. No condition but what each theorem names. -/
import Derived.Test.YtbjhccnffacbcaaGreatQe22db859
import Derived.Test.YtbjhccnffacbcaaGreatQc478fb86
import Derived.Test.YtbjhccnffacbcaaGreatQ54427b1e
/-! from WSlot7 -/
namespace Go.Proofs.YtbjhccnffacbcaaGreat
open Go.Owl Go.Spec
set_option maxHeartbeats 4000000 in
set_option maxRecDepth 100000 in
theorem callsNew_ok (pg : UInt32) (lv : Value) (a b : UInt32) (w : World) (hA : Arr w lv 1 2 (List.map vU32 [a, b])) (hok0 : hardE pg [a, b] = 0) :
    Calls Tryz.prog 83 #[(.agg #[(vU32 pg), lv])] w (fun e w' => ∃ k bv e0 e1 xv cv nv, e = .returned (.tuple #[ptr k 0, vN 0]) ∧ (∀ b' ∈ [k], w.heap.size ≤ b') ∧ (∀ b' ∈ footA bv [e0, e1], w.heap.size ≤ b') ∧ (∀ b' ∈ footA e0 (List.map str (List.replicate a.toNat (List.replicate 64 0))), w.heap.size ≤ b') ∧ Own [] w w' [Ent.bo k [(vU32 pg), xv, cv, nv, bv], Ent.ar bv 1 2 [e0, e1], .row e1 9 1 b.toNat (List.map str (List.replicate b.toNat (List.replicate 64 0))), Ent.ar e0 1 a.toNat (List.map str (List.replicate a.toNat (List.replicate 64 0)))]) := by
  refine enter (args := [(.agg #[(vU32 pg), lv])]) Tryz.func83 rfl rfl ?_
  have H0 : Own [] w w [] := Own.start w []
  refine WC.seq ?_
  refine WC.region ?_
  refine WL.op rfl rfl (op_box H0 rfl rfl (fun b1 w1 H1 => ?_))
  refine WL.op rfl rfl (op_assign rfl ?_)
  refine WL.op rfl rfl (op_assign rfl ?_)
  refine WL.nil ?_
  refine WQ.next ?_
  refine WC.seq ?_
  refine WC.region ?_
  refine WL.op rfl rfl (op_loadS (vs := [_, _]) rfl (H1.cells (i := 0) rfl rfl) Tryz.underlying75 rfl Fa.I75 rfl ?_)
  refine WL.op rfl rfl (op_callF Fa.C126 rfl ((capsNew_ok pg _ ([a, b]) _ (H1.arr hA) (by show 2 < _; decide) hok0).mono (fun e w2 hq => ?_)))
  obtain ⟨c2, v2, mb2, rfl, hq2⟩ := hq
  refine ⟨_, rfl, ?_⟩
  have H2 : Own [] w w2 [.blk b1 [(vU32 pg), lv] 75, .blk c2 [(vU32 pg), v2, (.map (some mb2))] 196, .row v2 22 1 ([a, b]).length (List.map vU32 ([a, b])), .obj mb2 (mP .i64 [] 0)] := H1.splice [] [] [.blk c2 [(vU32 pg), v2, (.map (some mb2))] 196, .row v2 22 1 ([a, b]).length (List.map vU32 ([a, b])), .obj mb2 (mP .i64 [] 0)] rfl rfl hq2 (Fits.solid True.intro (Fits.solid True.intro (Fits.solid True.intro Fits.nil)))
  refine WL.op rfl rfl (op_move rfl ?_)
  refine WL.op rfl rfl (op_extract rfl rfl ?_)
  refine WL.op rfl rfl (op_extract rfl rfl ?_)
  refine WL.op rfl rfl (op_assign rfl ?_)
  refine WL.op rfl rfl (op_assign rfl ?_)
  refine WL.nil ?_
  refine WQ.next ?_
  refine WC.seq ?_
  refine WC.seq ?_
  refine WC.region ?_
  refine WL.op rfl rfl (op_move rfl ?_)
  refine WL.op rfl rfl (op_neqN (b := 0) rfl rfl ?_)
  refine WL.nil ?_
  refine WQ.next ?_
  refine WC.no rfl (by decide) ?_
  refine WC.skip ?_
  refine WQ.next ?_
  refine WC.seq ?_
  refine WC.region ?_
  refine WL.op rfl rfl (op_fieldAddr rfl Fa.F75_1 ?_)
  refine WL.op rfl rfl (op_load rfl (H2.cell (i := 0) rfl rfl) Tryz.underlying73 rfl ?_)
  refine WL.op rfl rfl (op_callF Fa.C127 rfl ((clone32_ok _ ([a, b]) _ (H2.arr hA) (by show 2 < _; decide)).mono (fun e w3 hq => ?_)))
  obtain ⟨v3, rfl, hq3⟩ := hq
  refine ⟨_, rfl, ?_⟩
  have H3 : Own [] w w3 [.blk b1 [(vU32 pg), lv] 75, .blk c2 [(vU32 pg), v2, (.map (some mb2))] 196, .row v2 22 1 ([a, b]).length (List.map vU32 ([a, b])), .obj mb2 (mP .i64 [] 0), .row v3 22 1 ([a, b]).length (List.map vU32 [a, b])] := H2.splice [] [] [.row v3 22 1 ([a, b]).length (List.map vU32 [a, b])] rfl rfl hq3 (Fits.solid True.intro Fits.nil)
  refine WL.op rfl rfl (op_fieldAddr rfl Fa.F75_1 ?_)
  refine WL.op rfl rfl (op_storeB (i := 0) H3 rfl rfl rfl rfl (Arr.one (H3.arrR (i := 4) rfl)) Fa.I73 (fun w4 H4 => ?_))
  refine WL.nil ?_
  refine WQ.next ?_
  refine WC.seq ?_
  refine WC.held 6 rfl Fa.M H4 (fun w' => ∃ L', Own [] w w' ([.blk b1 [(vU32 pg), v3] 75, .blk c2 [(vU32 pg), v2, (.map (some mb2))] 196, .row v2 22 1 ([a, b]).length (List.map vU32 ([a, b])), .obj mb2 (mP .i64 [] 0), .row v3 22 1 ([a, b]).length (List.map vU32 [a, b])] ++ L')) ?_
  intro w5 H5
  refine WH.take (i := 0) (v := (.agg #[(vU32 pg), v3])) rfl rfl (.inl rfl) rfl (by kernel_rfl) ⟨[], H5⟩ (fun wX hSX => hSX.elim fun LX HX => op_loadS (vs := [_, _]) rfl (HX.cells (i := 0) rfl rfl) Tryz.underlying75 rfl Fa.I75 rfl ⟨rfl, rfl⟩) ?_
  refine WH.take (i := 1) (v := (ptr c2 0)) rfl rfl (.inl rfl) rfl (by kernel_rfl) ⟨[], H5⟩ (fun wX hSX => hSX.elim fun LX HX => op_move rfl ⟨rfl, rfl⟩) ?_
  refine WH.named (fun W hW => ?_)
  have st5_2 : ∀ (b16081 : Nat) (q16041 : Nat) (mb16041 : Nat) (wS : World), Own [] w wS [.blk b1 [(vU32 pg), v3] 75, .blk c2 [(vU32 pg), v2, (.map (some mb2))] 196, .row v2 22 1 ([a, b]).length (List.map vU32 ([a, b])), .obj mb2 (mP .i64 [] 0), .row v3 22 1 ([a, b]).length (List.map vU32 [a, b]), .blk q16041 [(.map (some mb16041)), (.slice none 0 0), (vN 0)] 264, .obj mb16041 (mP .u16 [] 0), .blk b16081 [(vU32 pg), v3, (ptr c2 0), (ptr q16041 0), (.slice none 0 0), (vU32 0)] 193] → W 0 #[true, true, true, true, true, true] [(0, (.agg #[(vU32 pg), lv])), (1, (ptr b1 0)), (2, (.pointer none)), (3, (vN 0)), (4, (ptr c2 0)), (5, (vN 0)), (6, (ptr b16081 0)), (9, (.tuple #[(ptr c2 0), (vN 0)])), (10, (.agg #[(vU32 pg), lv])), (11, (.tuple #[(ptr c2 0), (vN 0)])), (12, (ptr c2 0)), (13, (vN 0)), (14, (vN 0)), (15, (.bool (decide (0 ≠ 0)))), (17, (ptr b1 1)), (18, lv), (19, v3), (20, (ptr b1 1)), (21, (.agg #[(vU32 pg), v3])), (22, (ptr c2 0)), (23, (ptr q16041 0)), (24, (.agg #[(vU32 pg), v3, (ptr c2 0), (ptr q16041 0), (.slice none 0 0), (vU32 0)])), (25, (ptr b16081 0))] wS := by
    intro b16081 q16041 mb16041 wS HS
    rw [hW]
    refine WH.done (by kernel_rfl) ?_
    refine WQ.next ?_
    refine WC.seq ?_
    refine WC.seq ?_
    refine WC.region ?_
    refine WL.op rfl rfl (op_fieldAddr rfl Fa.F75_1 ?_)
    refine WL.op rfl rfl (op_load rfl (HS.cell (i := 0) rfl rfl) Tryz.underlying73 rfl ?_)
    refine WL.op rfl rfl (op_lenA Tryz.underlying73 rfl (HS.arrR (i := 4) rfl) ?_)
    refine WL.op rfl rfl (op_move rfl ?_)
    refine WL.nil ?_
    refine WQ.next ?_
    refine WC.block ?_
    refine WC.unroll 2 ?_
    refine WC.seq ?_
    refine WC.region ?_
    refine WL.op rfl rfl (op_lssN rfl rfl ?_)
    refine WL.nil ?_
    refine WQ.next ?_
    refine WC.seq ?_
    refine WC.yes rfl rfl ?_
    refine WC.skip ?_
    refine WQ.next ?_
    refine WC.seq ?_
    refine WC.block ?_
    refine WC.seq ?_
    refine WC.region ?_
    refine WL.op rfl rfl (op_indexAddr1 Tryz.underlying73 Fa.I22 rfl (HS.arrR (i := 4) rfl) rfl (by simp) ?_)
    refine WL.op rfl rfl (op_load rfl ((HS.arrR (i := 4) rfl).at rfl) Tryz.underlying22 rfl ?_)
    refine WL.op rfl rfl (op_assign rfl ?_)
    refine WL.nil ?_
    refine WQ.next ?_
    refine WC.held 16 rfl Fa.M HS (fun w' => ∃ L', Own [] w w' ([.blk b1 [(vU32 pg), v3] 75, .blk c2 [(vU32 pg), v2, (.map (some mb2))] 196, .row v2 22 1 ([a, b]).length (List.map vU32 ([a, b])), .obj mb2 (mP .i64 [] 0), .row v3 22 1 ([a, b]).length (List.map vU32 [a, b]), .blk q16041 [(.map (some mb16041)), (.slice none 0 0), (vN 0)] 264, .obj mb16041 (mP .u16 [] 0)] ++ L')) ?_
    intro w7 H7
    refine WH.take (i := 0) (v := (ptr b16081 0)) rfl rfl (.inl rfl) rfl (by kernel_rfl) ⟨[.blk b16081 [(vU32 pg), v3, (ptr c2 0), (ptr q16041 0), (.slice none 0 0), (vU32 0)] 193], H7⟩ (fun wX hSX => hSX.elim fun LX HX => op_move rfl ⟨rfl, rfl⟩) ?_
    refine WH.take (i := 1) (v := (ptr b16081 0)) rfl rfl (.inl rfl) rfl (by kernel_rfl) ⟨[.blk b16081 [(vU32 pg), v3, (ptr c2 0), (ptr q16041 0), (.slice none 0 0), (vU32 0)] 193], H7⟩ (fun wX hSX => hSX.elim fun LX HX => op_move rfl ⟨rfl, rfl⟩) ?_
    refine WH.take (i := 8) (v := (vU32 a)) rfl rfl (.inl rfl) rfl (by kernel_rfl) ⟨[.blk b16081 [(vU32 pg), v3, (ptr c2 0), (ptr q16041 0), (.slice none 0 0), (vU32 0)] 193], H7⟩ (fun wX hSX => hSX.elim fun LX HX => op_move rfl ⟨rfl, rfl⟩) ?_
    refine WH.take (i := 9) (v := (vN a.toNat)) rfl rfl (.inl rfl) rfl (by kernel_rfl) ⟨[.blk b16081 [(vU32 pg), v3, (ptr c2 0), (ptr q16041 0), (.slice none 0 0), (vU32 0)] 193], H7⟩ (fun wX hSX => hSX.elim fun LX HX => op_convU32N (hs := Tryz.underlying22) (hd := Tryz.underlying3) rfl ⟨rfl, rfl⟩) ?_
    refine WH.named (fun W hW => ?_)
    have st9_20 : ∀ (b18101 : Nat) (b18141 : Nat) (v18201 : Value) (b18221 : Nat) (v18241 : Value) (wS : World), Own [] w wS [.blk b1 [(vU32 pg), v3] 75, .blk c2 [(vU32 pg), v2, (.map (some mb2))] 196, .row v2 22 1 ([a, b]).length (List.map vU32 ([a, b])), .obj mb2 (mP .i64 [] 0), .row v3 22 1 ([a, b]).length (List.map vU32 [a, b]), .blk q16041 [(.map (some mb16041)), (.slice none 0 0), (vN 0)] 264, .obj mb16041 (mP .u16 [] 0), .blk b16081 [(vU32 pg), v3, (ptr c2 0), (ptr q16041 0), v18241, (vU32 0)] 193, .row (.slice (some ⟨b18101, 0, none⟩) 64 64) 5 1 64 (List.map vU8 (List.replicate 64 0)), .row (.slice (some ⟨b18141, 0, none⟩) 1 1) 9 1 1 (List.map str [(List.replicate 64 0)]), .row v18201 9 1 a.toNat (List.map str (List.replicate a.toNat (List.replicate 64 0))), .row (.slice (some ⟨b18221, 0, none⟩) 1 1) 59 1 1 [v18201], .row v18241 59 1 (0 + 1) ([] ++ [v18201])] → W 0 #[true, true, true, true, true, true, true, true, true, true, true, true, true, true, true, true] [(0, (.agg #[(vU32 pg), lv])), (1, (ptr b1 0)), (2, (.pointer none)), (3, (vN 0)), (4, (ptr c2 0)), (5, (vN 0)), (6, (ptr b16081 0)), (8, (vU32 a)), (9, (.tuple #[(ptr c2 0), (vN 0)])), (10, (.agg #[(vU32 pg), lv])), (11, (.tuple #[(ptr c2 0), (vN 0)])), (12, (ptr c2 0)), (13, (vN 0)), (14, (vN 0)), (15, (.bool (decide (0 ≠ 0)))), (17, (ptr b1 1)), (18, lv), (19, v3), (20, (ptr b1 1)), (21, (.agg #[(vU32 pg), v3])), (22, (ptr c2 0)), (23, (ptr q16041 0)), (24, (.agg #[(vU32 pg), v3, (ptr c2 0), (ptr q16041 0), (.slice none 0 0), (vU32 0)])), (25, (ptr b16081 0)), (26, (ptr b1 1)), (27, v3), (28, (vN ([a, b]).length)), (29, (vN 0)), (30, (.bool (decide (0 < ([a, b]).length)))), (31, (.pointer (some (sp v3 0)))), (32, (vU32 a)), (33, (ptr b16081 0)), (34, (ptr b16081 0)), (35, (ptr b16081 0)), (36, (ptr b16081 4)), (37, (.slice none 0 0)), (38, (.slice (some ⟨b18101, 0, none⟩) 64 64)), (39, (str (List.replicate 64 0))), (40, (.slice (some ⟨b18141, 0, none⟩) 1 1)), (41, (vU32 a)), (42, (vN a.toNat)), (43, v18201), (44, (.slice (some ⟨b18221, 0, none⟩) 1 1)), (45, v18241), (46, (ptr b16081 0)), (47, (ptr b16081 4))] wS := by
      intro b18101 b18141 v18201 b18221 v18241 wS HS
      rw [hW]
      refine WH.done (by kernel_rfl) ?_
      refine WQ.inNormal ?_
      refine WQ.next ?_
      refine WC.region ?_
      refine WL.op rfl rfl (op_addN (b := 1) rfl rfl (by omega) ?_)
      refine WL.op rfl rfl (op_move rfl ?_)
      refine WL.nil ?_
      refine WQ.again ?_
      refine WC.seq ?_
      refine WC.region ?_
      refine WL.op rfl rfl (op_lssN rfl rfl ?_)
      refine WL.nil ?_
      refine WQ.next ?_
      refine WC.seq ?_
      refine WC.yes rfl rfl ?_
      refine WC.skip ?_
      refine WQ.next ?_
      refine WC.seq ?_
      refine WC.block ?_
      refine WC.seq ?_
      refine WC.region ?_
      refine WL.op rfl rfl (op_indexAddr1 Tryz.underlying73 Fa.I22 rfl (HS.arrR (i := 4) rfl) rfl (by simp) ?_)
      refine WL.op rfl rfl (op_load rfl ((HS.arrR (i := 4) rfl).at rfl) Tryz.underlying22 rfl ?_)
      refine WL.op rfl rfl (op_assign rfl ?_)
      refine WL.nil ?_
      refine WQ.next ?_
      refine WC.held 16 rfl Fa.M HS (fun w' => ∃ L', Own [] w w' ([.blk b1 [(vU32 pg), v3] 75, .blk c2 [(vU32 pg), v2, (.map (some mb2))] 196, .row v2 22 1 ([a, b]).length (List.map vU32 ([a, b])), .obj mb2 (mP .i64 [] 0), .row v3 22 1 ([a, b]).length (List.map vU32 [a, b]), .blk q16041 [(.map (some mb16041)), (.slice none 0 0), (vN 0)] 264, .obj mb16041 (mP .u16 [] 0)] ++ L')) ?_
      intro w9 H9
      refine WH.take (i := 0) (v := (ptr b16081 0)) rfl rfl (.inl rfl) rfl (by kernel_rfl) ⟨[.blk b16081 [(vU32 pg), v3, (ptr c2 0), (ptr q16041 0), v18241, (vU32 0)] 193, .row (.slice (some ⟨b18101, 0, none⟩) 64 64) 5 1 64 (List.map vU8 (List.replicate 64 0)), .row (.slice (some ⟨b18141, 0, none⟩) 1 1) 9 1 1 (List.map str [(List.replicate 64 0)]), .row v18201 9 1 a.toNat (List.map str (List.replicate a.toNat (List.replicate 64 0))), .row (.slice (some ⟨b18221, 0, none⟩) 1 1) 59 1 1 [v18201], .row v18241 59 1 (0 + 1) ([] ++ [v18201])], H9⟩ (fun wX hSX => hSX.elim fun LX HX => op_move rfl ⟨rfl, rfl⟩) ?_
      refine WH.take (i := 1) (v := (ptr b16081 0)) rfl rfl (.inl rfl) rfl (by kernel_rfl) ⟨[.blk b16081 [(vU32 pg), v3, (ptr c2 0), (ptr q16041 0), v18241, (vU32 0)] 193, .row (.slice (some ⟨b18101, 0, none⟩) 64 64) 5 1 64 (List.map vU8 (List.replicate 64 0)), .row (.slice (some ⟨b18141, 0, none⟩) 1 1) 9 1 1 (List.map str [(List.replicate 64 0)]), .row v18201 9 1 a.toNat (List.map str (List.replicate a.toNat (List.replicate 64 0))), .row (.slice (some ⟨b18221, 0, none⟩) 1 1) 59 1 1 [v18201], .row v18241 59 1 (0 + 1) ([] ++ [v18201])], H9⟩ (fun wX hSX => hSX.elim fun LX HX => op_move rfl ⟨rfl, rfl⟩) ?_
      refine WH.take (i := 8) (v := (vU32 b)) rfl rfl (.inl rfl) rfl (by kernel_rfl) ⟨[.blk b16081 [(vU32 pg), v3, (ptr c2 0), (ptr q16041 0), v18241, (vU32 0)] 193, .row (.slice (some ⟨b18101, 0, none⟩) 64 64) 5 1 64 (List.map vU8 (List.replicate 64 0)), .row (.slice (some ⟨b18141, 0, none⟩) 1 1) 9 1 1 (List.map str [(List.replicate 64 0)]), .row v18201 9 1 a.toNat (List.map str (List.replicate a.toNat (List.replicate 64 0))), .row (.slice (some ⟨b18221, 0, none⟩) 1 1) 59 1 1 [v18201], .row v18241 59 1 (0 + 1) ([] ++ [v18201])], H9⟩ (fun wX hSX => hSX.elim fun LX HX => op_move rfl ⟨rfl, rfl⟩) ?_
      refine WH.take (i := 9) (v := (vN b.toNat)) rfl rfl (.inl rfl) rfl (by kernel_rfl) ⟨[.blk b16081 [(vU32 pg), v3, (ptr c2 0), (ptr q16041 0), v18241, (vU32 0)] 193, .row (.slice (some ⟨b18101, 0, none⟩) 64 64) 5 1 64 (List.map vU8 (List.replicate 64 0)), .row (.slice (some ⟨b18141, 0, none⟩) 1 1) 9 1 1 (List.map str [(List.replicate 64 0)]), .row v18201 9 1 a.toNat (List.map str (List.replicate a.toNat (List.replicate 64 0))), .row (.slice (some ⟨b18221, 0, none⟩) 1 1) 59 1 1 [v18201], .row v18241 59 1 (0 + 1) ([] ++ [v18201])], H9⟩ (fun wX hSX => hSX.elim fun LX HX => op_convU32N (hs := Tryz.underlying22) (hd := Tryz.underlying3) rfl ⟨rfl, rfl⟩) ?_
      refine WH.named (fun W hW => ?_)
      have st9_20 : ∀ (b20101 : Nat) (b20141 : Nat) (v20201 : Value) (b20221 : Nat) (v20241 : Value) (wS : World), Own [] w wS [.blk b1 [(vU32 pg), v3] 75, .blk c2 [(vU32 pg), v2, (.map (some mb2))] 196, .row v2 22 1 ([a, b]).length (List.map vU32 ([a, b])), .obj mb2 (mP .i64 [] 0), .row v3 22 1 ([a, b]).length (List.map vU32 [a, b]), .blk q16041 [(.map (some mb16041)), (.slice none 0 0), (vN 0)] 264, .obj mb16041 (mP .u16 [] 0), .blk b16081 [(vU32 pg), v3, (ptr c2 0), (ptr q16041 0), v20241, (vU32 0)] 193, .row (.slice (some ⟨b18101, 0, none⟩) 64 64) 5 1 64 (List.map vU8 (List.replicate 64 0)), .row (.slice (some ⟨b18141, 0, none⟩) 1 1) 9 1 1 (List.map str [(List.replicate 64 0)]), .row v18201 9 1 a.toNat (List.map str (List.replicate a.toNat (List.replicate 64 0))), .row (.slice (some ⟨b18221, 0, none⟩) 1 1) 59 1 1 [v18201], .row v20241 59 1 ((0 + 1) + 1) (([] ++ [v18201]) ++ [v20201]), .row (.slice (some ⟨b20101, 0, none⟩) 64 64) 5 1 64 (List.map vU8 (List.replicate 64 0)), .row (.slice (some ⟨b20141, 0, none⟩) 1 1) 9 1 1 (List.map str [(List.replicate 64 0)]), .row v20201 9 1 b.toNat (List.map str (List.replicate b.toNat (List.replicate 64 0))), .row (.slice (some ⟨b20221, 0, none⟩) 1 1) 59 1 1 [v20201]] → W 0 #[true, true, true, true, true, true, true, true, true, true, true, true, true, true, true, true] [(0, (.agg #[(vU32 pg), lv])), (1, (ptr b1 0)), (2, (.pointer none)), (3, (vN 0)), (4, (ptr c2 0)), (5, (vN 0)), (6, (ptr b16081 0)), (8, (vU32 b)), (9, (.tuple #[(ptr c2 0), (vN 0)])), (10, (.agg #[(vU32 pg), lv])), (11, (.tuple #[(ptr c2 0), (vN 0)])), (12, (ptr c2 0)), (13, (vN 0)), (14, (vN 0)), (15, (.bool (decide (0 ≠ 0)))), (17, (ptr b1 1)), (18, lv), (19, v3), (20, (ptr b1 1)), (21, (.agg #[(vU32 pg), v3])), (22, (ptr c2 0)), (23, (ptr q16041 0)), (24, (.agg #[(vU32 pg), v3, (ptr c2 0), (ptr q16041 0), (.slice none 0 0), (vU32 0)])), (25, (ptr b16081 0)), (26, (ptr b1 1)), (27, v3), (28, (vN ([a, b]).length)), (29, (vN (0 + 1))), (30, (.bool (decide ((0 + 1) < ([a, b]).length)))), (31, (.pointer (some (sp v3 (0 + 1))))), (32, (vU32 b)), (33, (ptr b16081 0)), (34, (ptr b16081 0)), (35, (ptr b16081 0)), (36, (ptr b16081 4)), (37, v18241), (38, (.slice (some ⟨b20101, 0, none⟩) 64 64)), (39, (str (List.replicate 64 0))), (40, (.slice (some ⟨b20141, 0, none⟩) 1 1)), (41, (vU32 b)), (42, (vN b.toNat)), (43, v20201), (44, (.slice (some ⟨b20221, 0, none⟩) 1 1)), (45, v20241), (46, (ptr b16081 0)), (47, (ptr b16081 4)), (48, (vN (0 + 1)))] wS := by
        intro b20101 b20141 v20201 b20221 v20241 wS HS
        rw [hW]
        refine WH.done (by kernel_rfl) ?_
        refine WQ.inNormal ?_
        refine WQ.next ?_
        refine WC.region ?_
        refine WL.op rfl rfl (op_addN (b := 1) rfl rfl (by omega) ?_)
        refine WL.op rfl rfl (op_move rfl ?_)
        refine WL.nil ?_
        refine WQ.again ?_
        refine WC.seq ?_
        refine WC.region ?_
        refine WL.op rfl rfl (op_lssN rfl rfl ?_)
        refine WL.nil ?_
        refine WQ.next ?_
        refine WC.seq ?_
        refine WC.no rfl rfl ?_
        refine WC.exit ?_
        refine WQ.thenExit ?_
        refine WQ.thenExit ?_
        refine WQ.inHere ?_
        refine WQ.next ?_
        refine WC.seq ?_
        refine WC.region ?_
        refine WL.op rfl rfl (op_move rfl ?_)
        refine WL.op rfl rfl (op_assign rfl ?_)
        refine WL.op rfl rfl (op_assign rfl ?_)
        refine WL.nil ?_
        refine WQ.next ?_
        refine WC.ret ?_
        refine WQ.out (.tmp rfl (.tmp rfl .nil)) ?_
        have h := (show Own [] w wS [.blk b1 [(vU32 pg), v3] 75, .blk c2 [(vU32 pg), v2, (.map (some mb2))] 196, .row v2 22 1 ([a, b]).length (List.map vU32 ([a, b])), .obj mb2 (mP .i64 [] 0), .row v3 22 1 ([a, b]).length (List.map vU32 [a, b]), .blk q16041 [(.map (some mb16041)), (.slice none 0 0), (vN 0)] 264, .obj mb16041 (mP .u16 [] 0), .blk b16081 [(vU32 pg), v3, (ptr c2 0), (ptr q16041 0), v20241, (vU32 0)] 193, .row (.slice (some ⟨b18101, 0, none⟩) 64 64) 5 1 64 (List.map vU8 (List.replicate 64 0)), .row (.slice (some ⟨b18141, 0, none⟩) 1 1) 9 1 1 (List.map str [(List.replicate 64 0)]), .row v18201 9 1 a.toNat (List.map str (List.replicate a.toNat (List.replicate 64 0))), .row (.slice (some ⟨b18221, 0, none⟩) 1 1) 59 1 1 [v18201], .row v20241 59 1 ((0 + 1) + 1) (([] ++ [v18201]) ++ [v20201]), .row (.slice (some ⟨b20101, 0, none⟩) 64 64) 5 1 64 (List.map vU8 (List.replicate 64 0)), .row (.slice (some ⟨b20141, 0, none⟩) 1 1) 9 1 1 (List.map str [(List.replicate 64 0)]), .row v20201 9 1 b.toNat (List.map str (List.replicate b.toNat (List.replicate 64 0))), .row (.slice (some ⟨b20221, 0, none⟩) 1 1) 59 1 1 [v20201]] from HS)
        refine ⟨b16081, v20241, v18201, v20201, v3, (ptr c2 0), (ptr q16041 0), rfl, fun b hb => ?_, fun b hb => ?_, fun b hb => ?_, (((h.toBo (i := 7) rfl 5 rfl).freeze (i := 12) rfl).freeze (i := 10) rfl).sel [7, 12, 15, 10] rfl rfl⟩
        · rw [List.mem_singleton] at hb; subst hb; exact h.fresh0 (i := 7) rfl rfl
        · exact h.rowFresh (i := 12) rfl b hb
        · exact h.rowFresh (i := 10) rfl b hb
      have st9_19 : ∀ (b20101 : Nat) (b20141 : Nat) (v20201 : Value) (b20221 : Nat) (v20241 : Value) (wS : World), Own [] w wS [.blk b1 [(vU32 pg), v3] 75, .blk c2 [(vU32 pg), v2, (.map (some mb2))] 196, .row v2 22 1 ([a, b]).length (List.map vU32 ([a, b])), .obj mb2 (mP .i64 [] 0), .row v3 22 1 ([a, b]).length (List.map vU32 [a, b]), .blk q16041 [(.map (some mb16041)), (.slice none 0 0), (vN 0)] 264, .obj mb16041 (mP .u16 [] 0), .blk b16081 [(vU32 pg), v3, (ptr c2 0), (ptr q16041 0), v18241, (vU32 0)] 193, .row (.slice (some ⟨b18101, 0, none⟩) 64 64) 5 1 64 (List.map vU8 (List.replicate 64 0)), .row (.slice (some ⟨b18141, 0, none⟩) 1 1) 9 1 1 (List.map str [(List.replicate 64 0)]), .row v18201 9 1 a.toNat (List.map str (List.replicate a.toNat (List.replicate 64 0))), .row (.slice (some ⟨b18221, 0, none⟩) 1 1) 59 1 1 [v18201], .row v20241 59 1 ((0 + 1) + 1) (([] ++ [v18201]) ++ [v20201]), .row (.slice (some ⟨b20101, 0, none⟩) 64 64) 5 1 64 (List.map vU8 (List.replicate 64 0)), .row (.slice (some ⟨b20141, 0, none⟩) 1 1) 9 1 1 (List.map str [(List.replicate 64 0)]), .row v20201 9 1 b.toNat (List.map str (List.replicate b.toNat (List.replicate 64 0))), .row (.slice (some ⟨b20221, 0, none⟩) 1 1) 59 1 1 [v20201]] → W 1 #[true, true, true, true, true, true, true, true, true, true, true, true, true, true, true, false] [(0, (.agg #[(vU32 pg), lv])), (1, (ptr b1 0)), (2, (.pointer none)), (3, (vN 0)), (4, (ptr c2 0)), (5, (vN 0)), (6, (ptr b16081 0)), (8, (vU32 b)), (9, (.tuple #[(ptr c2 0), (vN 0)])), (10, (.agg #[(vU32 pg), lv])), (11, (.tuple #[(ptr c2 0), (vN 0)])), (12, (ptr c2 0)), (13, (vN 0)), (14, (vN 0)), (15, (.bool (decide (0 ≠ 0)))), (17, (ptr b1 1)), (18, lv), (19, v3), (20, (ptr b1 1)), (21, (.agg #[(vU32 pg), v3])), (22, (ptr c2 0)), (23, (ptr q16041 0)), (24, (.agg #[(vU32 pg), v3, (ptr c2 0), (ptr q16041 0), (.slice none 0 0), (vU32 0)])), (25, (ptr b16081 0)), (26, (ptr b1 1)), (27, v3), (28, (vN ([a, b]).length)), (29, (vN (0 + 1))), (30, (.bool (decide ((0 + 1) < ([a, b]).length)))), (31, (.pointer (some (sp v3 (0 + 1))))), (32, (vU32 b)), (33, (ptr b16081 0)), (34, (ptr b16081 0)), (35, (ptr b16081 0)), (36, (ptr b16081 4)), (37, v18241), (38, (.slice (some ⟨b20101, 0, none⟩) 64 64)), (39, (str (List.replicate 64 0))), (40, (.slice (some ⟨b20141, 0, none⟩) 1 1)), (41, (vU32 b)), (42, (vN b.toNat)), (43, v20201), (44, (.slice (some ⟨b20221, 0, none⟩) 1 1)), (45, v20241), (46, (ptr b16081 0)), (47, (ptr b16081 4)), (48, (vN (0 + 1)))] wS := by
        intro b20101 b20141 v20201 b20221 v20241 wS HS
        rw [hW]
        refine WH.all1 (i := 15) (by kernel_rfl) ?_
        ·
          refine WHS.op (i := 15) rfl (.inl rfl) rfl (op_storeB (i := 7) HS rfl rfl rfl rfl (Arr.one (HS.arrR (i := 12) rfl)) Fa.I191 (fun w20301 H20301 => ?_))
          refine ⟨⟨[.blk b16081 [(vU32 pg), v3, (ptr c2 0), (ptr q16041 0), v20241, (vU32 0)] 193, .row (.slice (some ⟨b18101, 0, none⟩) 64 64) 5 1 64 (List.map vU8 (List.replicate 64 0)), .row (.slice (some ⟨b18141, 0, none⟩) 1 1) 9 1 1 (List.map str [(List.replicate 64 0)]), .row v18201 9 1 a.toNat (List.map str (List.replicate a.toNat (List.replicate 64 0))), .row (.slice (some ⟨b18221, 0, none⟩) 1 1) 59 1 1 [v18201], .row v20241 59 1 ((0 + 1) + 1) (([] ++ [v18201]) ++ [v20201]), .row (.slice (some ⟨b20101, 0, none⟩) 64 64) 5 1 64 (List.map vU8 (List.replicate 64 0)), .row (.slice (some ⟨b20141, 0, none⟩) 1 1) 9 1 1 (List.map str [(List.replicate 64 0)]), .row v20201 9 1 b.toNat (List.map str (List.replicate b.toNat (List.replicate 64 0))), .row (.slice (some ⟨b20221, 0, none⟩) 1 1) 59 1 1 [v20201]], H20301⟩, ?_⟩
          have hq := st9_20 b20101 b20141 v20201 b20221 v20241 w20301 H20301
          rw [hW] at hq
          refine WH.cov ?_ hq
          exact by repeat (first | exact trivial | refine ⟨rfl, ?_⟩)
      have st9_18 : ∀ (b20101 : Nat) (b20141 : Nat) (v20201 : Value) (b20221 : Nat) (v20241 : Value) (wS : World), Own [] w wS [.blk b1 [(vU32 pg), v3] 75, .blk c2 [(vU32 pg), v2, (.map (some mb2))] 196, .row v2 22 1 ([a, b]).length (List.map vU32 ([a, b])), .obj mb2 (mP .i64 [] 0), .row v3 22 1 ([a, b]).length (List.map vU32 [a, b]), .blk q16041 [(.map (some mb16041)), (.slice none 0 0), (vN 0)] 264, .obj mb16041 (mP .u16 [] 0), .blk b16081 [(vU32 pg), v3, (ptr c2 0), (ptr q16041 0), v18241, (vU32 0)] 193, .row (.slice (some ⟨b18101, 0, none⟩) 64 64) 5 1 64 (List.map vU8 (List.replicate 64 0)), .row (.slice (some ⟨b18141, 0, none⟩) 1 1) 9 1 1 (List.map str [(List.replicate 64 0)]), .row v18201 9 1 a.toNat (List.map str (List.replicate a.toNat (List.replicate 64 0))), .row (.slice (some ⟨b18221, 0, none⟩) 1 1) 59 1 1 [v18201], .row v20241 59 1 ((0 + 1) + 1) (([] ++ [v18201]) ++ [v20201]), .row (.slice (some ⟨b20101, 0, none⟩) 64 64) 5 1 64 (List.map vU8 (List.replicate 64 0)), .row (.slice (some ⟨b20141, 0, none⟩) 1 1) 9 1 1 (List.map str [(List.replicate 64 0)]), .row v20201 9 1 b.toNat (List.map str (List.replicate b.toNat (List.replicate 64 0))), .row (.slice (some ⟨b20221, 0, none⟩) 1 1) 59 1 1 [v20201]] → W 3 #[true, true, true, true, true, true, true, true, true, true, true, true, true, false, false, false] [(0, (.agg #[(vU32 pg), lv])), (1, (ptr b1 0)), (2, (.pointer none)), (3, (vN 0)), (4, (ptr c2 0)), (5, (vN 0)), (6, (ptr b16081 0)), (8, (vU32 b)), (9, (.tuple #[(ptr c2 0), (vN 0)])), (10, (.agg #[(vU32 pg), lv])), (11, (.tuple #[(ptr c2 0), (vN 0)])), (12, (ptr c2 0)), (13, (vN 0)), (14, (vN 0)), (15, (.bool (decide (0 ≠ 0)))), (17, (ptr b1 1)), (18, lv), (19, v3), (20, (ptr b1 1)), (21, (.agg #[(vU32 pg), v3])), (22, (ptr c2 0)), (23, (ptr q16041 0)), (24, (.agg #[(vU32 pg), v3, (ptr c2 0), (ptr q16041 0), (.slice none 0 0), (vU32 0)])), (25, (ptr b16081 0)), (26, (ptr b1 1)), (27, v3), (28, (vN ([a, b]).length)), (29, (vN (0 + 1))), (30, (.bool (decide ((0 + 1) < ([a, b]).length)))), (31, (.pointer (some (sp v3 (0 + 1))))), (32, (vU32 b)), (33, (ptr b16081 0)), (34, (ptr b16081 0)), (35, (ptr b16081 0)), (36, (ptr b16081 4)), (37, v18241), (38, (.slice (some ⟨b20101, 0, none⟩) 64 64)), (39, (str (List.replicate 64 0))), (40, (.slice (some ⟨b20141, 0, none⟩) 1 1)), (41, (vU32 b)), (42, (vN b.toNat)), (43, v20201), (44, (.slice (some ⟨b20221, 0, none⟩) 1 1)), (45, v20241), (46, (ptr b16081 0)), (47, (ptr b16081 4)), (48, (vN (0 + 1)))] wS := by
        intro b20101 b20141 v20201 b20221 v20241 wS HS
        rw [hW]
        refine WH.all1 (i := 13) (by kernel_rfl) ?_
        ·
          refine WHS.op (i := 13) rfl (.inl rfl) rfl (op_nilCheck rfl ?_)
          refine ⟨⟨[.blk b16081 [(vU32 pg), v3, (ptr c2 0), (ptr q16041 0), v18241, (vU32 0)] 193, .row (.slice (some ⟨b18101, 0, none⟩) 64 64) 5 1 64 (List.map vU8 (List.replicate 64 0)), .row (.slice (some ⟨b18141, 0, none⟩) 1 1) 9 1 1 (List.map str [(List.replicate 64 0)]), .row v18201 9 1 a.toNat (List.map str (List.replicate a.toNat (List.replicate 64 0))), .row (.slice (some ⟨b18221, 0, none⟩) 1 1) 59 1 1 [v18201], .row v20241 59 1 ((0 + 1) + 1) (([] ++ [v18201]) ++ [v20201]), .row (.slice (some ⟨b20101, 0, none⟩) 64 64) 5 1 64 (List.map vU8 (List.replicate 64 0)), .row (.slice (some ⟨b20141, 0, none⟩) 1 1) 9 1 1 (List.map str [(List.replicate 64 0)]), .row v20201 9 1 b.toNat (List.map str (List.replicate b.toNat (List.replicate 64 0))), .row (.slice (some ⟨b20221, 0, none⟩) 1 1) 59 1 1 [v20201]], HS⟩, ?_⟩
          refine WH.take (i := 14) (v := (ptr b16081 4)) rfl rfl (.inl rfl) rfl (by kernel_rfl) ⟨[.blk b16081 [(vU32 pg), v3, (ptr c2 0), (ptr q16041 0), v18241, (vU32 0)] 193, .row (.slice (some ⟨b18101, 0, none⟩) 64 64) 5 1 64 (List.map vU8 (List.replicate 64 0)), .row (.slice (some ⟨b18141, 0, none⟩) 1 1) 9 1 1 (List.map str [(List.replicate 64 0)]), .row v18201 9 1 a.toNat (List.map str (List.replicate a.toNat (List.replicate 64 0))), .row (.slice (some ⟨b18221, 0, none⟩) 1 1) 59 1 1 [v18201], .row v20241 59 1 ((0 + 1) + 1) (([] ++ [v18201]) ++ [v20201]), .row (.slice (some ⟨b20101, 0, none⟩) 64 64) 5 1 64 (List.map vU8 (List.replicate 64 0)), .row (.slice (some ⟨b20141, 0, none⟩) 1 1) 9 1 1 (List.map str [(List.replicate 64 0)]), .row v20201 9 1 b.toNat (List.map str (List.replicate b.toNat (List.replicate 64 0))), .row (.slice (some ⟨b20221, 0, none⟩) 1 1) 59 1 1 [v20201]], HS⟩ (fun wX hSX => hSX.elim fun LX HX => op_fieldAddr rfl Fa.F193_3 ⟨rfl, rfl⟩) ?_
          have hq := st9_19 b20101 b20141 v20201 b20221 v20241 wS HS
          rw [hW] at hq
          refine WH.cov ?_ hq
          exact by repeat (first | exact trivial | refine ⟨rfl, ?_⟩)
      have st9_17 : ∀ (b20101 : Nat) (b20141 : Nat) (v20201 : Value) (b20221 : Nat) (wS : World), Own [] w wS [.blk b1 [(vU32 pg), v3] 75, .blk c2 [(vU32 pg), v2, (.map (some mb2))] 196, .row v2 22 1 ([a, b]).length (List.map vU32 ([a, b])), .obj mb2 (mP .i64 [] 0), .row v3 22 1 ([a, b]).length (List.map vU32 [a, b]), .blk q16041 [(.map (some mb16041)), (.slice none 0 0), (vN 0)] 264, .obj mb16041 (mP .u16 [] 0), .blk b16081 [(vU32 pg), v3, (ptr c2 0), (ptr q16041 0), v18241, (vU32 0)] 193, .row (.slice (some ⟨b18101, 0, none⟩) 64 64) 5 1 64 (List.map vU8 (List.replicate 64 0)), .row (.slice (some ⟨b18141, 0, none⟩) 1 1) 9 1 1 (List.map str [(List.replicate 64 0)]), .row v18201 9 1 a.toNat (List.map str (List.replicate a.toNat (List.replicate 64 0))), .row (.slice (some ⟨b18221, 0, none⟩) 1 1) 59 1 1 [v18201], .row v18241 59 1 (0 + 1) ([] ++ [v18201]), .row (.slice (some ⟨b20101, 0, none⟩) 64 64) 5 1 64 (List.map vU8 (List.replicate 64 0)), .row (.slice (some ⟨b20141, 0, none⟩) 1 1) 9 1 1 (List.map str [(List.replicate 64 0)]), .row v20201 9 1 b.toNat (List.map str (List.replicate b.toNat (List.replicate 64 0))), .row (.slice (some ⟨b20221, 0, none⟩) 1 1) 59 1 1 [v20201]] → W 4 #[true, true, true, true, true, true, true, true, true, true, true, true, false, false, false, false] [(0, (.agg #[(vU32 pg), lv])), (1, (ptr b1 0)), (2, (.pointer none)), (3, (vN 0)), (4, (ptr c2 0)), (5, (vN 0)), (6, (ptr b16081 0)), (8, (vU32 b)), (9, (.tuple #[(ptr c2 0), (vN 0)])), (10, (.agg #[(vU32 pg), lv])), (11, (.tuple #[(ptr c2 0), (vN 0)])), (12, (ptr c2 0)), (13, (vN 0)), (14, (vN 0)), (15, (.bool (decide (0 ≠ 0)))), (17, (ptr b1 1)), (18, lv), (19, v3), (20, (ptr b1 1)), (21, (.agg #[(vU32 pg), v3])), (22, (ptr c2 0)), (23, (ptr q16041 0)), (24, (.agg #[(vU32 pg), v3, (ptr c2 0), (ptr q16041 0), (.slice none 0 0), (vU32 0)])), (25, (ptr b16081 0)), (26, (ptr b1 1)), (27, v3), (28, (vN ([a, b]).length)), (29, (vN (0 + 1))), (30, (.bool (decide ((0 + 1) < ([a, b]).length)))), (31, (.pointer (some (sp v3 (0 + 1))))), (32, (vU32 b)), (33, (ptr b16081 0)), (34, (ptr b16081 0)), (35, (ptr b16081 0)), (36, (ptr b16081 4)), (37, v18241), (38, (.slice (some ⟨b20101, 0, none⟩) 64 64)), (39, (str (List.replicate 64 0))), (40, (.slice (some ⟨b20141, 0, none⟩) 1 1)), (41, (vU32 b)), (42, (vN b.toNat)), (43, v20201), (44, (.slice (some ⟨b20221, 0, none⟩) 1 1)), (45, v18241), (46, (ptr b16081 0)), (47, (ptr b16081 4)), (48, (vN (0 + 1)))] wS := by
        intro b20101 b20141 v20201 b20221 wS HS
        rw [hW]
        refine WH.all1 (i := 12) (by kernel_rfl) ?_
        ·
          refine WHS.op (i := 12) rfl (.inl rfl) rfl (op_append (i := 12) HS Tryz.underlying191 Fa.I59 rfl rfl rfl rfl (Src.ofArr Tryz.underlying191 (HS.arrR (i := 16) rfl)) (fun c hc => by rw [List.mem_singleton.1 hc]; exact Arr.one (HS.arrR (i := 15) rfl)) (by omega) (by omega) (fun v20241 w20241 H20241 => ?_))
          refine ⟨⟨[.blk b16081 [(vU32 pg), v3, (ptr c2 0), (ptr q16041 0), v18241, (vU32 0)] 193, .row (.slice (some ⟨b18101, 0, none⟩) 64 64) 5 1 64 (List.map vU8 (List.replicate 64 0)), .row (.slice (some ⟨b18141, 0, none⟩) 1 1) 9 1 1 (List.map str [(List.replicate 64 0)]), .row v18201 9 1 a.toNat (List.map str (List.replicate a.toNat (List.replicate 64 0))), .row (.slice (some ⟨b18221, 0, none⟩) 1 1) 59 1 1 [v18201], .row v20241 59 1 ((0 + 1) + 1) (([] ++ [v18201]) ++ [v20201]), .row (.slice (some ⟨b20101, 0, none⟩) 64 64) 5 1 64 (List.map vU8 (List.replicate 64 0)), .row (.slice (some ⟨b20141, 0, none⟩) 1 1) 9 1 1 (List.map str [(List.replicate 64 0)]), .row v20201 9 1 b.toNat (List.map str (List.replicate b.toNat (List.replicate 64 0))), .row (.slice (some ⟨b20221, 0, none⟩) 1 1) 59 1 1 [v20201]], H20241⟩, ?_⟩
          have hq := st9_18 b20101 b20141 v20201 b20221 v20241 w20241 H20241
          rw [hW] at hq
          refine WH.cov ?_ hq
          exact by repeat (first | exact trivial | refine ⟨rfl, ?_⟩)
      have st9_15 : ∀ (b20101 : Nat) (b20141 : Nat) (v20201 : Value) (wS : World), Own [] w wS [.blk b1 [(vU32 pg), v3] 75, .blk c2 [(vU32 pg), v2, (.map (some mb2))] 196, .row v2 22 1 ([a, b]).length (List.map vU32 ([a, b])), .obj mb2 (mP .i64 [] 0), .row v3 22 1 ([a, b]).length (List.map vU32 [a, b]), .blk q16041 [(.map (some mb16041)), (.slice none 0 0), (vN 0)] 264, .obj mb16041 (mP .u16 [] 0), .blk b16081 [(vU32 pg), v3, (ptr c2 0), (ptr q16041 0), v18241, (vU32 0)] 193, .row (.slice (some ⟨b18101, 0, none⟩) 64 64) 5 1 64 (List.map vU8 (List.replicate 64 0)), .row (.slice (some ⟨b18141, 0, none⟩) 1 1) 9 1 1 (List.map str [(List.replicate 64 0)]), .row v18201 9 1 a.toNat (List.map str (List.replicate a.toNat (List.replicate 64 0))), .row (.slice (some ⟨b18221, 0, none⟩) 1 1) 59 1 1 [v18201], .row v18241 59 1 (0 + 1) ([] ++ [v18201]), .row (.slice (some ⟨b20101, 0, none⟩) 64 64) 5 1 64 (List.map vU8 (List.replicate 64 0)), .row (.slice (some ⟨b20141, 0, none⟩) 1 1) 9 1 1 (List.map str [(List.replicate 64 0)]), .row v20201 9 1 b.toNat (List.map str (List.replicate b.toNat (List.replicate 64 0)))] → W 5 #[true, true, true, true, true, true, true, true, true, true, true, false, false, false, false, false] [(0, (.agg #[(vU32 pg), lv])), (1, (ptr b1 0)), (2, (.pointer none)), (3, (vN 0)), (4, (ptr c2 0)), (5, (vN 0)), (6, (ptr b16081 0)), (8, (vU32 b)), (9, (.tuple #[(ptr c2 0), (vN 0)])), (10, (.agg #[(vU32 pg), lv])), (11, (.tuple #[(ptr c2 0), (vN 0)])), (12, (ptr c2 0)), (13, (vN 0)), (14, (vN 0)), (15, (.bool (decide (0 ≠ 0)))), (17, (ptr b1 1)), (18, lv), (19, v3), (20, (ptr b1 1)), (21, (.agg #[(vU32 pg), v3])), (22, (ptr c2 0)), (23, (ptr q16041 0)), (24, (.agg #[(vU32 pg), v3, (ptr c2 0), (ptr q16041 0), (.slice none 0 0), (vU32 0)])), (25, (ptr b16081 0)), (26, (ptr b1 1)), (27, v3), (28, (vN ([a, b]).length)), (29, (vN (0 + 1))), (30, (.bool (decide ((0 + 1) < ([a, b]).length)))), (31, (.pointer (some (sp v3 (0 + 1))))), (32, (vU32 b)), (33, (ptr b16081 0)), (34, (ptr b16081 0)), (35, (ptr b16081 0)), (36, (ptr b16081 4)), (37, v18241), (38, (.slice (some ⟨b20101, 0, none⟩) 64 64)), (39, (str (List.replicate 64 0))), (40, (.slice (some ⟨b20141, 0, none⟩) 1 1)), (41, (vU32 b)), (42, (vN b.toNat)), (43, v20201), (44, (.slice (some ⟨b18221, 0, none⟩) 1 1)), (45, v18241), (46, (ptr b16081 0)), (47, (ptr b16081 4)), (48, (vN (0 + 1)))] wS := by
        intro b20101 b20141 v20201 wS HS
        rw [hW]
        refine WH.all1 (i := 11) (by kernel_rfl) ?_
        ·
          refine WHS.op (i := 11) rfl (.inl rfl) rfl (op_buildSlice (cs := [v20201]) HS Tryz.underlying191 Fa.I59 rfl rfl (by obtain ⟨_, _, e0, _⟩ := (HS.arrR (i := 15) rfl).form; rw [e0]; rfl) rfl (by decide) (by decide) (fun b20221 w20221 H20221 => ?_))
          refine ⟨⟨[.blk b16081 [(vU32 pg), v3, (ptr c2 0), (ptr q16041 0), v18241, (vU32 0)] 193, .row (.slice (some ⟨b18101, 0, none⟩) 64 64) 5 1 64 (List.map vU8 (List.replicate 64 0)), .row (.slice (some ⟨b18141, 0, none⟩) 1 1) 9 1 1 (List.map str [(List.replicate 64 0)]), .row v18201 9 1 a.toNat (List.map str (List.replicate a.toNat (List.replicate 64 0))), .row (.slice (some ⟨b18221, 0, none⟩) 1 1) 59 1 1 [v18201], .row v18241 59 1 (0 + 1) ([] ++ [v18201]), .row (.slice (some ⟨b20101, 0, none⟩) 64 64) 5 1 64 (List.map vU8 (List.replicate 64 0)), .row (.slice (some ⟨b20141, 0, none⟩) 1 1) 9 1 1 (List.map str [(List.replicate 64 0)]), .row v20201 9 1 b.toNat (List.map str (List.replicate b.toNat (List.replicate 64 0))), .row (.slice (some ⟨b20221, 0, none⟩) 1 1) 59 1 1 [v20201]], H20221⟩, ?_⟩
          have hq := st9_17 b20101 b20141 v20201 b20221 w20221 H20221
          rw [hW] at hq
          refine WH.cov ?_ hq
          exact by repeat (first | exact trivial | refine ⟨rfl, ?_⟩)
      have st9_16 : ∀ (b20101 : Nat) (b20141 : Nat) (v20201 : Value) (b20221 : Nat) (wS : World), Own [] w wS [.blk b1 [(vU32 pg), v3] 75, .blk c2 [(vU32 pg), v2, (.map (some mb2))] 196, .row v2 22 1 ([a, b]).length (List.map vU32 ([a, b])), .obj mb2 (mP .i64 [] 0), .row v3 22 1 ([a, b]).length (List.map vU32 [a, b]), .blk q16041 [(.map (some mb16041)), (.slice none 0 0), (vN 0)] 264, .obj mb16041 (mP .u16 [] 0), .blk b16081 [(vU32 pg), v3, (ptr c2 0), (ptr q16041 0), v18241, (vU32 0)] 193, .row (.slice (some ⟨b18101, 0, none⟩) 64 64) 5 1 64 (List.map vU8 (List.replicate 64 0)), .row (.slice (some ⟨b18141, 0, none⟩) 1 1) 9 1 1 (List.map str [(List.replicate 64 0)]), .row v18201 9 1 a.toNat (List.map str (List.replicate a.toNat (List.replicate 64 0))), .row (.slice (some ⟨b18221, 0, none⟩) 1 1) 59 1 1 [v18201], .row v18241 59 1 (0 + 1) ([] ++ [v18201]), .row (.slice (some ⟨b20101, 0, none⟩) 64 64) 5 1 64 (List.map vU8 (List.replicate 64 0)), .row (.slice (some ⟨b20141, 0, none⟩) 1 1) 9 1 1 (List.map str [(List.replicate 64 0)]), .row v20201 9 1 b.toNat (List.map str (List.replicate b.toNat (List.replicate 64 0))), .row (.slice (some ⟨b20221, 0, none⟩) 1 1) 59 1 1 [v20201]] → W 5 #[true, true, true, true, false, true, true, true, true, true, true, true, false, false, false, false] [(0, (.agg #[(vU32 pg), lv])), (1, (ptr b1 0)), (2, (.pointer none)), (3, (vN 0)), (4, (ptr c2 0)), (5, (vN 0)), (6, (ptr b16081 0)), (8, (vU32 b)), (9, (.tuple #[(ptr c2 0), (vN 0)])), (10, (.agg #[(vU32 pg), lv])), (11, (.tuple #[(ptr c2 0), (vN 0)])), (12, (ptr c2 0)), (13, (vN 0)), (14, (vN 0)), (15, (.bool (decide (0 ≠ 0)))), (17, (ptr b1 1)), (18, lv), (19, v3), (20, (ptr b1 1)), (21, (.agg #[(vU32 pg), v3])), (22, (ptr c2 0)), (23, (ptr q16041 0)), (24, (.agg #[(vU32 pg), v3, (ptr c2 0), (ptr q16041 0), (.slice none 0 0), (vU32 0)])), (25, (ptr b16081 0)), (26, (ptr b1 1)), (27, v3), (28, (vN ([a, b]).length)), (29, (vN (0 + 1))), (30, (.bool (decide ((0 + 1) < ([a, b]).length)))), (31, (.pointer (some (sp v3 (0 + 1))))), (32, (vU32 b)), (33, (ptr b16081 0)), (34, (ptr b16081 0)), (35, (ptr b16081 0)), (36, (ptr b16081 4)), (37, (.slice none 0 0)), (38, (.slice (some ⟨b20101, 0, none⟩) 64 64)), (39, (str (List.replicate 64 0))), (40, (.slice (some ⟨b20141, 0, none⟩) 1 1)), (41, (vU32 b)), (42, (vN b.toNat)), (43, v20201), (44, (.slice (some ⟨b20221, 0, none⟩) 1 1)), (45, v18241), (46, (ptr b16081 0)), (47, (ptr b16081 4)), (48, (vN (0 + 1)))] wS := by
        intro b20101 b20141 v20201 b20221 wS HS
        rw [hW]
        refine WH.all1 (i := 4) (by kernel_rfl) ?_
        ·
          refine WHS.op (i := 4) rfl (.inl rfl) rfl (op_load rfl (HS.cell (i := 7) rfl rfl) Tryz.underlying191 rfl ?_)
          refine ⟨⟨[.blk b16081 [(vU32 pg), v3, (ptr c2 0), (ptr q16041 0), v18241, (vU32 0)] 193, .row (.slice (some ⟨b18101, 0, none⟩) 64 64) 5 1 64 (List.map vU8 (List.replicate 64 0)), .row (.slice (some ⟨b18141, 0, none⟩) 1 1) 9 1 1 (List.map str [(List.replicate 64 0)]), .row v18201 9 1 a.toNat (List.map str (List.replicate a.toNat (List.replicate 64 0))), .row (.slice (some ⟨b18221, 0, none⟩) 1 1) 59 1 1 [v18201], .row v18241 59 1 (0 + 1) ([] ++ [v18201]), .row (.slice (some ⟨b20101, 0, none⟩) 64 64) 5 1 64 (List.map vU8 (List.replicate 64 0)), .row (.slice (some ⟨b20141, 0, none⟩) 1 1) 9 1 1 (List.map str [(List.replicate 64 0)]), .row v20201 9 1 b.toNat (List.map str (List.replicate b.toNat (List.replicate 64 0))), .row (.slice (some ⟨b20221, 0, none⟩) 1 1) 59 1 1 [v20201]], HS⟩, ?_⟩
          have hq := st9_17 b20101 b20141 v20201 b20221 wS HS
          rw [hW] at hq
          refine WH.cov ?_ hq
          exact by repeat (first | exact trivial | refine ⟨rfl, ?_⟩)
      have st9_12 : ∀ (b20101 : Nat) (b20141 : Nat) (wS : World), Own [] w wS [.blk b1 [(vU32 pg), v3] 75, .blk c2 [(vU32 pg), v2, (.map (some mb2))] 196, .row v2 22 1 ([a, b]).length (List.map vU32 ([a, b])), .obj mb2 (mP .i64 [] 0), .row v3 22 1 ([a, b]).length (List.map vU32 [a, b]), .blk q16041 [(.map (some mb16041)), (.slice none 0 0), (vN 0)] 264, .obj mb16041 (mP .u16 [] 0), .blk b16081 [(vU32 pg), v3, (ptr c2 0), (ptr q16041 0), v18241, (vU32 0)] 193, .row (.slice (some ⟨b18101, 0, none⟩) 64 64) 5 1 64 (List.map vU8 (List.replicate 64 0)), .row (.slice (some ⟨b18141, 0, none⟩) 1 1) 9 1 1 (List.map str [(List.replicate 64 0)]), .row v18201 9 1 a.toNat (List.map str (List.replicate a.toNat (List.replicate 64 0))), .row (.slice (some ⟨b18221, 0, none⟩) 1 1) 59 1 1 [v18201], .row v18241 59 1 (0 + 1) ([] ++ [v18201]), .row (.slice (some ⟨b20101, 0, none⟩) 64 64) 5 1 64 (List.map vU8 (List.replicate 64 0)), .row (.slice (some ⟨b20141, 0, none⟩) 1 1) 9 1 1 (List.map str [(List.replicate 64 0)])] → W 6 #[true, true, true, true, true, true, true, true, true, true, false, false, false, false, false, false] [(0, (.agg #[(vU32 pg), lv])), (1, (ptr b1 0)), (2, (.pointer none)), (3, (vN 0)), (4, (ptr c2 0)), (5, (vN 0)), (6, (ptr b16081 0)), (8, (vU32 b)), (9, (.tuple #[(ptr c2 0), (vN 0)])), (10, (.agg #[(vU32 pg), lv])), (11, (.tuple #[(ptr c2 0), (vN 0)])), (12, (ptr c2 0)), (13, (vN 0)), (14, (vN 0)), (15, (.bool (decide (0 ≠ 0)))), (17, (ptr b1 1)), (18, lv), (19, v3), (20, (ptr b1 1)), (21, (.agg #[(vU32 pg), v3])), (22, (ptr c2 0)), (23, (ptr q16041 0)), (24, (.agg #[(vU32 pg), v3, (ptr c2 0), (ptr q16041 0), (.slice none 0 0), (vU32 0)])), (25, (ptr b16081 0)), (26, (ptr b1 1)), (27, v3), (28, (vN ([a, b]).length)), (29, (vN (0 + 1))), (30, (.bool (decide ((0 + 1) < ([a, b]).length)))), (31, (.pointer (some (sp v3 (0 + 1))))), (32, (vU32 b)), (33, (ptr b16081 0)), (34, (ptr b16081 0)), (35, (ptr b16081 0)), (36, (ptr b16081 4)), (37, v18241), (38, (.slice (some ⟨b20101, 0, none⟩) 64 64)), (39, (str (List.replicate 64 0))), (40, (.slice (some ⟨b20141, 0, none⟩) 1 1)), (41, (vU32 b)), (42, (vN b.toNat)), (43, v18201), (44, (.slice (some ⟨b18221, 0, none⟩) 1 1)), (45, v18241), (46, (ptr b16081 0)), (47, (ptr b16081 4)), (48, (vN (0 + 1)))] wS := by
        intro b20101 b20141 wS HS
        rw [hW]
        refine WH.all1 (i := 10) (by kernel_rfl) ?_
        ·
          refine WHS.op (i := 10) rfl (.inl rfl) rfl (op_callF Fa.C129 rfl ((repeatS_ok _ (List.replicate 64 0) b.toNat _ (HS.arrR (i := 14) rfl) (UInt32.toNat_lt _)).mono (fun e w20201 hq => ?_)))
          obtain ⟨v20201, rfl, hq20201⟩ := hq
          refine ⟨_, rfl, ?_⟩
          have H20201 : Own [] w w20201 [.blk b1 [(vU32 pg), v3] 75, .blk c2 [(vU32 pg), v2, (.map (some mb2))] 196, .row v2 22 1 ([a, b]).length (List.map vU32 ([a, b])), .obj mb2 (mP .i64 [] 0), .row v3 22 1 ([a, b]).length (List.map vU32 [a, b]), .blk q16041 [(.map (some mb16041)), (.slice none 0 0), (vN 0)] 264, .obj mb16041 (mP .u16 [] 0), .blk b16081 [(vU32 pg), v3, (ptr c2 0), (ptr q16041 0), v18241, (vU32 0)] 193, .row (.slice (some ⟨b18101, 0, none⟩) 64 64) 5 1 64 (List.map vU8 (List.replicate 64 0)), .row (.slice (some ⟨b18141, 0, none⟩) 1 1) 9 1 1 (List.map str [(List.replicate 64 0)]), .row v18201 9 1 a.toNat (List.map str (List.replicate a.toNat (List.replicate 64 0))), .row (.slice (some ⟨b18221, 0, none⟩) 1 1) 59 1 1 [v18201], .row v18241 59 1 (0 + 1) ([] ++ [v18201]), .row (.slice (some ⟨b20101, 0, none⟩) 64 64) 5 1 64 (List.map vU8 (List.replicate 64 0)), .row (.slice (some ⟨b20141, 0, none⟩) 1 1) 9 1 1 (List.map str [(List.replicate 64 0)]), .row v20201 9 1 b.toNat (List.map str (List.replicate b.toNat (List.replicate 64 0)))] := HS.splice [] [] [.row v20201 9 1 b.toNat (List.map str (List.replicate b.toNat (List.replicate 64 0)))] rfl rfl hq20201 (Fits.solid True.intro Fits.nil)
          refine ⟨⟨[.blk b16081 [(vU32 pg), v3, (ptr c2 0), (ptr q16041 0), v18241, (vU32 0)] 193, .row (.slice (some ⟨b18101, 0, none⟩) 64 64) 5 1 64 (List.map vU8 (List.replicate 64 0)), .row (.slice (some ⟨b18141, 0, none⟩) 1 1) 9 1 1 (List.map str [(List.replicate 64 0)]), .row v18201 9 1 a.toNat (List.map str (List.replicate a.toNat (List.replicate 64 0))), .row (.slice (some ⟨b18221, 0, none⟩) 1 1) 59 1 1 [v18201], .row v18241 59 1 (0 + 1) ([] ++ [v18201]), .row (.slice (some ⟨b20101, 0, none⟩) 64 64) 5 1 64 (List.map vU8 (List.replicate 64 0)), .row (.slice (some ⟨b20141, 0, none⟩) 1 1) 9 1 1 (List.map str [(List.replicate 64 0)]), .row v20201 9 1 b.toNat (List.map str (List.replicate b.toNat (List.replicate 64 0)))], H20201⟩, ?_⟩
          have hq := st9_15 b20101 b20141 v20201 w20201 H20201
          rw [hW] at hq
          refine WH.cov ?_ hq
          exact by repeat (first | exact trivial | refine ⟨rfl, ?_⟩)
      have st9_13 : ∀ (b20101 : Nat) (b20141 : Nat) (v20201 : Value) (wS : World), Own [] w wS [.blk b1 [(vU32 pg), v3] 75, .blk c2 [(vU32 pg), v2, (.map (some mb2))] 196, .row v2 22 1 ([a, b]).length (List.map vU32 ([a, b])), .obj mb2 (mP .i64 [] 0), .row v3 22 1 ([a, b]).length (List.map vU32 [a, b]), .blk q16041 [(.map (some mb16041)), (.slice none 0 0), (vN 0)] 264, .obj mb16041 (mP .u16 [] 0), .blk b16081 [(vU32 pg), v3, (ptr c2 0), (ptr q16041 0), v18241, (vU32 0)] 193, .row (.slice (some ⟨b18101, 0, none⟩) 64 64) 5 1 64 (List.map vU8 (List.replicate 64 0)), .row (.slice (some ⟨b18141, 0, none⟩) 1 1) 9 1 1 (List.map str [(List.replicate 64 0)]), .row v18201 9 1 a.toNat (List.map str (List.replicate a.toNat (List.replicate 64 0))), .row (.slice (some ⟨b18221, 0, none⟩) 1 1) 59 1 1 [v18201], .row v18241 59 1 (0 + 1) ([] ++ [v18201]), .row (.slice (some ⟨b20101, 0, none⟩) 64 64) 5 1 64 (List.map vU8 (List.replicate 64 0)), .row (.slice (some ⟨b20141, 0, none⟩) 1 1) 9 1 1 (List.map str [(List.replicate 64 0)]), .row v20201 9 1 b.toNat (List.map str (List.replicate b.toNat (List.replicate 64 0)))] → W 6 #[true, true, true, true, false, true, true, true, true, true, true, false, false, false, false, false] [(0, (.agg #[(vU32 pg), lv])), (1, (ptr b1 0)), (2, (.pointer none)), (3, (vN 0)), (4, (ptr c2 0)), (5, (vN 0)), (6, (ptr b16081 0)), (8, (vU32 b)), (9, (.tuple #[(ptr c2 0), (vN 0)])), (10, (.agg #[(vU32 pg), lv])), (11, (.tuple #[(ptr c2 0), (vN 0)])), (12, (ptr c2 0)), (13, (vN 0)), (14, (vN 0)), (15, (.bool (decide (0 ≠ 0)))), (17, (ptr b1 1)), (18, lv), (19, v3), (20, (ptr b1 1)), (21, (.agg #[(vU32 pg), v3])), (22, (ptr c2 0)), (23, (ptr q16041 0)), (24, (.agg #[(vU32 pg), v3, (ptr c2 0), (ptr q16041 0), (.slice none 0 0), (vU32 0)])), (25, (ptr b16081 0)), (26, (ptr b1 1)), (27, v3), (28, (vN ([a, b]).length)), (29, (vN (0 + 1))), (30, (.bool (decide ((0 + 1) < ([a, b]).length)))), (31, (.pointer (some (sp v3 (0 + 1))))), (32, (vU32 b)), (33, (ptr b16081 0)), (34, (ptr b16081 0)), (35, (ptr b16081 0)), (36, (ptr b16081 4)), (37, (.slice none 0 0)), (38, (.slice (some ⟨b20101, 0, none⟩) 64 64)), (39, (str (List.replicate 64 0))), (40, (.slice (some ⟨b20141, 0, none⟩) 1 1)), (41, (vU32 b)), (42, (vN b.toNat)), (43, v20201), (44, (.slice (some ⟨b18221, 0, none⟩) 1 1)), (45, v18241), (46, (ptr b16081 0)), (47, (ptr b16081 4)), (48, (vN (0 + 1)))] wS := by
        intro b20101 b20141 v20201 wS HS
        rw [hW]
        refine WH.all2 (i := 4) (j := 11) (by kernel_rfl) ?_ ?_
        ·
          refine WHS.op (i := 4) rfl (.inl rfl) rfl (op_load rfl (HS.cell (i := 7) rfl rfl) Tryz.underlying191 rfl ?_)
          refine ⟨⟨[.blk b16081 [(vU32 pg), v3, (ptr c2 0), (ptr q16041 0), v18241, (vU32 0)] 193, .row (.slice (some ⟨b18101, 0, none⟩) 64 64) 5 1 64 (List.map vU8 (List.replicate 64 0)), .row (.slice (some ⟨b18141, 0, none⟩) 1 1) 9 1 1 (List.map str [(List.replicate 64 0)]), .row v18201 9 1 a.toNat (List.map str (List.replicate a.toNat (List.replicate 64 0))), .row (.slice (some ⟨b18221, 0, none⟩) 1 1) 59 1 1 [v18201], .row v18241 59 1 (0 + 1) ([] ++ [v18201]), .row (.slice (some ⟨b20101, 0, none⟩) 64 64) 5 1 64 (List.map vU8 (List.replicate 64 0)), .row (.slice (some ⟨b20141, 0, none⟩) 1 1) 9 1 1 (List.map str [(List.replicate 64 0)]), .row v20201 9 1 b.toNat (List.map str (List.replicate b.toNat (List.replicate 64 0)))], HS⟩, ?_⟩
          have hq := st9_15 b20101 b20141 v20201 wS HS
          rw [hW] at hq
          refine WH.cov ?_ hq
          exact by repeat (first | exact trivial | refine ⟨rfl, ?_⟩)
        ·
          refine WHS.op (i := 11) rfl (.inl rfl) rfl (op_buildSlice (cs := [v20201]) HS Tryz.underlying191 Fa.I59 rfl rfl (by obtain ⟨_, _, e0, _⟩ := (HS.arrR (i := 15) rfl).form; rw [e0]; rfl) rfl (by decide) (by decide) (fun b20221 w20221 H20221 => ?_))
          refine ⟨⟨[.blk b16081 [(vU32 pg), v3, (ptr c2 0), (ptr q16041 0), v18241, (vU32 0)] 193, .row (.slice (some ⟨b18101, 0, none⟩) 64 64) 5 1 64 (List.map vU8 (List.replicate 64 0)), .row (.slice (some ⟨b18141, 0, none⟩) 1 1) 9 1 1 (List.map str [(List.replicate 64 0)]), .row v18201 9 1 a.toNat (List.map str (List.replicate a.toNat (List.replicate 64 0))), .row (.slice (some ⟨b18221, 0, none⟩) 1 1) 59 1 1 [v18201], .row v18241 59 1 (0 + 1) ([] ++ [v18201]), .row (.slice (some ⟨b20101, 0, none⟩) 64 64) 5 1 64 (List.map vU8 (List.replicate 64 0)), .row (.slice (some ⟨b20141, 0, none⟩) 1 1) 9 1 1 (List.map str [(List.replicate 64 0)]), .row v20201 9 1 b.toNat (List.map str (List.replicate b.toNat (List.replicate 64 0))), .row (.slice (some ⟨b20221, 0, none⟩) 1 1) 59 1 1 [v20201]], H20221⟩, ?_⟩
          have hq := st9_16 b20101 b20141 v20201 b20221 w20221 H20221
          rw [hW] at hq
          refine WH.cov ?_ hq
          exact by repeat (first | exact trivial | refine ⟨rfl, ?_⟩)
      have st9_9 : ∀ (b20101 : Nat) (wS : World), Own [] w wS [.blk b1 [(vU32 pg), v3] 75, .blk c2 [(vU32 pg), v2, (.map (some mb2))] 196, .row v2 22 1 ([a, b]).length (List.map vU32 ([a, b])), .obj mb2 (mP .i64 [] 0), .row v3 22 1 ([a, b]).length (List.map vU32 [a, b]), .blk q16041 [(.map (some mb16041)), (.slice none 0 0), (vN 0)] 264, .obj mb16041 (mP .u16 [] 0), .blk b16081 [(vU32 pg), v3, (ptr c2 0), (ptr q16041 0), v18241, (vU32 0)] 193, .row (.slice (some ⟨b18101, 0, none⟩) 64 64) 5 1 64 (List.map vU8 (List.replicate 64 0)), .row (.slice (some ⟨b18141, 0, none⟩) 1 1) 9 1 1 (List.map str [(List.replicate 64 0)]), .row v18201 9 1 a.toNat (List.map str (List.replicate a.toNat (List.replicate 64 0))), .row (.slice (some ⟨b18221, 0, none⟩) 1 1) 59 1 1 [v18201], .row v18241 59 1 (0 + 1) ([] ++ [v18201]), .row (.slice (some ⟨b20101, 0, none⟩) 64 64) 5 1 64 (List.map vU8 (List.replicate 64 0))] → W 7 #[true, true, true, true, true, true, true, false, true, true, false, false, false, false, false, false] [(0, (.agg #[(vU32 pg), lv])), (1, (ptr b1 0)), (2, (.pointer none)), (3, (vN 0)), (4, (ptr c2 0)), (5, (vN 0)), (6, (ptr b16081 0)), (8, (vU32 b)), (9, (.tuple #[(ptr c2 0), (vN 0)])), (10, (.agg #[(vU32 pg), lv])), (11, (.tuple #[(ptr c2 0), (vN 0)])), (12, (ptr c2 0)), (13, (vN 0)), (14, (vN 0)), (15, (.bool (decide (0 ≠ 0)))), (17, (ptr b1 1)), (18, lv), (19, v3), (20, (ptr b1 1)), (21, (.agg #[(vU32 pg), v3])), (22, (ptr c2 0)), (23, (ptr q16041 0)), (24, (.agg #[(vU32 pg), v3, (ptr c2 0), (ptr q16041 0), (.slice none 0 0), (vU32 0)])), (25, (ptr b16081 0)), (26, (ptr b1 1)), (27, v3), (28, (vN ([a, b]).length)), (29, (vN (0 + 1))), (30, (.bool (decide ((0 + 1) < ([a, b]).length)))), (31, (.pointer (some (sp v3 (0 + 1))))), (32, (vU32 b)), (33, (ptr b16081 0)), (34, (ptr b16081 0)), (35, (ptr b16081 0)), (36, (ptr b16081 4)), (37, v18241), (38, (.slice (some ⟨b20101, 0, none⟩) 64 64)), (39, (str (List.replicate 64 0))), (40, (.slice (some ⟨b18141, 0, none⟩) 1 1)), (41, (vU32 b)), (42, (vN b.toNat)), (43, v18201), (44, (.slice (some ⟨b18221, 0, none⟩) 1 1)), (45, v18241), (46, (ptr b16081 0)), (47, (ptr b16081 4)), (48, (vN (0 + 1)))] wS := by
        intro b20101 wS HS
        rw [hW]
        refine WH.all1 (i := 7) (by kernel_rfl) ?_
        ·
          refine WHS.op (i := 7) rfl (.inl rfl) rfl (op_buildSlice (cs := [_]) HS Tryz.underlying59 Fa.I9 rfl rfl rfl rfl (by decide) (by decide) (fun b20141 w20141 H20141 => ?_))
          refine ⟨⟨[.blk b16081 [(vU32 pg), v3, (ptr c2 0), (ptr q16041 0), v18241, (vU32 0)] 193, .row (.slice (some ⟨b18101, 0, none⟩) 64 64) 5 1 64 (List.map vU8 (List.replicate 64 0)), .row (.slice (some ⟨b18141, 0, none⟩) 1 1) 9 1 1 (List.map str [(List.replicate 64 0)]), .row v18201 9 1 a.toNat (List.map str (List.replicate a.toNat (List.replicate 64 0))), .row (.slice (some ⟨b18221, 0, none⟩) 1 1) 59 1 1 [v18201], .row v18241 59 1 (0 + 1) ([] ++ [v18201]), .row (.slice (some ⟨b20101, 0, none⟩) 64 64) 5 1 64 (List.map vU8 (List.replicate 64 0)), .row (.slice (some ⟨b20141, 0, none⟩) 1 1) 9 1 1 (List.map str [(List.replicate 64 0)])], H20141⟩, ?_⟩
          have hq := st9_12 b20101 b20141 w20141 H20141
          rw [hW] at hq
          refine WH.cov ?_ hq
          exact by repeat (first | exact trivial | refine ⟨rfl, ?_⟩)
      have st9_10 : ∀ (b20101 : Nat) (b20141 : Nat) (wS : World), Own [] w wS [.blk b1 [(vU32 pg), v3] 75, .blk c2 [(vU32 pg), v2, (.map (some mb2))] 196, .row v2 22 1 ([a, b]).length (List.map vU32 ([a, b])), .obj mb2 (mP .i64 [] 0), .row v3 22 1 ([a, b]).length (List.map vU32 [a, b]), .blk q16041 [(.map (some mb16041)), (.slice none 0 0), (vN 0)] 264, .obj mb16041 (mP .u16 [] 0), .blk b16081 [(vU32 pg), v3, (ptr c2 0), (ptr q16041 0), v18241, (vU32 0)] 193, .row (.slice (some ⟨b18101, 0, none⟩) 64 64) 5 1 64 (List.map vU8 (List.replicate 64 0)), .row (.slice (some ⟨b18141, 0, none⟩) 1 1) 9 1 1 (List.map str [(List.replicate 64 0)]), .row v18201 9 1 a.toNat (List.map str (List.replicate a.toNat (List.replicate 64 0))), .row (.slice (some ⟨b18221, 0, none⟩) 1 1) 59 1 1 [v18201], .row v18241 59 1 (0 + 1) ([] ++ [v18201]), .row (.slice (some ⟨b20101, 0, none⟩) 64 64) 5 1 64 (List.map vU8 (List.replicate 64 0)), .row (.slice (some ⟨b20141, 0, none⟩) 1 1) 9 1 1 (List.map str [(List.replicate 64 0)])] → W 7 #[true, true, true, true, false, true, true, true, true, true, false, false, false, false, false, false] [(0, (.agg #[(vU32 pg), lv])), (1, (ptr b1 0)), (2, (.pointer none)), (3, (vN 0)), (4, (ptr c2 0)), (5, (vN 0)), (6, (ptr b16081 0)), (8, (vU32 b)), (9, (.tuple #[(ptr c2 0), (vN 0)])), (10, (.agg #[(vU32 pg), lv])), (11, (.tuple #[(ptr c2 0), (vN 0)])), (12, (ptr c2 0)), (13, (vN 0)), (14, (vN 0)), (15, (.bool (decide (0 ≠ 0)))), (17, (ptr b1 1)), (18, lv), (19, v3), (20, (ptr b1 1)), (21, (.agg #[(vU32 pg), v3])), (22, (ptr c2 0)), (23, (ptr q16041 0)), (24, (.agg #[(vU32 pg), v3, (ptr c2 0), (ptr q16041 0), (.slice none 0 0), (vU32 0)])), (25, (ptr b16081 0)), (26, (ptr b1 1)), (27, v3), (28, (vN ([a, b]).length)), (29, (vN (0 + 1))), (30, (.bool (decide ((0 + 1) < ([a, b]).length)))), (31, (.pointer (some (sp v3 (0 + 1))))), (32, (vU32 b)), (33, (ptr b16081 0)), (34, (ptr b16081 0)), (35, (ptr b16081 0)), (36, (ptr b16081 4)), (37, (.slice none 0 0)), (38, (.slice (some ⟨b20101, 0, none⟩) 64 64)), (39, (str (List.replicate 64 0))), (40, (.slice (some ⟨b20141, 0, none⟩) 1 1)), (41, (vU32 b)), (42, (vN b.toNat)), (43, v18201), (44, (.slice (some ⟨b18221, 0, none⟩) 1 1)), (45, v18241), (46, (ptr b16081 0)), (47, (ptr b16081 4)), (48, (vN (0 + 1)))] wS := by
        intro b20101 b20141 wS HS
        rw [hW]
        refine WH.all2 (i := 4) (j := 10) (by kernel_rfl) ?_ ?_
        ·
          refine WHS.op (i := 4) rfl (.inl rfl) rfl (op_load rfl (HS.cell (i := 7) rfl rfl) Tryz.underlying191 rfl ?_)
          refine ⟨⟨[.blk b16081 [(vU32 pg), v3, (ptr c2 0), (ptr q16041 0), v18241, (vU32 0)] 193, .row (.slice (some ⟨b18101, 0, none⟩) 64 64) 5 1 64 (List.map vU8 (List.replicate 64 0)), .row (.slice (some ⟨b18141, 0, none⟩) 1 1) 9 1 1 (List.map str [(List.replicate 64 0)]), .row v18201 9 1 a.toNat (List.map str (List.replicate a.toNat (List.replicate 64 0))), .row (.slice (some ⟨b18221, 0, none⟩) 1 1) 59 1 1 [v18201], .row v18241 59 1 (0 + 1) ([] ++ [v18201]), .row (.slice (some ⟨b20101, 0, none⟩) 64 64) 5 1 64 (List.map vU8 (List.replicate 64 0)), .row (.slice (some ⟨b20141, 0, none⟩) 1 1) 9 1 1 (List.map str [(List.replicate 64 0)])], HS⟩, ?_⟩
          have hq := st9_12 b20101 b20141 wS HS
          rw [hW] at hq
          refine WH.cov ?_ hq
          exact by repeat (first | exact trivial | refine ⟨rfl, ?_⟩)
        ·
          refine WHS.op (i := 10) rfl (.inl rfl) rfl (op_callF Fa.C129 rfl ((repeatS_ok _ (List.replicate 64 0) b.toNat _ (HS.arrR (i := 14) rfl) (UInt32.toNat_lt _)).mono (fun e w20201 hq => ?_)))
          obtain ⟨v20201, rfl, hq20201⟩ := hq
          refine ⟨_, rfl, ?_⟩
          have H20201 : Own [] w w20201 [.blk b1 [(vU32 pg), v3] 75, .blk c2 [(vU32 pg), v2, (.map (some mb2))] 196, .row v2 22 1 ([a, b]).length (List.map vU32 ([a, b])), .obj mb2 (mP .i64 [] 0), .row v3 22 1 ([a, b]).length (List.map vU32 [a, b]), .blk q16041 [(.map (some mb16041)), (.slice none 0 0), (vN 0)] 264, .obj mb16041 (mP .u16 [] 0), .blk b16081 [(vU32 pg), v3, (ptr c2 0), (ptr q16041 0), v18241, (vU32 0)] 193, .row (.slice (some ⟨b18101, 0, none⟩) 64 64) 5 1 64 (List.map vU8 (List.replicate 64 0)), .row (.slice (some ⟨b18141, 0, none⟩) 1 1) 9 1 1 (List.map str [(List.replicate 64 0)]), .row v18201 9 1 a.toNat (List.map str (List.replicate a.toNat (List.replicate 64 0))), .row (.slice (some ⟨b18221, 0, none⟩) 1 1) 59 1 1 [v18201], .row v18241 59 1 (0 + 1) ([] ++ [v18201]), .row (.slice (some ⟨b20101, 0, none⟩) 64 64) 5 1 64 (List.map vU8 (List.replicate 64 0)), .row (.slice (some ⟨b20141, 0, none⟩) 1 1) 9 1 1 (List.map str [(List.replicate 64 0)]), .row v20201 9 1 b.toNat (List.map str (List.replicate b.toNat (List.replicate 64 0)))] := HS.splice [] [] [.row v20201 9 1 b.toNat (List.map str (List.replicate b.toNat (List.replicate 64 0)))] rfl rfl hq20201 (Fits.solid True.intro Fits.nil)
          refine ⟨⟨[.blk b16081 [(vU32 pg), v3, (ptr c2 0), (ptr q16041 0), v18241, (vU32 0)] 193, .row (.slice (some ⟨b18101, 0, none⟩) 64 64) 5 1 64 (List.map vU8 (List.replicate 64 0)), .row (.slice (some ⟨b18141, 0, none⟩) 1 1) 9 1 1 (List.map str [(List.replicate 64 0)]), .row v18201 9 1 a.toNat (List.map str (List.replicate a.toNat (List.replicate 64 0))), .row (.slice (some ⟨b18221, 0, none⟩) 1 1) 59 1 1 [v18201], .row v18241 59 1 (0 + 1) ([] ++ [v18201]), .row (.slice (some ⟨b20101, 0, none⟩) 64 64) 5 1 64 (List.map vU8 (List.replicate 64 0)), .row (.slice (some ⟨b20141, 0, none⟩) 1 1) 9 1 1 (List.map str [(List.replicate 64 0)]), .row v20201 9 1 b.toNat (List.map str (List.replicate b.toNat (List.replicate 64 0)))], H20201⟩, ?_⟩
          have hq := st9_13 b20101 b20141 v20201 w20201 H20201
          rw [hW] at hq
          refine WH.cov ?_ hq
          exact by repeat (first | exact trivial | refine ⟨rfl, ?_⟩)
      have st9_14 : ∀ (b20101 : Nat) (b20141 : Nat) (v20201 : Value) (b20221 : Nat) (wS : World), Own [] w wS [.blk b1 [(vU32 pg), v3] 75, .blk c2 [(vU32 pg), v2, (.map (some mb2))] 196, .row v2 22 1 ([a, b]).length (List.map vU32 ([a, b])), .obj mb2 (mP .i64 [] 0), .row v3 22 1 ([a, b]).length (List.map vU32 [a, b]), .blk q16041 [(.map (some mb16041)), (.slice none 0 0), (vN 0)] 264, .obj mb16041 (mP .u16 [] 0), .blk b16081 [(vU32 pg), v3, (ptr c2 0), (ptr q16041 0), v18241, (vU32 0)] 193, .row (.slice (some ⟨b18101, 0, none⟩) 64 64) 5 1 64 (List.map vU8 (List.replicate 64 0)), .row (.slice (some ⟨b18141, 0, none⟩) 1 1) 9 1 1 (List.map str [(List.replicate 64 0)]), .row v18201 9 1 a.toNat (List.map str (List.replicate a.toNat (List.replicate 64 0))), .row (.slice (some ⟨b18221, 0, none⟩) 1 1) 59 1 1 [v18201], .row v18241 59 1 (0 + 1) ([] ++ [v18201]), .row (.slice (some ⟨b20101, 0, none⟩) 64 64) 5 1 64 (List.map vU8 (List.replicate 64 0)), .row (.slice (some ⟨b20141, 0, none⟩) 1 1) 9 1 1 (List.map str [(List.replicate 64 0)]), .row v20201 9 1 b.toNat (List.map str (List.replicate b.toNat (List.replicate 64 0))), .row (.slice (some ⟨b20221, 0, none⟩) 1 1) 59 1 1 [v20201]] → W 7 #[true, true, false, false, false, true, true, true, true, true, true, true, false, false, false, false] [(0, (.agg #[(vU32 pg), lv])), (1, (ptr b1 0)), (2, (.pointer none)), (3, (vN 0)), (4, (ptr c2 0)), (5, (vN 0)), (6, (ptr b16081 0)), (8, (vU32 b)), (9, (.tuple #[(ptr c2 0), (vN 0)])), (10, (.agg #[(vU32 pg), lv])), (11, (.tuple #[(ptr c2 0), (vN 0)])), (12, (ptr c2 0)), (13, (vN 0)), (14, (vN 0)), (15, (.bool (decide (0 ≠ 0)))), (17, (ptr b1 1)), (18, lv), (19, v3), (20, (ptr b1 1)), (21, (.agg #[(vU32 pg), v3])), (22, (ptr c2 0)), (23, (ptr q16041 0)), (24, (.agg #[(vU32 pg), v3, (ptr c2 0), (ptr q16041 0), (.slice none 0 0), (vU32 0)])), (25, (ptr b16081 0)), (26, (ptr b1 1)), (27, v3), (28, (vN ([a, b]).length)), (29, (vN (0 + 1))), (30, (.bool (decide ((0 + 1) < ([a, b]).length)))), (31, (.pointer (some (sp v3 (0 + 1))))), (32, (vU32 b)), (33, (ptr b16081 0)), (34, (ptr b16081 0)), (35, (ptr b16081 0)), (36, (ptr b16081 4)), (37, (.slice none 0 0)), (38, (.slice (some ⟨b20101, 0, none⟩) 64 64)), (39, (str (List.replicate 64 0))), (40, (.slice (some ⟨b20141, 0, none⟩) 1 1)), (41, (vU32 b)), (42, (vN b.toNat)), (43, v20201), (44, (.slice (some ⟨b20221, 0, none⟩) 1 1)), (45, v18241), (46, (ptr b16081 0)), (47, (ptr b16081 4)), (48, (vN (0 + 1)))] wS := by
        intro b20101 b20141 v20201 b20221 wS HS
        rw [hW]
        refine WH.all1 (i := 2) (by kernel_rfl) ?_
        ·
          refine WHS.op (i := 2) rfl (.inl rfl) rfl (op_nilCheck rfl ?_)
          refine ⟨⟨[.blk b16081 [(vU32 pg), v3, (ptr c2 0), (ptr q16041 0), v18241, (vU32 0)] 193, .row (.slice (some ⟨b18101, 0, none⟩) 64 64) 5 1 64 (List.map vU8 (List.replicate 64 0)), .row (.slice (some ⟨b18141, 0, none⟩) 1 1) 9 1 1 (List.map str [(List.replicate 64 0)]), .row v18201 9 1 a.toNat (List.map str (List.replicate a.toNat (List.replicate 64 0))), .row (.slice (some ⟨b18221, 0, none⟩) 1 1) 59 1 1 [v18201], .row v18241 59 1 (0 + 1) ([] ++ [v18201]), .row (.slice (some ⟨b20101, 0, none⟩) 64 64) 5 1 64 (List.map vU8 (List.replicate 64 0)), .row (.slice (some ⟨b20141, 0, none⟩) 1 1) 9 1 1 (List.map str [(List.replicate 64 0)]), .row v20201 9 1 b.toNat (List.map str (List.replicate b.toNat (List.replicate 64 0))), .row (.slice (some ⟨b20221, 0, none⟩) 1 1) 59 1 1 [v20201]], HS⟩, ?_⟩
          refine WH.take (i := 3) (v := (ptr b16081 4)) rfl rfl (.inl rfl) rfl (by kernel_rfl) ⟨[.blk b16081 [(vU32 pg), v3, (ptr c2 0), (ptr q16041 0), v18241, (vU32 0)] 193, .row (.slice (some ⟨b18101, 0, none⟩) 64 64) 5 1 64 (List.map vU8 (List.replicate 64 0)), .row (.slice (some ⟨b18141, 0, none⟩) 1 1) 9 1 1 (List.map str [(List.replicate 64 0)]), .row v18201 9 1 a.toNat (List.map str (List.replicate a.toNat (List.replicate 64 0))), .row (.slice (some ⟨b18221, 0, none⟩) 1 1) 59 1 1 [v18201], .row v18241 59 1 (0 + 1) ([] ++ [v18201]), .row (.slice (some ⟨b20101, 0, none⟩) 64 64) 5 1 64 (List.map vU8 (List.replicate 64 0)), .row (.slice (some ⟨b20141, 0, none⟩) 1 1) 9 1 1 (List.map str [(List.replicate 64 0)]), .row v20201 9 1 b.toNat (List.map str (List.replicate b.toNat (List.replicate 64 0))), .row (.slice (some ⟨b20221, 0, none⟩) 1 1) 59 1 1 [v20201]], HS⟩ (fun wX hSX => hSX.elim fun LX HX => op_fieldAddr rfl Fa.F193_3 ⟨rfl, rfl⟩) ?_
          have hq := st9_16 b20101 b20141 v20201 b20221 wS HS
          rw [hW] at hq
          refine WH.cov ?_ hq
          exact by repeat (first | exact trivial | refine ⟨rfl, ?_⟩)
      have st9_6 : ∀ (b20101 : Nat) (wS : World), Own [] w wS [.blk b1 [(vU32 pg), v3] 75, .blk c2 [(vU32 pg), v2, (.map (some mb2))] 196, .row v2 22 1 ([a, b]).length (List.map vU32 ([a, b])), .obj mb2 (mP .i64 [] 0), .row v3 22 1 ([a, b]).length (List.map vU32 [a, b]), .blk q16041 [(.map (some mb16041)), (.slice none 0 0), (vN 0)] 264, .obj mb16041 (mP .u16 [] 0), .blk b16081 [(vU32 pg), v3, (ptr c2 0), (ptr q16041 0), v18241, (vU32 0)] 193, .row (.slice (some ⟨b18101, 0, none⟩) 64 64) 5 1 64 (List.map vU8 (List.replicate 64 0)), .row (.slice (some ⟨b18141, 0, none⟩) 1 1) 9 1 1 (List.map str [(List.replicate 64 0)]), .row v18201 9 1 a.toNat (List.map str (List.replicate a.toNat (List.replicate 64 0))), .row (.slice (some ⟨b18221, 0, none⟩) 1 1) 59 1 1 [v18201], .row v18241 59 1 (0 + 1) ([] ++ [v18201]), .row (.slice (some ⟨b20101, 0, none⟩) 64 64) 5 1 64 (List.map vU8 (List.replicate 64 0))] → W 8 #[true, true, true, true, true, true, false, false, true, true, false, false, false, false, false, false] [(0, (.agg #[(vU32 pg), lv])), (1, (ptr b1 0)), (2, (.pointer none)), (3, (vN 0)), (4, (ptr c2 0)), (5, (vN 0)), (6, (ptr b16081 0)), (8, (vU32 b)), (9, (.tuple #[(ptr c2 0), (vN 0)])), (10, (.agg #[(vU32 pg), lv])), (11, (.tuple #[(ptr c2 0), (vN 0)])), (12, (ptr c2 0)), (13, (vN 0)), (14, (vN 0)), (15, (.bool (decide (0 ≠ 0)))), (17, (ptr b1 1)), (18, lv), (19, v3), (20, (ptr b1 1)), (21, (.agg #[(vU32 pg), v3])), (22, (ptr c2 0)), (23, (ptr q16041 0)), (24, (.agg #[(vU32 pg), v3, (ptr c2 0), (ptr q16041 0), (.slice none 0 0), (vU32 0)])), (25, (ptr b16081 0)), (26, (ptr b1 1)), (27, v3), (28, (vN ([a, b]).length)), (29, (vN (0 + 1))), (30, (.bool (decide ((0 + 1) < ([a, b]).length)))), (31, (.pointer (some (sp v3 (0 + 1))))), (32, (vU32 b)), (33, (ptr b16081 0)), (34, (ptr b16081 0)), (35, (ptr b16081 0)), (36, (ptr b16081 4)), (37, v18241), (38, (.slice (some ⟨b20101, 0, none⟩) 64 64)), (39, (str (List.replicate 64 0))), (40, (.slice (some ⟨b18141, 0, none⟩) 1 1)), (41, (vU32 b)), (42, (vN b.toNat)), (43, v18201), (44, (.slice (some ⟨b18221, 0, none⟩) 1 1)), (45, v18241), (46, (ptr b16081 0)), (47, (ptr b16081 4)), (48, (vN (0 + 1)))] wS := by
        intro b20101 wS HS
        rw [hW]
        refine WH.all1 (i := 6) (by kernel_rfl) ?_
        ·
          refine WHS.op (i := 6) rfl (.inl rfl) rfl (op_bytesStr (l := (List.replicate 64 0)) Tryz.underlying114 Tryz.underlying5 Tryz.underlying9 rfl (HS.arrR (i := 13) rfl) rfl ?_)
          refine ⟨⟨[.blk b16081 [(vU32 pg), v3, (ptr c2 0), (ptr q16041 0), v18241, (vU32 0)] 193, .row (.slice (some ⟨b18101, 0, none⟩) 64 64) 5 1 64 (List.map vU8 (List.replicate 64 0)), .row (.slice (some ⟨b18141, 0, none⟩) 1 1) 9 1 1 (List.map str [(List.replicate 64 0)]), .row v18201 9 1 a.toNat (List.map str (List.replicate a.toNat (List.replicate 64 0))), .row (.slice (some ⟨b18221, 0, none⟩) 1 1) 59 1 1 [v18201], .row v18241 59 1 (0 + 1) ([] ++ [v18201]), .row (.slice (some ⟨b20101, 0, none⟩) 64 64) 5 1 64 (List.map vU8 (List.replicate 64 0))], HS⟩, ?_⟩
          have hq := st9_9 b20101 wS HS
          rw [hW] at hq
          refine WH.cov ?_ hq
          exact by repeat (first | exact trivial | refine ⟨rfl, ?_⟩)
      have st9_7 : ∀ (b20101 : Nat) (wS : World), Own [] w wS [.blk b1 [(vU32 pg), v3] 75, .blk c2 [(vU32 pg), v2, (.map (some mb2))] 196, .row v2 22 1 ([a, b]).length (List.map vU32 ([a, b])), .obj mb2 (mP .i64 [] 0), .row v3 22 1 ([a, b]).length (List.map vU32 [a, b]), .blk q16041 [(.map (some mb16041)), (.slice none 0 0), (vN 0)] 264, .obj mb16041 (mP .u16 [] 0), .blk b16081 [(vU32 pg), v3, (ptr c2 0), (ptr q16041 0), v18241, (vU32 0)] 193, .row (.slice (some ⟨b18101, 0, none⟩) 64 64) 5 1 64 (List.map vU8 (List.replicate 64 0)), .row (.slice (some ⟨b18141, 0, none⟩) 1 1) 9 1 1 (List.map str [(List.replicate 64 0)]), .row v18201 9 1 a.toNat (List.map str (List.replicate a.toNat (List.replicate 64 0))), .row (.slice (some ⟨b18221, 0, none⟩) 1 1) 59 1 1 [v18201], .row v18241 59 1 (0 + 1) ([] ++ [v18201]), .row (.slice (some ⟨b20101, 0, none⟩) 64 64) 5 1 64 (List.map vU8 (List.replicate 64 0))] → W 8 #[true, true, true, true, false, true, true, false, true, true, false, false, false, false, false, false] [(0, (.agg #[(vU32 pg), lv])), (1, (ptr b1 0)), (2, (.pointer none)), (3, (vN 0)), (4, (ptr c2 0)), (5, (vN 0)), (6, (ptr b16081 0)), (8, (vU32 b)), (9, (.tuple #[(ptr c2 0), (vN 0)])), (10, (.agg #[(vU32 pg), lv])), (11, (.tuple #[(ptr c2 0), (vN 0)])), (12, (ptr c2 0)), (13, (vN 0)), (14, (vN 0)), (15, (.bool (decide (0 ≠ 0)))), (17, (ptr b1 1)), (18, lv), (19, v3), (20, (ptr b1 1)), (21, (.agg #[(vU32 pg), v3])), (22, (ptr c2 0)), (23, (ptr q16041 0)), (24, (.agg #[(vU32 pg), v3, (ptr c2 0), (ptr q16041 0), (.slice none 0 0), (vU32 0)])), (25, (ptr b16081 0)), (26, (ptr b1 1)), (27, v3), (28, (vN ([a, b]).length)), (29, (vN (0 + 1))), (30, (.bool (decide ((0 + 1) < ([a, b]).length)))), (31, (.pointer (some (sp v3 (0 + 1))))), (32, (vU32 b)), (33, (ptr b16081 0)), (34, (ptr b16081 0)), (35, (ptr b16081 0)), (36, (ptr b16081 4)), (37, (.slice none 0 0)), (38, (.slice (some ⟨b20101, 0, none⟩) 64 64)), (39, (str (List.replicate 64 0))), (40, (.slice (some ⟨b18141, 0, none⟩) 1 1)), (41, (vU32 b)), (42, (vN b.toNat)), (43, v18201), (44, (.slice (some ⟨b18221, 0, none⟩) 1 1)), (45, v18241), (46, (ptr b16081 0)), (47, (ptr b16081 4)), (48, (vN (0 + 1)))] wS := by
        intro b20101 wS HS
        rw [hW]
        refine WH.all2 (i := 4) (j := 7) (by kernel_rfl) ?_ ?_
        ·
          refine WHS.op (i := 4) rfl (.inl rfl) rfl (op_load rfl (HS.cell (i := 7) rfl rfl) Tryz.underlying191 rfl ?_)
          refine ⟨⟨[.blk b16081 [(vU32 pg), v3, (ptr c2 0), (ptr q16041 0), v18241, (vU32 0)] 193, .row (.slice (some ⟨b18101, 0, none⟩) 64 64) 5 1 64 (List.map vU8 (List.replicate 64 0)), .row (.slice (some ⟨b18141, 0, none⟩) 1 1) 9 1 1 (List.map str [(List.replicate 64 0)]), .row v18201 9 1 a.toNat (List.map str (List.replicate a.toNat (List.replicate 64 0))), .row (.slice (some ⟨b18221, 0, none⟩) 1 1) 59 1 1 [v18201], .row v18241 59 1 (0 + 1) ([] ++ [v18201]), .row (.slice (some ⟨b20101, 0, none⟩) 64 64) 5 1 64 (List.map vU8 (List.replicate 64 0))], HS⟩, ?_⟩
          have hq := st9_9 b20101 wS HS
          rw [hW] at hq
          refine WH.cov ?_ hq
          exact by repeat (first | exact trivial | refine ⟨rfl, ?_⟩)
        ·
          refine WHS.op (i := 7) rfl (.inl rfl) rfl (op_buildSlice (cs := [_]) HS Tryz.underlying59 Fa.I9 rfl rfl rfl rfl (by decide) (by decide) (fun b20141 w20141 H20141 => ?_))
          refine ⟨⟨[.blk b16081 [(vU32 pg), v3, (ptr c2 0), (ptr q16041 0), v18241, (vU32 0)] 193, .row (.slice (some ⟨b18101, 0, none⟩) 64 64) 5 1 64 (List.map vU8 (List.replicate 64 0)), .row (.slice (some ⟨b18141, 0, none⟩) 1 1) 9 1 1 (List.map str [(List.replicate 64 0)]), .row v18201 9 1 a.toNat (List.map str (List.replicate a.toNat (List.replicate 64 0))), .row (.slice (some ⟨b18221, 0, none⟩) 1 1) 59 1 1 [v18201], .row v18241 59 1 (0 + 1) ([] ++ [v18201]), .row (.slice (some ⟨b20101, 0, none⟩) 64 64) 5 1 64 (List.map vU8 (List.replicate 64 0)), .row (.slice (some ⟨b20141, 0, none⟩) 1 1) 9 1 1 (List.map str [(List.replicate 64 0)])], H20141⟩, ?_⟩
          have hq := st9_10 b20101 b20141 w20141 H20141
          rw [hW] at hq
          refine WH.cov ?_ hq
          exact by repeat (first | exact trivial | refine ⟨rfl, ?_⟩)
      have st9_11 : ∀ (b20101 : Nat) (b20141 : Nat) (v20201 : Value) (wS : World), Own [] w wS [.blk b1 [(vU32 pg), v3] 75, .blk c2 [(vU32 pg), v2, (.map (some mb2))] 196, .row v2 22 1 ([a, b]).length (List.map vU32 ([a, b])), .obj mb2 (mP .i64 [] 0), .row v3 22 1 ([a, b]).length (List.map vU32 [a, b]), .blk q16041 [(.map (some mb16041)), (.slice none 0 0), (vN 0)] 264, .obj mb16041 (mP .u16 [] 0), .blk b16081 [(vU32 pg), v3, (ptr c2 0), (ptr q16041 0), v18241, (vU32 0)] 193, .row (.slice (some ⟨b18101, 0, none⟩) 64 64) 5 1 64 (List.map vU8 (List.replicate 64 0)), .row (.slice (some ⟨b18141, 0, none⟩) 1 1) 9 1 1 (List.map str [(List.replicate 64 0)]), .row v18201 9 1 a.toNat (List.map str (List.replicate a.toNat (List.replicate 64 0))), .row (.slice (some ⟨b18221, 0, none⟩) 1 1) 59 1 1 [v18201], .row v18241 59 1 (0 + 1) ([] ++ [v18201]), .row (.slice (some ⟨b20101, 0, none⟩) 64 64) 5 1 64 (List.map vU8 (List.replicate 64 0)), .row (.slice (some ⟨b20141, 0, none⟩) 1 1) 9 1 1 (List.map str [(List.replicate 64 0)]), .row v20201 9 1 b.toNat (List.map str (List.replicate b.toNat (List.replicate 64 0)))] → W 8 #[true, true, false, false, false, true, true, true, true, true, true, false, false, false, false, false] [(0, (.agg #[(vU32 pg), lv])), (1, (ptr b1 0)), (2, (.pointer none)), (3, (vN 0)), (4, (ptr c2 0)), (5, (vN 0)), (6, (ptr b16081 0)), (8, (vU32 b)), (9, (.tuple #[(ptr c2 0), (vN 0)])), (10, (.agg #[(vU32 pg), lv])), (11, (.tuple #[(ptr c2 0), (vN 0)])), (12, (ptr c2 0)), (13, (vN 0)), (14, (vN 0)), (15, (.bool (decide (0 ≠ 0)))), (17, (ptr b1 1)), (18, lv), (19, v3), (20, (ptr b1 1)), (21, (.agg #[(vU32 pg), v3])), (22, (ptr c2 0)), (23, (ptr q16041 0)), (24, (.agg #[(vU32 pg), v3, (ptr c2 0), (ptr q16041 0), (.slice none 0 0), (vU32 0)])), (25, (ptr b16081 0)), (26, (ptr b1 1)), (27, v3), (28, (vN ([a, b]).length)), (29, (vN (0 + 1))), (30, (.bool (decide ((0 + 1) < ([a, b]).length)))), (31, (.pointer (some (sp v3 (0 + 1))))), (32, (vU32 b)), (33, (ptr b16081 0)), (34, (ptr b16081 0)), (35, (ptr b16081 0)), (36, (ptr b16081 4)), (37, (.slice none 0 0)), (38, (.slice (some ⟨b20101, 0, none⟩) 64 64)), (39, (str (List.replicate 64 0))), (40, (.slice (some ⟨b20141, 0, none⟩) 1 1)), (41, (vU32 b)), (42, (vN b.toNat)), (43, v20201), (44, (.slice (some ⟨b18221, 0, none⟩) 1 1)), (45, v18241), (46, (ptr b16081 0)), (47, (ptr b16081 4)), (48, (vN (0 + 1)))] wS := by
        intro b20101 b20141 v20201 wS HS
        rw [hW]
        refine WH.all2 (i := 2) (j := 11) (by kernel_rfl) ?_ ?_
        ·
          refine WHS.op (i := 2) rfl (.inl rfl) rfl (op_nilCheck rfl ?_)
          refine ⟨⟨[.blk b16081 [(vU32 pg), v3, (ptr c2 0), (ptr q16041 0), v18241, (vU32 0)] 193, .row (.slice (some ⟨b18101, 0, none⟩) 64 64) 5 1 64 (List.map vU8 (List.replicate 64 0)), .row (.slice (some ⟨b18141, 0, none⟩) 1 1) 9 1 1 (List.map str [(List.replicate 64 0)]), .row v18201 9 1 a.toNat (List.map str (List.replicate a.toNat (List.replicate 64 0))), .row (.slice (some ⟨b18221, 0, none⟩) 1 1) 59 1 1 [v18201], .row v18241 59 1 (0 + 1) ([] ++ [v18201]), .row (.slice (some ⟨b20101, 0, none⟩) 64 64) 5 1 64 (List.map vU8 (List.replicate 64 0)), .row (.slice (some ⟨b20141, 0, none⟩) 1 1) 9 1 1 (List.map str [(List.replicate 64 0)]), .row v20201 9 1 b.toNat (List.map str (List.replicate b.toNat (List.replicate 64 0)))], HS⟩, ?_⟩
          refine WH.take (i := 3) (v := (ptr b16081 4)) rfl rfl (.inl rfl) rfl (by kernel_rfl) ⟨[.blk b16081 [(vU32 pg), v3, (ptr c2 0), (ptr q16041 0), v18241, (vU32 0)] 193, .row (.slice (some ⟨b18101, 0, none⟩) 64 64) 5 1 64 (List.map vU8 (List.replicate 64 0)), .row (.slice (some ⟨b18141, 0, none⟩) 1 1) 9 1 1 (List.map str [(List.replicate 64 0)]), .row v18201 9 1 a.toNat (List.map str (List.replicate a.toNat (List.replicate 64 0))), .row (.slice (some ⟨b18221, 0, none⟩) 1 1) 59 1 1 [v18201], .row v18241 59 1 (0 + 1) ([] ++ [v18201]), .row (.slice (some ⟨b20101, 0, none⟩) 64 64) 5 1 64 (List.map vU8 (List.replicate 64 0)), .row (.slice (some ⟨b20141, 0, none⟩) 1 1) 9 1 1 (List.map str [(List.replicate 64 0)]), .row v20201 9 1 b.toNat (List.map str (List.replicate b.toNat (List.replicate 64 0)))], HS⟩ (fun wX hSX => hSX.elim fun LX HX => op_fieldAddr rfl Fa.F193_3 ⟨rfl, rfl⟩) ?_
          have hq := st9_13 b20101 b20141 v20201 wS HS
          rw [hW] at hq
          refine WH.cov ?_ hq
          exact by repeat (first | exact trivial | refine ⟨rfl, ?_⟩)
        ·
          refine WHS.op (i := 11) rfl (.inl rfl) rfl (op_buildSlice (cs := [v20201]) HS Tryz.underlying191 Fa.I59 rfl rfl (by obtain ⟨_, _, e0, _⟩ := (HS.arrR (i := 15) rfl).form; rw [e0]; rfl) rfl (by decide) (by decide) (fun b20221 w20221 H20221 => ?_))
          refine ⟨⟨[.blk b16081 [(vU32 pg), v3, (ptr c2 0), (ptr q16041 0), v18241, (vU32 0)] 193, .row (.slice (some ⟨b18101, 0, none⟩) 64 64) 5 1 64 (List.map vU8 (List.replicate 64 0)), .row (.slice (some ⟨b18141, 0, none⟩) 1 1) 9 1 1 (List.map str [(List.replicate 64 0)]), .row v18201 9 1 a.toNat (List.map str (List.replicate a.toNat (List.replicate 64 0))), .row (.slice (some ⟨b18221, 0, none⟩) 1 1) 59 1 1 [v18201], .row v18241 59 1 (0 + 1) ([] ++ [v18201]), .row (.slice (some ⟨b20101, 0, none⟩) 64 64) 5 1 64 (List.map vU8 (List.replicate 64 0)), .row (.slice (some ⟨b20141, 0, none⟩) 1 1) 9 1 1 (List.map str [(List.replicate 64 0)]), .row v20201 9 1 b.toNat (List.map str (List.replicate b.toNat (List.replicate 64 0))), .row (.slice (some ⟨b20221, 0, none⟩) 1 1) 59 1 1 [v20201]], H20221⟩, ?_⟩
          have hq := st9_14 b20101 b20141 v20201 b20221 w20221 H20221
          rw [hW] at hq
          refine WH.cov ?_ hq
          exact by repeat (first | exact trivial | refine ⟨rfl, ?_⟩)
      have st9_3 : ∀ (wS : World), Own [] w wS [.blk b1 [(vU32 pg), v3] 75, .blk c2 [(vU32 pg), v2, (.map (some mb2))] 196, .row v2 22 1 ([a, b]).length (List.map vU32 ([a, b])), .obj mb2 (mP .i64 [] 0), .row v3 22 1 ([a, b]).length (List.map vU32 [a, b]), .blk q16041 [(.map (some mb16041)), (.slice none 0 0), (vN 0)] 264, .obj mb16041 (mP .u16 [] 0), .blk b16081 [(vU32 pg), v3, (ptr c2 0), (ptr q16041 0), v18241, (vU32 0)] 193, .row (.slice (some ⟨b18101, 0, none⟩) 64 64) 5 1 64 (List.map vU8 (List.replicate 64 0)), .row (.slice (some ⟨b18141, 0, none⟩) 1 1) 9 1 1 (List.map str [(List.replicate 64 0)]), .row v18201 9 1 a.toNat (List.map str (List.replicate a.toNat (List.replicate 64 0))), .row (.slice (some ⟨b18221, 0, none⟩) 1 1) 59 1 1 [v18201], .row v18241 59 1 (0 + 1) ([] ++ [v18201])] → W 9 #[true, true, true, true, true, false, false, false, true, true, false, false, false, false, false, false] [(0, (.agg #[(vU32 pg), lv])), (1, (ptr b1 0)), (2, (.pointer none)), (3, (vN 0)), (4, (ptr c2 0)), (5, (vN 0)), (6, (ptr b16081 0)), (8, (vU32 b)), (9, (.tuple #[(ptr c2 0), (vN 0)])), (10, (.agg #[(vU32 pg), lv])), (11, (.tuple #[(ptr c2 0), (vN 0)])), (12, (ptr c2 0)), (13, (vN 0)), (14, (vN 0)), (15, (.bool (decide (0 ≠ 0)))), (17, (ptr b1 1)), (18, lv), (19, v3), (20, (ptr b1 1)), (21, (.agg #[(vU32 pg), v3])), (22, (ptr c2 0)), (23, (ptr q16041 0)), (24, (.agg #[(vU32 pg), v3, (ptr c2 0), (ptr q16041 0), (.slice none 0 0), (vU32 0)])), (25, (ptr b16081 0)), (26, (ptr b1 1)), (27, v3), (28, (vN ([a, b]).length)), (29, (vN (0 + 1))), (30, (.bool (decide ((0 + 1) < ([a, b]).length)))), (31, (.pointer (some (sp v3 (0 + 1))))), (32, (vU32 b)), (33, (ptr b16081 0)), (34, (ptr b16081 0)), (35, (ptr b16081 0)), (36, (ptr b16081 4)), (37, v18241), (38, (.slice (some ⟨b18101, 0, none⟩) 64 64)), (39, (str (List.replicate 64 0))), (40, (.slice (some ⟨b18141, 0, none⟩) 1 1)), (41, (vU32 b)), (42, (vN b.toNat)), (43, v18201), (44, (.slice (some ⟨b18221, 0, none⟩) 1 1)), (45, v18241), (46, (ptr b16081 0)), (47, (ptr b16081 4)), (48, (vN (0 + 1)))] wS := by
        intro wS HS
        rw [hW]
        refine WH.all1 (i := 5) (by kernel_rfl) ?_
        ·
          refine WHS.op (i := 5) rfl (.inl rfl) rfl (op_makeSliceM (f := vU8) (c := 0) (m := 64) HS Tryz.underlying114 Fa.I5 rfl rfl (by omega) (by omega) (fun b20101 w20101 H20101 => ?_))
          refine ⟨⟨[.blk b16081 [(vU32 pg), v3, (ptr c2 0), (ptr q16041 0), v18241, (vU32 0)] 193, .row (.slice (some ⟨b18101, 0, none⟩) 64 64) 5 1 64 (List.map vU8 (List.replicate 64 0)), .row (.slice (some ⟨b18141, 0, none⟩) 1 1) 9 1 1 (List.map str [(List.replicate 64 0)]), .row v18201 9 1 a.toNat (List.map str (List.replicate a.toNat (List.replicate 64 0))), .row (.slice (some ⟨b18221, 0, none⟩) 1 1) 59 1 1 [v18201], .row v18241 59 1 (0 + 1) ([] ++ [v18201]), .row (.slice (some ⟨b20101, 0, none⟩) 64 64) 5 1 64 (List.map vU8 (List.replicate 64 0))], H20101⟩, ?_⟩
          have hq := st9_6 b20101 w20101 H20101
          rw [hW] at hq
          refine WH.cov ?_ hq
          exact by repeat (first | exact trivial | refine ⟨rfl, ?_⟩)
      have st9_4 : ∀ (b20101 : Nat) (wS : World), Own [] w wS [.blk b1 [(vU32 pg), v3] 75, .blk c2 [(vU32 pg), v2, (.map (some mb2))] 196, .row v2 22 1 ([a, b]).length (List.map vU32 ([a, b])), .obj mb2 (mP .i64 [] 0), .row v3 22 1 ([a, b]).length (List.map vU32 [a, b]), .blk q16041 [(.map (some mb16041)), (.slice none 0 0), (vN 0)] 264, .obj mb16041 (mP .u16 [] 0), .blk b16081 [(vU32 pg), v3, (ptr c2 0), (ptr q16041 0), v18241, (vU32 0)] 193, .row (.slice (some ⟨b18101, 0, none⟩) 64 64) 5 1 64 (List.map vU8 (List.replicate 64 0)), .row (.slice (some ⟨b18141, 0, none⟩) 1 1) 9 1 1 (List.map str [(List.replicate 64 0)]), .row v18201 9 1 a.toNat (List.map str (List.replicate a.toNat (List.replicate 64 0))), .row (.slice (some ⟨b18221, 0, none⟩) 1 1) 59 1 1 [v18201], .row v18241 59 1 (0 + 1) ([] ++ [v18201]), .row (.slice (some ⟨b20101, 0, none⟩) 64 64) 5 1 64 (List.map vU8 (List.replicate 64 0))] → W 9 #[true, true, true, true, false, true, false, false, true, true, false, false, false, false, false, false] [(0, (.agg #[(vU32 pg), lv])), (1, (ptr b1 0)), (2, (.pointer none)), (3, (vN 0)), (4, (ptr c2 0)), (5, (vN 0)), (6, (ptr b16081 0)), (8, (vU32 b)), (9, (.tuple #[(ptr c2 0), (vN 0)])), (10, (.agg #[(vU32 pg), lv])), (11, (.tuple #[(ptr c2 0), (vN 0)])), (12, (ptr c2 0)), (13, (vN 0)), (14, (vN 0)), (15, (.bool (decide (0 ≠ 0)))), (17, (ptr b1 1)), (18, lv), (19, v3), (20, (ptr b1 1)), (21, (.agg #[(vU32 pg), v3])), (22, (ptr c2 0)), (23, (ptr q16041 0)), (24, (.agg #[(vU32 pg), v3, (ptr c2 0), (ptr q16041 0), (.slice none 0 0), (vU32 0)])), (25, (ptr b16081 0)), (26, (ptr b1 1)), (27, v3), (28, (vN ([a, b]).length)), (29, (vN (0 + 1))), (30, (.bool (decide ((0 + 1) < ([a, b]).length)))), (31, (.pointer (some (sp v3 (0 + 1))))), (32, (vU32 b)), (33, (ptr b16081 0)), (34, (ptr b16081 0)), (35, (ptr b16081 0)), (36, (ptr b16081 4)), (37, (.slice none 0 0)), (38, (.slice (some ⟨b20101, 0, none⟩) 64 64)), (39, (str (List.replicate 64 0))), (40, (.slice (some ⟨b18141, 0, none⟩) 1 1)), (41, (vU32 b)), (42, (vN b.toNat)), (43, v18201), (44, (.slice (some ⟨b18221, 0, none⟩) 1 1)), (45, v18241), (46, (ptr b16081 0)), (47, (ptr b16081 4)), (48, (vN (0 + 1)))] wS := by
        intro b20101 wS HS
        rw [hW]
        refine WH.all2 (i := 4) (j := 6) (by kernel_rfl) ?_ ?_
        ·
          refine WHS.op (i := 4) rfl (.inl rfl) rfl (op_load rfl (HS.cell (i := 7) rfl rfl) Tryz.underlying191 rfl ?_)
          refine ⟨⟨[.blk b16081 [(vU32 pg), v3, (ptr c2 0), (ptr q16041 0), v18241, (vU32 0)] 193, .row (.slice (some ⟨b18101, 0, none⟩) 64 64) 5 1 64 (List.map vU8 (List.replicate 64 0)), .row (.slice (some ⟨b18141, 0, none⟩) 1 1) 9 1 1 (List.map str [(List.replicate 64 0)]), .row v18201 9 1 a.toNat (List.map str (List.replicate a.toNat (List.replicate 64 0))), .row (.slice (some ⟨b18221, 0, none⟩) 1 1) 59 1 1 [v18201], .row v18241 59 1 (0 + 1) ([] ++ [v18201]), .row (.slice (some ⟨b20101, 0, none⟩) 64 64) 5 1 64 (List.map vU8 (List.replicate 64 0))], HS⟩, ?_⟩
          have hq := st9_6 b20101 wS HS
          rw [hW] at hq
          refine WH.cov ?_ hq
          exact by repeat (first | exact trivial | refine ⟨rfl, ?_⟩)
        ·
          refine WHS.op (i := 6) rfl (.inl rfl) rfl (op_bytesStr (l := (List.replicate 64 0)) Tryz.underlying114 Tryz.underlying5 Tryz.underlying9 rfl (HS.arrR (i := 13) rfl) rfl ?_)
          refine ⟨⟨[.blk b16081 [(vU32 pg), v3, (ptr c2 0), (ptr q16041 0), v18241, (vU32 0)] 193, .row (.slice (some ⟨b18101, 0, none⟩) 64 64) 5 1 64 (List.map vU8 (List.replicate 64 0)), .row (.slice (some ⟨b18141, 0, none⟩) 1 1) 9 1 1 (List.map str [(List.replicate 64 0)]), .row v18201 9 1 a.toNat (List.map str (List.replicate a.toNat (List.replicate 64 0))), .row (.slice (some ⟨b18221, 0, none⟩) 1 1) 59 1 1 [v18201], .row v18241 59 1 (0 + 1) ([] ++ [v18201]), .row (.slice (some ⟨b20101, 0, none⟩) 64 64) 5 1 64 (List.map vU8 (List.replicate 64 0))], HS⟩, ?_⟩
          have hq := st9_7 b20101 wS HS
          rw [hW] at hq
          refine WH.cov ?_ hq
          exact by repeat (first | exact trivial | refine ⟨rfl, ?_⟩)
      have st9_8 : ∀ (b20101 : Nat) (b20141 : Nat) (wS : World), Own [] w wS [.blk b1 [(vU32 pg), v3] 75, .blk c2 [(vU32 pg), v2, (.map (some mb2))] 196, .row v2 22 1 ([a, b]).length (List.map vU32 ([a, b])), .obj mb2 (mP .i64 [] 0), .row v3 22 1 ([a, b]).length (List.map vU32 [a, b]), .blk q16041 [(.map (some mb16041)), (.slice none 0 0), (vN 0)] 264, .obj mb16041 (mP .u16 [] 0), .blk b16081 [(vU32 pg), v3, (ptr c2 0), (ptr q16041 0), v18241, (vU32 0)] 193, .row (.slice (some ⟨b18101, 0, none⟩) 64 64) 5 1 64 (List.map vU8 (List.replicate 64 0)), .row (.slice (some ⟨b18141, 0, none⟩) 1 1) 9 1 1 (List.map str [(List.replicate 64 0)]), .row v18201 9 1 a.toNat (List.map str (List.replicate a.toNat (List.replicate 64 0))), .row (.slice (some ⟨b18221, 0, none⟩) 1 1) 59 1 1 [v18201], .row v18241 59 1 (0 + 1) ([] ++ [v18201]), .row (.slice (some ⟨b20101, 0, none⟩) 64 64) 5 1 64 (List.map vU8 (List.replicate 64 0)), .row (.slice (some ⟨b20141, 0, none⟩) 1 1) 9 1 1 (List.map str [(List.replicate 64 0)])] → W 9 #[true, true, false, false, false, true, true, true, true, true, false, false, false, false, false, false] [(0, (.agg #[(vU32 pg), lv])), (1, (ptr b1 0)), (2, (.pointer none)), (3, (vN 0)), (4, (ptr c2 0)), (5, (vN 0)), (6, (ptr b16081 0)), (8, (vU32 b)), (9, (.tuple #[(ptr c2 0), (vN 0)])), (10, (.agg #[(vU32 pg), lv])), (11, (.tuple #[(ptr c2 0), (vN 0)])), (12, (ptr c2 0)), (13, (vN 0)), (14, (vN 0)), (15, (.bool (decide (0 ≠ 0)))), (17, (ptr b1 1)), (18, lv), (19, v3), (20, (ptr b1 1)), (21, (.agg #[(vU32 pg), v3])), (22, (ptr c2 0)), (23, (ptr q16041 0)), (24, (.agg #[(vU32 pg), v3, (ptr c2 0), (ptr q16041 0), (.slice none 0 0), (vU32 0)])), (25, (ptr b16081 0)), (26, (ptr b1 1)), (27, v3), (28, (vN ([a, b]).length)), (29, (vN (0 + 1))), (30, (.bool (decide ((0 + 1) < ([a, b]).length)))), (31, (.pointer (some (sp v3 (0 + 1))))), (32, (vU32 b)), (33, (ptr b16081 0)), (34, (ptr b16081 0)), (35, (ptr b16081 0)), (36, (ptr b16081 4)), (37, (.slice none 0 0)), (38, (.slice (some ⟨b20101, 0, none⟩) 64 64)), (39, (str (List.replicate 64 0))), (40, (.slice (some ⟨b20141, 0, none⟩) 1 1)), (41, (vU32 b)), (42, (vN b.toNat)), (43, v18201), (44, (.slice (some ⟨b18221, 0, none⟩) 1 1)), (45, v18241), (46, (ptr b16081 0)), (47, (ptr b16081 4)), (48, (vN (0 + 1)))] wS := by
        intro b20101 b20141 wS HS
        rw [hW]
        refine WH.all2 (i := 2) (j := 10) (by kernel_rfl) ?_ ?_
        ·
          refine WHS.op (i := 2) rfl (.inl rfl) rfl (op_nilCheck rfl ?_)
          refine ⟨⟨[.blk b16081 [(vU32 pg), v3, (ptr c2 0), (ptr q16041 0), v18241, (vU32 0)] 193, .row (.slice (some ⟨b18101, 0, none⟩) 64 64) 5 1 64 (List.map vU8 (List.replicate 64 0)), .row (.slice (some ⟨b18141, 0, none⟩) 1 1) 9 1 1 (List.map str [(List.replicate 64 0)]), .row v18201 9 1 a.toNat (List.map str (List.replicate a.toNat (List.replicate 64 0))), .row (.slice (some ⟨b18221, 0, none⟩) 1 1) 59 1 1 [v18201], .row v18241 59 1 (0 + 1) ([] ++ [v18201]), .row (.slice (some ⟨b20101, 0, none⟩) 64 64) 5 1 64 (List.map vU8 (List.replicate 64 0)), .row (.slice (some ⟨b20141, 0, none⟩) 1 1) 9 1 1 (List.map str [(List.replicate 64 0)])], HS⟩, ?_⟩
          refine WH.take (i := 3) (v := (ptr b16081 4)) rfl rfl (.inl rfl) rfl (by kernel_rfl) ⟨[.blk b16081 [(vU32 pg), v3, (ptr c2 0), (ptr q16041 0), v18241, (vU32 0)] 193, .row (.slice (some ⟨b18101, 0, none⟩) 64 64) 5 1 64 (List.map vU8 (List.replicate 64 0)), .row (.slice (some ⟨b18141, 0, none⟩) 1 1) 9 1 1 (List.map str [(List.replicate 64 0)]), .row v18201 9 1 a.toNat (List.map str (List.replicate a.toNat (List.replicate 64 0))), .row (.slice (some ⟨b18221, 0, none⟩) 1 1) 59 1 1 [v18201], .row v18241 59 1 (0 + 1) ([] ++ [v18201]), .row (.slice (some ⟨b20101, 0, none⟩) 64 64) 5 1 64 (List.map vU8 (List.replicate 64 0)), .row (.slice (some ⟨b20141, 0, none⟩) 1 1) 9 1 1 (List.map str [(List.replicate 64 0)])], HS⟩ (fun wX hSX => hSX.elim fun LX HX => op_fieldAddr rfl Fa.F193_3 ⟨rfl, rfl⟩) ?_
          have hq := st9_10 b20101 b20141 wS HS
          rw [hW] at hq
          refine WH.cov ?_ hq
          exact by repeat (first | exact trivial | refine ⟨rfl, ?_⟩)
        ·
          refine WHS.op (i := 10) rfl (.inl rfl) rfl (op_callF Fa.C129 rfl ((repeatS_ok _ (List.replicate 64 0) b.toNat _ (HS.arrR (i := 14) rfl) (UInt32.toNat_lt _)).mono (fun e w20201 hq => ?_)))
          obtain ⟨v20201, rfl, hq20201⟩ := hq
          refine ⟨_, rfl, ?_⟩
          have H20201 : Own [] w w20201 [.blk b1 [(vU32 pg), v3] 75, .blk c2 [(vU32 pg), v2, (.map (some mb2))] 196, .row v2 22 1 ([a, b]).length (List.map vU32 ([a, b])), .obj mb2 (mP .i64 [] 0), .row v3 22 1 ([a, b]).length (List.map vU32 [a, b]), .blk q16041 [(.map (some mb16041)), (.slice none 0 0), (vN 0)] 264, .obj mb16041 (mP .u16 [] 0), .blk b16081 [(vU32 pg), v3, (ptr c2 0), (ptr q16041 0), v18241, (vU32 0)] 193, .row (.slice (some ⟨b18101, 0, none⟩) 64 64) 5 1 64 (List.map vU8 (List.replicate 64 0)), .row (.slice (some ⟨b18141, 0, none⟩) 1 1) 9 1 1 (List.map str [(List.replicate 64 0)]), .row v18201 9 1 a.toNat (List.map str (List.replicate a.toNat (List.replicate 64 0))), .row (.slice (some ⟨b18221, 0, none⟩) 1 1) 59 1 1 [v18201], .row v18241 59 1 (0 + 1) ([] ++ [v18201]), .row (.slice (some ⟨b20101, 0, none⟩) 64 64) 5 1 64 (List.map vU8 (List.replicate 64 0)), .row (.slice (some ⟨b20141, 0, none⟩) 1 1) 9 1 1 (List.map str [(List.replicate 64 0)]), .row v20201 9 1 b.toNat (List.map str (List.replicate b.toNat (List.replicate 64 0)))] := HS.splice [] [] [.row v20201 9 1 b.toNat (List.map str (List.replicate b.toNat (List.replicate 64 0)))] rfl rfl hq20201 (Fits.solid True.intro Fits.nil)
          refine ⟨⟨[.blk b16081 [(vU32 pg), v3, (ptr c2 0), (ptr q16041 0), v18241, (vU32 0)] 193, .row (.slice (some ⟨b18101, 0, none⟩) 64 64) 5 1 64 (List.map vU8 (List.replicate 64 0)), .row (.slice (some ⟨b18141, 0, none⟩) 1 1) 9 1 1 (List.map str [(List.replicate 64 0)]), .row v18201 9 1 a.toNat (List.map str (List.replicate a.toNat (List.replicate 64 0))), .row (.slice (some ⟨b18221, 0, none⟩) 1 1) 59 1 1 [v18201], .row v18241 59 1 (0 + 1) ([] ++ [v18201]), .row (.slice (some ⟨b20101, 0, none⟩) 64 64) 5 1 64 (List.map vU8 (List.replicate 64 0)), .row (.slice (some ⟨b20141, 0, none⟩) 1 1) 9 1 1 (List.map str [(List.replicate 64 0)]), .row v20201 9 1 b.toNat (List.map str (List.replicate b.toNat (List.replicate 64 0)))], H20201⟩, ?_⟩
          have hq := st9_11 b20101 b20141 v20201 w20201 H20201
          rw [hW] at hq
          refine WH.cov ?_ hq
          exact by repeat (first | exact trivial | refine ⟨rfl, ?_⟩)
      have st9_1 : ∀ (wS : World), Own [] w wS [.blk b1 [(vU32 pg), v3] 75, .blk c2 [(vU32 pg), v2, (.map (some mb2))] 196, .row v2 22 1 ([a, b]).length (List.map vU32 ([a, b])), .obj mb2 (mP .i64 [] 0), .row v3 22 1 ([a, b]).length (List.map vU32 [a, b]), .blk q16041 [(.map (some mb16041)), (.slice none 0 0), (vN 0)] 264, .obj mb16041 (mP .u16 [] 0), .blk b16081 [(vU32 pg), v3, (ptr c2 0), (ptr q16041 0), v18241, (vU32 0)] 193, .row (.slice (some ⟨b18101, 0, none⟩) 64 64) 5 1 64 (List.map vU8 (List.replicate 64 0)), .row (.slice (some ⟨b18141, 0, none⟩) 1 1) 9 1 1 (List.map str [(List.replicate 64 0)]), .row v18201 9 1 a.toNat (List.map str (List.replicate a.toNat (List.replicate 64 0))), .row (.slice (some ⟨b18221, 0, none⟩) 1 1) 59 1 1 [v18201], .row v18241 59 1 (0 + 1) ([] ++ [v18201])] → W 10 #[true, true, true, true, false, false, false, false, true, true, false, false, false, false, false, false] [(0, (.agg #[(vU32 pg), lv])), (1, (ptr b1 0)), (2, (.pointer none)), (3, (vN 0)), (4, (ptr c2 0)), (5, (vN 0)), (6, (ptr b16081 0)), (8, (vU32 b)), (9, (.tuple #[(ptr c2 0), (vN 0)])), (10, (.agg #[(vU32 pg), lv])), (11, (.tuple #[(ptr c2 0), (vN 0)])), (12, (ptr c2 0)), (13, (vN 0)), (14, (vN 0)), (15, (.bool (decide (0 ≠ 0)))), (17, (ptr b1 1)), (18, lv), (19, v3), (20, (ptr b1 1)), (21, (.agg #[(vU32 pg), v3])), (22, (ptr c2 0)), (23, (ptr q16041 0)), (24, (.agg #[(vU32 pg), v3, (ptr c2 0), (ptr q16041 0), (.slice none 0 0), (vU32 0)])), (25, (ptr b16081 0)), (26, (ptr b1 1)), (27, v3), (28, (vN ([a, b]).length)), (29, (vN (0 + 1))), (30, (.bool (decide ((0 + 1) < ([a, b]).length)))), (31, (.pointer (some (sp v3 (0 + 1))))), (32, (vU32 b)), (33, (ptr b16081 0)), (34, (ptr b16081 0)), (35, (ptr b16081 0)), (36, (ptr b16081 4)), (37, (.slice none 0 0)), (38, (.slice (some ⟨b18101, 0, none⟩) 64 64)), (39, (str (List.replicate 64 0))), (40, (.slice (some ⟨b18141, 0, none⟩) 1 1)), (41, (vU32 b)), (42, (vN b.toNat)), (43, v18201), (44, (.slice (some ⟨b18221, 0, none⟩) 1 1)), (45, v18241), (46, (ptr b16081 0)), (47, (ptr b16081 4)), (48, (vN (0 + 1)))] wS := by
        intro wS HS
        rw [hW]
        refine WH.all2 (i := 4) (j := 5) (by kernel_rfl) ?_ ?_
        ·
          refine WHS.op (i := 4) rfl (.inl rfl) rfl (op_load rfl (HS.cell (i := 7) rfl rfl) Tryz.underlying191 rfl ?_)
          refine ⟨⟨[.blk b16081 [(vU32 pg), v3, (ptr c2 0), (ptr q16041 0), v18241, (vU32 0)] 193, .row (.slice (some ⟨b18101, 0, none⟩) 64 64) 5 1 64 (List.map vU8 (List.replicate 64 0)), .row (.slice (some ⟨b18141, 0, none⟩) 1 1) 9 1 1 (List.map str [(List.replicate 64 0)]), .row v18201 9 1 a.toNat (List.map str (List.replicate a.toNat (List.replicate 64 0))), .row (.slice (some ⟨b18221, 0, none⟩) 1 1) 59 1 1 [v18201], .row v18241 59 1 (0 + 1) ([] ++ [v18201])], HS⟩, ?_⟩
          have hq := st9_3 wS HS
          rw [hW] at hq
          refine WH.cov ?_ hq
          exact by repeat (first | exact trivial | refine ⟨rfl, ?_⟩)
        ·
          refine WHS.op (i := 5) rfl (.inl rfl) rfl (op_makeSliceM (f := vU8) (c := 0) (m := 64) HS Tryz.underlying114 Fa.I5 rfl rfl (by omega) (by omega) (fun b20101 w20101 H20101 => ?_))
          refine ⟨⟨[.blk b16081 [(vU32 pg), v3, (ptr c2 0), (ptr q16041 0), v18241, (vU32 0)] 193, .row (.slice (some ⟨b18101, 0, none⟩) 64 64) 5 1 64 (List.map vU8 (List.replicate 64 0)), .row (.slice (some ⟨b18141, 0, none⟩) 1 1) 9 1 1 (List.map str [(List.replicate 64 0)]), .row v18201 9 1 a.toNat (List.map str (List.replicate a.toNat (List.replicate 64 0))), .row (.slice (some ⟨b18221, 0, none⟩) 1 1) 59 1 1 [v18201], .row v18241 59 1 (0 + 1) ([] ++ [v18201]), .row (.slice (some ⟨b20101, 0, none⟩) 64 64) 5 1 64 (List.map vU8 (List.replicate 64 0))], H20101⟩, ?_⟩
          have hq := st9_4 b20101 w20101 H20101
          rw [hW] at hq
          refine WH.cov ?_ hq
          exact by repeat (first | exact trivial | refine ⟨rfl, ?_⟩)
      have st9_5 : ∀ (b20101 : Nat) (wS : World), Own [] w wS [.blk b1 [(vU32 pg), v3] 75, .blk c2 [(vU32 pg), v2, (.map (some mb2))] 196, .row v2 22 1 ([a, b]).length (List.map vU32 ([a, b])), .obj mb2 (mP .i64 [] 0), .row v3 22 1 ([a, b]).length (List.map vU32 [a, b]), .blk q16041 [(.map (some mb16041)), (.slice none 0 0), (vN 0)] 264, .obj mb16041 (mP .u16 [] 0), .blk b16081 [(vU32 pg), v3, (ptr c2 0), (ptr q16041 0), v18241, (vU32 0)] 193, .row (.slice (some ⟨b18101, 0, none⟩) 64 64) 5 1 64 (List.map vU8 (List.replicate 64 0)), .row (.slice (some ⟨b18141, 0, none⟩) 1 1) 9 1 1 (List.map str [(List.replicate 64 0)]), .row v18201 9 1 a.toNat (List.map str (List.replicate a.toNat (List.replicate 64 0))), .row (.slice (some ⟨b18221, 0, none⟩) 1 1) 59 1 1 [v18201], .row v18241 59 1 (0 + 1) ([] ++ [v18201]), .row (.slice (some ⟨b20101, 0, none⟩) 64 64) 5 1 64 (List.map vU8 (List.replicate 64 0))] → W 10 #[true, true, false, false, false, true, true, false, true, true, false, false, false, false, false, false] [(0, (.agg #[(vU32 pg), lv])), (1, (ptr b1 0)), (2, (.pointer none)), (3, (vN 0)), (4, (ptr c2 0)), (5, (vN 0)), (6, (ptr b16081 0)), (8, (vU32 b)), (9, (.tuple #[(ptr c2 0), (vN 0)])), (10, (.agg #[(vU32 pg), lv])), (11, (.tuple #[(ptr c2 0), (vN 0)])), (12, (ptr c2 0)), (13, (vN 0)), (14, (vN 0)), (15, (.bool (decide (0 ≠ 0)))), (17, (ptr b1 1)), (18, lv), (19, v3), (20, (ptr b1 1)), (21, (.agg #[(vU32 pg), v3])), (22, (ptr c2 0)), (23, (ptr q16041 0)), (24, (.agg #[(vU32 pg), v3, (ptr c2 0), (ptr q16041 0), (.slice none 0 0), (vU32 0)])), (25, (ptr b16081 0)), (26, (ptr b1 1)), (27, v3), (28, (vN ([a, b]).length)), (29, (vN (0 + 1))), (30, (.bool (decide ((0 + 1) < ([a, b]).length)))), (31, (.pointer (some (sp v3 (0 + 1))))), (32, (vU32 b)), (33, (ptr b16081 0)), (34, (ptr b16081 0)), (35, (ptr b16081 0)), (36, (ptr b16081 4)), (37, (.slice none 0 0)), (38, (.slice (some ⟨b20101, 0, none⟩) 64 64)), (39, (str (List.replicate 64 0))), (40, (.slice (some ⟨b18141, 0, none⟩) 1 1)), (41, (vU32 b)), (42, (vN b.toNat)), (43, v18201), (44, (.slice (some ⟨b18221, 0, none⟩) 1 1)), (45, v18241), (46, (ptr b16081 0)), (47, (ptr b16081 4)), (48, (vN (0 + 1)))] wS := by
        intro b20101 wS HS
        rw [hW]
        refine WH.all2 (i := 2) (j := 7) (by kernel_rfl) ?_ ?_
        ·
          refine WHS.op (i := 2) rfl (.inl rfl) rfl (op_nilCheck rfl ?_)
          refine ⟨⟨[.blk b16081 [(vU32 pg), v3, (ptr c2 0), (ptr q16041 0), v18241, (vU32 0)] 193, .row (.slice (some ⟨b18101, 0, none⟩) 64 64) 5 1 64 (List.map vU8 (List.replicate 64 0)), .row (.slice (some ⟨b18141, 0, none⟩) 1 1) 9 1 1 (List.map str [(List.replicate 64 0)]), .row v18201 9 1 a.toNat (List.map str (List.replicate a.toNat (List.replicate 64 0))), .row (.slice (some ⟨b18221, 0, none⟩) 1 1) 59 1 1 [v18201], .row v18241 59 1 (0 + 1) ([] ++ [v18201]), .row (.slice (some ⟨b20101, 0, none⟩) 64 64) 5 1 64 (List.map vU8 (List.replicate 64 0))], HS⟩, ?_⟩
          refine WH.take (i := 3) (v := (ptr b16081 4)) rfl rfl (.inl rfl) rfl (by kernel_rfl) ⟨[.blk b16081 [(vU32 pg), v3, (ptr c2 0), (ptr q16041 0), v18241, (vU32 0)] 193, .row (.slice (some ⟨b18101, 0, none⟩) 64 64) 5 1 64 (List.map vU8 (List.replicate 64 0)), .row (.slice (some ⟨b18141, 0, none⟩) 1 1) 9 1 1 (List.map str [(List.replicate 64 0)]), .row v18201 9 1 a.toNat (List.map str (List.replicate a.toNat (List.replicate 64 0))), .row (.slice (some ⟨b18221, 0, none⟩) 1 1) 59 1 1 [v18201], .row v18241 59 1 (0 + 1) ([] ++ [v18201]), .row (.slice (some ⟨b20101, 0, none⟩) 64 64) 5 1 64 (List.map vU8 (List.replicate 64 0))], HS⟩ (fun wX hSX => hSX.elim fun LX HX => op_fieldAddr rfl Fa.F193_3 ⟨rfl, rfl⟩) ?_
          have hq := st9_7 b20101 wS HS
          rw [hW] at hq
          refine WH.cov ?_ hq
          exact by repeat (first | exact trivial | refine ⟨rfl, ?_⟩)
        ·
          refine WHS.op (i := 7) rfl (.inl rfl) rfl (op_buildSlice (cs := [_]) HS Tryz.underlying59 Fa.I9 rfl rfl rfl rfl (by decide) (by decide) (fun b20141 w20141 H20141 => ?_))
          refine ⟨⟨[.blk b16081 [(vU32 pg), v3, (ptr c2 0), (ptr q16041 0), v18241, (vU32 0)] 193, .row (.slice (some ⟨b18101, 0, none⟩) 64 64) 5 1 64 (List.map vU8 (List.replicate 64 0)), .row (.slice (some ⟨b18141, 0, none⟩) 1 1) 9 1 1 (List.map str [(List.replicate 64 0)]), .row v18201 9 1 a.toNat (List.map str (List.replicate a.toNat (List.replicate 64 0))), .row (.slice (some ⟨b18221, 0, none⟩) 1 1) 59 1 1 [v18201], .row v18241 59 1 (0 + 1) ([] ++ [v18201]), .row (.slice (some ⟨b20101, 0, none⟩) 64 64) 5 1 64 (List.map vU8 (List.replicate 64 0)), .row (.slice (some ⟨b20141, 0, none⟩) 1 1) 9 1 1 (List.map str [(List.replicate 64 0)])], H20141⟩, ?_⟩
          have hq := st9_8 b20101 b20141 w20141 H20141
          rw [hW] at hq
          refine WH.cov ?_ hq
          exact by repeat (first | exact trivial | refine ⟨rfl, ?_⟩)
      have st9_2 : ∀ (b20101 : Nat) (wS : World), Own [] w wS [.blk b1 [(vU32 pg), v3] 75, .blk c2 [(vU32 pg), v2, (.map (some mb2))] 196, .row v2 22 1 ([a, b]).length (List.map vU32 ([a, b])), .obj mb2 (mP .i64 [] 0), .row v3 22 1 ([a, b]).length (List.map vU32 [a, b]), .blk q16041 [(.map (some mb16041)), (.slice none 0 0), (vN 0)] 264, .obj mb16041 (mP .u16 [] 0), .blk b16081 [(vU32 pg), v3, (ptr c2 0), (ptr q16041 0), v18241, (vU32 0)] 193, .row (.slice (some ⟨b18101, 0, none⟩) 64 64) 5 1 64 (List.map vU8 (List.replicate 64 0)), .row (.slice (some ⟨b18141, 0, none⟩) 1 1) 9 1 1 (List.map str [(List.replicate 64 0)]), .row v18201 9 1 a.toNat (List.map str (List.replicate a.toNat (List.replicate 64 0))), .row (.slice (some ⟨b18221, 0, none⟩) 1 1) 59 1 1 [v18201], .row v18241 59 1 (0 + 1) ([] ++ [v18201]), .row (.slice (some ⟨b20101, 0, none⟩) 64 64) 5 1 64 (List.map vU8 (List.replicate 64 0))] → W 11 #[true, true, false, false, false, true, false, false, true, true, false, false, false, false, false, false] [(0, (.agg #[(vU32 pg), lv])), (1, (ptr b1 0)), (2, (.pointer none)), (3, (vN 0)), (4, (ptr c2 0)), (5, (vN 0)), (6, (ptr b16081 0)), (8, (vU32 b)), (9, (.tuple #[(ptr c2 0), (vN 0)])), (10, (.agg #[(vU32 pg), lv])), (11, (.tuple #[(ptr c2 0), (vN 0)])), (12, (ptr c2 0)), (13, (vN 0)), (14, (vN 0)), (15, (.bool (decide (0 ≠ 0)))), (17, (ptr b1 1)), (18, lv), (19, v3), (20, (ptr b1 1)), (21, (.agg #[(vU32 pg), v3])), (22, (ptr c2 0)), (23, (ptr q16041 0)), (24, (.agg #[(vU32 pg), v3, (ptr c2 0), (ptr q16041 0), (.slice none 0 0), (vU32 0)])), (25, (ptr b16081 0)), (26, (ptr b1 1)), (27, v3), (28, (vN ([a, b]).length)), (29, (vN (0 + 1))), (30, (.bool (decide ((0 + 1) < ([a, b]).length)))), (31, (.pointer (some (sp v3 (0 + 1))))), (32, (vU32 b)), (33, (ptr b16081 0)), (34, (ptr b16081 0)), (35, (ptr b16081 0)), (36, (ptr b16081 4)), (37, (.slice none 0 0)), (38, (.slice (some ⟨b20101, 0, none⟩) 64 64)), (39, (str (List.replicate 64 0))), (40, (.slice (some ⟨b18141, 0, none⟩) 1 1)), (41, (vU32 b)), (42, (vN b.toNat)), (43, v18201), (44, (.slice (some ⟨b18221, 0, none⟩) 1 1)), (45, v18241), (46, (ptr b16081 0)), (47, (ptr b16081 4)), (48, (vN (0 + 1)))] wS := by
        intro b20101 wS HS
        rw [hW]
        refine WH.all2 (i := 2) (j := 6) (by kernel_rfl) ?_ ?_
        ·
          refine WHS.op (i := 2) rfl (.inl rfl) rfl (op_nilCheck rfl ?_)
          refine ⟨⟨[.blk b16081 [(vU32 pg), v3, (ptr c2 0), (ptr q16041 0), v18241, (vU32 0)] 193, .row (.slice (some ⟨b18101, 0, none⟩) 64 64) 5 1 64 (List.map vU8 (List.replicate 64 0)), .row (.slice (some ⟨b18141, 0, none⟩) 1 1) 9 1 1 (List.map str [(List.replicate 64 0)]), .row v18201 9 1 a.toNat (List.map str (List.replicate a.toNat (List.replicate 64 0))), .row (.slice (some ⟨b18221, 0, none⟩) 1 1) 59 1 1 [v18201], .row v18241 59 1 (0 + 1) ([] ++ [v18201]), .row (.slice (some ⟨b20101, 0, none⟩) 64 64) 5 1 64 (List.map vU8 (List.replicate 64 0))], HS⟩, ?_⟩
          refine WH.take (i := 3) (v := (ptr b16081 4)) rfl rfl (.inl rfl) rfl (by kernel_rfl) ⟨[.blk b16081 [(vU32 pg), v3, (ptr c2 0), (ptr q16041 0), v18241, (vU32 0)] 193, .row (.slice (some ⟨b18101, 0, none⟩) 64 64) 5 1 64 (List.map vU8 (List.replicate 64 0)), .row (.slice (some ⟨b18141, 0, none⟩) 1 1) 9 1 1 (List.map str [(List.replicate 64 0)]), .row v18201 9 1 a.toNat (List.map str (List.replicate a.toNat (List.replicate 64 0))), .row (.slice (some ⟨b18221, 0, none⟩) 1 1) 59 1 1 [v18201], .row v18241 59 1 (0 + 1) ([] ++ [v18201]), .row (.slice (some ⟨b20101, 0, none⟩) 64 64) 5 1 64 (List.map vU8 (List.replicate 64 0))], HS⟩ (fun wX hSX => hSX.elim fun LX HX => op_fieldAddr rfl Fa.F193_3 ⟨rfl, rfl⟩) ?_
          have hq := st9_4 b20101 wS HS
          rw [hW] at hq
          refine WH.cov ?_ hq
          exact by repeat (first | exact trivial | refine ⟨rfl, ?_⟩)
        ·
          refine WHS.op (i := 6) rfl (.inl rfl) rfl (op_bytesStr (l := (List.replicate 64 0)) Tryz.underlying114 Tryz.underlying5 Tryz.underlying9 rfl (HS.arrR (i := 13) rfl) rfl ?_)
          refine ⟨⟨[.blk b16081 [(vU32 pg), v3, (ptr c2 0), (ptr q16041 0), v18241, (vU32 0)] 193, .row (.slice (some ⟨b18101, 0, none⟩) 64 64) 5 1 64 (List.map vU8 (List.replicate 64 0)), .row (.slice (some ⟨b18141, 0, none⟩) 1 1) 9 1 1 (List.map str [(List.replicate 64 0)]), .row v18201 9 1 a.toNat (List.map str (List.replicate a.toNat (List.replicate 64 0))), .row (.slice (some ⟨b18221, 0, none⟩) 1 1) 59 1 1 [v18201], .row v18241 59 1 (0 + 1) ([] ++ [v18201]), .row (.slice (some ⟨b20101, 0, none⟩) 64 64) 5 1 64 (List.map vU8 (List.replicate 64 0))], HS⟩, ?_⟩
          have hq := st9_5 b20101 wS HS
          rw [hW] at hq
          refine WH.cov ?_ hq
          exact by repeat (first | exact trivial | refine ⟨rfl, ?_⟩)
      have st9_0 : ∀ (wS : World), Own [] w wS [.blk b1 [(vU32 pg), v3] 75, .blk c2 [(vU32 pg), v2, (.map (some mb2))] 196, .row v2 22 1 ([a, b]).length (List.map vU32 ([a, b])), .obj mb2 (mP .i64 [] 0), .row v3 22 1 ([a, b]).length (List.map vU32 [a, b]), .blk q16041 [(.map (some mb16041)), (.slice none 0 0), (vN 0)] 264, .obj mb16041 (mP .u16 [] 0), .blk b16081 [(vU32 pg), v3, (ptr c2 0), (ptr q16041 0), v18241, (vU32 0)] 193, .row (.slice (some ⟨b18101, 0, none⟩) 64 64) 5 1 64 (List.map vU8 (List.replicate 64 0)), .row (.slice (some ⟨b18141, 0, none⟩) 1 1) 9 1 1 (List.map str [(List.replicate 64 0)]), .row v18201 9 1 a.toNat (List.map str (List.replicate a.toNat (List.replicate 64 0))), .row (.slice (some ⟨b18221, 0, none⟩) 1 1) 59 1 1 [v18201], .row v18241 59 1 (0 + 1) ([] ++ [v18201])] → W 12 #[true, true, false, false, false, false, false, false, true, true, false, false, false, false, false, false] [(0, (.agg #[(vU32 pg), lv])), (1, (ptr b1 0)), (2, (.pointer none)), (3, (vN 0)), (4, (ptr c2 0)), (5, (vN 0)), (6, (ptr b16081 0)), (8, (vU32 b)), (9, (.tuple #[(ptr c2 0), (vN 0)])), (10, (.agg #[(vU32 pg), lv])), (11, (.tuple #[(ptr c2 0), (vN 0)])), (12, (ptr c2 0)), (13, (vN 0)), (14, (vN 0)), (15, (.bool (decide (0 ≠ 0)))), (17, (ptr b1 1)), (18, lv), (19, v3), (20, (ptr b1 1)), (21, (.agg #[(vU32 pg), v3])), (22, (ptr c2 0)), (23, (ptr q16041 0)), (24, (.agg #[(vU32 pg), v3, (ptr c2 0), (ptr q16041 0), (.slice none 0 0), (vU32 0)])), (25, (ptr b16081 0)), (26, (ptr b1 1)), (27, v3), (28, (vN ([a, b]).length)), (29, (vN (0 + 1))), (30, (.bool (decide ((0 + 1) < ([a, b]).length)))), (31, (.pointer (some (sp v3 (0 + 1))))), (32, (vU32 b)), (33, (ptr b16081 0)), (34, (ptr b16081 0)), (35, (ptr b16081 0)), (36, (ptr b16081 4)), (37, (.slice none 0 0)), (38, (.slice (some ⟨b18101, 0, none⟩) 64 64)), (39, (str (List.replicate 64 0))), (40, (.slice (some ⟨b18141, 0, none⟩) 1 1)), (41, (vU32 b)), (42, (vN b.toNat)), (43, v18201), (44, (.slice (some ⟨b18221, 0, none⟩) 1 1)), (45, v18241), (46, (ptr b16081 0)), (47, (ptr b16081 4)), (48, (vN (0 + 1)))] wS := by
        intro wS HS
        rw [hW]
        refine WH.all2 (i := 2) (j := 5) (by kernel_rfl) ?_ ?_
        ·
          refine WHS.op (i := 2) rfl (.inl rfl) rfl (op_nilCheck rfl ?_)
          refine ⟨⟨[.blk b16081 [(vU32 pg), v3, (ptr c2 0), (ptr q16041 0), v18241, (vU32 0)] 193, .row (.slice (some ⟨b18101, 0, none⟩) 64 64) 5 1 64 (List.map vU8 (List.replicate 64 0)), .row (.slice (some ⟨b18141, 0, none⟩) 1 1) 9 1 1 (List.map str [(List.replicate 64 0)]), .row v18201 9 1 a.toNat (List.map str (List.replicate a.toNat (List.replicate 64 0))), .row (.slice (some ⟨b18221, 0, none⟩) 1 1) 59 1 1 [v18201], .row v18241 59 1 (0 + 1) ([] ++ [v18201])], HS⟩, ?_⟩
          refine WH.take (i := 3) (v := (ptr b16081 4)) rfl rfl (.inl rfl) rfl (by kernel_rfl) ⟨[.blk b16081 [(vU32 pg), v3, (ptr c2 0), (ptr q16041 0), v18241, (vU32 0)] 193, .row (.slice (some ⟨b18101, 0, none⟩) 64 64) 5 1 64 (List.map vU8 (List.replicate 64 0)), .row (.slice (some ⟨b18141, 0, none⟩) 1 1) 9 1 1 (List.map str [(List.replicate 64 0)]), .row v18201 9 1 a.toNat (List.map str (List.replicate a.toNat (List.replicate 64 0))), .row (.slice (some ⟨b18221, 0, none⟩) 1 1) 59 1 1 [v18201], .row v18241 59 1 (0 + 1) ([] ++ [v18201])], HS⟩ (fun wX hSX => hSX.elim fun LX HX => op_fieldAddr rfl Fa.F193_3 ⟨rfl, rfl⟩) ?_
          have hq := st9_1 wS HS
          rw [hW] at hq
          refine WH.cov ?_ hq
          exact by repeat (first | exact trivial | refine ⟨rfl, ?_⟩)
        ·
          refine WHS.op (i := 5) rfl (.inl rfl) rfl (op_makeSliceM (f := vU8) (c := 0) (m := 64) HS Tryz.underlying114 Fa.I5 rfl rfl (by omega) (by omega) (fun b20101 w20101 H20101 => ?_))
          refine ⟨⟨[.blk b16081 [(vU32 pg), v3, (ptr c2 0), (ptr q16041 0), v18241, (vU32 0)] 193, .row (.slice (some ⟨b18101, 0, none⟩) 64 64) 5 1 64 (List.map vU8 (List.replicate 64 0)), .row (.slice (some ⟨b18141, 0, none⟩) 1 1) 9 1 1 (List.map str [(List.replicate 64 0)]), .row v18201 9 1 a.toNat (List.map str (List.replicate a.toNat (List.replicate 64 0))), .row (.slice (some ⟨b18221, 0, none⟩) 1 1) 59 1 1 [v18201], .row v18241 59 1 (0 + 1) ([] ++ [v18201]), .row (.slice (some ⟨b20101, 0, none⟩) 64 64) 5 1 64 (List.map vU8 (List.replicate 64 0))], H20101⟩, ?_⟩
          have hq := st9_2 b20101 w20101 H20101
          rw [hW] at hq
          refine WH.cov ?_ hq
          exact by repeat (first | exact trivial | refine ⟨rfl, ?_⟩)
      have hq := st9_0 w9 H9
      rw [hW] at hq ⊢
      refine WH.cov ?_ hq
      exact by repeat (first | exact trivial | refine ⟨rfl, ?_⟩)
    have st9_19 : ∀ (b18101 : Nat) (b18141 : Nat) (v18201 : Value) (b18221 : Nat) (v18241 : Value) (wS : World), Own [] w wS [.blk b1 [(vU32 pg), v3] 75, .blk c2 [(vU32 pg), v2, (.map (some mb2))] 196, .row v2 22 1 ([a, b]).length (List.map vU32 ([a, b])), .obj mb2 (mP .i64 [] 0), .row v3 22 1 ([a, b]).length (List.map vU32 [a, b]), .blk q16041 [(.map (some mb16041)), (.slice none 0 0), (vN 0)] 264, .obj mb16041 (mP .u16 [] 0), .blk b16081 [(vU32 pg), v3, (ptr c2 0), (ptr q16041 0), (.slice none 0 0), (vU32 0)] 193, .row (.slice (some ⟨b18101, 0, none⟩) 64 64) 5 1 64 (List.map vU8 (List.replicate 64 0)), .row (.slice (some ⟨b18141, 0, none⟩) 1 1) 9 1 1 (List.map str [(List.replicate 64 0)]), .row v18201 9 1 a.toNat (List.map str (List.replicate a.toNat (List.replicate 64 0))), .row (.slice (some ⟨b18221, 0, none⟩) 1 1) 59 1 1 [v18201], .row v18241 59 1 (0 + 1) ([] ++ [v18201])] → W 1 #[true, true, true, true, true, true, true, true, true, true, true, true, true, true, true, false] [(0, (.agg #[(vU32 pg), lv])), (1, (ptr b1 0)), (2, (.pointer none)), (3, (vN 0)), (4, (ptr c2 0)), (5, (vN 0)), (6, (ptr b16081 0)), (8, (vU32 a)), (9, (.tuple #[(ptr c2 0), (vN 0)])), (10, (.agg #[(vU32 pg), lv])), (11, (.tuple #[(ptr c2 0), (vN 0)])), (12, (ptr c2 0)), (13, (vN 0)), (14, (vN 0)), (15, (.bool (decide (0 ≠ 0)))), (17, (ptr b1 1)), (18, lv), (19, v3), (20, (ptr b1 1)), (21, (.agg #[(vU32 pg), v3])), (22, (ptr c2 0)), (23, (ptr q16041 0)), (24, (.agg #[(vU32 pg), v3, (ptr c2 0), (ptr q16041 0), (.slice none 0 0), (vU32 0)])), (25, (ptr b16081 0)), (26, (ptr b1 1)), (27, v3), (28, (vN ([a, b]).length)), (29, (vN 0)), (30, (.bool (decide (0 < ([a, b]).length)))), (31, (.pointer (some (sp v3 0)))), (32, (vU32 a)), (33, (ptr b16081 0)), (34, (ptr b16081 0)), (35, (ptr b16081 0)), (36, (ptr b16081 4)), (37, (.slice none 0 0)), (38, (.slice (some ⟨b18101, 0, none⟩) 64 64)), (39, (str (List.replicate 64 0))), (40, (.slice (some ⟨b18141, 0, none⟩) 1 1)), (41, (vU32 a)), (42, (vN a.toNat)), (43, v18201), (44, (.slice (some ⟨b18221, 0, none⟩) 1 1)), (45, v18241), (46, (ptr b16081 0)), (47, (ptr b16081 4))] wS := by
      intro b18101 b18141 v18201 b18221 v18241 wS HS
      rw [hW]
      refine WH.all1 (i := 15) (by kernel_rfl) ?_
      ·
        refine WHS.op (i := 15) rfl (.inl rfl) rfl (op_storeB (i := 7) HS rfl rfl rfl rfl (Arr.one (HS.arrR (i := 12) rfl)) Fa.I191 (fun w18301 H18301 => ?_))
        refine ⟨⟨[.blk b16081 [(vU32 pg), v3, (ptr c2 0), (ptr q16041 0), v18241, (vU32 0)] 193, .row (.slice (some ⟨b18101, 0, none⟩) 64 64) 5 1 64 (List.map vU8 (List.replicate 64 0)), .row (.slice (some ⟨b18141, 0, none⟩) 1 1) 9 1 1 (List.map str [(List.replicate 64 0)]), .row v18201 9 1 a.toNat (List.map str (List.replicate a.toNat (List.replicate 64 0))), .row (.slice (some ⟨b18221, 0, none⟩) 1 1) 59 1 1 [v18201], .row v18241 59 1 (0 + 1) ([] ++ [v18201])], H18301⟩, ?_⟩
        have hq := st9_20 b18101 b18141 v18201 b18221 v18241 w18301 H18301
        rw [hW] at hq
        refine WH.cov ?_ hq
        exact by repeat (first | exact trivial | refine ⟨rfl, ?_⟩)
    have st9_18 : ∀ (b18101 : Nat) (b18141 : Nat) (v18201 : Value) (b18221 : Nat) (v18241 : Value) (wS : World), Own [] w wS [.blk b1 [(vU32 pg), v3] 75, .blk c2 [(vU32 pg), v2, (.map (some mb2))] 196, .row v2 22 1 ([a, b]).length (List.map vU32 ([a, b])), .obj mb2 (mP .i64 [] 0), .row v3 22 1 ([a, b]).length (List.map vU32 [a, b]), .blk q16041 [(.map (some mb16041)), (.slice none 0 0), (vN 0)] 264, .obj mb16041 (mP .u16 [] 0), .blk b16081 [(vU32 pg), v3, (ptr c2 0), (ptr q16041 0), (.slice none 0 0), (vU32 0)] 193, .row (.slice (some ⟨b18101, 0, none⟩) 64 64) 5 1 64 (List.map vU8 (List.replicate 64 0)), .row (.slice (some ⟨b18141, 0, none⟩) 1 1) 9 1 1 (List.map str [(List.replicate 64 0)]), .row v18201 9 1 a.toNat (List.map str (List.replicate a.toNat (List.replicate 64 0))), .row (.slice (some ⟨b18221, 0, none⟩) 1 1) 59 1 1 [v18201], .row v18241 59 1 (0 + 1) ([] ++ [v18201])] → W 3 #[true, true, true, true, true, true, true, true, true, true, true, true, true, false, false, false] [(0, (.agg #[(vU32 pg), lv])), (1, (ptr b1 0)), (2, (.pointer none)), (3, (vN 0)), (4, (ptr c2 0)), (5, (vN 0)), (6, (ptr b16081 0)), (8, (vU32 a)), (9, (.tuple #[(ptr c2 0), (vN 0)])), (10, (.agg #[(vU32 pg), lv])), (11, (.tuple #[(ptr c2 0), (vN 0)])), (12, (ptr c2 0)), (13, (vN 0)), (14, (vN 0)), (15, (.bool (decide (0 ≠ 0)))), (17, (ptr b1 1)), (18, lv), (19, v3), (20, (ptr b1 1)), (21, (.agg #[(vU32 pg), v3])), (22, (ptr c2 0)), (23, (ptr q16041 0)), (24, (.agg #[(vU32 pg), v3, (ptr c2 0), (ptr q16041 0), (.slice none 0 0), (vU32 0)])), (25, (ptr b16081 0)), (26, (ptr b1 1)), (27, v3), (28, (vN ([a, b]).length)), (29, (vN 0)), (30, (.bool (decide (0 < ([a, b]).length)))), (31, (.pointer (some (sp v3 0)))), (32, (vU32 a)), (33, (ptr b16081 0)), (34, (ptr b16081 0)), (35, (ptr b16081 0)), (36, (ptr b16081 4)), (37, (.slice none 0 0)), (38, (.slice (some ⟨b18101, 0, none⟩) 64 64)), (39, (str (List.replicate 64 0))), (40, (.slice (some ⟨b18141, 0, none⟩) 1 1)), (41, (vU32 a)), (42, (vN a.toNat)), (43, v18201), (44, (.slice (some ⟨b18221, 0, none⟩) 1 1)), (45, v18241)] wS := by
      intro b18101 b18141 v18201 b18221 v18241 wS HS
      rw [hW]
      refine WH.all1 (i := 13) (by kernel_rfl) ?_
      ·
        refine WHS.op (i := 13) rfl (.inl rfl) rfl (op_nilCheck rfl ?_)
        refine ⟨⟨[.blk b16081 [(vU32 pg), v3, (ptr c2 0), (ptr q16041 0), (.slice none 0 0), (vU32 0)] 193, .row (.slice (some ⟨b18101, 0, none⟩) 64 64) 5 1 64 (List.map vU8 (List.replicate 64 0)), .row (.slice (some ⟨b18141, 0, none⟩) 1 1) 9 1 1 (List.map str [(List.replicate 64 0)]), .row v18201 9 1 a.toNat (List.map str (List.replicate a.toNat (List.replicate 64 0))), .row (.slice (some ⟨b18221, 0, none⟩) 1 1) 59 1 1 [v18201], .row v18241 59 1 (0 + 1) ([] ++ [v18201])], HS⟩, ?_⟩
        refine WH.take (i := 14) (v := (ptr b16081 4)) rfl rfl (.inl rfl) rfl (by kernel_rfl) ⟨[.blk b16081 [(vU32 pg), v3, (ptr c2 0), (ptr q16041 0), (.slice none 0 0), (vU32 0)] 193, .row (.slice (some ⟨b18101, 0, none⟩) 64 64) 5 1 64 (List.map vU8 (List.replicate 64 0)), .row (.slice (some ⟨b18141, 0, none⟩) 1 1) 9 1 1 (List.map str [(List.replicate 64 0)]), .row v18201 9 1 a.toNat (List.map str (List.replicate a.toNat (List.replicate 64 0))), .row (.slice (some ⟨b18221, 0, none⟩) 1 1) 59 1 1 [v18201], .row v18241 59 1 (0 + 1) ([] ++ [v18201])], HS⟩ (fun wX hSX => hSX.elim fun LX HX => op_fieldAddr rfl Fa.F193_3 ⟨rfl, rfl⟩) ?_
        have hq := st9_19 b18101 b18141 v18201 b18221 v18241 wS HS
        rw [hW] at hq
        refine WH.cov ?_ hq
        exact by repeat (first | exact trivial | refine ⟨rfl, ?_⟩)
    have st9_17 : ∀ (b18101 : Nat) (b18141 : Nat) (v18201 : Value) (b18221 : Nat) (wS : World), Own [] w wS [.blk b1 [(vU32 pg), v3] 75, .blk c2 [(vU32 pg), v2, (.map (some mb2))] 196, .row v2 22 1 ([a, b]).length (List.map vU32 ([a, b])), .obj mb2 (mP .i64 [] 0), .row v3 22 1 ([a, b]).length (List.map vU32 [a, b]), .blk q16041 [(.map (some mb16041)), (.slice none 0 0), (vN 0)] 264, .obj mb16041 (mP .u16 [] 0), .blk b16081 [(vU32 pg), v3, (ptr c2 0), (ptr q16041 0), (.slice none 0 0), (vU32 0)] 193, .row (.slice (some ⟨b18101, 0, none⟩) 64 64) 5 1 64 (List.map vU8 (List.replicate 64 0)), .row (.slice (some ⟨b18141, 0, none⟩) 1 1) 9 1 1 (List.map str [(List.replicate 64 0)]), .row v18201 9 1 a.toNat (List.map str (List.replicate a.toNat (List.replicate 64 0))), .row (.slice (some ⟨b18221, 0, none⟩) 1 1) 59 1 1 [v18201]] → W 4 #[true, true, true, true, true, true, true, true, true, true, true, true, false, false, false, false] [(0, (.agg #[(vU32 pg), lv])), (1, (ptr b1 0)), (2, (.pointer none)), (3, (vN 0)), (4, (ptr c2 0)), (5, (vN 0)), (6, (ptr b16081 0)), (8, (vU32 a)), (9, (.tuple #[(ptr c2 0), (vN 0)])), (10, (.agg #[(vU32 pg), lv])), (11, (.tuple #[(ptr c2 0), (vN 0)])), (12, (ptr c2 0)), (13, (vN 0)), (14, (vN 0)), (15, (.bool (decide (0 ≠ 0)))), (17, (ptr b1 1)), (18, lv), (19, v3), (20, (ptr b1 1)), (21, (.agg #[(vU32 pg), v3])), (22, (ptr c2 0)), (23, (ptr q16041 0)), (24, (.agg #[(vU32 pg), v3, (ptr c2 0), (ptr q16041 0), (.slice none 0 0), (vU32 0)])), (25, (ptr b16081 0)), (26, (ptr b1 1)), (27, v3), (28, (vN ([a, b]).length)), (29, (vN 0)), (30, (.bool (decide (0 < ([a, b]).length)))), (31, (.pointer (some (sp v3 0)))), (32, (vU32 a)), (33, (ptr b16081 0)), (34, (ptr b16081 0)), (35, (ptr b16081 0)), (36, (ptr b16081 4)), (37, (.slice none 0 0)), (38, (.slice (some ⟨b18101, 0, none⟩) 64 64)), (39, (str (List.replicate 64 0))), (40, (.slice (some ⟨b18141, 0, none⟩) 1 1)), (41, (vU32 a)), (42, (vN a.toNat)), (43, v18201), (44, (.slice (some ⟨b18221, 0, none⟩) 1 1))] wS := by
      intro b18101 b18141 v18201 b18221 wS HS
      rw [hW]
      refine WH.all1 (i := 12) (by kernel_rfl) ?_
      ·
        have H18242 := HS.nilRow 59 1
        refine WHS.op (i := 12) rfl (.inl rfl) rfl (op_append (i := 12) H18242 Tryz.underlying191 Fa.I59 rfl rfl rfl rfl (Src.ofArr Tryz.underlying191 (H18242.arrR (i := 11) rfl)) (fun c hc => by rw [List.mem_singleton.1 hc]; exact Arr.one (H18242.arrR (i := 10) rfl)) (by omega) (by omega) (fun v18241 w18241 H18241 => ?_))
        refine ⟨⟨[.blk b16081 [(vU32 pg), v3, (ptr c2 0), (ptr q16041 0), (.slice none 0 0), (vU32 0)] 193, .row (.slice (some ⟨b18101, 0, none⟩) 64 64) 5 1 64 (List.map vU8 (List.replicate 64 0)), .row (.slice (some ⟨b18141, 0, none⟩) 1 1) 9 1 1 (List.map str [(List.replicate 64 0)]), .row v18201 9 1 a.toNat (List.map str (List.replicate a.toNat (List.replicate 64 0))), .row (.slice (some ⟨b18221, 0, none⟩) 1 1) 59 1 1 [v18201], .row v18241 59 1 (0 + 1) ([] ++ [v18201])], H18241⟩, ?_⟩
        have hq := st9_18 b18101 b18141 v18201 b18221 v18241 w18241 H18241
        rw [hW] at hq
        refine WH.cov ?_ hq
        exact by repeat (first | exact trivial | refine ⟨rfl, ?_⟩)
    have st9_15 : ∀ (b18101 : Nat) (b18141 : Nat) (v18201 : Value) (wS : World), Own [] w wS [.blk b1 [(vU32 pg), v3] 75, .blk c2 [(vU32 pg), v2, (.map (some mb2))] 196, .row v2 22 1 ([a, b]).length (List.map vU32 ([a, b])), .obj mb2 (mP .i64 [] 0), .row v3 22 1 ([a, b]).length (List.map vU32 [a, b]), .blk q16041 [(.map (some mb16041)), (.slice none 0 0), (vN 0)] 264, .obj mb16041 (mP .u16 [] 0), .blk b16081 [(vU32 pg), v3, (ptr c2 0), (ptr q16041 0), (.slice none 0 0), (vU32 0)] 193, .row (.slice (some ⟨b18101, 0, none⟩) 64 64) 5 1 64 (List.map vU8 (List.replicate 64 0)), .row (.slice (some ⟨b18141, 0, none⟩) 1 1) 9 1 1 (List.map str [(List.replicate 64 0)]), .row v18201 9 1 a.toNat (List.map str (List.replicate a.toNat (List.replicate 64 0)))] → W 5 #[true, true, true, true, true, true, true, true, true, true, true, false, false, false, false, false] [(0, (.agg #[(vU32 pg), lv])), (1, (ptr b1 0)), (2, (.pointer none)), (3, (vN 0)), (4, (ptr c2 0)), (5, (vN 0)), (6, (ptr b16081 0)), (8, (vU32 a)), (9, (.tuple #[(ptr c2 0), (vN 0)])), (10, (.agg #[(vU32 pg), lv])), (11, (.tuple #[(ptr c2 0), (vN 0)])), (12, (ptr c2 0)), (13, (vN 0)), (14, (vN 0)), (15, (.bool (decide (0 ≠ 0)))), (17, (ptr b1 1)), (18, lv), (19, v3), (20, (ptr b1 1)), (21, (.agg #[(vU32 pg), v3])), (22, (ptr c2 0)), (23, (ptr q16041 0)), (24, (.agg #[(vU32 pg), v3, (ptr c2 0), (ptr q16041 0), (.slice none 0 0), (vU32 0)])), (25, (ptr b16081 0)), (26, (ptr b1 1)), (27, v3), (28, (vN ([a, b]).length)), (29, (vN 0)), (30, (.bool (decide (0 < ([a, b]).length)))), (31, (.pointer (some (sp v3 0)))), (32, (vU32 a)), (33, (ptr b16081 0)), (34, (ptr b16081 0)), (35, (ptr b16081 0)), (36, (ptr b16081 4)), (37, (.slice none 0 0)), (38, (.slice (some ⟨b18101, 0, none⟩) 64 64)), (39, (str (List.replicate 64 0))), (40, (.slice (some ⟨b18141, 0, none⟩) 1 1)), (41, (vU32 a)), (42, (vN a.toNat)), (43, v18201)] wS := by
      intro b18101 b18141 v18201 wS HS
      rw [hW]
      refine WH.all1 (i := 11) (by kernel_rfl) ?_
      ·
        refine WHS.op (i := 11) rfl (.inl rfl) rfl (op_buildSlice (cs := [v18201]) HS Tryz.underlying191 Fa.I59 rfl rfl (by obtain ⟨_, _, e0, _⟩ := (HS.arrR (i := 10) rfl).form; rw [e0]; rfl) rfl (by decide) (by decide) (fun b18221 w18221 H18221 => ?_))
        refine ⟨⟨[.blk b16081 [(vU32 pg), v3, (ptr c2 0), (ptr q16041 0), (.slice none 0 0), (vU32 0)] 193, .row (.slice (some ⟨b18101, 0, none⟩) 64 64) 5 1 64 (List.map vU8 (List.replicate 64 0)), .row (.slice (some ⟨b18141, 0, none⟩) 1 1) 9 1 1 (List.map str [(List.replicate 64 0)]), .row v18201 9 1 a.toNat (List.map str (List.replicate a.toNat (List.replicate 64 0))), .row (.slice (some ⟨b18221, 0, none⟩) 1 1) 59 1 1 [v18201]], H18221⟩, ?_⟩
        have hq := st9_17 b18101 b18141 v18201 b18221 w18221 H18221
        rw [hW] at hq
        refine WH.cov ?_ hq
        exact by repeat (first | exact trivial | refine ⟨rfl, ?_⟩)
    have st9_16 : ∀ (b18101 : Nat) (b18141 : Nat) (v18201 : Value) (b18221 : Nat) (wS : World), Own [] w wS [.blk b1 [(vU32 pg), v3] 75, .blk c2 [(vU32 pg), v2, (.map (some mb2))] 196, .row v2 22 1 ([a, b]).length (List.map vU32 ([a, b])), .obj mb2 (mP .i64 [] 0), .row v3 22 1 ([a, b]).length (List.map vU32 [a, b]), .blk q16041 [(.map (some mb16041)), (.slice none 0 0), (vN 0)] 264, .obj mb16041 (mP .u16 [] 0), .blk b16081 [(vU32 pg), v3, (ptr c2 0), (ptr q16041 0), (.slice none 0 0), (vU32 0)] 193, .row (.slice (some ⟨b18101, 0, none⟩) 64 64) 5 1 64 (List.map vU8 (List.replicate 64 0)), .row (.slice (some ⟨b18141, 0, none⟩) 1 1) 9 1 1 (List.map str [(List.replicate 64 0)]), .row v18201 9 1 a.toNat (List.map str (List.replicate a.toNat (List.replicate 64 0))), .row (.slice (some ⟨b18221, 0, none⟩) 1 1) 59 1 1 [v18201]] → W 5 #[true, true, true, true, false, true, true, true, true, true, true, true, false, false, false, false] [(0, (.agg #[(vU32 pg), lv])), (1, (ptr b1 0)), (2, (.pointer none)), (3, (vN 0)), (4, (ptr c2 0)), (5, (vN 0)), (6, (ptr b16081 0)), (8, (vU32 a)), (9, (.tuple #[(ptr c2 0), (vN 0)])), (10, (.agg #[(vU32 pg), lv])), (11, (.tuple #[(ptr c2 0), (vN 0)])), (12, (ptr c2 0)), (13, (vN 0)), (14, (vN 0)), (15, (.bool (decide (0 ≠ 0)))), (17, (ptr b1 1)), (18, lv), (19, v3), (20, (ptr b1 1)), (21, (.agg #[(vU32 pg), v3])), (22, (ptr c2 0)), (23, (ptr q16041 0)), (24, (.agg #[(vU32 pg), v3, (ptr c2 0), (ptr q16041 0), (.slice none 0 0), (vU32 0)])), (25, (ptr b16081 0)), (26, (ptr b1 1)), (27, v3), (28, (vN ([a, b]).length)), (29, (vN 0)), (30, (.bool (decide (0 < ([a, b]).length)))), (31, (.pointer (some (sp v3 0)))), (32, (vU32 a)), (33, (ptr b16081 0)), (34, (ptr b16081 0)), (35, (ptr b16081 0)), (36, (ptr b16081 4)), (38, (.slice (some ⟨b18101, 0, none⟩) 64 64)), (39, (str (List.replicate 64 0))), (40, (.slice (some ⟨b18141, 0, none⟩) 1 1)), (41, (vU32 a)), (42, (vN a.toNat)), (43, v18201), (44, (.slice (some ⟨b18221, 0, none⟩) 1 1))] wS := by
      intro b18101 b18141 v18201 b18221 wS HS
      rw [hW]
      refine WH.all1 (i := 4) (by kernel_rfl) ?_
      ·
        refine WHS.op (i := 4) rfl (.inl rfl) rfl (op_load rfl (HS.cell (i := 7) rfl rfl) Tryz.underlying191 rfl ?_)
        refine ⟨⟨[.blk b16081 [(vU32 pg), v3, (ptr c2 0), (ptr q16041 0), (.slice none 0 0), (vU32 0)] 193, .row (.slice (some ⟨b18101, 0, none⟩) 64 64) 5 1 64 (List.map vU8 (List.replicate 64 0)), .row (.slice (some ⟨b18141, 0, none⟩) 1 1) 9 1 1 (List.map str [(List.replicate 64 0)]), .row v18201 9 1 a.toNat (List.map str (List.replicate a.toNat (List.replicate 64 0))), .row (.slice (some ⟨b18221, 0, none⟩) 1 1) 59 1 1 [v18201]], HS⟩, ?_⟩
        have hq := st9_17 b18101 b18141 v18201 b18221 wS HS
        rw [hW] at hq
        refine WH.cov ?_ hq
        exact by repeat (first | exact trivial | refine ⟨rfl, ?_⟩)
    have st9_12 : ∀ (b18101 : Nat) (b18141 : Nat) (wS : World), Own [] w wS [.blk b1 [(vU32 pg), v3] 75, .blk c2 [(vU32 pg), v2, (.map (some mb2))] 196, .row v2 22 1 ([a, b]).length (List.map vU32 ([a, b])), .obj mb2 (mP .i64 [] 0), .row v3 22 1 ([a, b]).length (List.map vU32 [a, b]), .blk q16041 [(.map (some mb16041)), (.slice none 0 0), (vN 0)] 264, .obj mb16041 (mP .u16 [] 0), .blk b16081 [(vU32 pg), v3, (ptr c2 0), (ptr q16041 0), (.slice none 0 0), (vU32 0)] 193, .row (.slice (some ⟨b18101, 0, none⟩) 64 64) 5 1 64 (List.map vU8 (List.replicate 64 0)), .row (.slice (some ⟨b18141, 0, none⟩) 1 1) 9 1 1 (List.map str [(List.replicate 64 0)])] → W 6 #[true, true, true, true, true, true, true, true, true, true, false, false, false, false, false, false] [(0, (.agg #[(vU32 pg), lv])), (1, (ptr b1 0)), (2, (.pointer none)), (3, (vN 0)), (4, (ptr c2 0)), (5, (vN 0)), (6, (ptr b16081 0)), (8, (vU32 a)), (9, (.tuple #[(ptr c2 0), (vN 0)])), (10, (.agg #[(vU32 pg), lv])), (11, (.tuple #[(ptr c2 0), (vN 0)])), (12, (ptr c2 0)), (13, (vN 0)), (14, (vN 0)), (15, (.bool (decide (0 ≠ 0)))), (17, (ptr b1 1)), (18, lv), (19, v3), (20, (ptr b1 1)), (21, (.agg #[(vU32 pg), v3])), (22, (ptr c2 0)), (23, (ptr q16041 0)), (24, (.agg #[(vU32 pg), v3, (ptr c2 0), (ptr q16041 0), (.slice none 0 0), (vU32 0)])), (25, (ptr b16081 0)), (26, (ptr b1 1)), (27, v3), (28, (vN ([a, b]).length)), (29, (vN 0)), (30, (.bool (decide (0 < ([a, b]).length)))), (31, (.pointer (some (sp v3 0)))), (32, (vU32 a)), (33, (ptr b16081 0)), (34, (ptr b16081 0)), (35, (ptr b16081 0)), (36, (ptr b16081 4)), (37, (.slice none 0 0)), (38, (.slice (some ⟨b18101, 0, none⟩) 64 64)), (39, (str (List.replicate 64 0))), (40, (.slice (some ⟨b18141, 0, none⟩) 1 1)), (41, (vU32 a)), (42, (vN a.toNat))] wS := by
      intro b18101 b18141 wS HS
      rw [hW]
      refine WH.all1 (i := 10) (by kernel_rfl) ?_
      ·
        refine WHS.op (i := 10) rfl (.inl rfl) rfl (op_callF Fa.C129 rfl ((repeatS_ok _ (List.replicate 64 0) a.toNat _ (HS.arrR (i := 9) rfl) (UInt32.toNat_lt _)).mono (fun e w18201 hq => ?_)))
        obtain ⟨v18201, rfl, hq18201⟩ := hq
        refine ⟨_, rfl, ?_⟩
        have H18201 : Own [] w w18201 [.blk b1 [(vU32 pg), v3] 75, .blk c2 [(vU32 pg), v2, (.map (some mb2))] 196, .row v2 22 1 ([a, b]).length (List.map vU32 ([a, b])), .obj mb2 (mP .i64 [] 0), .row v3 22 1 ([a, b]).length (List.map vU32 [a, b]), .blk q16041 [(.map (some mb16041)), (.slice none 0 0), (vN 0)] 264, .obj mb16041 (mP .u16 [] 0), .blk b16081 [(vU32 pg), v3, (ptr c2 0), (ptr q16041 0), (.slice none 0 0), (vU32 0)] 193, .row (.slice (some ⟨b18101, 0, none⟩) 64 64) 5 1 64 (List.map vU8 (List.replicate 64 0)), .row (.slice (some ⟨b18141, 0, none⟩) 1 1) 9 1 1 (List.map str [(List.replicate 64 0)]), .row v18201 9 1 a.toNat (List.map str (List.replicate a.toNat (List.replicate 64 0)))] := HS.splice [] [] [.row v18201 9 1 a.toNat (List.map str (List.replicate a.toNat (List.replicate 64 0)))] rfl rfl hq18201 (Fits.solid True.intro Fits.nil)
        refine ⟨⟨[.blk b16081 [(vU32 pg), v3, (ptr c2 0), (ptr q16041 0), (.slice none 0 0), (vU32 0)] 193, .row (.slice (some ⟨b18101, 0, none⟩) 64 64) 5 1 64 (List.map vU8 (List.replicate 64 0)), .row (.slice (some ⟨b18141, 0, none⟩) 1 1) 9 1 1 (List.map str [(List.replicate 64 0)]), .row v18201 9 1 a.toNat (List.map str (List.replicate a.toNat (List.replicate 64 0)))], H18201⟩, ?_⟩
        have hq := st9_15 b18101 b18141 v18201 w18201 H18201
        rw [hW] at hq
        refine WH.cov ?_ hq
        exact by repeat (first | exact trivial | refine ⟨rfl, ?_⟩)
    have st9_13 : ∀ (b18101 : Nat) (b18141 : Nat) (v18201 : Value) (wS : World), Own [] w wS [.blk b1 [(vU32 pg), v3] 75, .blk c2 [(vU32 pg), v2, (.map (some mb2))] 196, .row v2 22 1 ([a, b]).length (List.map vU32 ([a, b])), .obj mb2 (mP .i64 [] 0), .row v3 22 1 ([a, b]).length (List.map vU32 [a, b]), .blk q16041 [(.map (some mb16041)), (.slice none 0 0), (vN 0)] 264, .obj mb16041 (mP .u16 [] 0), .blk b16081 [(vU32 pg), v3, (ptr c2 0), (ptr q16041 0), (.slice none 0 0), (vU32 0)] 193, .row (.slice (some ⟨b18101, 0, none⟩) 64 64) 5 1 64 (List.map vU8 (List.replicate 64 0)), .row (.slice (some ⟨b18141, 0, none⟩) 1 1) 9 1 1 (List.map str [(List.replicate 64 0)]), .row v18201 9 1 a.toNat (List.map str (List.replicate a.toNat (List.replicate 64 0)))] → W 6 #[true, true, true, true, false, true, true, true, true, true, true, false, false, false, false, false] [(0, (.agg #[(vU32 pg), lv])), (1, (ptr b1 0)), (2, (.pointer none)), (3, (vN 0)), (4, (ptr c2 0)), (5, (vN 0)), (6, (ptr b16081 0)), (8, (vU32 a)), (9, (.tuple #[(ptr c2 0), (vN 0)])), (10, (.agg #[(vU32 pg), lv])), (11, (.tuple #[(ptr c2 0), (vN 0)])), (12, (ptr c2 0)), (13, (vN 0)), (14, (vN 0)), (15, (.bool (decide (0 ≠ 0)))), (17, (ptr b1 1)), (18, lv), (19, v3), (20, (ptr b1 1)), (21, (.agg #[(vU32 pg), v3])), (22, (ptr c2 0)), (23, (ptr q16041 0)), (24, (.agg #[(vU32 pg), v3, (ptr c2 0), (ptr q16041 0), (.slice none 0 0), (vU32 0)])), (25, (ptr b16081 0)), (26, (ptr b1 1)), (27, v3), (28, (vN ([a, b]).length)), (29, (vN 0)), (30, (.bool (decide (0 < ([a, b]).length)))), (31, (.pointer (some (sp v3 0)))), (32, (vU32 a)), (33, (ptr b16081 0)), (34, (ptr b16081 0)), (35, (ptr b16081 0)), (36, (ptr b16081 4)), (38, (.slice (some ⟨b18101, 0, none⟩) 64 64)), (39, (str (List.replicate 64 0))), (40, (.slice (some ⟨b18141, 0, none⟩) 1 1)), (41, (vU32 a)), (42, (vN a.toNat)), (43, v18201)] wS := by
      intro b18101 b18141 v18201 wS HS
      rw [hW]
      refine WH.all2 (i := 4) (j := 11) (by kernel_rfl) ?_ ?_
      ·
        refine WHS.op (i := 4) rfl (.inl rfl) rfl (op_load rfl (HS.cell (i := 7) rfl rfl) Tryz.underlying191 rfl ?_)
        refine ⟨⟨[.blk b16081 [(vU32 pg), v3, (ptr c2 0), (ptr q16041 0), (.slice none 0 0), (vU32 0)] 193, .row (.slice (some ⟨b18101, 0, none⟩) 64 64) 5 1 64 (List.map vU8 (List.replicate 64 0)), .row (.slice (some ⟨b18141, 0, none⟩) 1 1) 9 1 1 (List.map str [(List.replicate 64 0)]), .row v18201 9 1 a.toNat (List.map str (List.replicate a.toNat (List.replicate 64 0)))], HS⟩, ?_⟩
        have hq := st9_15 b18101 b18141 v18201 wS HS
        rw [hW] at hq
        refine WH.cov ?_ hq
        exact by repeat (first | exact trivial | refine ⟨rfl, ?_⟩)
      ·
        refine WHS.op (i := 11) rfl (.inl rfl) rfl (op_buildSlice (cs := [v18201]) HS Tryz.underlying191 Fa.I59 rfl rfl (by obtain ⟨_, _, e0, _⟩ := (HS.arrR (i := 10) rfl).form; rw [e0]; rfl) rfl (by decide) (by decide) (fun b18221 w18221 H18221 => ?_))
        refine ⟨⟨[.blk b16081 [(vU32 pg), v3, (ptr c2 0), (ptr q16041 0), (.slice none 0 0), (vU32 0)] 193, .row (.slice (some ⟨b18101, 0, none⟩) 64 64) 5 1 64 (List.map vU8 (List.replicate 64 0)), .row (.slice (some ⟨b18141, 0, none⟩) 1 1) 9 1 1 (List.map str [(List.replicate 64 0)]), .row v18201 9 1 a.toNat (List.map str (List.replicate a.toNat (List.replicate 64 0))), .row (.slice (some ⟨b18221, 0, none⟩) 1 1) 59 1 1 [v18201]], H18221⟩, ?_⟩
        have hq := st9_16 b18101 b18141 v18201 b18221 w18221 H18221
        rw [hW] at hq
        refine WH.cov ?_ hq
        exact by repeat (first | exact trivial | refine ⟨rfl, ?_⟩)
    have st9_9 : ∀ (b18101 : Nat) (wS : World), Own [] w wS [.blk b1 [(vU32 pg), v3] 75, .blk c2 [(vU32 pg), v2, (.map (some mb2))] 196, .row v2 22 1 ([a, b]).length (List.map vU32 ([a, b])), .obj mb2 (mP .i64 [] 0), .row v3 22 1 ([a, b]).length (List.map vU32 [a, b]), .blk q16041 [(.map (some mb16041)), (.slice none 0 0), (vN 0)] 264, .obj mb16041 (mP .u16 [] 0), .blk b16081 [(vU32 pg), v3, (ptr c2 0), (ptr q16041 0), (.slice none 0 0), (vU32 0)] 193, .row (.slice (some ⟨b18101, 0, none⟩) 64 64) 5 1 64 (List.map vU8 (List.replicate 64 0))] → W 7 #[true, true, true, true, true, true, true, false, true, true, false, false, false, false, false, false] [(0, (.agg #[(vU32 pg), lv])), (1, (ptr b1 0)), (2, (.pointer none)), (3, (vN 0)), (4, (ptr c2 0)), (5, (vN 0)), (6, (ptr b16081 0)), (8, (vU32 a)), (9, (.tuple #[(ptr c2 0), (vN 0)])), (10, (.agg #[(vU32 pg), lv])), (11, (.tuple #[(ptr c2 0), (vN 0)])), (12, (ptr c2 0)), (13, (vN 0)), (14, (vN 0)), (15, (.bool (decide (0 ≠ 0)))), (17, (ptr b1 1)), (18, lv), (19, v3), (20, (ptr b1 1)), (21, (.agg #[(vU32 pg), v3])), (22, (ptr c2 0)), (23, (ptr q16041 0)), (24, (.agg #[(vU32 pg), v3, (ptr c2 0), (ptr q16041 0), (.slice none 0 0), (vU32 0)])), (25, (ptr b16081 0)), (26, (ptr b1 1)), (27, v3), (28, (vN ([a, b]).length)), (29, (vN 0)), (30, (.bool (decide (0 < ([a, b]).length)))), (31, (.pointer (some (sp v3 0)))), (32, (vU32 a)), (33, (ptr b16081 0)), (34, (ptr b16081 0)), (35, (ptr b16081 0)), (36, (ptr b16081 4)), (37, (.slice none 0 0)), (38, (.slice (some ⟨b18101, 0, none⟩) 64 64)), (39, (str (List.replicate 64 0))), (41, (vU32 a)), (42, (vN a.toNat))] wS := by
      intro b18101 wS HS
      rw [hW]
      refine WH.all1 (i := 7) (by kernel_rfl) ?_
      ·
        refine WHS.op (i := 7) rfl (.inl rfl) rfl (op_buildSlice (cs := [_]) HS Tryz.underlying59 Fa.I9 rfl rfl rfl rfl (by decide) (by decide) (fun b18141 w18141 H18141 => ?_))
        refine ⟨⟨[.blk b16081 [(vU32 pg), v3, (ptr c2 0), (ptr q16041 0), (.slice none 0 0), (vU32 0)] 193, .row (.slice (some ⟨b18101, 0, none⟩) 64 64) 5 1 64 (List.map vU8 (List.replicate 64 0)), .row (.slice (some ⟨b18141, 0, none⟩) 1 1) 9 1 1 (List.map str [(List.replicate 64 0)])], H18141⟩, ?_⟩
        have hq := st9_12 b18101 b18141 w18141 H18141
        rw [hW] at hq
        refine WH.cov ?_ hq
        exact by repeat (first | exact trivial | refine ⟨rfl, ?_⟩)
    have st9_10 : ∀ (b18101 : Nat) (b18141 : Nat) (wS : World), Own [] w wS [.blk b1 [(vU32 pg), v3] 75, .blk c2 [(vU32 pg), v2, (.map (some mb2))] 196, .row v2 22 1 ([a, b]).length (List.map vU32 ([a, b])), .obj mb2 (mP .i64 [] 0), .row v3 22 1 ([a, b]).length (List.map vU32 [a, b]), .blk q16041 [(.map (some mb16041)), (.slice none 0 0), (vN 0)] 264, .obj mb16041 (mP .u16 [] 0), .blk b16081 [(vU32 pg), v3, (ptr c2 0), (ptr q16041 0), (.slice none 0 0), (vU32 0)] 193, .row (.slice (some ⟨b18101, 0, none⟩) 64 64) 5 1 64 (List.map vU8 (List.replicate 64 0)), .row (.slice (some ⟨b18141, 0, none⟩) 1 1) 9 1 1 (List.map str [(List.replicate 64 0)])] → W 7 #[true, true, true, true, false, true, true, true, true, true, false, false, false, false, false, false] [(0, (.agg #[(vU32 pg), lv])), (1, (ptr b1 0)), (2, (.pointer none)), (3, (vN 0)), (4, (ptr c2 0)), (5, (vN 0)), (6, (ptr b16081 0)), (8, (vU32 a)), (9, (.tuple #[(ptr c2 0), (vN 0)])), (10, (.agg #[(vU32 pg), lv])), (11, (.tuple #[(ptr c2 0), (vN 0)])), (12, (ptr c2 0)), (13, (vN 0)), (14, (vN 0)), (15, (.bool (decide (0 ≠ 0)))), (17, (ptr b1 1)), (18, lv), (19, v3), (20, (ptr b1 1)), (21, (.agg #[(vU32 pg), v3])), (22, (ptr c2 0)), (23, (ptr q16041 0)), (24, (.agg #[(vU32 pg), v3, (ptr c2 0), (ptr q16041 0), (.slice none 0 0), (vU32 0)])), (25, (ptr b16081 0)), (26, (ptr b1 1)), (27, v3), (28, (vN ([a, b]).length)), (29, (vN 0)), (30, (.bool (decide (0 < ([a, b]).length)))), (31, (.pointer (some (sp v3 0)))), (32, (vU32 a)), (33, (ptr b16081 0)), (34, (ptr b16081 0)), (35, (ptr b16081 0)), (36, (ptr b16081 4)), (38, (.slice (some ⟨b18101, 0, none⟩) 64 64)), (39, (str (List.replicate 64 0))), (40, (.slice (some ⟨b18141, 0, none⟩) 1 1)), (41, (vU32 a)), (42, (vN a.toNat))] wS := by
      intro b18101 b18141 wS HS
      rw [hW]
      refine WH.all2 (i := 4) (j := 10) (by kernel_rfl) ?_ ?_
      ·
        refine WHS.op (i := 4) rfl (.inl rfl) rfl (op_load rfl (HS.cell (i := 7) rfl rfl) Tryz.underlying191 rfl ?_)
        refine ⟨⟨[.blk b16081 [(vU32 pg), v3, (ptr c2 0), (ptr q16041 0), (.slice none 0 0), (vU32 0)] 193, .row (.slice (some ⟨b18101, 0, none⟩) 64 64) 5 1 64 (List.map vU8 (List.replicate 64 0)), .row (.slice (some ⟨b18141, 0, none⟩) 1 1) 9 1 1 (List.map str [(List.replicate 64 0)])], HS⟩, ?_⟩
        have hq := st9_12 b18101 b18141 wS HS
        rw [hW] at hq
        refine WH.cov ?_ hq
        exact by repeat (first | exact trivial | refine ⟨rfl, ?_⟩)
      ·
        refine WHS.op (i := 10) rfl (.inl rfl) rfl (op_callF Fa.C129 rfl ((repeatS_ok _ (List.replicate 64 0) a.toNat _ (HS.arrR (i := 9) rfl) (UInt32.toNat_lt _)).mono (fun e w18201 hq => ?_)))
        obtain ⟨v18201, rfl, hq18201⟩ := hq
        refine ⟨_, rfl, ?_⟩
        have H18201 : Own [] w w18201 [.blk b1 [(vU32 pg), v3] 75, .blk c2 [(vU32 pg), v2, (.map (some mb2))] 196, .row v2 22 1 ([a, b]).length (List.map vU32 ([a, b])), .obj mb2 (mP .i64 [] 0), .row v3 22 1 ([a, b]).length (List.map vU32 [a, b]), .blk q16041 [(.map (some mb16041)), (.slice none 0 0), (vN 0)] 264, .obj mb16041 (mP .u16 [] 0), .blk b16081 [(vU32 pg), v3, (ptr c2 0), (ptr q16041 0), (.slice none 0 0), (vU32 0)] 193, .row (.slice (some ⟨b18101, 0, none⟩) 64 64) 5 1 64 (List.map vU8 (List.replicate 64 0)), .row (.slice (some ⟨b18141, 0, none⟩) 1 1) 9 1 1 (List.map str [(List.replicate 64 0)]), .row v18201 9 1 a.toNat (List.map str (List.replicate a.toNat (List.replicate 64 0)))] := HS.splice [] [] [.row v18201 9 1 a.toNat (List.map str (List.replicate a.toNat (List.replicate 64 0)))] rfl rfl hq18201 (Fits.solid True.intro Fits.nil)
        refine ⟨⟨[.blk b16081 [(vU32 pg), v3, (ptr c2 0), (ptr q16041 0), (.slice none 0 0), (vU32 0)] 193, .row (.slice (some ⟨b18101, 0, none⟩) 64 64) 5 1 64 (List.map vU8 (List.replicate 64 0)), .row (.slice (some ⟨b18141, 0, none⟩) 1 1) 9 1 1 (List.map str [(List.replicate 64 0)]), .row v18201 9 1 a.toNat (List.map str (List.replicate a.toNat (List.replicate 64 0)))], H18201⟩, ?_⟩
        have hq := st9_13 b18101 b18141 v18201 w18201 H18201
        rw [hW] at hq
        refine WH.cov ?_ hq
        exact by repeat (first | exact trivial | refine ⟨rfl, ?_⟩)
    have st9_14 : ∀ (b18101 : Nat) (b18141 : Nat) (v18201 : Value) (b18221 : Nat) (wS : World), Own [] w wS [.blk b1 [(vU32 pg), v3] 75, .blk c2 [(vU32 pg), v2, (.map (some mb2))] 196, .row v2 22 1 ([a, b]).length (List.map vU32 ([a, b])), .obj mb2 (mP .i64 [] 0), .row v3 22 1 ([a, b]).length (List.map vU32 [a, b]), .blk q16041 [(.map (some mb16041)), (.slice none 0 0), (vN 0)] 264, .obj mb16041 (mP .u16 [] 0), .blk b16081 [(vU32 pg), v3, (ptr c2 0), (ptr q16041 0), (.slice none 0 0), (vU32 0)] 193, .row (.slice (some ⟨b18101, 0, none⟩) 64 64) 5 1 64 (List.map vU8 (List.replicate 64 0)), .row (.slice (some ⟨b18141, 0, none⟩) 1 1) 9 1 1 (List.map str [(List.replicate 64 0)]), .row v18201 9 1 a.toNat (List.map str (List.replicate a.toNat (List.replicate 64 0))), .row (.slice (some ⟨b18221, 0, none⟩) 1 1) 59 1 1 [v18201]] → W 7 #[true, true, false, false, false, true, true, true, true, true, true, true, false, false, false, false] [(0, (.agg #[(vU32 pg), lv])), (1, (ptr b1 0)), (2, (.pointer none)), (3, (vN 0)), (4, (ptr c2 0)), (5, (vN 0)), (6, (ptr b16081 0)), (8, (vU32 a)), (9, (.tuple #[(ptr c2 0), (vN 0)])), (10, (.agg #[(vU32 pg), lv])), (11, (.tuple #[(ptr c2 0), (vN 0)])), (12, (ptr c2 0)), (13, (vN 0)), (14, (vN 0)), (15, (.bool (decide (0 ≠ 0)))), (17, (ptr b1 1)), (18, lv), (19, v3), (20, (ptr b1 1)), (21, (.agg #[(vU32 pg), v3])), (22, (ptr c2 0)), (23, (ptr q16041 0)), (24, (.agg #[(vU32 pg), v3, (ptr c2 0), (ptr q16041 0), (.slice none 0 0), (vU32 0)])), (25, (ptr b16081 0)), (26, (ptr b1 1)), (27, v3), (28, (vN ([a, b]).length)), (29, (vN 0)), (30, (.bool (decide (0 < ([a, b]).length)))), (31, (.pointer (some (sp v3 0)))), (32, (vU32 a)), (33, (ptr b16081 0)), (34, (ptr b16081 0)), (38, (.slice (some ⟨b18101, 0, none⟩) 64 64)), (39, (str (List.replicate 64 0))), (40, (.slice (some ⟨b18141, 0, none⟩) 1 1)), (41, (vU32 a)), (42, (vN a.toNat)), (43, v18201), (44, (.slice (some ⟨b18221, 0, none⟩) 1 1))] wS := by
      intro b18101 b18141 v18201 b18221 wS HS
      rw [hW]
      refine WH.all1 (i := 2) (by kernel_rfl) ?_
      ·
        refine WHS.op (i := 2) rfl (.inl rfl) rfl (op_nilCheck rfl ?_)
        refine ⟨⟨[.blk b16081 [(vU32 pg), v3, (ptr c2 0), (ptr q16041 0), (.slice none 0 0), (vU32 0)] 193, .row (.slice (some ⟨b18101, 0, none⟩) 64 64) 5 1 64 (List.map vU8 (List.replicate 64 0)), .row (.slice (some ⟨b18141, 0, none⟩) 1 1) 9 1 1 (List.map str [(List.replicate 64 0)]), .row v18201 9 1 a.toNat (List.map str (List.replicate a.toNat (List.replicate 64 0))), .row (.slice (some ⟨b18221, 0, none⟩) 1 1) 59 1 1 [v18201]], HS⟩, ?_⟩
        refine WH.take (i := 3) (v := (ptr b16081 4)) rfl rfl (.inl rfl) rfl (by kernel_rfl) ⟨[.blk b16081 [(vU32 pg), v3, (ptr c2 0), (ptr q16041 0), (.slice none 0 0), (vU32 0)] 193, .row (.slice (some ⟨b18101, 0, none⟩) 64 64) 5 1 64 (List.map vU8 (List.replicate 64 0)), .row (.slice (some ⟨b18141, 0, none⟩) 1 1) 9 1 1 (List.map str [(List.replicate 64 0)]), .row v18201 9 1 a.toNat (List.map str (List.replicate a.toNat (List.replicate 64 0))), .row (.slice (some ⟨b18221, 0, none⟩) 1 1) 59 1 1 [v18201]], HS⟩ (fun wX hSX => hSX.elim fun LX HX => op_fieldAddr rfl Fa.F193_3 ⟨rfl, rfl⟩) ?_
        have hq := st9_16 b18101 b18141 v18201 b18221 wS HS
        rw [hW] at hq
        refine WH.cov ?_ hq
        exact by repeat (first | exact trivial | refine ⟨rfl, ?_⟩)
    have st9_6 : ∀ (b18101 : Nat) (wS : World), Own [] w wS [.blk b1 [(vU32 pg), v3] 75, .blk c2 [(vU32 pg), v2, (.map (some mb2))] 196, .row v2 22 1 ([a, b]).length (List.map vU32 ([a, b])), .obj mb2 (mP .i64 [] 0), .row v3 22 1 ([a, b]).length (List.map vU32 [a, b]), .blk q16041 [(.map (some mb16041)), (.slice none 0 0), (vN 0)] 264, .obj mb16041 (mP .u16 [] 0), .blk b16081 [(vU32 pg), v3, (ptr c2 0), (ptr q16041 0), (.slice none 0 0), (vU32 0)] 193, .row (.slice (some ⟨b18101, 0, none⟩) 64 64) 5 1 64 (List.map vU8 (List.replicate 64 0))] → W 8 #[true, true, true, true, true, true, false, false, true, true, false, false, false, false, false, false] [(0, (.agg #[(vU32 pg), lv])), (1, (ptr b1 0)), (2, (.pointer none)), (3, (vN 0)), (4, (ptr c2 0)), (5, (vN 0)), (6, (ptr b16081 0)), (8, (vU32 a)), (9, (.tuple #[(ptr c2 0), (vN 0)])), (10, (.agg #[(vU32 pg), lv])), (11, (.tuple #[(ptr c2 0), (vN 0)])), (12, (ptr c2 0)), (13, (vN 0)), (14, (vN 0)), (15, (.bool (decide (0 ≠ 0)))), (17, (ptr b1 1)), (18, lv), (19, v3), (20, (ptr b1 1)), (21, (.agg #[(vU32 pg), v3])), (22, (ptr c2 0)), (23, (ptr q16041 0)), (24, (.agg #[(vU32 pg), v3, (ptr c2 0), (ptr q16041 0), (.slice none 0 0), (vU32 0)])), (25, (ptr b16081 0)), (26, (ptr b1 1)), (27, v3), (28, (vN ([a, b]).length)), (29, (vN 0)), (30, (.bool (decide (0 < ([a, b]).length)))), (31, (.pointer (some (sp v3 0)))), (32, (vU32 a)), (33, (ptr b16081 0)), (34, (ptr b16081 0)), (35, (ptr b16081 0)), (36, (ptr b16081 4)), (37, (.slice none 0 0)), (38, (.slice (some ⟨b18101, 0, none⟩) 64 64)), (41, (vU32 a)), (42, (vN a.toNat))] wS := by
      intro b18101 wS HS
      rw [hW]
      refine WH.all1 (i := 6) (by kernel_rfl) ?_
      ·
        refine WHS.op (i := 6) rfl (.inl rfl) rfl (op_bytesStr (l := (List.replicate 64 0)) Tryz.underlying114 Tryz.underlying5 Tryz.underlying9 rfl (HS.arrR (i := 8) rfl) rfl ?_)
        refine ⟨⟨[.blk b16081 [(vU32 pg), v3, (ptr c2 0), (ptr q16041 0), (.slice none 0 0), (vU32 0)] 193, .row (.slice (some ⟨b18101, 0, none⟩) 64 64) 5 1 64 (List.map vU8 (List.replicate 64 0))], HS⟩, ?_⟩
        have hq := st9_9 b18101 wS HS
        rw [hW] at hq
        refine WH.cov ?_ hq
        exact by repeat (first | exact trivial | refine ⟨rfl, ?_⟩)
    have st9_7 : ∀ (b18101 : Nat) (wS : World), Own [] w wS [.blk b1 [(vU32 pg), v3] 75, .blk c2 [(vU32 pg), v2, (.map (some mb2))] 196, .row v2 22 1 ([a, b]).length (List.map vU32 ([a, b])), .obj mb2 (mP .i64 [] 0), .row v3 22 1 ([a, b]).length (List.map vU32 [a, b]), .blk q16041 [(.map (some mb16041)), (.slice none 0 0), (vN 0)] 264, .obj mb16041 (mP .u16 [] 0), .blk b16081 [(vU32 pg), v3, (ptr c2 0), (ptr q16041 0), (.slice none 0 0), (vU32 0)] 193, .row (.slice (some ⟨b18101, 0, none⟩) 64 64) 5 1 64 (List.map vU8 (List.replicate 64 0))] → W 8 #[true, true, true, true, false, true, true, false, true, true, false, false, false, false, false, false] [(0, (.agg #[(vU32 pg), lv])), (1, (ptr b1 0)), (2, (.pointer none)), (3, (vN 0)), (4, (ptr c2 0)), (5, (vN 0)), (6, (ptr b16081 0)), (8, (vU32 a)), (9, (.tuple #[(ptr c2 0), (vN 0)])), (10, (.agg #[(vU32 pg), lv])), (11, (.tuple #[(ptr c2 0), (vN 0)])), (12, (ptr c2 0)), (13, (vN 0)), (14, (vN 0)), (15, (.bool (decide (0 ≠ 0)))), (17, (ptr b1 1)), (18, lv), (19, v3), (20, (ptr b1 1)), (21, (.agg #[(vU32 pg), v3])), (22, (ptr c2 0)), (23, (ptr q16041 0)), (24, (.agg #[(vU32 pg), v3, (ptr c2 0), (ptr q16041 0), (.slice none 0 0), (vU32 0)])), (25, (ptr b16081 0)), (26, (ptr b1 1)), (27, v3), (28, (vN ([a, b]).length)), (29, (vN 0)), (30, (.bool (decide (0 < ([a, b]).length)))), (31, (.pointer (some (sp v3 0)))), (32, (vU32 a)), (33, (ptr b16081 0)), (34, (ptr b16081 0)), (35, (ptr b16081 0)), (36, (ptr b16081 4)), (38, (.slice (some ⟨b18101, 0, none⟩) 64 64)), (39, (str (List.replicate 64 0))), (41, (vU32 a)), (42, (vN a.toNat))] wS := by
      intro b18101 wS HS
      rw [hW]
      refine WH.all2 (i := 4) (j := 7) (by kernel_rfl) ?_ ?_
      ·
        refine WHS.op (i := 4) rfl (.inl rfl) rfl (op_load rfl (HS.cell (i := 7) rfl rfl) Tryz.underlying191 rfl ?_)
        refine ⟨⟨[.blk b16081 [(vU32 pg), v3, (ptr c2 0), (ptr q16041 0), (.slice none 0 0), (vU32 0)] 193, .row (.slice (some ⟨b18101, 0, none⟩) 64 64) 5 1 64 (List.map vU8 (List.replicate 64 0))], HS⟩, ?_⟩
        have hq := st9_9 b18101 wS HS
        rw [hW] at hq
        refine WH.cov ?_ hq
        exact by repeat (first | exact trivial | refine ⟨rfl, ?_⟩)
      ·
        refine WHS.op (i := 7) rfl (.inl rfl) rfl (op_buildSlice (cs := [_]) HS Tryz.underlying59 Fa.I9 rfl rfl rfl rfl (by decide) (by decide) (fun b18141 w18141 H18141 => ?_))
        refine ⟨⟨[.blk b16081 [(vU32 pg), v3, (ptr c2 0), (ptr q16041 0), (.slice none 0 0), (vU32 0)] 193, .row (.slice (some ⟨b18101, 0, none⟩) 64 64) 5 1 64 (List.map vU8 (List.replicate 64 0)), .row (.slice (some ⟨b18141, 0, none⟩) 1 1) 9 1 1 (List.map str [(List.replicate 64 0)])], H18141⟩, ?_⟩
        have hq := st9_10 b18101 b18141 w18141 H18141
        rw [hW] at hq
        refine WH.cov ?_ hq
        exact by repeat (first | exact trivial | refine ⟨rfl, ?_⟩)
    have st9_11 : ∀ (b18101 : Nat) (b18141 : Nat) (v18201 : Value) (wS : World), Own [] w wS [.blk b1 [(vU32 pg), v3] 75, .blk c2 [(vU32 pg), v2, (.map (some mb2))] 196, .row v2 22 1 ([a, b]).length (List.map vU32 ([a, b])), .obj mb2 (mP .i64 [] 0), .row v3 22 1 ([a, b]).length (List.map vU32 [a, b]), .blk q16041 [(.map (some mb16041)), (.slice none 0 0), (vN 0)] 264, .obj mb16041 (mP .u16 [] 0), .blk b16081 [(vU32 pg), v3, (ptr c2 0), (ptr q16041 0), (.slice none 0 0), (vU32 0)] 193, .row (.slice (some ⟨b18101, 0, none⟩) 64 64) 5 1 64 (List.map vU8 (List.replicate 64 0)), .row (.slice (some ⟨b18141, 0, none⟩) 1 1) 9 1 1 (List.map str [(List.replicate 64 0)]), .row v18201 9 1 a.toNat (List.map str (List.replicate a.toNat (List.replicate 64 0)))] → W 8 #[true, true, false, false, false, true, true, true, true, true, true, false, false, false, false, false] [(0, (.agg #[(vU32 pg), lv])), (1, (ptr b1 0)), (2, (.pointer none)), (3, (vN 0)), (4, (ptr c2 0)), (5, (vN 0)), (6, (ptr b16081 0)), (8, (vU32 a)), (9, (.tuple #[(ptr c2 0), (vN 0)])), (10, (.agg #[(vU32 pg), lv])), (11, (.tuple #[(ptr c2 0), (vN 0)])), (12, (ptr c2 0)), (13, (vN 0)), (14, (vN 0)), (15, (.bool (decide (0 ≠ 0)))), (17, (ptr b1 1)), (18, lv), (19, v3), (20, (ptr b1 1)), (21, (.agg #[(vU32 pg), v3])), (22, (ptr c2 0)), (23, (ptr q16041 0)), (24, (.agg #[(vU32 pg), v3, (ptr c2 0), (ptr q16041 0), (.slice none 0 0), (vU32 0)])), (25, (ptr b16081 0)), (26, (ptr b1 1)), (27, v3), (28, (vN ([a, b]).length)), (29, (vN 0)), (30, (.bool (decide (0 < ([a, b]).length)))), (31, (.pointer (some (sp v3 0)))), (32, (vU32 a)), (33, (ptr b16081 0)), (34, (ptr b16081 0)), (38, (.slice (some ⟨b18101, 0, none⟩) 64 64)), (39, (str (List.replicate 64 0))), (40, (.slice (some ⟨b18141, 0, none⟩) 1 1)), (41, (vU32 a)), (42, (vN a.toNat)), (43, v18201)] wS := by
      intro b18101 b18141 v18201 wS HS
      rw [hW]
      refine WH.all2 (i := 2) (j := 11) (by kernel_rfl) ?_ ?_
      ·
        refine WHS.op (i := 2) rfl (.inl rfl) rfl (op_nilCheck rfl ?_)
        refine ⟨⟨[.blk b16081 [(vU32 pg), v3, (ptr c2 0), (ptr q16041 0), (.slice none 0 0), (vU32 0)] 193, .row (.slice (some ⟨b18101, 0, none⟩) 64 64) 5 1 64 (List.map vU8 (List.replicate 64 0)), .row (.slice (some ⟨b18141, 0, none⟩) 1 1) 9 1 1 (List.map str [(List.replicate 64 0)]), .row v18201 9 1 a.toNat (List.map str (List.replicate a.toNat (List.replicate 64 0)))], HS⟩, ?_⟩
        refine WH.take (i := 3) (v := (ptr b16081 4)) rfl rfl (.inl rfl) rfl (by kernel_rfl) ⟨[.blk b16081 [(vU32 pg), v3, (ptr c2 0), (ptr q16041 0), (.slice none 0 0), (vU32 0)] 193, .row (.slice (some ⟨b18101, 0, none⟩) 64 64) 5 1 64 (List.map vU8 (List.replicate 64 0)), .row (.slice (some ⟨b18141, 0, none⟩) 1 1) 9 1 1 (List.map str [(List.replicate 64 0)]), .row v18201 9 1 a.toNat (List.map str (List.replicate a.toNat (List.replicate 64 0)))], HS⟩ (fun wX hSX => hSX.elim fun LX HX => op_fieldAddr rfl Fa.F193_3 ⟨rfl, rfl⟩) ?_
        have hq := st9_13 b18101 b18141 v18201 wS HS
        rw [hW] at hq
        refine WH.cov ?_ hq
        exact by repeat (first | exact trivial | refine ⟨rfl, ?_⟩)
      ·
        refine WHS.op (i := 11) rfl (.inl rfl) rfl (op_buildSlice (cs := [v18201]) HS Tryz.underlying191 Fa.I59 rfl rfl (by obtain ⟨_, _, e0, _⟩ := (HS.arrR (i := 10) rfl).form; rw [e0]; rfl) rfl (by decide) (by decide) (fun b18221 w18221 H18221 => ?_))
        refine ⟨⟨[.blk b16081 [(vU32 pg), v3, (ptr c2 0), (ptr q16041 0), (.slice none 0 0), (vU32 0)] 193, .row (.slice (some ⟨b18101, 0, none⟩) 64 64) 5 1 64 (List.map vU8 (List.replicate 64 0)), .row (.slice (some ⟨b18141, 0, none⟩) 1 1) 9 1 1 (List.map str [(List.replicate 64 0)]), .row v18201 9 1 a.toNat (List.map str (List.replicate a.toNat (List.replicate 64 0))), .row (.slice (some ⟨b18221, 0, none⟩) 1 1) 59 1 1 [v18201]], H18221⟩, ?_⟩
        have hq := st9_14 b18101 b18141 v18201 b18221 w18221 H18221
        rw [hW] at hq
        refine WH.cov ?_ hq
        exact by repeat (first | exact trivial | refine ⟨rfl, ?_⟩)
    have st9_3 : ∀ (wS : World), Own [] w wS [.blk b1 [(vU32 pg), v3] 75, .blk c2 [(vU32 pg), v2, (.map (some mb2))] 196, .row v2 22 1 ([a, b]).length (List.map vU32 ([a, b])), .obj mb2 (mP .i64 [] 0), .row v3 22 1 ([a, b]).length (List.map vU32 [a, b]), .blk q16041 [(.map (some mb16041)), (.slice none 0 0), (vN 0)] 264, .obj mb16041 (mP .u16 [] 0), .blk b16081 [(vU32 pg), v3, (ptr c2 0), (ptr q16041 0), (.slice none 0 0), (vU32 0)] 193] → W 9 #[true, true, true, true, true, false, false, false, true, true, false, false, false, false, false, false] [(0, (.agg #[(vU32 pg), lv])), (1, (ptr b1 0)), (2, (.pointer none)), (3, (vN 0)), (4, (ptr c2 0)), (5, (vN 0)), (6, (ptr b16081 0)), (8, (vU32 a)), (9, (.tuple #[(ptr c2 0), (vN 0)])), (10, (.agg #[(vU32 pg), lv])), (11, (.tuple #[(ptr c2 0), (vN 0)])), (12, (ptr c2 0)), (13, (vN 0)), (14, (vN 0)), (15, (.bool (decide (0 ≠ 0)))), (17, (ptr b1 1)), (18, lv), (19, v3), (20, (ptr b1 1)), (21, (.agg #[(vU32 pg), v3])), (22, (ptr c2 0)), (23, (ptr q16041 0)), (24, (.agg #[(vU32 pg), v3, (ptr c2 0), (ptr q16041 0), (.slice none 0 0), (vU32 0)])), (25, (ptr b16081 0)), (26, (ptr b1 1)), (27, v3), (28, (vN ([a, b]).length)), (29, (vN 0)), (30, (.bool (decide (0 < ([a, b]).length)))), (31, (.pointer (some (sp v3 0)))), (32, (vU32 a)), (33, (ptr b16081 0)), (34, (ptr b16081 0)), (35, (ptr b16081 0)), (36, (ptr b16081 4)), (37, (.slice none 0 0)), (41, (vU32 a)), (42, (vN a.toNat))] wS := by
      intro wS HS
      rw [hW]
      refine WH.all1 (i := 5) (by kernel_rfl) ?_
      ·
        refine WHS.op (i := 5) rfl (.inl rfl) rfl (op_makeSliceM (f := vU8) (c := 0) (m := 64) HS Tryz.underlying114 Fa.I5 rfl rfl (by omega) (by omega) (fun b18101 w18101 H18101 => ?_))
        refine ⟨⟨[.blk b16081 [(vU32 pg), v3, (ptr c2 0), (ptr q16041 0), (.slice none 0 0), (vU32 0)] 193, .row (.slice (some ⟨b18101, 0, none⟩) 64 64) 5 1 64 (List.map vU8 (List.replicate 64 0))], H18101⟩, ?_⟩
        have hq := st9_6 b18101 w18101 H18101
        rw [hW] at hq
        refine WH.cov ?_ hq
        exact by repeat (first | exact trivial | refine ⟨rfl, ?_⟩)
    have st9_4 : ∀ (b18101 : Nat) (wS : World), Own [] w wS [.blk b1 [(vU32 pg), v3] 75, .blk c2 [(vU32 pg), v2, (.map (some mb2))] 196, .row v2 22 1 ([a, b]).length (List.map vU32 ([a, b])), .obj mb2 (mP .i64 [] 0), .row v3 22 1 ([a, b]).length (List.map vU32 [a, b]), .blk q16041 [(.map (some mb16041)), (.slice none 0 0), (vN 0)] 264, .obj mb16041 (mP .u16 [] 0), .blk b16081 [(vU32 pg), v3, (ptr c2 0), (ptr q16041 0), (.slice none 0 0), (vU32 0)] 193, .row (.slice (some ⟨b18101, 0, none⟩) 64 64) 5 1 64 (List.map vU8 (List.replicate 64 0))] → W 9 #[true, true, true, true, false, true, false, false, true, true, false, false, false, false, false, false] [(0, (.agg #[(vU32 pg), lv])), (1, (ptr b1 0)), (2, (.pointer none)), (3, (vN 0)), (4, (ptr c2 0)), (5, (vN 0)), (6, (ptr b16081 0)), (8, (vU32 a)), (9, (.tuple #[(ptr c2 0), (vN 0)])), (10, (.agg #[(vU32 pg), lv])), (11, (.tuple #[(ptr c2 0), (vN 0)])), (12, (ptr c2 0)), (13, (vN 0)), (14, (vN 0)), (15, (.bool (decide (0 ≠ 0)))), (17, (ptr b1 1)), (18, lv), (19, v3), (20, (ptr b1 1)), (21, (.agg #[(vU32 pg), v3])), (22, (ptr c2 0)), (23, (ptr q16041 0)), (24, (.agg #[(vU32 pg), v3, (ptr c2 0), (ptr q16041 0), (.slice none 0 0), (vU32 0)])), (25, (ptr b16081 0)), (26, (ptr b1 1)), (27, v3), (28, (vN ([a, b]).length)), (29, (vN 0)), (30, (.bool (decide (0 < ([a, b]).length)))), (31, (.pointer (some (sp v3 0)))), (32, (vU32 a)), (33, (ptr b16081 0)), (34, (ptr b16081 0)), (35, (ptr b16081 0)), (36, (ptr b16081 4)), (38, (.slice (some ⟨b18101, 0, none⟩) 64 64)), (41, (vU32 a)), (42, (vN a.toNat))] wS := by
      intro b18101 wS HS
      rw [hW]
      refine WH.all2 (i := 4) (j := 6) (by kernel_rfl) ?_ ?_
      ·
        refine WHS.op (i := 4) rfl (.inl rfl) rfl (op_load rfl (HS.cell (i := 7) rfl rfl) Tryz.underlying191 rfl ?_)
        refine ⟨⟨[.blk b16081 [(vU32 pg), v3, (ptr c2 0), (ptr q16041 0), (.slice none 0 0), (vU32 0)] 193, .row (.slice (some ⟨b18101, 0, none⟩) 64 64) 5 1 64 (List.map vU8 (List.replicate 64 0))], HS⟩, ?_⟩
        have hq := st9_6 b18101 wS HS
        rw [hW] at hq
        refine WH.cov ?_ hq
        exact by repeat (first | exact trivial | refine ⟨rfl, ?_⟩)
      ·
        refine WHS.op (i := 6) rfl (.inl rfl) rfl (op_bytesStr (l := (List.replicate 64 0)) Tryz.underlying114 Tryz.underlying5 Tryz.underlying9 rfl (HS.arrR (i := 8) rfl) rfl ?_)
        refine ⟨⟨[.blk b16081 [(vU32 pg), v3, (ptr c2 0), (ptr q16041 0), (.slice none 0 0), (vU32 0)] 193, .row (.slice (some ⟨b18101, 0, none⟩) 64 64) 5 1 64 (List.map vU8 (List.replicate 64 0))], HS⟩, ?_⟩
        have hq := st9_7 b18101 wS HS
        rw [hW] at hq
        refine WH.cov ?_ hq
        exact by repeat (first | exact trivial | refine ⟨rfl, ?_⟩)
    have st9_8 : ∀ (b18101 : Nat) (b18141 : Nat) (wS : World), Own [] w wS [.blk b1 [(vU32 pg), v3] 75, .blk c2 [(vU32 pg), v2, (.map (some mb2))] 196, .row v2 22 1 ([a, b]).length (List.map vU32 ([a, b])), .obj mb2 (mP .i64 [] 0), .row v3 22 1 ([a, b]).length (List.map vU32 [a, b]), .blk q16041 [(.map (some mb16041)), (.slice none 0 0), (vN 0)] 264, .obj mb16041 (mP .u16 [] 0), .blk b16081 [(vU32 pg), v3, (ptr c2 0), (ptr q16041 0), (.slice none 0 0), (vU32 0)] 193, .row (.slice (some ⟨b18101, 0, none⟩) 64 64) 5 1 64 (List.map vU8 (List.replicate 64 0)), .row (.slice (some ⟨b18141, 0, none⟩) 1 1) 9 1 1 (List.map str [(List.replicate 64 0)])] → W 9 #[true, true, false, false, false, true, true, true, true, true, false, false, false, false, false, false] [(0, (.agg #[(vU32 pg), lv])), (1, (ptr b1 0)), (2, (.pointer none)), (3, (vN 0)), (4, (ptr c2 0)), (5, (vN 0)), (6, (ptr b16081 0)), (8, (vU32 a)), (9, (.tuple #[(ptr c2 0), (vN 0)])), (10, (.agg #[(vU32 pg), lv])), (11, (.tuple #[(ptr c2 0), (vN 0)])), (12, (ptr c2 0)), (13, (vN 0)), (14, (vN 0)), (15, (.bool (decide (0 ≠ 0)))), (17, (ptr b1 1)), (18, lv), (19, v3), (20, (ptr b1 1)), (21, (.agg #[(vU32 pg), v3])), (22, (ptr c2 0)), (23, (ptr q16041 0)), (24, (.agg #[(vU32 pg), v3, (ptr c2 0), (ptr q16041 0), (.slice none 0 0), (vU32 0)])), (25, (ptr b16081 0)), (26, (ptr b1 1)), (27, v3), (28, (vN ([a, b]).length)), (29, (vN 0)), (30, (.bool (decide (0 < ([a, b]).length)))), (31, (.pointer (some (sp v3 0)))), (32, (vU32 a)), (33, (ptr b16081 0)), (34, (ptr b16081 0)), (38, (.slice (some ⟨b18101, 0, none⟩) 64 64)), (39, (str (List.replicate 64 0))), (40, (.slice (some ⟨b18141, 0, none⟩) 1 1)), (41, (vU32 a)), (42, (vN a.toNat))] wS := by
      intro b18101 b18141 wS HS
      rw [hW]
      refine WH.all2 (i := 2) (j := 10) (by kernel_rfl) ?_ ?_
      ·
        refine WHS.op (i := 2) rfl (.inl rfl) rfl (op_nilCheck rfl ?_)
        refine ⟨⟨[.blk b16081 [(vU32 pg), v3, (ptr c2 0), (ptr q16041 0), (.slice none 0 0), (vU32 0)] 193, .row (.slice (some ⟨b18101, 0, none⟩) 64 64) 5 1 64 (List.map vU8 (List.replicate 64 0)), .row (.slice (some ⟨b18141, 0, none⟩) 1 1) 9 1 1 (List.map str [(List.replicate 64 0)])], HS⟩, ?_⟩
        refine WH.take (i := 3) (v := (ptr b16081 4)) rfl rfl (.inl rfl) rfl (by kernel_rfl) ⟨[.blk b16081 [(vU32 pg), v3, (ptr c2 0), (ptr q16041 0), (.slice none 0 0), (vU32 0)] 193, .row (.slice (some ⟨b18101, 0, none⟩) 64 64) 5 1 64 (List.map vU8 (List.replicate 64 0)), .row (.slice (some ⟨b18141, 0, none⟩) 1 1) 9 1 1 (List.map str [(List.replicate 64 0)])], HS⟩ (fun wX hSX => hSX.elim fun LX HX => op_fieldAddr rfl Fa.F193_3 ⟨rfl, rfl⟩) ?_
        have hq := st9_10 b18101 b18141 wS HS
        rw [hW] at hq
        refine WH.cov ?_ hq
        exact by repeat (first | exact trivial | refine ⟨rfl, ?_⟩)
      ·
        refine WHS.op (i := 10) rfl (.inl rfl) rfl (op_callF Fa.C129 rfl ((repeatS_ok _ (List.replicate 64 0) a.toNat _ (HS.arrR (i := 9) rfl) (UInt32.toNat_lt _)).mono (fun e w18201 hq => ?_)))
        obtain ⟨v18201, rfl, hq18201⟩ := hq
        refine ⟨_, rfl, ?_⟩
        have H18201 : Own [] w w18201 [.blk b1 [(vU32 pg), v3] 75, .blk c2 [(vU32 pg), v2, (.map (some mb2))] 196, .row v2 22 1 ([a, b]).length (List.map vU32 ([a, b])), .obj mb2 (mP .i64 [] 0), .row v3 22 1 ([a, b]).length (List.map vU32 [a, b]), .blk q16041 [(.map (some mb16041)), (.slice none 0 0), (vN 0)] 264, .obj mb16041 (mP .u16 [] 0), .blk b16081 [(vU32 pg), v3, (ptr c2 0), (ptr q16041 0), (.slice none 0 0), (vU32 0)] 193, .row (.slice (some ⟨b18101, 0, none⟩) 64 64) 5 1 64 (List.map vU8 (List.replicate 64 0)), .row (.slice (some ⟨b18141, 0, none⟩) 1 1) 9 1 1 (List.map str [(List.replicate 64 0)]), .row v18201 9 1 a.toNat (List.map str (List.replicate a.toNat (List.replicate 64 0)))] := HS.splice [] [] [.row v18201 9 1 a.toNat (List.map str (List.replicate a.toNat (List.replicate 64 0)))] rfl rfl hq18201 (Fits.solid True.intro Fits.nil)
        refine ⟨⟨[.blk b16081 [(vU32 pg), v3, (ptr c2 0), (ptr q16041 0), (.slice none 0 0), (vU32 0)] 193, .row (.slice (some ⟨b18101, 0, none⟩) 64 64) 5 1 64 (List.map vU8 (List.replicate 64 0)), .row (.slice (some ⟨b18141, 0, none⟩) 1 1) 9 1 1 (List.map str [(List.replicate 64 0)]), .row v18201 9 1 a.toNat (List.map str (List.replicate a.toNat (List.replicate 64 0)))], H18201⟩, ?_⟩
        have hq := st9_11 b18101 b18141 v18201 w18201 H18201
        rw [hW] at hq
        refine WH.cov ?_ hq
        exact by repeat (first | exact trivial | refine ⟨rfl, ?_⟩)
    have st9_1 : ∀ (wS : World), Own [] w wS [.blk b1 [(vU32 pg), v3] 75, .blk c2 [(vU32 pg), v2, (.map (some mb2))] 196, .row v2 22 1 ([a, b]).length (List.map vU32 ([a, b])), .obj mb2 (mP .i64 [] 0), .row v3 22 1 ([a, b]).length (List.map vU32 [a, b]), .blk q16041 [(.map (some mb16041)), (.slice none 0 0), (vN 0)] 264, .obj mb16041 (mP .u16 [] 0), .blk b16081 [(vU32 pg), v3, (ptr c2 0), (ptr q16041 0), (.slice none 0 0), (vU32 0)] 193] → W 10 #[true, true, true, true, false, false, false, false, true, true, false, false, false, false, false, false] [(0, (.agg #[(vU32 pg), lv])), (1, (ptr b1 0)), (2, (.pointer none)), (3, (vN 0)), (4, (ptr c2 0)), (5, (vN 0)), (6, (ptr b16081 0)), (8, (vU32 a)), (9, (.tuple #[(ptr c2 0), (vN 0)])), (10, (.agg #[(vU32 pg), lv])), (11, (.tuple #[(ptr c2 0), (vN 0)])), (12, (ptr c2 0)), (13, (vN 0)), (14, (vN 0)), (15, (.bool (decide (0 ≠ 0)))), (17, (ptr b1 1)), (18, lv), (19, v3), (20, (ptr b1 1)), (21, (.agg #[(vU32 pg), v3])), (22, (ptr c2 0)), (23, (ptr q16041 0)), (24, (.agg #[(vU32 pg), v3, (ptr c2 0), (ptr q16041 0), (.slice none 0 0), (vU32 0)])), (25, (ptr b16081 0)), (26, (ptr b1 1)), (27, v3), (28, (vN ([a, b]).length)), (29, (vN 0)), (30, (.bool (decide (0 < ([a, b]).length)))), (31, (.pointer (some (sp v3 0)))), (32, (vU32 a)), (33, (ptr b16081 0)), (34, (ptr b16081 0)), (35, (ptr b16081 0)), (36, (ptr b16081 4)), (41, (vU32 a)), (42, (vN a.toNat))] wS := by
      intro wS HS
      rw [hW]
      refine WH.all2 (i := 4) (j := 5) (by kernel_rfl) ?_ ?_
      ·
        refine WHS.op (i := 4) rfl (.inl rfl) rfl (op_load rfl (HS.cell (i := 7) rfl rfl) Tryz.underlying191 rfl ?_)
        refine ⟨⟨[.blk b16081 [(vU32 pg), v3, (ptr c2 0), (ptr q16041 0), (.slice none 0 0), (vU32 0)] 193], HS⟩, ?_⟩
        have hq := st9_3 wS HS
        rw [hW] at hq
        refine WH.cov ?_ hq
        exact by repeat (first | exact trivial | refine ⟨rfl, ?_⟩)
      ·
        refine WHS.op (i := 5) rfl (.inl rfl) rfl (op_makeSliceM (f := vU8) (c := 0) (m := 64) HS Tryz.underlying114 Fa.I5 rfl rfl (by omega) (by omega) (fun b18101 w18101 H18101 => ?_))
        refine ⟨⟨[.blk b16081 [(vU32 pg), v3, (ptr c2 0), (ptr q16041 0), (.slice none 0 0), (vU32 0)] 193, .row (.slice (some ⟨b18101, 0, none⟩) 64 64) 5 1 64 (List.map vU8 (List.replicate 64 0))], H18101⟩, ?_⟩
        have hq := st9_4 b18101 w18101 H18101
        rw [hW] at hq
        refine WH.cov ?_ hq
        exact by repeat (first | exact trivial | refine ⟨rfl, ?_⟩)
    have st9_5 : ∀ (b18101 : Nat) (wS : World), Own [] w wS [.blk b1 [(vU32 pg), v3] 75, .blk c2 [(vU32 pg), v2, (.map (some mb2))] 196, .row v2 22 1 ([a, b]).length (List.map vU32 ([a, b])), .obj mb2 (mP .i64 [] 0), .row v3 22 1 ([a, b]).length (List.map vU32 [a, b]), .blk q16041 [(.map (some mb16041)), (.slice none 0 0), (vN 0)] 264, .obj mb16041 (mP .u16 [] 0), .blk b16081 [(vU32 pg), v3, (ptr c2 0), (ptr q16041 0), (.slice none 0 0), (vU32 0)] 193, .row (.slice (some ⟨b18101, 0, none⟩) 64 64) 5 1 64 (List.map vU8 (List.replicate 64 0))] → W 10 #[true, true, false, false, false, true, true, false, true, true, false, false, false, false, false, false] [(0, (.agg #[(vU32 pg), lv])), (1, (ptr b1 0)), (2, (.pointer none)), (3, (vN 0)), (4, (ptr c2 0)), (5, (vN 0)), (6, (ptr b16081 0)), (8, (vU32 a)), (9, (.tuple #[(ptr c2 0), (vN 0)])), (10, (.agg #[(vU32 pg), lv])), (11, (.tuple #[(ptr c2 0), (vN 0)])), (12, (ptr c2 0)), (13, (vN 0)), (14, (vN 0)), (15, (.bool (decide (0 ≠ 0)))), (17, (ptr b1 1)), (18, lv), (19, v3), (20, (ptr b1 1)), (21, (.agg #[(vU32 pg), v3])), (22, (ptr c2 0)), (23, (ptr q16041 0)), (24, (.agg #[(vU32 pg), v3, (ptr c2 0), (ptr q16041 0), (.slice none 0 0), (vU32 0)])), (25, (ptr b16081 0)), (26, (ptr b1 1)), (27, v3), (28, (vN ([a, b]).length)), (29, (vN 0)), (30, (.bool (decide (0 < ([a, b]).length)))), (31, (.pointer (some (sp v3 0)))), (32, (vU32 a)), (33, (ptr b16081 0)), (34, (ptr b16081 0)), (38, (.slice (some ⟨b18101, 0, none⟩) 64 64)), (39, (str (List.replicate 64 0))), (41, (vU32 a)), (42, (vN a.toNat))] wS := by
      intro b18101 wS HS
      rw [hW]
      refine WH.all2 (i := 2) (j := 7) (by kernel_rfl) ?_ ?_
      ·
        refine WHS.op (i := 2) rfl (.inl rfl) rfl (op_nilCheck rfl ?_)
        refine ⟨⟨[.blk b16081 [(vU32 pg), v3, (ptr c2 0), (ptr q16041 0), (.slice none 0 0), (vU32 0)] 193, .row (.slice (some ⟨b18101, 0, none⟩) 64 64) 5 1 64 (List.map vU8 (List.replicate 64 0))], HS⟩, ?_⟩
        refine WH.take (i := 3) (v := (ptr b16081 4)) rfl rfl (.inl rfl) rfl (by kernel_rfl) ⟨[.blk b16081 [(vU32 pg), v3, (ptr c2 0), (ptr q16041 0), (.slice none 0 0), (vU32 0)] 193, .row (.slice (some ⟨b18101, 0, none⟩) 64 64) 5 1 64 (List.map vU8 (List.replicate 64 0))], HS⟩ (fun wX hSX => hSX.elim fun LX HX => op_fieldAddr rfl Fa.F193_3 ⟨rfl, rfl⟩) ?_
        have hq := st9_7 b18101 wS HS
        rw [hW] at hq
        refine WH.cov ?_ hq
        exact by repeat (first | exact trivial | refine ⟨rfl, ?_⟩)
      ·
        refine WHS.op (i := 7) rfl (.inl rfl) rfl (op_buildSlice (cs := [_]) HS Tryz.underlying59 Fa.I9 rfl rfl rfl rfl (by decide) (by decide) (fun b18141 w18141 H18141 => ?_))
        refine ⟨⟨[.blk b16081 [(vU32 pg), v3, (ptr c2 0), (ptr q16041 0), (.slice none 0 0), (vU32 0)] 193, .row (.slice (some ⟨b18101, 0, none⟩) 64 64) 5 1 64 (List.map vU8 (List.replicate 64 0)), .row (.slice (some ⟨b18141, 0, none⟩) 1 1) 9 1 1 (List.map str [(List.replicate 64 0)])], H18141⟩, ?_⟩
        have hq := st9_8 b18101 b18141 w18141 H18141
        rw [hW] at hq
        refine WH.cov ?_ hq
        exact by repeat (first | exact trivial | refine ⟨rfl, ?_⟩)
    have st9_2 : ∀ (b18101 : Nat) (wS : World), Own [] w wS [.blk b1 [(vU32 pg), v3] 75, .blk c2 [(vU32 pg), v2, (.map (some mb2))] 196, .row v2 22 1 ([a, b]).length (List.map vU32 ([a, b])), .obj mb2 (mP .i64 [] 0), .row v3 22 1 ([a, b]).length (List.map vU32 [a, b]), .blk q16041 [(.map (some mb16041)), (.slice none 0 0), (vN 0)] 264, .obj mb16041 (mP .u16 [] 0), .blk b16081 [(vU32 pg), v3, (ptr c2 0), (ptr q16041 0), (.slice none 0 0), (vU32 0)] 193, .row (.slice (some ⟨b18101, 0, none⟩) 64 64) 5 1 64 (List.map vU8 (List.replicate 64 0))] → W 11 #[true, true, false, false, false, true, false, false, true, true, false, false, false, false, false, false] [(0, (.agg #[(vU32 pg), lv])), (1, (ptr b1 0)), (2, (.pointer none)), (3, (vN 0)), (4, (ptr c2 0)), (5, (vN 0)), (6, (ptr b16081 0)), (8, (vU32 a)), (9, (.tuple #[(ptr c2 0), (vN 0)])), (10, (.agg #[(vU32 pg), lv])), (11, (.tuple #[(ptr c2 0), (vN 0)])), (12, (ptr c2 0)), (13, (vN 0)), (14, (vN 0)), (15, (.bool (decide (0 ≠ 0)))), (17, (ptr b1 1)), (18, lv), (19, v3), (20, (ptr b1 1)), (21, (.agg #[(vU32 pg), v3])), (22, (ptr c2 0)), (23, (ptr q16041 0)), (24, (.agg #[(vU32 pg), v3, (ptr c2 0), (ptr q16041 0), (.slice none 0 0), (vU32 0)])), (25, (ptr b16081 0)), (26, (ptr b1 1)), (27, v3), (28, (vN ([a, b]).length)), (29, (vN 0)), (30, (.bool (decide (0 < ([a, b]).length)))), (31, (.pointer (some (sp v3 0)))), (32, (vU32 a)), (33, (ptr b16081 0)), (34, (ptr b16081 0)), (38, (.slice (some ⟨b18101, 0, none⟩) 64 64)), (41, (vU32 a)), (42, (vN a.toNat))] wS := by
      intro b18101 wS HS
      rw [hW]
      refine WH.all2 (i := 2) (j := 6) (by kernel_rfl) ?_ ?_
      ·
        refine WHS.op (i := 2) rfl (.inl rfl) rfl (op_nilCheck rfl ?_)
        refine ⟨⟨[.blk b16081 [(vU32 pg), v3, (ptr c2 0), (ptr q16041 0), (.slice none 0 0), (vU32 0)] 193, .row (.slice (some ⟨b18101, 0, none⟩) 64 64) 5 1 64 (List.map vU8 (List.replicate 64 0))], HS⟩, ?_⟩
        refine WH.take (i := 3) (v := (ptr b16081 4)) rfl rfl (.inl rfl) rfl (by kernel_rfl) ⟨[.blk b16081 [(vU32 pg), v3, (ptr c2 0), (ptr q16041 0), (.slice none 0 0), (vU32 0)] 193, .row (.slice (some ⟨b18101, 0, none⟩) 64 64) 5 1 64 (List.map vU8 (List.replicate 64 0))], HS⟩ (fun wX hSX => hSX.elim fun LX HX => op_fieldAddr rfl Fa.F193_3 ⟨rfl, rfl⟩) ?_
        have hq := st9_4 b18101 wS HS
        rw [hW] at hq
        refine WH.cov ?_ hq
        exact by repeat (first | exact trivial | refine ⟨rfl, ?_⟩)
      ·
        refine WHS.op (i := 6) rfl (.inl rfl) rfl (op_bytesStr (l := (List.replicate 64 0)) Tryz.underlying114 Tryz.underlying5 Tryz.underlying9 rfl (HS.arrR (i := 8) rfl) rfl ?_)
        refine ⟨⟨[.blk b16081 [(vU32 pg), v3, (ptr c2 0), (ptr q16041 0), (.slice none 0 0), (vU32 0)] 193, .row (.slice (some ⟨b18101, 0, none⟩) 64 64) 5 1 64 (List.map vU8 (List.replicate 64 0))], HS⟩, ?_⟩
        have hq := st9_5 b18101 wS HS
        rw [hW] at hq
        refine WH.cov ?_ hq
        exact by repeat (first | exact trivial | refine ⟨rfl, ?_⟩)
    have st9_0 : ∀ (wS : World), Own [] w wS [.blk b1 [(vU32 pg), v3] 75, .blk c2 [(vU32 pg), v2, (.map (some mb2))] 196, .row v2 22 1 ([a, b]).length (List.map vU32 ([a, b])), .obj mb2 (mP .i64 [] 0), .row v3 22 1 ([a, b]).length (List.map vU32 [a, b]), .blk q16041 [(.map (some mb16041)), (.slice none 0 0), (vN 0)] 264, .obj mb16041 (mP .u16 [] 0), .blk b16081 [(vU32 pg), v3, (ptr c2 0), (ptr q16041 0), (.slice none 0 0), (vU32 0)] 193] → W 12 #[true, true, false, false, false, false, false, false, true, true, false, false, false, false, false, false] [(0, (.agg #[(vU32 pg), lv])), (1, (ptr b1 0)), (2, (.pointer none)), (3, (vN 0)), (4, (ptr c2 0)), (5, (vN 0)), (6, (ptr b16081 0)), (8, (vU32 a)), (9, (.tuple #[(ptr c2 0), (vN 0)])), (10, (.agg #[(vU32 pg), lv])), (11, (.tuple #[(ptr c2 0), (vN 0)])), (12, (ptr c2 0)), (13, (vN 0)), (14, (vN 0)), (15, (.bool (decide (0 ≠ 0)))), (17, (ptr b1 1)), (18, lv), (19, v3), (20, (ptr b1 1)), (21, (.agg #[(vU32 pg), v3])), (22, (ptr c2 0)), (23, (ptr q16041 0)), (24, (.agg #[(vU32 pg), v3, (ptr c2 0), (ptr q16041 0), (.slice none 0 0), (vU32 0)])), (25, (ptr b16081 0)), (26, (ptr b1 1)), (27, v3), (28, (vN ([a, b]).length)), (29, (vN 0)), (30, (.bool (decide (0 < ([a, b]).length)))), (31, (.pointer (some (sp v3 0)))), (32, (vU32 a)), (33, (ptr b16081 0)), (34, (ptr b16081 0)), (41, (vU32 a)), (42, (vN a.toNat))] wS := by
      intro wS HS
      rw [hW]
      refine WH.all2 (i := 2) (j := 5) (by kernel_rfl) ?_ ?_
      ·
        refine WHS.op (i := 2) rfl (.inl rfl) rfl (op_nilCheck rfl ?_)
        refine ⟨⟨[.blk b16081 [(vU32 pg), v3, (ptr c2 0), (ptr q16041 0), (.slice none 0 0), (vU32 0)] 193], HS⟩, ?_⟩
        refine WH.take (i := 3) (v := (ptr b16081 4)) rfl rfl (.inl rfl) rfl (by kernel_rfl) ⟨[.blk b16081 [(vU32 pg), v3, (ptr c2 0), (ptr q16041 0), (.slice none 0 0), (vU32 0)] 193], HS⟩ (fun wX hSX => hSX.elim fun LX HX => op_fieldAddr rfl Fa.F193_3 ⟨rfl, rfl⟩) ?_
        have hq := st9_1 wS HS
        rw [hW] at hq
        refine WH.cov ?_ hq
        exact by repeat (first | exact trivial | refine ⟨rfl, ?_⟩)
      ·
        refine WHS.op (i := 5) rfl (.inl rfl) rfl (op_makeSliceM (f := vU8) (c := 0) (m := 64) HS Tryz.underlying114 Fa.I5 rfl rfl (by omega) (by omega) (fun b18101 w18101 H18101 => ?_))
        refine ⟨⟨[.blk b16081 [(vU32 pg), v3, (ptr c2 0), (ptr q16041 0), (.slice none 0 0), (vU32 0)] 193, .row (.slice (some ⟨b18101, 0, none⟩) 64 64) 5 1 64 (List.map vU8 (List.replicate 64 0))], H18101⟩, ?_⟩
        have hq := st9_2 b18101 w18101 H18101
        rw [hW] at hq
        refine WH.cov ?_ hq
        exact by repeat (first | exact trivial | refine ⟨rfl, ?_⟩)
    have hq := st9_0 w7 H7
    rw [hW] at hq ⊢
    refine WH.cov ?_ hq
    exact by repeat (first | exact trivial | refine ⟨rfl, ?_⟩)
  have st5_1 : ∀ (q16041 : Nat) (mb16041 : Nat) (wS : World), Own [] w wS [.blk b1 [(vU32 pg), v3] 75, .blk c2 [(vU32 pg), v2, (.map (some mb2))] 196, .row v2 22 1 ([a, b]).length (List.map vU32 ([a, b])), .obj mb2 (mP .i64 [] 0), .row v3 22 1 ([a, b]).length (List.map vU32 [a, b]), .blk q16041 [(.map (some mb16041)), (.slice none 0 0), (vN 0)] 264, .obj mb16041 (mP .u16 [] 0)] → W 2 #[true, true, true, true, false, false] [(0, (.agg #[(vU32 pg), lv])), (1, (ptr b1 0)), (2, (.pointer none)), (3, (vN 0)), (4, (ptr c2 0)), (5, (vN 0)), (9, (.tuple #[(ptr c2 0), (vN 0)])), (10, (.agg #[(vU32 pg), lv])), (11, (.tuple #[(ptr c2 0), (vN 0)])), (12, (ptr c2 0)), (13, (vN 0)), (14, (vN 0)), (15, (.bool (decide (0 ≠ 0)))), (17, (ptr b1 1)), (18, lv), (19, v3), (20, (ptr b1 1)), (21, (.agg #[(vU32 pg), v3])), (22, (ptr c2 0)), (23, (ptr q16041 0)), (24, (.agg #[(vU32 pg), v3, (ptr c2 0), (ptr q16041 0), (.slice none 0 0), (vU32 0)]))] wS := by
    intro q16041 mb16041 wS HS
    rw [hW]
    refine WH.all1 (i := 4) (by kernel_rfl) ?_
    ·
      refine WHS.op (i := 4) rfl (.inl rfl) rfl (op_box HS rfl rfl (fun b16081 w16081 H16081 => ?_))
      refine ⟨⟨[.blk q16041 [(.map (some mb16041)), (.slice none 0 0), (vN 0)] 264, .obj mb16041 (mP .u16 [] 0), .blk b16081 [(vU32 pg), v3, (ptr c2 0), (ptr q16041 0), (.slice none 0 0), (vU32 0)] 193], H16081⟩, ?_⟩
      refine WH.take (i := 5) (v := (ptr b16081 0)) rfl rfl (.inl rfl) rfl (by kernel_rfl) ⟨[.blk q16041 [(.map (some mb16041)), (.slice none 0 0), (vN 0)] 264, .obj mb16041 (mP .u16 [] 0), .blk b16081 [(vU32 pg), v3, (ptr c2 0), (ptr q16041 0), (.slice none 0 0), (vU32 0)] 193], H16081⟩ (fun wX hSX => hSX.elim fun LX HX => op_assign rfl ⟨rfl, rfl⟩) ?_
      have hq := st5_2 b16081 q16041 mb16041 w16081 H16081
      rw [hW] at hq
      refine WH.cov ?_ hq
      exact by repeat (first | exact trivial | refine ⟨rfl, ?_⟩)
  have st5_0 : ∀ (wS : World), Own [] w wS [.blk b1 [(vU32 pg), v3] 75, .blk c2 [(vU32 pg), v2, (.map (some mb2))] 196, .row v2 22 1 ([a, b]).length (List.map vU32 ([a, b])), .obj mb2 (mP .i64 [] 0), .row v3 22 1 ([a, b]).length (List.map vU32 [a, b])] → W 4 #[true, true, false, false, false, false] [(0, (.agg #[(vU32 pg), lv])), (1, (ptr b1 0)), (2, (.pointer none)), (3, (vN 0)), (4, (ptr c2 0)), (5, (vN 0)), (9, (.tuple #[(ptr c2 0), (vN 0)])), (10, (.agg #[(vU32 pg), lv])), (11, (.tuple #[(ptr c2 0), (vN 0)])), (12, (ptr c2 0)), (13, (vN 0)), (14, (vN 0)), (15, (.bool (decide (0 ≠ 0)))), (17, (ptr b1 1)), (18, lv), (19, v3), (20, (ptr b1 1)), (21, (.agg #[(vU32 pg), v3])), (22, (ptr c2 0))] wS := by
    intro wS HS
    rw [hW]
    refine WH.all1 (i := 2) (by kernel_rfl) ?_
    ·
      refine WHS.op (i := 2) rfl (.inl rfl) rfl (op_callF Fa.C128 rfl ((nicNew_ok _).mono (fun e w16041 hq => ?_)))
      obtain ⟨q16041, mb16041, rfl, hq16041⟩ := hq
      refine ⟨_, rfl, ?_⟩
      have H16041 : Own [] w w16041 [.blk b1 [(vU32 pg), v3] 75, .blk c2 [(vU32 pg), v2, (.map (some mb2))] 196, .row v2 22 1 ([a, b]).length (List.map vU32 ([a, b])), .obj mb2 (mP .i64 [] 0), .row v3 22 1 ([a, b]).length (List.map vU32 [a, b]), .blk q16041 [(.map (some mb16041)), (.slice none 0 0), (vN 0)] 264, .obj mb16041 (mP .u16 [] 0)] := HS.splice [] [] [.blk q16041 [(.map (some mb16041)), (.slice none 0 0), (vN 0)] 264, .obj mb16041 (mP .u16 [] 0)] rfl rfl hq16041 (Fits.solid True.intro (Fits.solid True.intro Fits.nil))
      refine ⟨⟨[.blk q16041 [(.map (some mb16041)), (.slice none 0 0), (vN 0)] 264, .obj mb16041 (mP .u16 [] 0)], H16041⟩, ?_⟩
      refine WH.take (i := 3) (v := (.agg #[(vU32 pg), v3, (ptr c2 0), (ptr q16041 0), (.slice none 0 0), (vU32 0)])) rfl rfl (.inl rfl) rfl (by kernel_rfl) ⟨[.blk q16041 [(.map (some mb16041)), (.slice none 0 0), (vN 0)] 264, .obj mb16041 (mP .u16 [] 0)], H16041⟩ (fun wX hSX => hSX.elim fun LX HX => op_build (cs := [_, _, _, _, _, _]) Fa.I193 Fa.PL193 rfl rfl ⟨rfl, rfl⟩) ?_
      have hq := st5_1 q16041 mb16041 w16041 H16041
      rw [hW] at hq
      refine WH.cov ?_ hq
      exact by repeat (first | exact trivial | refine ⟨rfl, ?_⟩)
  have hq := st5_0 w5 H5
  rw [hW] at hq ⊢
  refine WH.cov ?_ hq
  exact by repeat (first | exact trivial | refine ⟨rfl, ?_⟩)
set_option maxRecDepth 100000 in
theorem exoNew_ok (pg : UInt32) (lv : Value) (a b : UInt32) (w : World) (hA : Arr w lv 1 2 (List.map vU32 [a, b])) (hok0 : hardE pg [a, b] = 0) :
    Calls Tryz.prog 37 #[(.agg #[(vU32 pg), lv])] w (fun e w' => ∃ x k bv e0 e1 xv cv nv, e = .returned (.tuple #[ptr x 0, vN 0]) ∧ (∀ b' ∈ [k], w.heap.size ≤ b') ∧ (∀ b' ∈ footA bv [e0, e1], w.heap.size ≤ b') ∧ (∀ b' ∈ footA e0 (List.map str (List.replicate a.toNat (List.replicate 64 0))), w.heap.size ≤ b') ∧ (∀ b' ∈ [x], w.heap.size ≤ b') ∧ Own [] w w' [Ent.bo x [(ptr k 0)], Ent.bo k [(vU32 pg), xv, cv, nv, bv], Ent.ar bv 1 2 [e0, e1], .row e1 9 1 b.toNat (List.map str (List.replicate b.toNat (List.replicate 64 0))), Ent.ar e0 1 a.toNat (List.map str (List.replicate a.toNat (List.replicate 64 0)))]) := by
  refine enter (args := [(.agg #[(vU32 pg), lv])]) Tryz.func37 rfl rfl ?_
  have H0 : Own [] w w [] := Own.start w []
  refine WC.seq ?_
  refine WC.region ?_
  refine WL.op rfl rfl (op_box H0 rfl rfl (fun b1 w1 H1 => ?_))
  refine WL.op rfl rfl (op_assign rfl ?_)
  refine WL.op rfl rfl (op_assign rfl ?_)
  refine WL.nil ?_
  refine WQ.next ?_
  refine WC.seq ?_
  refine WC.region ?_
  refine WL.op rfl rfl (op_loadS (vs := [_, _]) rfl (H1.cells (i := 0) rfl rfl) Tryz.underlying75 rfl Fa.I75 rfl ?_)
  refine WL.op rfl rfl (op_callF Fa.C83 rfl ((callsNew_ok pg _ a b _ (H1.arr hA) hok0).mono (fun e w2 hq => ?_)))
  obtain ⟨k2, bv2, e02, e12, xv2, cv2, nv2, rfl, hf02, hf12, hf22, hq2⟩ := hq
  refine ⟨_, rfl, ?_⟩
  have H2 : Own [] w w2 [.blk b1 [(vU32 pg), lv] 75, Ent.bo k2 [(vU32 pg), xv2, cv2, nv2, bv2], Ent.ar bv2 1 2 [e02, e12], .row e12 9 1 b.toNat (List.map str (List.replicate b.toNat (List.replicate 64 0))), Ent.ar e02 1 a.toNat (List.map str (List.replicate a.toNat (List.replicate 64 0)))] := H1.splice [] [] [Ent.bo k2 [(vU32 pg), xv2, cv2, nv2, bv2], Ent.ar bv2 1 2 [e02, e12], .row e12 9 1 b.toNat (List.map str (List.replicate b.toNat (List.replicate 64 0))), Ent.ar e02 1 a.toNat (List.map str (List.replicate a.toNat (List.replicate 64 0)))] rfl rfl hq2 (Fits.fresh hf02 (Fits.fresh hf12 (Fits.solid True.intro (Fits.fresh hf22 Fits.nil))))
  refine WL.op rfl rfl (op_move rfl ?_)
  refine WL.op rfl rfl (op_extract rfl rfl ?_)
  refine WL.op rfl rfl (op_extract rfl rfl ?_)
  refine WL.op rfl rfl (op_assign rfl ?_)
  refine WL.op rfl rfl (op_assign rfl ?_)
  refine WL.nil ?_
  refine WQ.next ?_
  refine WC.seq ?_
  refine WC.seq ?_
  refine WC.region ?_
  refine WL.op rfl rfl (op_move rfl ?_)
  refine WL.op rfl rfl (op_neqN (b := 0) rfl rfl ?_)
  refine WL.nil ?_
  refine WQ.next ?_
  refine WC.no rfl (by decide) ?_
  refine WC.skip ?_
  refine WQ.next ?_
  refine WC.seq ?_
  refine WC.region ?_
  have hs : w.heap.size ≤ w1.heap.size := H1.fr.size
  refine WL.op rfl rfl (op_move rfl ?_)
  refine WL.op rfl rfl (op_build (cs := [_, _, _, _, _, _, _, _, _, _, _, _, _, _, _, _, _, _, _, _, _, _, _, _, _, _, _, _, _]) Fa.I146 Fa.PL146 rfl rfl ?_)
  refine WL.op rfl rfl (op_box H2 rfl rfl (fun b3 w3 H3 => ?_))
  refine WL.op rfl rfl (op_assign rfl ?_)
  refine WL.op rfl rfl (op_assign rfl ?_)
  refine WL.nil ?_
  refine WQ.next ?_
  refine WC.ret ?_
  refine WQ.out (.tmp rfl (.tmp rfl .nil)) ?_
  have h := (show Own [] w w3 [.blk b1 [(vU32 pg), lv] 75, Ent.bo k2 [(vU32 pg), xv2, cv2, nv2, bv2], Ent.ar bv2 1 2 [e02, e12], .row e12 9 1 b.toNat (List.map str (List.replicate b.toNat (List.replicate 64 0))), Ent.ar e02 1 a.toNat (List.map str (List.replicate a.toNat (List.replicate 64 0))), .blk b3 [(ptr k2 0), (.bool false), (vN 0), (.pointer none), (.bool false), (vN 0), (.pointer none), (.bool false), (vN 0), (.pointer none), (.bool false), (vN 0), (.pointer none), (.bool false), (vN 0), (.pointer none), (.bool false), (vN 0), (.pointer none), (.bool false), (vN 0), (.pointer none), (.bool false), (vN 0), (.pointer none), (.bool false), (vN 0), (.pointer none), (.slice none 0 0)] 146] from H3)
  exact ⟨_, _, _, _, _, _, _, _, rfl, up hf02 hs, up hf12 hs, up hf22 hs, (fun b hb => by rw [List.mem_singleton] at hb; subst hb; exact h.fresh0 (i := 5) rfl rfl), (h.toBo (i := 5) rfl 1 rfl).sel [5, 1, 2, 3, 4] rfl rfl⟩
theorem xblk_any (x : Nat) (k : Nat) (bv ev xv cv nv : Value) (pg : UInt32) (m n : Nat) (es : List Value) (B : List (List UInt8)) (id : UInt32) (j : Nat) (w : World) (hX : cellsAt w x [(ptr k 0)]) (hK : cellsAt w k [(vU32 pg), xv, cv, nv, bv]) (hV : Arr w bv 1 m es) (hE : Arr w ev 1 n (List.map str B)) (hid : id.toNat < m) (hev : es[id.toNat]? = some ev) (hj2 : j < 2 ^ 32) :
    Calls Tryz.prog 29 #[ptr x 0, vU32 id, vU32 (UInt32.ofNat j)] w (fun e w' => e = .returned (.tuple #[str (bAt B n j), vN (bE n j)]) ∧ Fr [] w w') := by
  by_cases hj : j < n
  · rw [bAt, bE, if_pos hj, if_pos hj]
    exact xblk_in x k bv ev xv cv nv pg m n es B id j w hX hK hV hE hid hev hj hj2
  · rw [bAt, bE, if_neg hj, if_neg hj]
    exact xblk_out x k bv ev xv cv nv pg m n es B id j w hX hK hV hE hid hev hj hj2
set_option maxRecDepth 100000 in
theorem new44_ok (x : Nat) (k : Nat) (bv ev xv cv nv : Value) (pg : UInt32) (m n : Nat) (es : List Value) (B : List (List UInt8)) (id : UInt32) (key : List UInt8) (w : World) (hX : cellsAt w x [(ptr k 0)]) (hK : cellsAt w k [(vU32 pg), xv, cv, nv, bv]) (hV : Arr w bv 1 m es) (hE : Arr w ev 1 n (List.map str B)) (hid : id.toNat < m) (hev : es[id.toNat]? = some ev) (h4 : 4 ≤ n) (hm : n ≤ 1024) :
    Calls Tryz.prog 11 #[(ptr x 0), (vU32 id), (str key)] w (fun e w' => ∃ s, e = .returned (.tuple #[ptr s 0, vN 0]) ∧ Own [] w w' [.blk s [ptr x 0, vU32 id, str key, vN ((n - 2) / 2), vI (-1)] 95]) := by
  refine enter (args := [(ptr x 0), (vU32 id), (str key)]) Tryz.func11 rfl rfl ?_
  have H0 : Own [] w w [Ent.bo x [(ptr k 0)], Ent.bo k [(vU32 pg), xv, cv, nv, bv], Ent.ar bv 1 m es, Ent.ar ev 1 n (List.map str B)] := (((((Own.start w []).oldB hX).oldB hK).oldA hV).oldA hE)
  refine WC.seq ?_
  refine WC.region ?_
  refine WL.op rfl rfl (op_assign rfl ?_)
  refine WL.op rfl rfl (op_assign rfl ?_)
  refine WL.nil ?_
  refine WQ.next ?_
  refine WC.seq ?_
  refine WC.seq ?_
  refine WC.region ?_
  refine WL.op rfl rfl (op_move rfl ?_)
  refine WL.op rfl rfl (op_eqlPN Fa.PT47 rfl rfl ?_)
  refine WL.nil ?_
  refine WQ.next ?_
  refine WC.no rfl rfl ?_
  refine WC.skip ?_
  refine WQ.next ?_
  refine WC.seq ?_
  refine WC.region ?_
  refine WL.op rfl rfl (op_assign rfl ?_)
  refine WL.nil ?_
  refine WQ.next ?_
  refine WC.cut (α := Unit) (fun _ => [(0, (ptr x 0)), (1, (vU32 id)), (2, (str key)), (8, (vN n))]) (fun _ w' => Own [] w w' [Ent.bo x [(ptr k 0)], Ent.bo k [(vU32 pg), xv, cv, nv, bv], Ent.ar bv 1 m es, Ent.ar ev 1 n (List.map str B)]) ?_ ?_
  ·
    refine WC.block ?_
    refine WC.loop (α := Nat) (fun u => [(0, (ptr x 0)), (1, (vU32 id)), (2, (str key)), (8, (vN u))]) (fun u w' => (u ≤ n) ∧ Own [] w w' [Ent.bo x [(ptr k 0)], Ent.bo k [(vU32 pg), xv, cv, nv, bv], Ent.ar bv 1 m es, Ent.ar ev 1 n (List.map str B)]) (fun u => n - u) 0 ⟨(Nat.zero_le _), H0⟩ ⟨rfl, rfl, rfl, rfl, trivial⟩ ?_
    rintro u w1 ⟨hinv, H1⟩
    show WC _ _ _ _ _ [(0, (ptr x 0)), (1, (vU32 id)), (2, (str key)), (8, (vN u))] _
    refine WC.seq ?_
    refine WC.seq ?_
    refine WC.region ?_
    refine WL.op rfl rfl (op_move rfl ?_)
    refine WL.op rfl rfl (op_lssN (b := 1024) rfl rfl ?_)
    refine WL.nil ?_
    refine WQ.next ?_
    refine WC.cond rfl (fun (hb2 : (decide (u < 1024)) = true) => ?_) (fun (hb2 : (decide (u < 1024)) = false) => ?_)
    ·
      have hc2 := of_decide_eq_true hb2
      refine WC.skip ?_
      refine WQ.next ?_
      refine WC.block ?_
      refine WC.seq ?_
      refine WC.seq ?_
      refine WC.region ?_
      refine WL.op rfl rfl (op_move rfl ?_)
      refine WL.op rfl rfl (op_move rfl ?_)
      refine WL.op rfl rfl (op_move rfl ?_)
      refine WL.op rfl rfl (op_convNU32 (hs := Tryz.underlying3) (hd := Tryz.underlying22) rfl ?_)
      refine WL.op rfl rfl (op_callF Fa.C29 rfl ((xblk_any x k bv ev xv cv nv pg m n es B id u _ (H1.cellsAtO (i := 0) rfl) (H1.cellsAtO (i := 1) rfl) (H1.arrO (i := 2) rfl) (H1.arrO (i := 3) rfl) hid hev (by omega)).mono (fun e w3 hq => ?_)))
      obtain ⟨rfl, hf3⟩ := hq
      refine ⟨_, rfl, ?_⟩
      have H3 := H1.fr' hf3
      refine WL.op rfl rfl (op_move rfl ?_)
      refine WL.op rfl rfl (op_extract rfl rfl ?_)
      refine WL.op rfl rfl (op_extract rfl rfl ?_)
      refine WL.op rfl rfl (op_assign rfl ?_)
      refine WL.op rfl rfl (op_assign rfl ?_)
      refine WL.nil ?_
      refine WQ.next ?_
      refine WC.seq ?_
      refine WC.region ?_
      refine WL.op rfl rfl (op_move rfl ?_)
      refine WL.op rfl rfl (op_neqN (b := 0) rfl rfl ?_)
      refine WL.nil ?_
      refine WQ.next ?_
      refine WC.cond rfl (fun (hb4 : (decide ((bE n u) ≠ 0)) = true) => ?_) (fun (hb4 : (decide ((bE n u) ≠ 0)) = false) => ?_)
      ·
        have hc4 := of_decide_eq_true hb4
        refine WC.exit ?_
        refine WQ.thenExit ?_
        refine WQ.inPass rfl ?_
        refine WQ.thenExit ?_
        refine WQ.inHere ?_
        exact WQ.here () H3 ⟨rfl, rfl, rfl, (by rw [show u = n by have := bE_1 (of_decide_eq_true hb4); omega]; rfl), trivial⟩
      ·
        have hc4 := of_decide_eq_false hb4
        refine WC.skip ?_
        refine WQ.next ?_
        refine WC.region ?_
        refine WL.op rfl rfl (op_move rfl ?_)
        refine WL.op rfl rfl (op_addN (b := 1) rfl rfl (by omega) ?_)
        refine WL.op rfl rfl (op_assign rfl ?_)
        refine WL.nil ?_
        refine WQ.inNormal ?_
        exact WQ.round (u + 1) ⟨(by have := bE_0 (of_decide_eq_false hb4); omega), H3⟩ ⟨rfl, rfl, rfl, rfl, trivial⟩ (by have := bE_0 (of_decide_eq_false hb4); omega)
    ·
      have hc2 := of_decide_eq_false hb2
      refine WC.exit ?_
      refine WQ.thenExit ?_
      refine WQ.thenExit ?_
      refine WQ.inHere ?_
      exact WQ.here () H1 ⟨rfl, rfl, rfl, (by rw [show u = n by omega]; rfl), trivial⟩
  ·
    rintro _ w5 H5
    show WC _ _ _ _ _ [(0, (ptr x 0)), (1, (vU32 id)), (2, (str key)), (8, (vN n))] _
    refine WC.seq ?_
    refine WC.seq ?_
    refine WC.region ?_
    refine WL.op rfl rfl (op_move rfl ?_)
    refine WL.op rfl rfl (op_lssN (b := 4) rfl rfl ?_)
    refine WL.nil ?_
    refine WQ.next ?_
    refine WC.no rfl (decide_eq_false (by omega)) ?_
    refine WC.skip ?_
    refine WQ.next ?_
    refine WC.seq ?_
    refine WC.region ?_
    refine WL.op rfl rfl (op_move rfl ?_)
    refine WL.op rfl rfl (op_move rfl ?_)
    refine WL.op rfl rfl (op_move rfl ?_)
    refine WL.op rfl rfl (op_move rfl ?_)
    refine WL.op rfl rfl (op_subN (b := 2) rfl rfl (by omega) (by omega) ?_)
    refine WL.op rfl rfl (op_quoN (b := 2) rfl rfl (by omega) (by omega) ?_)
    refine WL.op rfl rfl (op_build (cs := [_, _, _, _, _]) Fa.I95 Fa.PL95 rfl rfl ?_)
    refine WL.op rfl rfl (op_box H5 rfl rfl (fun b6 w6 H6 => ?_))
    refine WL.op rfl rfl (op_assign rfl ?_)
    refine WL.op rfl rfl (op_assign rfl ?_)
    refine WL.nil ?_
    refine WQ.next ?_
    refine WC.ret ?_
    refine WQ.out (.tmp rfl (.tmp rfl .nil)) ?_
    exact ⟨_, rfl, H6.sel [4] rfl rfl⟩
set_option maxRecDepth 100000 in
theorem new44_no (x : Nat) (k : Nat) (bv ev xv cv nv : Value) (pg : UInt32) (m n : Nat) (es : List Value) (B : List (List UInt8)) (id : UInt32) (key : List UInt8) (w : World) (hX : cellsAt w x [(ptr k 0)]) (hK : cellsAt w k [(vU32 pg), xv, cv, nv, bv]) (hV : Arr w bv 1 m es) (hE : Arr w ev 1 n (List.map str B)) (hid : id.toNat < m) (hev : es[id.toNat]? = some ev) (h4 : n < 4) (hm : n ≤ 1024) :
    Calls Tryz.prog 11 #[(ptr x 0), (vU32 id), (str key)] w (fun e w' => e = .returned (.tuple #[.pointer none, vN 2]) ∧ Fr [] w w') := by
  refine enter (args := [(ptr x 0), (vU32 id), (str key)]) Tryz.func11 rfl rfl ?_
  have H0 : Own [] w w [Ent.bo x [(ptr k 0)], Ent.bo k [(vU32 pg), xv, cv, nv, bv], Ent.ar bv 1 m es, Ent.ar ev 1 n (List.map str B)] := (((((Own.start w []).oldB hX).oldB hK).oldA hV).oldA hE)
  refine WC.seq ?_
  refine WC.region ?_
  refine WL.op rfl rfl (op_assign rfl ?_)
  refine WL.op rfl rfl (op_assign rfl ?_)
  refine WL.nil ?_
  refine WQ.next ?_
  refine WC.seq ?_
  refine WC.seq ?_
  refine WC.region ?_
  refine WL.op rfl rfl (op_move rfl ?_)
  refine WL.op rfl rfl (op_eqlPN Fa.PT47 rfl rfl ?_)
  refine WL.nil ?_
  refine WQ.next ?_
  refine WC.no rfl rfl ?_
  refine WC.skip ?_
  refine WQ.next ?_
  refine WC.seq ?_
  refine WC.region ?_
  refine WL.op rfl rfl (op_assign rfl ?_)
  refine WL.nil ?_
  refine WQ.next ?_
  refine WC.cut (α := Unit) (fun _ => [(0, (ptr x 0)), (1, (vU32 id)), (2, (str key)), (8, (vN n))]) (fun _ w' => Own [] w w' [Ent.bo x [(ptr k 0)], Ent.bo k [(vU32 pg), xv, cv, nv, bv], Ent.ar bv 1 m es, Ent.ar ev 1 n (List.map str B)]) ?_ ?_
  ·
    refine WC.block ?_
    refine WC.loop (α := Nat) (fun u => [(0, (ptr x 0)), (1, (vU32 id)), (2, (str key)), (8, (vN u))]) (fun u w' => (u ≤ n) ∧ Own [] w w' [Ent.bo x [(ptr k 0)], Ent.bo k [(vU32 pg), xv, cv, nv, bv], Ent.ar bv 1 m es, Ent.ar ev 1 n (List.map str B)]) (fun u => n - u) 0 ⟨(Nat.zero_le _), H0⟩ ⟨rfl, rfl, rfl, rfl, trivial⟩ ?_
    rintro u w1 ⟨hinv, H1⟩
    show WC _ _ _ _ _ [(0, (ptr x 0)), (1, (vU32 id)), (2, (str key)), (8, (vN u))] _
    refine WC.seq ?_
    refine WC.seq ?_
    refine WC.region ?_
    refine WL.op rfl rfl (op_move rfl ?_)
    refine WL.op rfl rfl (op_lssN (b := 1024) rfl rfl ?_)
    refine WL.nil ?_
    refine WQ.next ?_
    refine WC.cond rfl (fun (hb2 : (decide (u < 1024)) = true) => ?_) (fun (hb2 : (decide (u < 1024)) = false) => ?_)
    ·
      have hc2 := of_decide_eq_true hb2
      refine WC.skip ?_
      refine WQ.next ?_
      refine WC.block ?_
      refine WC.seq ?_
      refine WC.seq ?_
      refine WC.region ?_
      refine WL.op rfl rfl (op_move rfl ?_)
      refine WL.op rfl rfl (op_move rfl ?_)
      refine WL.op rfl rfl (op_move rfl ?_)
      refine WL.op rfl rfl (op_convNU32 (hs := Tryz.underlying3) (hd := Tryz.underlying22) rfl ?_)
      refine WL.op rfl rfl (op_callF Fa.C29 rfl ((xblk_any x k bv ev xv cv nv pg m n es B id u _ (H1.cellsAtO (i := 0) rfl) (H1.cellsAtO (i := 1) rfl) (H1.arrO (i := 2) rfl) (H1.arrO (i := 3) rfl) hid hev (by omega)).mono (fun e w3 hq => ?_)))
      obtain ⟨rfl, hf3⟩ := hq
      refine ⟨_, rfl, ?_⟩
      have H3 := H1.fr' hf3
      refine WL.op rfl rfl (op_move rfl ?_)
      refine WL.op rfl rfl (op_extract rfl rfl ?_)
      refine WL.op rfl rfl (op_extract rfl rfl ?_)
      refine WL.op rfl rfl (op_assign rfl ?_)
      refine WL.op rfl rfl (op_assign rfl ?_)
      refine WL.nil ?_
      refine WQ.next ?_
      refine WC.seq ?_
      refine WC.region ?_
      refine WL.op rfl rfl (op_move rfl ?_)
      refine WL.op rfl rfl (op_neqN (b := 0) rfl rfl ?_)
      refine WL.nil ?_
      refine WQ.next ?_
      refine WC.cond rfl (fun (hb4 : (decide ((bE n u) ≠ 0)) = true) => ?_) (fun (hb4 : (decide ((bE n u) ≠ 0)) = false) => ?_)
      ·
        have hc4 := of_decide_eq_true hb4
        refine WC.exit ?_
        refine WQ.thenExit ?_
        refine WQ.inPass rfl ?_
        refine WQ.thenExit ?_
        refine WQ.inHere ?_
        exact WQ.here () H3 ⟨rfl, rfl, rfl, (by rw [show u = n by have := bE_1 (of_decide_eq_true hb4); omega]; rfl), trivial⟩
      ·
        have hc4 := of_decide_eq_false hb4
        refine WC.skip ?_
        refine WQ.next ?_
        refine WC.region ?_
        refine WL.op rfl rfl (op_move rfl ?_)
        refine WL.op rfl rfl (op_addN (b := 1) rfl rfl (by omega) ?_)
        refine WL.op rfl rfl (op_assign rfl ?_)
        refine WL.nil ?_
        refine WQ.inNormal ?_
        exact WQ.round (u + 1) ⟨(by have := bE_0 (of_decide_eq_false hb4); omega), H3⟩ ⟨rfl, rfl, rfl, rfl, trivial⟩ (by have := bE_0 (of_decide_eq_false hb4); omega)
    ·
      have hc2 := of_decide_eq_false hb2
      refine WC.exit ?_
      refine WQ.thenExit ?_
      refine WQ.thenExit ?_
      refine WQ.inHere ?_
      exact WQ.here () H1 ⟨rfl, rfl, rfl, (by rw [show u = n by omega]; rfl), trivial⟩
  ·
    rintro _ w5 H5
    show WC _ _ _ _ _ [(0, (ptr x 0)), (1, (vU32 id)), (2, (str key)), (8, (vN n))] _
    refine WC.seq ?_
    refine WC.seq ?_
    refine WC.region ?_
    refine WL.op rfl rfl (op_move rfl ?_)
    refine WL.op rfl rfl (op_lssN (b := 4) rfl rfl ?_)
    refine WL.nil ?_
    refine WQ.next ?_
    refine WC.yes rfl (decide_eq_true (by omega)) ?_
    refine WC.seq ?_
    refine WC.region ?_
    refine WL.op rfl rfl (op_assign rfl ?_)
    refine WL.op rfl rfl (op_assign rfl ?_)
    refine WL.nil ?_
    refine WQ.next ?_
    refine WC.ret ?_
    refine WQ.thenRet ?_
    refine WQ.out (.tmp rfl (.tmp rfl .nil)) ?_
    exact ⟨rfl, H5.fr⟩
end Go.Proofs.YtbjhccnffacbcaaGreat
