/- General lemmas and walks: WCap11, WCap12, WCap13, WCap14, WCap15, WCap16, WSeq, WSeq2, NSort. No condition but what each theorem names. -/
import Derived.Test.YtbjhccnffacbcaaQ87ceff81
import Derived.Test.YtbjhccnffacbcaaQ02f141bf
import Derived.Test.YtbjhccnffacbcaaQ726357e9
import Derived.Test.YtbjhccnffacbcaaQ9c6e21d5
/-! from WCap11 -/
namespace Go.Proofs.Ytbjhccnffacbcaa
open Go.Owl Go.Spec
set_option maxRecDepth 100000 in
theorem take_bad (c : Nat) (pg : UInt32) (hv : Value) (he : List UInt32) (mb cn : Nat) (gs : List Gr) (env : Int) (g : Gr) (w : World) (hC : cellsAt w c [(vU32 pg), hv, (.map (some mb))]) (hH : Arr w hv 1 he.length (List.map vU32 he)) (hM : w.heap[mb]? = some (mP .i64 (List.map Gr.me gs) cn)) (hG : BsOK 120 Gr.cells Gr.b gs w) (hS : grD.list.ok w gs) (hME : MEok (List.map Gr.me gs) cn) (hg : g ∈ gs) (hge : (g.e : Int) = env) (hw : g.tk ≥ g.pg) :
  Calls Try.prog 22 #[(ptr c 0), (vI env)] w (fun e w' => e = .returned (vN 4) ∧ Fr [] w w') := by
 refine enter (args := [(ptr c 0), (vI env)]) Try.func22 rfl rfl ?_
 have H0 : Owl.Own [] w w [Ent.bo c [(vU32 pg), hv, (.map (some mb))], Ent.ar hv 1 he.length (List.map vU32 he), Ent.mo .i64 mb (List.map Gr.me gs) cn, Ent.bsO 120 Gr.cells Gr.b gs, Ent.dp grD.list gs] := ((((((Own.start w []).oldB hC).oldA hH).mpOld hM).bsOld hG).dpOld hS)
 refine ws ?_
 refine wo (op_assign rfl ?_)
 refine wn ?_
 refine ws ?_
 refine wo (op_move rfl ?_)
 refine wo (op_move rfl ?_)
 have H1 : Owl.Own [] w w [Ent.bo c [(vU32 pg), hv, (.map (some mb))], Ent.ar hv 1 he.length (List.map vU32 he), Ent.mo .i64 mb (List.map Gr.me gs) cn, Ent.bsO 120 Gr.cells Gr.b gs, Ent.dp grD.list gs, Ent.bo g.b [(vU32 g.pg), g.ev, g.pv, (.bool g.con), (vU32 g.pp), (vU32 g.tk)], Ent.ar g.ev 2 g.xs.length (List.flatMap xtc g.xs), Ent.ar g.pv 1 g.ps.length (List.map vU16 g.ps)] := (((H0.bsView (i := 3) (a := g) rfl hg).dpView (i := 4) (a := g) rfl hg (fun w h => h.1) (fun b hb => List.mem_append.2 (.inl hb))).dpView (i := 4) (a := g) rfl hg (fun w h => h.2) (fun b hb => List.mem_append.2 (.inr hb)))
 refine wo (op_callF Fa.C60 rfl ((of_some c pg hv he mb cn gs env g _ (H1.cellsAtO (i := 0) rfl) (H1.arrO (i := 1) rfl) (H1.mpO (i := 2) rfl) (H1.bsR (i := 3) rfl) (H1.dpO (i := 4) rfl) hME hg hge).mono (fun e w2 hq => ?_)))
 obtain ⟨rfl, hf2⟩ := hq
 refine ⟨_, rfl, ?_⟩
 have H2 := H1.fr' hf2
 refine wo (op_move rfl ?_)
 refine wo (op_extract rfl rfl ?_)
 refine wo (op_extract rfl rfl ?_)
 refine wo (op_assign rfl ?_)
 refine wo (op_assign rfl ?_)
 refine wn ?_
 refine WC.seq ?_
 refine WC.block ?_
 refine ws ?_
 refine wo (op_move rfl ?_)
 refine wo (op_eqlPN Fa.PT52 rfl rfl ?_)
 refine wo (op_assign rfl ?_)
 refine wn ?_
 refine WC.no rfl rfl ?_
 refine ws ?_
 refine wo (op_move rfl ?_)
 refine wo (op_not rfl ?_)
 refine wo (op_assign rfl ?_)
 refine wn ?_
 refine WC.no rfl (congrArg Bool.not rfl) ?_
 refine WC.seq ?_
 refine WC.draw 11 Fa.M H2 (HW.op rfl (fun w1 H1 => op_move rfl ⟨rfl, Fr.refl _ _⟩) (HW.op rfl (fun w1 H1 => op_nilCheck rfl ⟨rfl, Fr.refl _ _⟩) (HW.op rfl (fun w1 H1 => op_fieldAddr rfl Fa.F120_2 ⟨rfl, Fr.refl _ _⟩) (HW.op rfl (fun w1 H1 => op_load rfl (H1.cellO (i := 5) rfl rfl) Try.underlying29 rfl ⟨rfl, Fr.refl _ _⟩) (HW.op rfl (fun w1 H1 => op_move rfl ⟨rfl, Fr.refl _ _⟩) (HW.op rfl (fun w1 H1 => op_nilCheck rfl ⟨rfl, Fr.refl _ _⟩) (HW.op rfl (fun w1 H1 => op_fieldAddr rfl Fa.F120_0 ⟨rfl, Fr.refl _ _⟩) (HW.op rfl (fun w1 H1 => op_fieldAddr rfl Fa.F59_0 ⟨rfl, Fr.refl _ _⟩) (HW.op rfl (fun w1 H1 => op_load rfl (H1.cellO (i := 5) rfl rfl) Try.underlying29 rfl ⟨rfl, Fr.refl _ _⟩) (HW.op rfl (fun w1 H1 => op_geqU32 rfl rfl ⟨rfl, Fr.refl _ _⟩) (HW.op rfl (fun w1 H1 => op_assign rfl ⟨rfl, Fr.refl _ _⟩)  HW.nil))))))))))) (by kernel_rfl) ?_
 intro β3 w3 H3
 refine wn ?_
 refine WC.yes rfl (decide_eq_true hw) ?_
 refine ws ?_
 refine wo (op_assign rfl ?_)
 refine wn ?_
 refine WC.ret ?_
 refine WQ.inRet ?_
 refine WQ.thenRet ?_
 refine WQ.out (.tmp rfl .nil) ?_
 exact ⟨rfl, H3.fr⟩
set_option maxRecDepth 100000 in
theorem take_no (c : Nat) (pg : UInt32) (hv : Value) (he : List UInt32) (mb cn : Nat) (gs : List Gr) (env : Int) (w : World) (hC : cellsAt w c [(vU32 pg), hv, (.map (some mb))]) (hH : Arr w hv 1 he.length (List.map vU32 he)) (hM : w.heap[mb]? = some (mP .i64 (List.map Gr.me gs) cn)) (hG : BsOK 120 Gr.cells Gr.b gs w) (hS : grD.list.ok w gs) (hME : MEok (List.map Gr.me gs) cn) (no : ∀ g ∈ gs, (g.e : Int) ≠ env) :
  Calls Try.prog 22 #[(ptr c 0), (vI env)] w (fun e w' => e = .returned (vN 3) ∧ Fr [] w w') := by
 refine enter (args := [(ptr c 0), (vI env)]) Try.func22 rfl rfl ?_
 have H0 : Owl.Own [] w w [Ent.bo c [(vU32 pg), hv, (.map (some mb))], Ent.ar hv 1 he.length (List.map vU32 he), Ent.mo .i64 mb (List.map Gr.me gs) cn, Ent.bsO 120 Gr.cells Gr.b gs, Ent.dp grD.list gs] := ((((((Own.start w []).oldB hC).oldA hH).mpOld hM).bsOld hG).dpOld hS)
 refine ws ?_
 refine wo (op_assign rfl ?_)
 refine wn ?_
 refine ws ?_
 refine wo (op_move rfl ?_)
 refine wo (op_move rfl ?_)
 refine wo (op_callF Fa.C60 rfl ((of_no c pg hv he mb cn gs env _ (H0.cellsAtO (i := 0) rfl) (H0.arrO (i := 1) rfl) (H0.mpO (i := 2) rfl) (H0.bsR (i := 3) rfl) (H0.dpO (i := 4) rfl) hME no).mono (fun e w1 hq => ?_)))
 obtain ⟨b1, rfl, hq1⟩ := hq
 refine ⟨_, rfl, ?_⟩
 have H1 : Owl.Own [] w w1 [Ent.bo c [(vU32 pg), hv, (.map (some mb))], Ent.ar hv 1 he.length (List.map vU32 he), Ent.mo .i64 mb (List.map Gr.me gs) cn, Ent.bsO 120 Gr.cells Gr.b gs, Ent.dp grD.list gs, .blk b1 [(vU32 0), (.slice none 0 0), (.slice none 0 0), (.bool false), (vU32 0), (vU32 0)] 120] := H0.splice [] [] [.blk b1 [(vU32 0), (.slice none 0 0), (.slice none 0 0), (.bool false), (vU32 0), (vU32 0)] 120] rfl rfl hq1 (Fits.solid True.intro Fits.nil)
 refine wo (op_move rfl ?_)
 refine wo (op_extract rfl rfl ?_)
 refine wo (op_extract rfl rfl ?_)
 refine wo (op_assign rfl ?_)
 refine wo (op_assign rfl ?_)
 refine wn ?_
 refine WC.seq ?_
 refine WC.block ?_
 refine ws ?_
 refine wo (op_move rfl ?_)
 refine wo (op_eqlPN Fa.PT52 rfl rfl ?_)
 refine wo (op_assign rfl ?_)
 refine wn ?_
 refine WC.no rfl rfl ?_
 refine ws ?_
 refine wo (op_move rfl ?_)
 refine wo (op_not rfl ?_)
 refine wo (op_assign rfl ?_)
 refine wn ?_
 refine WC.yes rfl (congrArg Bool.not rfl) ?_
 refine ws ?_
 refine wo (op_assign rfl ?_)
 refine wn ?_
 refine WC.ret ?_
 refine WQ.inRet ?_
 refine WQ.thenRet ?_
 refine WQ.out (.tmp rfl .nil) ?_
 exact ⟨rfl, H1.fr⟩
set_option maxRecDepth 100000 in
theorem take_yes (c : Nat) (pg : UInt32) (hv : Value) (he : List UInt32) (mb cn : Nat) (l1 l2 : List Gr) (g : Gr) (env : Int) (T : List Nat) (w : World) (H : Owl.Own T w w [.blk c [(vU32 pg), hv, (.map (some mb))] 112, Ent.ar hv 1 he.length (List.map vU32 he), .obj mb (mP .i64 (List.map Gr.me (l1 ++ g :: l2)) cn), Ent.bs 120 Gr.cells Gr.b (l1 ++ g :: l2), Ent.dp grD.list (l1 ++ g :: l2)]) (hME : MEok (List.map Gr.me (l1 ++ g :: l2)) cn) (hge : (g.e : Int) = env) (hw : ¬ g.tk ≥ g.pg) :
  Calls Try.prog 22 #[(ptr c 0), (vI env)] w (fun e w' => e = .returned (vN 0) ∧ Owl.Own T w w' [.blk c [(vU32 pg), hv, (.map (some mb))] 112, Ent.ar hv 1 he.length (List.map vU32 he), .obj mb (mP .i64 (List.map Gr.me (l1 ++ ({ g with tk := g.tk + 1 } : Gr) :: l2)) cn), Ent.bs 120 Gr.cells Gr.b (l1 ++ ({ g with tk := g.tk + 1 } : Gr) :: l2), Ent.dp grD.list (l1 ++ ({ g with tk := g.tk + 1 } : Gr) :: l2)]) := by
 refine enter (args := [(ptr c 0), (vI env)]) Try.func22 rfl rfl ?_
 refine ws ?_
 refine wo (op_assign rfl ?_)
 refine wn ?_
 refine ws ?_
 refine wo (op_move rfl ?_)
 refine wo (op_move rfl ?_)
 refine wo (op_callF Fa.C60 rfl ((of_some c pg hv he mb cn (l1 ++ g :: l2) env g _ (H.cellsAt (i := 0) rfl) (H.arrO (i := 1) rfl) (H.mp (i := 2) rfl) (H.bsG (i := 3) rfl) (H.dpO (i := 4) rfl) hME (by simp) hge).mono (fun e w1 hq => ?_)))
 obtain ⟨rfl, hf1⟩ := hq
 refine ⟨_, rfl, ?_⟩
 have H1 := H.fr' hf1
 have H2 : Owl.Own T w w1 [.blk c [(vU32 pg), hv, (.map (some mb))] 112, Ent.ar hv 1 he.length (List.map vU32 he), .obj mb (mP .i64 (List.map Gr.me (l1 ++ g :: l2)) cn), Ent.bs 120 Gr.cells Gr.b (l1 ++ l2), Ent.dp grD.list (l1 ++ g :: l2), .blk g.b [(vU32 g.pg), g.ev, g.pv, (.bool g.con), (vU32 g.pp), (vU32 g.tk)] 120] := H1.focus (i := 3) (l1 := l1) (l2 := l2) (a := g) (f := Gr.cells) (bl := Gr.b) rfl
 refine wo (op_move rfl ?_)
 refine wo (op_extract rfl rfl ?_)
 refine wo (op_extract rfl rfl ?_)
 refine wo (op_assign rfl ?_)
 refine wo (op_assign rfl ?_)
 refine wn ?_
 refine WC.seq ?_
 refine WC.block ?_
 refine ws ?_
 refine wo (op_move rfl ?_)
 refine wo (op_eqlPN Fa.PT52 rfl rfl ?_)
 refine wo (op_assign rfl ?_)
 refine wn ?_
 refine WC.no rfl rfl ?_
 refine ws ?_
 refine wo (op_move rfl ?_)
 refine wo (op_not rfl ?_)
 refine wo (op_assign rfl ?_)
 refine wn ?_
 refine WC.no rfl (congrArg Bool.not rfl) ?_
 refine WC.seq ?_
 refine WC.draw 11 Fa.M H2 (HW.op rfl (fun w1 H1 => op_move rfl ⟨rfl, Fr.refl _ _⟩) (HW.op rfl (fun w1 H1 => op_nilCheck rfl ⟨rfl, Fr.refl _ _⟩) (HW.op rfl (fun w1 H1 => op_fieldAddr rfl Fa.F120_2 ⟨rfl, Fr.refl _ _⟩) (HW.op rfl (fun w1 H1 => op_load rfl (H1.cell (i := 5) rfl rfl) Try.underlying29 rfl ⟨rfl, Fr.refl _ _⟩) (HW.op rfl (fun w1 H1 => op_move rfl ⟨rfl, Fr.refl _ _⟩) (HW.op rfl (fun w1 H1 => op_nilCheck rfl ⟨rfl, Fr.refl _ _⟩) (HW.op rfl (fun w1 H1 => op_fieldAddr rfl Fa.F120_0 ⟨rfl, Fr.refl _ _⟩) (HW.op rfl (fun w1 H1 => op_fieldAddr rfl Fa.F59_0 ⟨rfl, Fr.refl _ _⟩) (HW.op rfl (fun w1 H1 => op_load rfl (H1.cell (i := 5) rfl rfl) Try.underlying29 rfl ⟨rfl, Fr.refl _ _⟩) (HW.op rfl (fun w1 H1 => op_geqU32 rfl rfl ⟨rfl, Fr.refl _ _⟩) (HW.op rfl (fun w1 H1 => op_assign rfl ⟨rfl, Fr.refl _ _⟩)  HW.nil))))))))))) (by kernel_rfl) ?_
 intro β3 w3 H3
 refine wn ?_
 refine WC.no rfl (decide_eq_false hw) ?_
 refine WC.skip ?_
 refine WQ.inNormal ?_
 refine WQ.next ?_
 refine ws ?_
 refine wo (op_move rfl ?_)
 refine wo (op_nilCheck rfl ?_)
 refine wo (op_fieldAddr rfl Fa.F120_2 ?_)
 refine wo (op_load rfl (H3.cell (i := 5) rfl rfl) Try.underlying29 rfl ?_)
 refine wo (op_addU32 (b := 1) rfl rfl ?_)
 refine wo (op_nilCheck rfl ?_)
 refine wo (op_fieldAddr rfl Fa.F120_2 ?_)
 refine wo (op_storeB (i := 5) H3 rfl rfl rfl rfl rfl Fa.I29 (fun w4 H4 => ?_))
 refine wn ?_
 refine ws ?_
 refine wo (op_assign rfl ?_)
 refine wn ?_
 refine WC.ret ?_
 refine WQ.out (.tmp rfl .nil) ?_
 have h := H4
 rw [show List.map Gr.me (l1 ++ g :: l2) = List.map Gr.me (l1 ++ ({ g with tk := g.tk + 1 } : Gr) :: l2) from by rw [List.map_append, List.map_append]; rfl] at h
 have h2 := h.fold (i := 3) (j := 5) (f := Gr.cells) (bl := Gr.b) (a := ({ g with tk := g.tk + 1 } : Gr)) (l1 := l1) (l2 := l2) rfl rfl rfl rfl rfl
 have h3 := h2.dpSame (i := 4) (D := grD) (a := g) (a' := ({ g with tk := g.tk + 1 } : Gr)) rfl (fun w h => h) (fun b hb => hb)
 exact ⟨rfl, h3.sel [0, 1, 2, 3, 6] rfl rfl⟩
set_option maxRecDepth 100000 in
theorem give_bad (c : Nat) (pg : UInt32) (hv : Value) (he : List UInt32) (mb cn : Nat) (gs : List Gr) (env : Int) (g : Gr) (w : World) (hC : cellsAt w c [(vU32 pg), hv, (.map (some mb))]) (hH : Arr w hv 1 he.length (List.map vU32 he)) (hM : w.heap[mb]? = some (mP .i64 (List.map Gr.me gs) cn)) (hG : BsOK 120 Gr.cells Gr.b gs w) (hS : grD.list.ok w gs) (hME : MEok (List.map Gr.me gs) cn) (hg : g ∈ gs) (hge : (g.e : Int) = env) (hw : g.tk = 0) :
  Calls Try.prog 23 #[(ptr c 0), (vI env)] w (fun e w' => e = .returned (vN 2) ∧ Fr [] w w') := by
 refine enter (args := [(ptr c 0), (vI env)]) Try.func23 rfl rfl ?_
 have H0 : Owl.Own [] w w [Ent.bo c [(vU32 pg), hv, (.map (some mb))], Ent.ar hv 1 he.length (List.map vU32 he), Ent.mo .i64 mb (List.map Gr.me gs) cn, Ent.bsO 120 Gr.cells Gr.b gs, Ent.dp grD.list gs] := ((((((Own.start w []).oldB hC).oldA hH).mpOld hM).bsOld hG).dpOld hS)
 refine ws ?_
 refine wo (op_assign rfl ?_)
 refine wn ?_
 refine ws ?_
 refine wo (op_move rfl ?_)
 refine wo (op_move rfl ?_)
 have H1 : Owl.Own [] w w [Ent.bo c [(vU32 pg), hv, (.map (some mb))], Ent.ar hv 1 he.length (List.map vU32 he), Ent.mo .i64 mb (List.map Gr.me gs) cn, Ent.bsO 120 Gr.cells Gr.b gs, Ent.dp grD.list gs, Ent.bo g.b [(vU32 g.pg), g.ev, g.pv, (.bool g.con), (vU32 g.pp), (vU32 g.tk)], Ent.ar g.ev 2 g.xs.length (List.flatMap xtc g.xs), Ent.ar g.pv 1 g.ps.length (List.map vU16 g.ps)] := (((H0.bsView (i := 3) (a := g) rfl hg).dpView (i := 4) (a := g) rfl hg (fun w h => h.1) (fun b hb => List.mem_append.2 (.inl hb))).dpView (i := 4) (a := g) rfl hg (fun w h => h.2) (fun b hb => List.mem_append.2 (.inr hb)))
 refine wo (op_callF Fa.C60 rfl ((of_some c pg hv he mb cn gs env g _ (H1.cellsAtO (i := 0) rfl) (H1.arrO (i := 1) rfl) (H1.mpO (i := 2) rfl) (H1.bsR (i := 3) rfl) (H1.dpO (i := 4) rfl) hME hg hge).mono (fun e w2 hq => ?_)))
 obtain ⟨rfl, hf2⟩ := hq
 refine ⟨_, rfl, ?_⟩
 have H2 := H1.fr' hf2
 refine wo (op_move rfl ?_)
 refine wo (op_extract rfl rfl ?_)
 refine wo (op_extract rfl rfl ?_)
 refine wo (op_assign rfl ?_)
 refine wo (op_assign rfl ?_)
 refine wn ?_
 refine WC.seq ?_
 refine WC.block ?_
 refine ws ?_
 refine wo (op_move rfl ?_)
 refine wo (op_eqlPN Fa.PT52 rfl rfl ?_)
 refine wo (op_assign rfl ?_)
 refine wn ?_
 refine WC.no rfl rfl ?_
 refine ws ?_
 refine wo (op_move rfl ?_)
 refine wo (op_not rfl ?_)
 refine wo (op_assign rfl ?_)
 refine wn ?_
 refine WC.no rfl (congrArg Bool.not rfl) ?_
 refine ws ?_
 refine wo (op_move rfl ?_)
 refine wo (op_nilCheck rfl ?_)
 refine wo (op_fieldAddr rfl Fa.F120_2 ?_)
 refine wo (op_load rfl (H2.cellO (i := 5) rfl rfl) Try.underlying29 rfl ?_)
 refine wo (op_eqlU32 (b := 0) rfl rfl ?_)
 refine wo (op_assign rfl ?_)
 refine wn ?_
 refine WC.yes rfl (decide_eq_true hw) ?_
 refine ws ?_
 refine wo (op_assign rfl ?_)
 refine wn ?_
 refine WC.ret ?_
 refine WQ.inRet ?_
 refine WQ.thenRet ?_
 refine WQ.out (.tmp rfl .nil) ?_
 exact ⟨rfl, H2.fr⟩
set_option maxRecDepth 100000 in
theorem give_no (c : Nat) (pg : UInt32) (hv : Value) (he : List UInt32) (mb cn : Nat) (gs : List Gr) (env : Int) (w : World) (hC : cellsAt w c [(vU32 pg), hv, (.map (some mb))]) (hH : Arr w hv 1 he.length (List.map vU32 he)) (hM : w.heap[mb]? = some (mP .i64 (List.map Gr.me gs) cn)) (hG : BsOK 120 Gr.cells Gr.b gs w) (hS : grD.list.ok w gs) (hME : MEok (List.map Gr.me gs) cn) (no : ∀ g ∈ gs, (g.e : Int) ≠ env) :
  Calls Try.prog 23 #[(ptr c 0), (vI env)] w (fun e w' => e = .returned (vN 3) ∧ Fr [] w w') := by
 refine enter (args := [(ptr c 0), (vI env)]) Try.func23 rfl rfl ?_
 have H0 : Owl.Own [] w w [Ent.bo c [(vU32 pg), hv, (.map (some mb))], Ent.ar hv 1 he.length (List.map vU32 he), Ent.mo .i64 mb (List.map Gr.me gs) cn, Ent.bsO 120 Gr.cells Gr.b gs, Ent.dp grD.list gs] := ((((((Own.start w []).oldB hC).oldA hH).mpOld hM).bsOld hG).dpOld hS)
 refine ws ?_
 refine wo (op_assign rfl ?_)
 refine wn ?_
 refine ws ?_
 refine wo (op_move rfl ?_)
 refine wo (op_move rfl ?_)
 refine wo (op_callF Fa.C60 rfl ((of_no c pg hv he mb cn gs env _ (H0.cellsAtO (i := 0) rfl) (H0.arrO (i := 1) rfl) (H0.mpO (i := 2) rfl) (H0.bsR (i := 3) rfl) (H0.dpO (i := 4) rfl) hME no).mono (fun e w1 hq => ?_)))
 obtain ⟨b1, rfl, hq1⟩ := hq
 refine ⟨_, rfl, ?_⟩
 have H1 : Owl.Own [] w w1 [Ent.bo c [(vU32 pg), hv, (.map (some mb))], Ent.ar hv 1 he.length (List.map vU32 he), Ent.mo .i64 mb (List.map Gr.me gs) cn, Ent.bsO 120 Gr.cells Gr.b gs, Ent.dp grD.list gs, .blk b1 [(vU32 0), (.slice none 0 0), (.slice none 0 0), (.bool false), (vU32 0), (vU32 0)] 120] := H0.splice [] [] [.blk b1 [(vU32 0), (.slice none 0 0), (.slice none 0 0), (.bool false), (vU32 0), (vU32 0)] 120] rfl rfl hq1 (Fits.solid True.intro Fits.nil)
 refine wo (op_move rfl ?_)
 refine wo (op_extract rfl rfl ?_)
 refine wo (op_extract rfl rfl ?_)
 refine wo (op_assign rfl ?_)
 refine wo (op_assign rfl ?_)
 refine wn ?_
 refine WC.seq ?_
 refine WC.block ?_
 refine ws ?_
 refine wo (op_move rfl ?_)
 refine wo (op_eqlPN Fa.PT52 rfl rfl ?_)
 refine wo (op_assign rfl ?_)
 refine wn ?_
 refine WC.no rfl rfl ?_
 refine ws ?_
 refine wo (op_move rfl ?_)
 refine wo (op_not rfl ?_)
 refine wo (op_assign rfl ?_)
 refine wn ?_
 refine WC.yes rfl (congrArg Bool.not rfl) ?_
 refine ws ?_
 refine wo (op_assign rfl ?_)
 refine wn ?_
 refine WC.ret ?_
 refine WQ.inRet ?_
 refine WQ.thenRet ?_
 refine WQ.out (.tmp rfl .nil) ?_
 exact ⟨rfl, H1.fr⟩
set_option maxRecDepth 100000 in
theorem give_yes (c : Nat) (pg : UInt32) (hv : Value) (he : List UInt32) (mb cn : Nat) (l1 l2 : List Gr) (g : Gr) (env : Int) (T : List Nat) (w : World) (H : Owl.Own T w w [.blk c [(vU32 pg), hv, (.map (some mb))] 112, Ent.ar hv 1 he.length (List.map vU32 he), .obj mb (mP .i64 (List.map Gr.me (l1 ++ g :: l2)) cn), Ent.bs 120 Gr.cells Gr.b (l1 ++ g :: l2), Ent.dp grD.list (l1 ++ g :: l2)]) (hME : MEok (List.map Gr.me (l1 ++ g :: l2)) cn) (hge : (g.e : Int) = env) (hw : ¬ g.tk = 0) :
  Calls Try.prog 23 #[(ptr c 0), (vI env)] w (fun e w' => e = .returned (vN 0) ∧ Owl.Own T w w' [.blk c [(vU32 pg), hv, (.map (some mb))] 112, Ent.ar hv 1 he.length (List.map vU32 he), .obj mb (mP .i64 (List.map Gr.me (l1 ++ ({ g with tk := g.tk - 1 } : Gr) :: l2)) cn), Ent.bs 120 Gr.cells Gr.b (l1 ++ ({ g with tk := g.tk - 1 } : Gr) :: l2), Ent.dp grD.list (l1 ++ ({ g with tk := g.tk - 1 } : Gr) :: l2)]) := by
 refine enter (args := [(ptr c 0), (vI env)]) Try.func23 rfl rfl ?_
 refine ws ?_
 refine wo (op_assign rfl ?_)
 refine wn ?_
 refine ws ?_
 refine wo (op_move rfl ?_)
 refine wo (op_move rfl ?_)
 refine wo (op_callF Fa.C60 rfl ((of_some c pg hv he mb cn (l1 ++ g :: l2) env g _ (H.cellsAt (i := 0) rfl) (H.arrO (i := 1) rfl) (H.mp (i := 2) rfl) (H.bsG (i := 3) rfl) (H.dpO (i := 4) rfl) hME (by simp) hge).mono (fun e w1 hq => ?_)))
 obtain ⟨rfl, hf1⟩ := hq
 refine ⟨_, rfl, ?_⟩
 have H1 := H.fr' hf1
 have H2 : Owl.Own T w w1 [.blk c [(vU32 pg), hv, (.map (some mb))] 112, Ent.ar hv 1 he.length (List.map vU32 he), .obj mb (mP .i64 (List.map Gr.me (l1 ++ g :: l2)) cn), Ent.bs 120 Gr.cells Gr.b (l1 ++ l2), Ent.dp grD.list (l1 ++ g :: l2), .blk g.b [(vU32 g.pg), g.ev, g.pv, (.bool g.con), (vU32 g.pp), (vU32 g.tk)] 120] := H1.focus (i := 3) (l1 := l1) (l2 := l2) (a := g) (f := Gr.cells) (bl := Gr.b) rfl
 refine wo (op_move rfl ?_)
 refine wo (op_extract rfl rfl ?_)
 refine wo (op_extract rfl rfl ?_)
 refine wo (op_assign rfl ?_)
 refine wo (op_assign rfl ?_)
 refine wn ?_
 refine WC.seq ?_
 refine WC.block ?_
 refine ws ?_
 refine wo (op_move rfl ?_)
 refine wo (op_eqlPN Fa.PT52 rfl rfl ?_)
 refine wo (op_assign rfl ?_)
 refine wn ?_
 refine WC.no rfl rfl ?_
 refine ws ?_
 refine wo (op_move rfl ?_)
 refine wo (op_not rfl ?_)
 refine wo (op_assign rfl ?_)
 refine wn ?_
 refine WC.no rfl (congrArg Bool.not rfl) ?_
 refine ws ?_
 refine wo (op_move rfl ?_)
 refine wo (op_nilCheck rfl ?_)
 refine wo (op_fieldAddr rfl Fa.F120_2 ?_)
 refine wo (op_load rfl (H2.cell (i := 5) rfl rfl) Try.underlying29 rfl ?_)
 refine wo (op_eqlU32 (b := 0) rfl rfl ?_)
 refine wo (op_assign rfl ?_)
 refine wn ?_
 refine WC.no rfl (decide_eq_false hw) ?_
 refine WC.skip ?_
 refine WQ.inNormal ?_
 refine WQ.next ?_
 refine ws ?_
 refine wo (op_move rfl ?_)
 refine wo (op_nilCheck rfl ?_)
 refine wo (op_fieldAddr rfl Fa.F120_2 ?_)
 refine wo (op_load rfl (H2.cell (i := 5) rfl rfl) Try.underlying29 rfl ?_)
 refine wo (op_subU32 (b := 1) rfl rfl ?_)
 refine wo (op_nilCheck rfl ?_)
 refine wo (op_fieldAddr rfl Fa.F120_2 ?_)
 refine wo (op_storeB (i := 5) H2 rfl rfl rfl rfl rfl Fa.I29 (fun w3 H3 => ?_))
 refine wn ?_
 refine ws ?_
 refine wo (op_assign rfl ?_)
 refine wn ?_
 refine WC.ret ?_
 refine WQ.out (.tmp rfl .nil) ?_
 have h := H3
 rw [show List.map Gr.me (l1 ++ g :: l2) = List.map Gr.me (l1 ++ ({ g with tk := g.tk - 1 } : Gr) :: l2) from by rw [List.map_append, List.map_append]; rfl] at h
 have h2 := h.fold (i := 3) (j := 5) (f := Gr.cells) (bl := Gr.b) (a := ({ g with tk := g.tk - 1 } : Gr)) (l1 := l1) (l2 := l2) rfl rfl rfl rfl rfl
 have h3 := h2.dpSame (i := 4) (D := grD) (a := g) (a' := ({ g with tk := g.tk - 1 } : Gr)) rfl (fun w h => h) (fun b hb => hb)
 exact ⟨rfl, h3.sel [0, 1, 2, 3, 6] rfl rfl⟩
end Go.Proofs.Ytbjhccnffacbcaa
/-! from WCap12 -/
namespace Go.Proofs.Ytbjhccnffacbcaa
open Go.Owl Go.Spec
set_option maxRecDepth 100000 in
theorem manifest_no (c : Nat) (pg : UInt32) (hv : Value) (he : List UInt32) (mb cn : Nat) (gs : List Gr) (env : Int) (w : World) (hC : cellsAt w c [(vU32 pg), hv, (.map (some mb))]) (hH : Arr w hv 1 he.length (List.map vU32 he)) (hM : w.heap[mb]? = some (mP .i64 (List.map Gr.me gs) cn)) (hG : BsOK 120 Gr.cells Gr.b gs w) (hS : grD.list.ok w gs) (hME : MEok (List.map Gr.me gs) cn) (no : ∀ g ∈ gs, (g.e : Int) ≠ env) :
  Calls Try.prog 26 #[(ptr c 0), (vI env)] w (fun e w' => ∃ v1 v2, e = .returned (.tuple #[.agg #[vU32 0, v1, v2, .bool false], .bool false]) ∧ Owl.Own [] w w' [.row v1 108 2 0 (List.flatMap xtc []), .row v2 50 1 0 (List.map vU16 [])]) := by
 refine enter (args := [(ptr c 0), (vI env)]) Try.func26 rfl rfl ?_
 have H0 : Owl.Own [] w w [Ent.bo c [(vU32 pg), hv, (.map (some mb))], Ent.ar hv 1 he.length (List.map vU32 he), Ent.mo .i64 mb (List.map Gr.me gs) cn, Ent.bsO 120 Gr.cells Gr.b gs, Ent.dp grD.list gs] := ((((((Own.start w []).oldB hC).oldA hH).mpOld hM).bsOld hG).dpOld hS)
 refine ws ?_
 refine wo (op_alloc H0 Fa.I59 (fun b1 w1 H1 => ?_))
 refine wo (op_assign rfl ?_)
 refine wn ?_
 refine ws ?_
 refine wo (op_move rfl ?_)
 refine wo (op_move rfl ?_)
 refine wo (op_callF Fa.C60 rfl ((of_no c pg hv he mb cn gs env _ (H1.cellsAtO (i := 0) rfl) (H1.arrO (i := 1) rfl) (H1.mpO (i := 2) rfl) (H1.bsR (i := 3) rfl) (H1.dpO (i := 4) rfl) hME no).mono (fun e w2 hq => ?_)))
 obtain ⟨b2, rfl, hq2⟩ := hq
 refine ⟨_, rfl, ?_⟩
 have H2 : Owl.Own [] w w2 [Ent.bo c [(vU32 pg), hv, (.map (some mb))], Ent.ar hv 1 he.length (List.map vU32 he), Ent.mo .i64 mb (List.map Gr.me gs) cn, Ent.bsO 120 Gr.cells Gr.b gs, Ent.dp grD.list gs, .blk b1 [(vU32 0), (.slice none 0 0), (.slice none 0 0), (.bool false)] 59, .blk b2 [(vU32 0), (.slice none 0 0), (.slice none 0 0), (.bool false), (vU32 0), (vU32 0)] 120] := H1.splice [] [] [.blk b2 [(vU32 0), (.slice none 0 0), (.slice none 0 0), (.bool false), (vU32 0), (vU32 0)] 120] rfl rfl hq2 (Fits.solid True.intro Fits.nil)
 refine wo (op_move rfl ?_)
 refine wo (op_extract rfl rfl ?_)
 refine wo (op_extract rfl rfl ?_)
 refine wo (op_assign rfl ?_)
 refine wo (op_assign rfl ?_)
 refine wn ?_
 refine ws ?_
 refine wo (op_move rfl ?_)
 refine wo (op_nilCheck rfl ?_)
 refine wo (op_fieldAddr rfl Fa.F120_0 ?_)
 refine wo (op_loadS (vs := [_, _, _, _]) rfl (H2.cells (i := 6) rfl rfl) Try.underlying59 rfl Fa.I59 rfl ?_)
 refine wo (op_alloc H2 Fa.I59 (fun b3 w3 H3 => ?_))
 refine wo (op_storeBW (i := 7) H3 rfl rfl rfl rfl rfl Fa.I59 (fun w4 H4 => ?_))
 refine wn ?_
 refine WC.seq ?_
 refine WC.draw 7 Fa.M H4 (HW.op rfl (fun w1 H1 => op_fieldAddr rfl Fa.F59_1 ⟨rfl, Fr.refl _ _⟩) (HW.op rfl (fun w1 H1 => op_load rfl (H1.cell (i := 7) rfl rfl) Try.underlying56 rfl ⟨rfl, Fr.refl _ _⟩) (HW.flt (mk := fun bq => bq.2) (ent := fun bq => .row bq.2 108 2 [].length (List.flatMap xtc [])) rfl (fun w1 H1 => op_callF Fa.C58 rfl ((cloneX_ok _ [] _ (Arr.nil _ _) (by simp)).mono (fun e w2 ⟨v, he, hO⟩ => ⟨_, he, (0, v), rfl, hO, True.intro⟩))) (HW.op rfl (fun w1 H1 => op_fieldAddr rfl Fa.F59_2 ⟨rfl, Fr.refl _ _⟩) (HW.op rfl (fun w1 H1 => op_load rfl (H1.cell (i := 7) rfl rfl) Try.underlying57 rfl ⟨rfl, Fr.refl _ _⟩) (HW.flt (mk := fun bq => bq.2) (ent := fun bq => .row bq.2 50 1 [].length (List.map vU16 [])) rfl (fun w1 H1 => op_callF Fa.C59 rfl ((clone16_ok _ [] _ (Arr.nil _ _) (by simp)).mono (fun e w2 ⟨v, he, hO⟩ => ⟨_, he, (0, v), rfl, hO, True.intro⟩))) (HW.op rfl (fun w1 H1 => op_fieldAddr rfl Fa.F59_1 ⟨rfl, Fr.refl _ _⟩)  HW.nil))))))) (by kernel_rfl) ?_
 intro β7 w7 H7
 refine wo (op_storeB (i := 7) H7 rfl rfl rfl rfl (Arr.one (H7.arrR (i := 8) rfl)) Fa.I56 (fun w8 H8 => ?_))
 refine wo (op_fieldAddr rfl Fa.F59_2 ?_)
 refine wo (op_storeB (i := 7) H8 rfl rfl rfl rfl (Arr.one (H8.arrR (i := 9) rfl)) Fa.I57 (fun w9 H9 => ?_))
 refine wn ?_
 refine ws ?_
 refine wo (op_loadS (vs := [_, _, _, _]) rfl (H9.cells (i := 7) rfl rfl) Try.underlying59 rfl Fa.I59 rfl ?_)
 refine wo (op_move rfl ?_)
 refine wo (op_storeBW (i := 5) H9 rfl rfl rfl rfl (one_cons rfl (one_cons (Arr.one (H9.arrR (i := 8) rfl)) (one_cons (Arr.one (H9.arrR (i := 9) rfl)) (one_cons rfl one_nil)))) Fa.I59 (fun w10 H10 => ?_))
 refine wo (op_assign rfl ?_)
 refine wn ?_
 refine WC.ret ?_
 refine WQ.out (.cell rfl (run_loadVarS (vs := [_, _, _, _]) (H10.cells (i := 5) rfl rfl) Try.underlying59 rfl Fa.I59 rfl) (.tmp rfl .nil)) ?_
 exact ⟨_, _, rfl, H10.sel [8, 9] rfl rfl⟩
set_option maxRecDepth 100000 in
theorem manifest_some (c : Nat) (pg : UInt32) (hv : Value) (he : List UInt32) (mb cn : Nat) (gs : List Gr) (env : Int) (g : Gr) (w : World) (hC : cellsAt w c [(vU32 pg), hv, (.map (some mb))]) (hH : Arr w hv 1 he.length (List.map vU32 he)) (hM : w.heap[mb]? = some (mP .i64 (List.map Gr.me gs) cn)) (hG : BsOK 120 Gr.cells Gr.b gs w) (hS : grD.list.ok w gs) (hME : MEok (List.map Gr.me gs) cn) (hg : g ∈ gs) (hge : (g.e : Int) = env) (hgp : g.ps.length < 2 ^ 40) (hgx : g.xs.length < 2 ^ 40) :
  Calls Try.prog 26 #[(ptr c 0), (vI env)] w (fun e w' => ∃ v1 v2, e = .returned (.tuple #[.agg #[vU32 g.pg, v1, v2, .bool g.con], .bool true]) ∧ Owl.Own [] w w' [.row v1 108 2 g.xs.length (List.flatMap xtc g.xs), .row v2 50 1 g.ps.length (List.map vU16 g.ps)]) := by
 refine enter (args := [(ptr c 0), (vI env)]) Try.func26 rfl rfl ?_
 have H0 : Owl.Own [] w w [Ent.bo c [(vU32 pg), hv, (.map (some mb))], Ent.ar hv 1 he.length (List.map vU32 he), Ent.mo .i64 mb (List.map Gr.me gs) cn, Ent.bsO 120 Gr.cells Gr.b gs, Ent.dp grD.list gs] := ((((((Own.start w []).oldB hC).oldA hH).mpOld hM).bsOld hG).dpOld hS)
 refine ws ?_
 refine wo (op_alloc H0 Fa.I59 (fun b1 w1 H1 => ?_))
 refine wo (op_assign rfl ?_)
 refine wn ?_
 refine ws ?_
 refine wo (op_move rfl ?_)
 refine wo (op_move rfl ?_)
 have H2 : Owl.Own [] w w1 [Ent.bo c [(vU32 pg), hv, (.map (some mb))], Ent.ar hv 1 he.length (List.map vU32 he), Ent.mo .i64 mb (List.map Gr.me gs) cn, Ent.bsO 120 Gr.cells Gr.b gs, Ent.dp grD.list gs, .blk b1 [(vU32 0), (.slice none 0 0), (.slice none 0 0), (.bool false)] 59, Ent.bo g.b [(vU32 g.pg), g.ev, g.pv, (.bool g.con), (vU32 g.pp), (vU32 g.tk)], Ent.ar g.ev 2 g.xs.length (List.flatMap xtc g.xs), Ent.ar g.pv 1 g.ps.length (List.map vU16 g.ps)] := (((H1.bsView (i := 3) (a := g) rfl hg).dpView (i := 4) (a := g) rfl hg (fun w h => h.1) (fun b hb => List.mem_append.2 (.inl hb))).dpView (i := 4) (a := g) rfl hg (fun w h => h.2) (fun b hb => List.mem_append.2 (.inr hb)))
 refine wo (op_callF Fa.C60 rfl ((of_some c pg hv he mb cn gs env g _ (H2.cellsAtO (i := 0) rfl) (H2.arrO (i := 1) rfl) (H2.mpO (i := 2) rfl) (H2.bsR (i := 3) rfl) (H2.dpO (i := 4) rfl) hME hg hge).mono (fun e w3 hq => ?_)))
 obtain ⟨rfl, hf3⟩ := hq
 refine ⟨_, rfl, ?_⟩
 have H3 := H2.fr' hf3
 refine wo (op_move rfl ?_)
 refine wo (op_extract rfl rfl ?_)
 refine wo (op_extract rfl rfl ?_)
 refine wo (op_assign rfl ?_)
 refine wo (op_assign rfl ?_)
 refine wn ?_
 refine ws ?_
 refine wo (op_move rfl ?_)
 refine wo (op_nilCheck rfl ?_)
 refine wo (op_fieldAddr rfl Fa.F120_0 ?_)
 refine wo (op_loadS (vs := [_, _, _, _]) rfl (H3.cellsO (i := 6) rfl rfl) Try.underlying59 rfl Fa.I59 rfl ?_)
 refine wo (op_alloc H3 Fa.I59 (fun b4 w4 H4 => ?_))
 refine wo (op_storeBW (i := 9) H4 rfl rfl rfl rfl (one_cons rfl (one_cons (Arr.one (H4.arrO (i := 7) rfl)) (one_cons (Arr.one (H4.arrO (i := 8) rfl)) (one_cons rfl one_nil)))) Fa.I59 (fun w5 H5 => ?_))
 refine wn ?_
 refine WC.seq ?_
 refine WC.draw 7 Fa.M H5 (HW.op rfl (fun w1 H1 => op_fieldAddr rfl Fa.F59_1 ⟨rfl, Fr.refl _ _⟩) (HW.op rfl (fun w1 H1 => op_load rfl (H1.cell (i := 9) rfl rfl) Try.underlying56 rfl ⟨rfl, Fr.refl _ _⟩) (HW.flt (mk := fun bq => bq.2) (ent := fun bq => .row bq.2 108 2 g.xs.length (List.flatMap xtc g.xs)) rfl (fun w1 H1 => op_callF Fa.C58 rfl ((cloneX_ok _ g.xs _ (H1.arrO (i := 7) rfl) (by omega)).mono (fun e w2 ⟨v, he, hO⟩ => ⟨_, he, (0, v), rfl, hO, True.intro⟩))) (HW.op rfl (fun w1 H1 => op_fieldAddr rfl Fa.F59_2 ⟨rfl, Fr.refl _ _⟩) (HW.op rfl (fun w1 H1 => op_load rfl (H1.cell (i := 9) rfl rfl) Try.underlying57 rfl ⟨rfl, Fr.refl _ _⟩) (HW.flt (mk := fun bq => bq.2) (ent := fun bq => .row bq.2 50 1 g.ps.length (List.map vU16 g.ps)) rfl (fun w1 H1 => op_callF Fa.C59 rfl ((clone16_ok _ g.ps _ (H1.arrO (i := 8) rfl) (by omega)).mono (fun e w2 ⟨v, he, hO⟩ => ⟨_, he, (0, v), rfl, hO, True.intro⟩))) (HW.op rfl (fun w1 H1 => op_fieldAddr rfl Fa.F59_1 ⟨rfl, Fr.refl _ _⟩)  HW.nil))))))) (by kernel_rfl) ?_
 intro β8 w8 H8
 refine wo (op_storeB (i := 9) H8 rfl rfl rfl rfl (Arr.one (H8.arrR (i := 10) rfl)) Fa.I56 (fun w9 H9 => ?_))
 refine wo (op_fieldAddr rfl Fa.F59_2 ?_)
 refine wo (op_storeB (i := 9) H9 rfl rfl rfl rfl (Arr.one (H9.arrR (i := 11) rfl)) Fa.I57 (fun w10 H10 => ?_))
 refine wn ?_
 refine ws ?_
 refine wo (op_loadS (vs := [_, _, _, _]) rfl (H10.cells (i := 9) rfl rfl) Try.underlying59 rfl Fa.I59 rfl ?_)
 refine wo (op_move rfl ?_)
 refine wo (op_storeBW (i := 5) H10 rfl rfl rfl rfl (one_cons rfl (one_cons (Arr.one (H10.arrR (i := 10) rfl)) (one_cons (Arr.one (H10.arrR (i := 11) rfl)) (one_cons rfl one_nil)))) Fa.I59 (fun w11 H11 => ?_))
 refine wo (op_assign rfl ?_)
 refine wn ?_
 refine WC.ret ?_
 refine WQ.out (.cell rfl (run_loadVarS (vs := [_, _, _, _]) (H11.cells (i := 5) rfl rfl) Try.underlying59 rfl Fa.I59 rfl) (.tmp rfl .nil)) ?_
 exact ⟨_, _, rfl, H11.sel [10, 11] rfl rfl⟩
end Go.Proofs.Ytbjhccnffacbcaa
/-! from WCap13 -/
namespace Go.Proofs.Ytbjhccnffacbcaa
open Go.Owl Go.Spec
set_option maxRecDepth 100000 in
theorem grant_bad1 (c : Nat) (pg : UInt32) (hv : Value) (he : List UInt32) (mb cn : Nat) (gs : List Gr) (env : Int) (mp : UInt32) (ev pv : Value) (xs : List Xt) (ps : List UInt16) (con : Bool) (pages : UInt32) (w : World) (hC : cellsAt w c [(vU32 pg), hv, (.map (some mb))]) (hH : Arr w hv 1 he.length (List.map vU32 he)) (hM : w.heap[mb]? = some (mP .i64 (List.map Gr.me gs) cn)) (hG : BsOK 120 Gr.cells Gr.b gs w) (hS : grD.list.ok w gs) (hE : Arr w ev 2 xs.length (List.flatMap xtc xs)) (hP : Arr w pv 1 ps.length (List.map vU16 ps)) (hn : xs.length < 2 ^ 40) (hm : ps.length < 2 ^ 40) (hb : env < 1 ∨ env > 8) :
  Calls Try.prog 19 #[(ptr c 0), (vI env), (.agg #[(vU32 mp), ev, pv, (.bool con)]), (vU32 pages)] w (fun e w' => e = .returned (vN 2) ∧ Fr [] w w') := by
 refine enter (args := [(ptr c 0), (vI env), (.agg #[(vU32 mp), ev, pv, (.bool con)]), (vU32 pages)]) Try.func19 rfl rfl ?_
 have H0 : Owl.Own [] w w [Ent.bo c [(vU32 pg), hv, (.map (some mb))], Ent.ar hv 1 he.length (List.map vU32 he), Ent.mo .i64 mb (List.map Gr.me gs) cn, Ent.bsO 120 Gr.cells Gr.b gs, Ent.dp grD.list gs] := ((((((Own.start w []).oldB hC).oldA hH).mpOld hM).bsOld hG).dpOld hS)
 refine ws ?_
 refine wo (op_box H0 rfl rfl (fun b1 w1 H1 => ?_))
 refine wo (op_box H1 rfl rfl (fun b2 w2 H2 => ?_))
 refine wo (op_assign rfl ?_)
 refine wn ?_
 refine WC.seq ?_
 refine WC.block ?_
 refine ws ?_
 refine wo (op_move rfl ?_)
 refine wo (op_eqlPN Fa.PT52 rfl rfl ?_)
 refine wo (op_assign rfl ?_)
 refine wn ?_
 refine WC.no rfl rfl ?_
 refine ws ?_
 refine wo (op_move rfl ?_)
 refine wo (op_lssI (b := (1 : Int)) rfl rfl ?_)
 refine wo (op_move rfl ?_)
 refine WL.split (t := 17) rfl (fun (hb3 : (decide (env < (1 : Int))) = true) => ?_) (fun (hb3 : (decide (env < (1 : Int))) = false) => ?_)
 ·
  have hc3 := of_decide_eq_true hb3
  refine WL.no rfl rfl rfl hb3 rfl ?_
  refine WL.no rfl rfl rfl hb3 rfl ?_
  refine wo (op_pickT rfl hb3 rfl ?_)
  refine wo (op_move rfl ?_)
  refine WL.no rfl rfl rfl rfl rfl ?_
  refine WL.no rfl rfl rfl rfl rfl ?_
  refine WL.no rfl rfl rfl rfl rfl ?_
  refine wo (op_pickT rfl rfl rfl ?_)
  refine wo (op_move rfl ?_)
  refine WL.no rfl rfl rfl rfl rfl ?_
  refine WL.no rfl rfl rfl rfl rfl ?_
  refine wo (op_pickT rfl rfl rfl ?_)
  refine wo (op_assign rfl ?_)
  refine wn ?_
  refine WC.yes rfl rfl ?_
  refine ws ?_
  refine wo (op_assign rfl ?_)
  refine wn ?_
  refine WC.ret ?_
  refine WQ.inRet ?_
  refine WQ.thenRet ?_
  refine WQ.out (.tmp rfl .nil) ?_
  exact ⟨rfl, H2.fr⟩
 ·
  have hc3 := of_decide_eq_false hb3
  refine WL.yes rfl rfl rfl hb3 rfl (op_move rfl ?_)
  refine WL.yes rfl rfl rfl hb3 rfl (op_gtrI (b := (8 : Int)) rfl rfl ?_)
  refine wo (op_pickF rfl hb3 rfl ?_)
  refine wo (op_move rfl ?_)
  refine WL.no rfl rfl rfl (decide_eq_true (by omega)) rfl ?_
  refine WL.no rfl rfl rfl (decide_eq_true (by omega)) rfl ?_
  refine WL.no rfl rfl rfl (decide_eq_true (by omega)) rfl ?_
  refine wo (op_pickT rfl (decide_eq_true (by omega)) rfl ?_)
  refine wo (op_move rfl ?_)
  refine WL.no rfl rfl rfl rfl rfl ?_
  refine WL.no rfl rfl rfl rfl rfl ?_
  refine wo (op_pickT rfl rfl rfl ?_)
  refine wo (op_assign rfl ?_)
  refine wn ?_
  refine WC.yes rfl rfl ?_
  refine ws ?_
  refine wo (op_assign rfl ?_)
  refine wn ?_
  refine WC.ret ?_
  refine WQ.inRet ?_
  refine WQ.thenRet ?_
  refine WQ.out (.tmp rfl .nil) ?_
  exact ⟨rfl, H2.fr⟩
set_option maxRecDepth 100000 in
theorem grant_bad2 (c : Nat) (pg : UInt32) (hv : Value) (he : List UInt32) (mb cn : Nat) (gs : List Gr) (env : Int) (mp : UInt32) (ev pv : Value) (xs : List Xt) (ps : List UInt16) (con : Bool) (pages : UInt32) (w : World) (hC : cellsAt w c [(vU32 pg), hv, (.map (some mb))]) (hH : Arr w hv 1 he.length (List.map vU32 he)) (hM : w.heap[mb]? = some (mP .i64 (List.map Gr.me gs) cn)) (hG : BsOK 120 Gr.cells Gr.b gs w) (hS : grD.list.ok w gs) (hE : Arr w ev 2 xs.length (List.flatMap xtc xs)) (hP : Arr w pv 1 ps.length (List.map vU16 ps)) (hn : xs.length < 2 ^ 40) (hm : ps.length < 2 ^ 40) (h1 : 1 ≤ env) (h8 : env ≤ 8) (hmf : mfE mp xs ps ≠ 0) :
  Calls Try.prog 19 #[(ptr c 0), (vI env), (.agg #[(vU32 mp), ev, pv, (.bool con)]), (vU32 pages)] w (fun e w' => e = .returned (vN 2) ∧ Fr [] w w') := by
 refine enter (args := [(ptr c 0), (vI env), (.agg #[(vU32 mp), ev, pv, (.bool con)]), (vU32 pages)]) Try.func19 rfl rfl ?_
 have H0 : Owl.Own [] w w [Ent.bo c [(vU32 pg), hv, (.map (some mb))], Ent.ar hv 1 he.length (List.map vU32 he), Ent.mo .i64 mb (List.map Gr.me gs) cn, Ent.bsO 120 Gr.cells Gr.b gs, Ent.dp grD.list gs] := ((((((Own.start w []).oldB hC).oldA hH).mpOld hM).bsOld hG).dpOld hS)
 refine ws ?_
 refine wo (op_box H0 rfl rfl (fun b1 w1 H1 => ?_))
 refine wo (op_box H1 rfl rfl (fun b2 w2 H2 => ?_))
 refine wo (op_assign rfl ?_)
 refine wn ?_
 refine WC.seq ?_
 refine WC.block ?_
 refine ws ?_
 refine wo (op_move rfl ?_)
 refine wo (op_eqlPN Fa.PT52 rfl rfl ?_)
 refine wo (op_assign rfl ?_)
 refine wn ?_
 refine WC.no rfl rfl ?_
 refine ws ?_
 refine wo (op_move rfl ?_)
 refine wo (op_lssI (b := (1 : Int)) rfl rfl ?_)
 refine wo (op_move rfl ?_)
 refine WL.yes rfl rfl rfl (decide_eq_false (by omega)) rfl (op_move rfl ?_)
 refine WL.yes rfl rfl rfl (decide_eq_false (by omega)) rfl (op_gtrI (b := (8 : Int)) rfl rfl ?_)
 refine wo (op_pickF rfl (decide_eq_false (by omega)) rfl ?_)
 refine wo (op_move rfl ?_)
 refine WL.yes rfl rfl rfl (decide_eq_false (by omega)) rfl (op_loadS (vs := [_, _, _, _]) rfl (H2.cells (i := 5) rfl rfl) Try.underlying59 rfl Fa.I59 rfl ?_)
 refine WL.yes rfl rfl rfl (decide_eq_false (by omega)) rfl (op_callF Fa.C55 rfl ((dcheck_ok mp _ _ xs ps con _ (H2.arr hE) (H2.arr hP) (by omega) (by omega)).mono (fun e w3 hq => ?_)))
 obtain ⟨rfl, hf3⟩ := hq
 refine ⟨_, rfl, ?_⟩
 have H3 := H2.fr' hf3
 refine WL.yes rfl rfl rfl (decide_eq_false (by omega)) rfl (op_neqN (b := 0) rfl rfl ?_)
 refine wo (op_pickF rfl (decide_eq_false (by omega)) rfl ?_)
 refine wo (op_move rfl ?_)
 refine WL.no rfl rfl rfl (decide_eq_true hmf) rfl ?_
 refine WL.no rfl rfl rfl (decide_eq_true hmf) rfl ?_
 refine wo (op_pickT rfl (decide_eq_true hmf) rfl ?_)
 refine wo (op_assign rfl ?_)
 refine wn ?_
 refine WC.yes rfl rfl ?_
 refine ws ?_
 refine wo (op_assign rfl ?_)
 refine wn ?_
 refine WC.ret ?_
 refine WQ.inRet ?_
 refine WQ.thenRet ?_
 refine WQ.out (.tmp rfl .nil) ?_
 exact ⟨rfl, H3.fr⟩
set_option maxRecDepth 100000 in
theorem grant_bad3 (c : Nat) (pg : UInt32) (hv : Value) (he : List UInt32) (mb cn : Nat) (gs : List Gr) (env : Int) (mp : UInt32) (ev pv : Value) (xs : List Xt) (ps : List UInt16) (con : Bool) (pages : UInt32) (w : World) (hC : cellsAt w c [(vU32 pg), hv, (.map (some mb))]) (hH : Arr w hv 1 he.length (List.map vU32 he)) (hM : w.heap[mb]? = some (mP .i64 (List.map Gr.me gs) cn)) (hG : BsOK 120 Gr.cells Gr.b gs w) (hS : grD.list.ok w gs) (hE : Arr w ev 2 xs.length (List.flatMap xtc xs)) (hP : Arr w pv 1 ps.length (List.map vU16 ps)) (hn : xs.length < 2 ^ 40) (hm : ps.length < 2 ^ 40) (h1 : 1 ≤ env) (h8 : env ≤ 8) (hmf : mfE mp xs ps = 0) (hpg : pages > 4096) :
  Calls Try.prog 19 #[(ptr c 0), (vI env), (.agg #[(vU32 mp), ev, pv, (.bool con)]), (vU32 pages)] w (fun e w' => e = .returned (vN 2) ∧ Fr [] w w') := by
 refine enter (args := [(ptr c 0), (vI env), (.agg #[(vU32 mp), ev, pv, (.bool con)]), (vU32 pages)]) Try.func19 rfl rfl ?_
 have H0 : Owl.Own [] w w [Ent.bo c [(vU32 pg), hv, (.map (some mb))], Ent.ar hv 1 he.length (List.map vU32 he), Ent.mo .i64 mb (List.map Gr.me gs) cn, Ent.bsO 120 Gr.cells Gr.b gs, Ent.dp grD.list gs] := ((((((Own.start w []).oldB hC).oldA hH).mpOld hM).bsOld hG).dpOld hS)
 refine ws ?_
 refine wo (op_box H0 rfl rfl (fun b1 w1 H1 => ?_))
 refine wo (op_box H1 rfl rfl (fun b2 w2 H2 => ?_))
 refine wo (op_assign rfl ?_)
 refine wn ?_
 refine WC.seq ?_
 refine WC.block ?_
 refine ws ?_
 refine wo (op_move rfl ?_)
 refine wo (op_eqlPN Fa.PT52 rfl rfl ?_)
 refine wo (op_assign rfl ?_)
 refine wn ?_
 refine WC.no rfl rfl ?_
 refine ws ?_
 refine wo (op_move rfl ?_)
 refine wo (op_lssI (b := (1 : Int)) rfl rfl ?_)
 refine wo (op_move rfl ?_)
 refine WL.yes rfl rfl rfl (decide_eq_false (by omega)) rfl (op_move rfl ?_)
 refine WL.yes rfl rfl rfl (decide_eq_false (by omega)) rfl (op_gtrI (b := (8 : Int)) rfl rfl ?_)
 refine wo (op_pickF rfl (decide_eq_false (by omega)) rfl ?_)
 refine wo (op_move rfl ?_)
 refine WL.yes rfl rfl rfl (decide_eq_false (by omega)) rfl (op_loadS (vs := [_, _, _, _]) rfl (H2.cells (i := 5) rfl rfl) Try.underlying59 rfl Fa.I59 rfl ?_)
 refine WL.yes rfl rfl rfl (decide_eq_false (by omega)) rfl (op_callF Fa.C55 rfl ((dcheck_ok mp _ _ xs ps con _ (H2.arr hE) (H2.arr hP) (by omega) (by omega)).mono (fun e w3 hq => ?_)))
 obtain ⟨rfl, hf3⟩ := hq
 refine ⟨_, rfl, ?_⟩
 have H3 := H2.fr' hf3
 refine WL.yes rfl rfl rfl (decide_eq_false (by omega)) rfl (op_neqN (b := 0) rfl rfl ?_)
 refine wo (op_pickF rfl (decide_eq_false (by omega)) rfl ?_)
 refine wo (op_move rfl ?_)
 refine WL.yes rfl rfl rfl (decide_eq_false (fun h => h hmf)) rfl (op_load rfl (H3.cell (i := 6) rfl rfl) Try.underlying29 rfl ?_)
 refine WL.yes rfl rfl rfl (decide_eq_false (fun h => h hmf)) rfl (op_gtrU32 (b := 4096) rfl rfl ?_)
 refine wo (op_pickF rfl (decide_eq_false (fun h => h hmf)) rfl ?_)
 refine wo (op_assign rfl ?_)
 refine wn ?_
 refine WC.yes rfl (decide_eq_true hpg) ?_
 refine ws ?_
 refine wo (op_assign rfl ?_)
 refine wn ?_
 refine WC.ret ?_
 refine WQ.inRet ?_
 refine WQ.thenRet ?_
 refine WQ.out (.tmp rfl .nil) ?_
 exact ⟨rfl, H3.fr⟩
end Go.Proofs.Ytbjhccnffacbcaa
/-! from WCap14 -/
namespace Go.Proofs.Ytbjhccnffacbcaa
open Go.Owl Go.Spec
theorem capsNew2_ok (pg : UInt32) (lv : Value) (he : List UInt32) (w : World) (hA : Arr w lv 1 he.length (List.map vU32 he)) (hn : he.length < 2 ^ 40) (hok0 : hardE pg he = 0) :
  Calls Try.prog 18 #[.agg #[vU32 pg, lv]] w (fun e w' => ∃ c v mb, e = .returned (.tuple #[ptr c 0, vN 0]) ∧ (∀ b ∈ footA v (List.map vU32 he), w.heap.size ≤ b) ∧ Owl.Own [] w w' [.blk c [(vU32 pg), v, (.map (some mb))] 112, Ent.ar v 1 he.length (List.map vU32 he), .obj mb (mP .i64 (List.map Gr.me []) 0), Ent.bs 120 Gr.cells Gr.b [], Ent.dp grD.list []]) :=
 (capsNew_ok pg lv he w hA hn hok0).mono (fun e w' ⟨c, v, mb, h1, h⟩ => ⟨c, v, mb, h1, h.rowFresh (i := 1) rfl, ((h.freeze (i := 1) rfl).bsNil 120 Gr.cells Gr.b).dpNil grD⟩)
end Go.Proofs.Ytbjhccnffacbcaa
/-! from WCap15 -/
namespace Go.Proofs.Ytbjhccnffacbcaa
open Go.Owl Go.Spec
theorem capG_ok (c : Nat) (pg : UInt32) (hv : Value) (he : List UInt32) (mb cn : Nat) (gs : List Gr) (en : Int) (mp : UInt32) (ev pv : Value) (xs : List Xt) (ps : List UInt16) (con : Bool) (pages : UInt32) (l : List Gr) (T : List Nat) (w : World) (H : Owl.Own T w w [.blk c [(vU32 pg), hv, (.map (some mb))] 112, Ent.ar hv 1 he.length (List.map vU32 he), .obj mb (mP .i64 (List.map Gr.me gs) cn), Ent.bs 120 Gr.cells Gr.b gs, Ent.dp grD.list gs, Ent.ar ev 2 xs.length (List.flatMap xtc xs), Ent.ar pv 1 ps.length (List.map vU16 ps)]) (hR : CapR gs cn l) (hT : ∀ b ∈ T, b = c ∨ b = mb ∨ b ∈ List.map Gr.b gs) (hn : xs.length < 2 ^ 40) (hm : ps.length < 2 ^ 40) (hhe : he.length < 2 ^ 32) :
    Calls Try.prog 19 #[ptr c 0, vI en, .agg #[vU32 mp, ev, pv, .bool con], vU32 pages] w (fun e w' => ∃ cn' gs', e = .returned (vN (grantE pg he l en mp xs ps pages)) ∧ CapR gs' cn' (grantG pg he l en mp xs ps con pages) ∧ DpTo w gs gs' ∧ Owl.Own T w w' [.blk c [(vU32 pg), hv, (.map (some mb))] 112, Ent.ar hv 1 he.length (List.map vU32 he), .obj mb (mP .i64 (List.map Gr.me gs') cn'), Ent.bs 120 Gr.cells Gr.b gs', Ent.dp grD.list gs', Ent.ar ev 2 xs.length (List.flatMap xtc xs), Ent.ar pv 1 ps.length (List.map vU16 ps)]) := by
  obtain ⟨hI, rfl⟩ := hR
  rw [grantE_bare]
  have no : ∀ n, n ≠ 0 → grantE pg he gs en mp xs ps pages = n → CapR gs cn (grantG pg he (gs.map Gr.bare) en mp xs ps con pages) := fun n h0 h => ⟨hI, by rw [grantG, grantE_bare, h, if_neg h0]⟩
  by_cases h1 : en < 1 ∨ en > 8
  · have e0 : grantE pg he gs en mp xs ps pages = 2 := if_pos (.inl h1)
    exact (grant_bad1 c pg hv he mb cn gs en mp ev pv xs ps con pages w (H.cellsAt (i := 0) rfl) (H.arrO (i := 1) rfl) (H.mp (i := 2) rfl) (H.bsG (i := 3) rfl) (H.dpO (i := 4) rfl) (H.arrO (i := 5) rfl) (H.arrO (i := 6) rfl) hn hm h1).mono (fun e w' ⟨he1, hf⟩ => ⟨cn, gs, by rw [e0]; exact he1, no 2 (by decide) e0, DpTo.sub (fun _ h => h), H.fr' hf⟩)
  by_cases h2 : mfE mp xs ps ≠ 0
  · have e0 : grantE pg he gs en mp xs ps pages = 2 := if_pos (.inr (.inl h2))
    exact (grant_bad2 c pg hv he mb cn gs en mp ev pv xs ps con pages w (H.cellsAt (i := 0) rfl) (H.arrO (i := 1) rfl) (H.mp (i := 2) rfl) (H.bsG (i := 3) rfl) (H.dpO (i := 4) rfl) (H.arrO (i := 5) rfl) (H.arrO (i := 6) rfl) hn hm (by omega) (by omega) h2).mono (fun e w' ⟨he1, hf⟩ => ⟨cn, gs, by rw [e0]; exact he1, no 2 (by decide) e0, DpTo.sub (fun _ h => h), H.fr' hf⟩)
  by_cases h3 : pages > 4096
  · have e0 : grantE pg he gs en mp xs ps pages = 2 := if_pos (.inr (.inr h3))
    exact (grant_bad3 c pg hv he mb cn gs en mp ev pv xs ps con pages w (H.cellsAt (i := 0) rfl) (H.arrO (i := 1) rfl) (H.mp (i := 2) rfl) (H.bsG (i := 3) rfl) (H.dpO (i := 4) rfl) (H.arrO (i := 5) rfl) (H.arrO (i := 6) rfl) hn hm (by omega) (by omega) (Classical.not_not.1 h2) h3).mono (fun e w' ⟨he1, hf⟩ => ⟨cn, gs, by rw [e0]; exact he1, no 2 (by decide) e0, DpTo.sub (fun _ h => h), H.fr' hf⟩)
  have e1 : grantE pg he gs en mp xs ps pages = if hasE gs en = true then 9 else whyE pg he gs mp xs ps pages := if_neg (fun h => h.elim h1 (fun h => h.elim h2 h3))
  obtain ⟨n, rfl⟩ : ∃ n : Nat, en = n := ⟨en.toNat, by omega⟩
  cases h4 : hasE gs n with
  | true =>
    obtain ⟨hg, hge⟩ := obs_yes h4
    have e0 := e1.trans (if_pos h4)
    exact (grant_have c pg hv he mb cn gs n mp ev pv xs ps con pages (obs gs n) T w H hI.me (by omega) (by omega) hn hm hhe hI.fit (Classical.not_not.1 h2) h3 hg hge).mono (fun e w' ⟨he1, h⟩ => ⟨cn, gs, by rw [e0]; exact he1, no 9 (by decide) e0, DpTo.sub (fun _ h => h), h⟩)
  | false =>
    have e0 := e1.trans (if_neg (by rw [h4]; decide))
    by_cases h5 : whyE pg he gs mp xs ps pages = 0
    · rw [h5] at e0
      exact (grant_yes c pg hv he mb cn gs n mp ev pv xs ps con pages T w H hI.me (by omega) (by omega) hn hm hhe hI.fit (Classical.not_not.1 h2) h3 (hasE_no h4) h5 hT).mono (fun e w' ⟨b, v1, v2, he1, hz, h⟩ => ⟨cn + 1, _, by rw [e0]; exact he1, ⟨hI.add (fun g hg he => hasE_no h4 g hg (by rw [he])) hn hm, by rw [grantG, grantE_bare, e0, if_pos rfl, List.map_append]; rfl⟩, DpTo.add hz, h⟩)
    · exact (grant_no c pg hv he mb cn gs n mp ev pv xs ps con pages T w H hI.me (by omega) (by omega) hn hm hhe hI.fit (Classical.not_not.1 h2) h3 (hasE_no h4) h5).mono (fun e w' ⟨he1, h⟩ => ⟨cn, gs, by rw [e0]; exact he1, no _ h5 e0, DpTo.sub (fun _ h => h), h⟩)
theorem capR_ok (c : Nat) (pg : UInt32) (hv : Value) (he : List UInt32) (mb cn : Nat) (gs : List Gr) (en : Int) (l : List Gr) (T : List Nat) (w : World) (H : Owl.Own T w w [.blk c [(vU32 pg), hv, (.map (some mb))] 112, Ent.ar hv 1 he.length (List.map vU32 he), .obj mb (mP .i64 (List.map Gr.me gs) cn), Ent.bs 120 Gr.cells Gr.b gs, Ent.dp grD.list gs]) (hR : CapR gs cn l) :
  Calls Try.prog 21 #[ptr c 0, vI en] w (fun e w' => ∃ gs', e = .returned (vN (relE l en)) ∧ CapR gs' cn (relG l en) ∧ DpTo w gs gs' ∧ Owl.Own T w w' [.blk c [(vU32 pg), hv, (.map (some mb))] 112, Ent.ar hv 1 he.length (List.map vU32 he), .obj mb (mP .i64 (List.map Gr.me gs') cn), Ent.bs 120 Gr.cells Gr.b gs', Ent.dp grD.list gs']) := by
 obtain ⟨hI, rfl⟩ := hR
 have e0 : relE (gs.map Gr.bare) en = relE gs en := by rw [relE, relE, hasE_bare]
 rw [e0]
 cases h : hasE gs en with
 | false => exact (release_no c pg hv he mb cn gs en w (H.cellsAt (i := 0) rfl) (H.arrO (i := 1) rfl) (H.mp (i := 2) rfl) (H.bsG (i := 3) rfl) (H.dpO (i := 4) rfl) hI.me (hasE_no h)).mono (fun e w' ⟨he1, hf⟩ => ⟨gs, by rw [relE, h]; exact he1, ⟨hI, by rw [relG_bare, relG_no h]⟩, DpTo.sub (fun _ h => h), H.fr' hf⟩)
 | true =>
  obtain ⟨hg, hge⟩ := obs_yes h
  generalize obs gs en = g at hg hge
  obtain ⟨l1, l2, rfl⟩ := List.append_of_mem hg
  exact (release_yes c pg hv he mb cn l1 l2 g en T w H hI.me hge).mono (fun e w' ⟨he1, h2⟩ => ⟨l1 ++ l2, by rw [relE, h]; exact he1, ⟨hI.del, by rw [relG_bare, hI.rel hge]⟩, DpTo.sub (fun x hx => by rcases List.mem_append.1 hx with hx | hx <;> simp [hx]), h2⟩)
theorem capT_ok (c : Nat) (pg : UInt32) (hv : Value) (he : List UInt32) (mb cn : Nat) (gs : List Gr) (en : Int) (l : List Gr) (T : List Nat) (w : World) (H : Owl.Own T w w [.blk c [(vU32 pg), hv, (.map (some mb))] 112, Ent.ar hv 1 he.length (List.map vU32 he), .obj mb (mP .i64 (List.map Gr.me gs) cn), Ent.bs 120 Gr.cells Gr.b gs, Ent.dp grD.list gs]) (hR : CapR gs cn l) :
    Calls Try.prog 22 #[ptr c 0, vI en] w (fun e w' => ∃ gs', e = .returned (vN (takeE l en)) ∧ CapR gs' cn (takeG l en) ∧ DpTo w gs gs' ∧ Owl.Own T w w' [.blk c [(vU32 pg), hv, (.map (some mb))] 112, Ent.ar hv 1 he.length (List.map vU32 he), .obj mb (mP .i64 (List.map Gr.me gs') cn), Ent.bs 120 Gr.cells Gr.b gs', Ent.dp grD.list gs']) := by
  obtain ⟨hI, rfl⟩ := hR
  rw [takeE_bare]
  cases h : hasE gs en with
  | false =>
    have e0 : takeE gs en = 3 := if_neg (by rw [h]; decide)
    exact (take_no c pg hv he mb cn gs en w (H.cellsAt (i := 0) rfl) (H.arrO (i := 1) rfl) (H.mp (i := 2) rfl) (H.bsG (i := 3) rfl) (H.dpO (i := 4) rfl) hI.me (hasE_no h)).mono (fun e w' ⟨he1, hf⟩ => ⟨gs, by rw [e0]; exact he1, ⟨hI, by rw [takeG_bare, takeG, e0, if_neg (by decide)]⟩, DpTo.sub (fun _ h => h), H.fr' hf⟩)
  | true =>
    obtain ⟨hg, hge⟩ := obs_yes h
    have e1 : takeE gs en = if (obs gs en).tk ≥ (obs gs en).pg then 4 else 0 := if_pos h
    generalize obs gs en = g at hg hge e1
    obtain ⟨l1, l2, rfl⟩ := List.append_of_mem hg
    by_cases hw : g.tk ≥ g.pg
    · have e0 := e1.trans (if_pos hw)
      exact (take_bad c pg hv he mb cn (l1 ++ g :: l2) en g w (H.cellsAt (i := 0) rfl) (H.arrO (i := 1) rfl) (H.mp (i := 2) rfl) (H.bsG (i := 3) rfl) (H.dpO (i := 4) rfl) hI.me (by simp) hge hw).mono (fun e w' ⟨he1, hf⟩ => ⟨_, by rw [e0]; exact he1, ⟨hI, by rw [takeG_bare, takeG, e0, if_neg (by decide)]⟩, DpTo.sub (fun _ h => h), H.fr' hf⟩)
    · have e0 := e1.trans (if_neg hw)
      exact (take_yes c pg hv he mb cn l1 l2 g en T w H hI.me hge hw).mono (fun e w' ⟨he1, h2⟩ => ⟨l1 ++ { g with tk := g.tk + 1 } :: l2, by rw [e0]; exact he1, ⟨hI.put rfl rfl rfl, by rw [takeG_bare, takeG, e0, if_pos rfl, hI.updG hge]⟩, DpTo.put rfl, h2⟩)
theorem capGv_ok (c : Nat) (pg : UInt32) (hv : Value) (he : List UInt32) (mb cn : Nat) (gs : List Gr) (en : Int) (l : List Gr) (T : List Nat) (w : World) (H : Owl.Own T w w [.blk c [(vU32 pg), hv, (.map (some mb))] 112, Ent.ar hv 1 he.length (List.map vU32 he), .obj mb (mP .i64 (List.map Gr.me gs) cn), Ent.bs 120 Gr.cells Gr.b gs, Ent.dp grD.list gs]) (hR : CapR gs cn l) :
    Calls Try.prog 23 #[ptr c 0, vI en] w (fun e w' => ∃ gs', e = .returned (vN (giveE l en)) ∧ CapR gs' cn (giveG l en) ∧ DpTo w gs gs' ∧ Owl.Own T w w' [.blk c [(vU32 pg), hv, (.map (some mb))] 112, Ent.ar hv 1 he.length (List.map vU32 he), .obj mb (mP .i64 (List.map Gr.me gs') cn), Ent.bs 120 Gr.cells Gr.b gs', Ent.dp grD.list gs']) := by
  obtain ⟨hI, rfl⟩ := hR
  rw [giveE_bare]
  cases h : hasE gs en with
  | false =>
    have e0 : giveE gs en = 3 := if_neg (by rw [h]; decide)
    exact (give_no c pg hv he mb cn gs en w (H.cellsAt (i := 0) rfl) (H.arrO (i := 1) rfl) (H.mp (i := 2) rfl) (H.bsG (i := 3) rfl) (H.dpO (i := 4) rfl) hI.me (hasE_no h)).mono (fun e w' ⟨he1, hf⟩ => ⟨gs, by rw [e0]; exact he1, ⟨hI, by rw [giveG_bare, giveG, e0, if_neg (by decide)]⟩, DpTo.sub (fun _ h => h), H.fr' hf⟩)
  | true =>
    obtain ⟨hg, hge⟩ := obs_yes h
    have e1 : giveE gs en = if (obs gs en).tk = 0 then 2 else 0 := if_pos h
    generalize obs gs en = g at hg hge e1
    obtain ⟨l1, l2, rfl⟩ := List.append_of_mem hg
    by_cases hw : g.tk = 0
    · have e0 := e1.trans (if_pos hw)
      exact (give_bad c pg hv he mb cn (l1 ++ g :: l2) en g w (H.cellsAt (i := 0) rfl) (H.arrO (i := 1) rfl) (H.mp (i := 2) rfl) (H.bsG (i := 3) rfl) (H.dpO (i := 4) rfl) hI.me (by simp) hge hw).mono (fun e w' ⟨he1, hf⟩ => ⟨_, by rw [e0]; exact he1, ⟨hI, by rw [giveG_bare, giveG, e0, if_neg (by decide)]⟩, DpTo.sub (fun _ h => h), H.fr' hf⟩)
    · have e0 := e1.trans (if_neg hw)
      exact (give_yes c pg hv he mb cn l1 l2 g en T w H hI.me hge hw).mono (fun e w' ⟨he1, h2⟩ => ⟨l1 ++ { g with tk := g.tk - 1 } :: l2, by rw [e0]; exact he1, ⟨hI.put rfl rfl rfl, by rw [giveG_bare, giveG, e0, if_pos rfl, hI.updG hge]⟩, DpTo.put rfl, h2⟩)
theorem left_ok (c : Nat) (pg : UInt32) (hv : Value) (he : List UInt32) (mb cn : Nat) (gs : List Gr) (env : Int) (l : List Gr) (w : World) (hC : cellsAt w c [(vU32 pg), hv, (.map (some mb))]) (hH : Arr w hv 1 he.length (List.map vU32 he)) (hM : w.heap[mb]? = some (mP .i64 (List.map Gr.me gs) cn)) (hG : BsOK 120 Gr.cells Gr.b gs w) (hS : grD.list.ok w gs) (hR : CapR gs cn l) :
  Calls Try.prog 27 #[ptr c 0, vI env] w (fun e w' => e = .returned (vU32 ((obs l env).pg - (obs l env).tk)) ∧ Fr [] w w') := by
 rw [hR.obs]
 cases h : hasE gs env with
 | false => rw [obs_no h]; exact left_no c pg hv he mb cn gs env w hC hH hM hG hS hR.1.me (hasE_no h)
 | true =>
  obtain ⟨hg, hge⟩ := obs_yes h
  exact left_some c pg hv he mb cn gs env (obs gs env) w hC hH hM hG hS hR.1.me hg hge (hR.1.fit _ hg).1 (hR.1.fit _ hg).2
theorem console_ok (c : Nat) (pg : UInt32) (hv : Value) (he : List UInt32) (mb cn : Nat) (gs : List Gr) (env : Int) (l : List Gr) (w : World) (hC : cellsAt w c [(vU32 pg), hv, (.map (some mb))]) (hH : Arr w hv 1 he.length (List.map vU32 he)) (hM : w.heap[mb]? = some (mP .i64 (List.map Gr.me gs) cn)) (hG : BsOK 120 Gr.cells Gr.b gs w) (hS : grD.list.ok w gs) (hR : CapR gs cn l) :
  Calls Try.prog 31 #[ptr c 0, vI env] w (fun e w' => e = .returned (.bool (obs l env).con) ∧ Fr [] w w') := by
 rw [hR.obs]
 cases h : hasE gs env with
 | false => rw [obs_no h]; exact console_no c pg hv he mb cn gs env w hC hH hM hG hS hR.1.me (hasE_no h)
 | true =>
  obtain ⟨hg, hge⟩ := obs_yes h
  exact console_some c pg hv he mb cn gs env (obs gs env) w hC hH hM hG hS hR.1.me hg hge (hR.1.fit _ hg).1 (hR.1.fit _ hg).2
theorem port_ok (c : Nat) (pg : UInt32) (hv : Value) (he : List UInt32) (mb cn : Nat) (gs : List Gr) (env : Int) (y : UInt16) (l : List Gr) (w : World) (hC : cellsAt w c [(vU32 pg), hv, (.map (some mb))]) (hH : Arr w hv 1 he.length (List.map vU32 he)) (hM : w.heap[mb]? = some (mP .i64 (List.map Gr.me gs) cn)) (hG : BsOK 120 Gr.cells Gr.b gs w) (hS : grD.list.ok w gs) (hR : CapR gs cn l) :
  Calls Try.prog 28 #[ptr c 0, vI env, vU16 y] w (fun e w' => e = .returned (.bool (busyQ (obs l env) y)) ∧ Fr [] w w') := by
 rw [hR.obs]
 cases h : hasE gs env with
 | false => rw [obs_no h]; exact port_no c pg hv he mb cn gs env y w hC hH hM hG hS hR.1.me (hasE_no h)
 | true =>
  obtain ⟨hg, hge⟩ := obs_yes h
  exact port_some c pg hv he mb cn gs env (obs gs env) y w hC hH hM hG hS hR.1.me hg hge (hR.1.fit _ hg).1 (hR.1.fit _ hg).2
theorem cblock_ok (c : Nat) (pg : UInt32) (hv : Value) (he : List UInt32) (mb cn : Nat) (gs : List Gr) (env : Int) (id bk : UInt32) (l : List Gr) (w : World) (hC : cellsAt w c [(vU32 pg), hv, (.map (some mb))]) (hH : Arr w hv 1 he.length (List.map vU32 he)) (hM : w.heap[mb]? = some (mP .i64 (List.map Gr.me gs) cn)) (hG : BsOK 120 Gr.cells Gr.b gs w) (hS : grD.list.ok w gs) (hR : CapR gs cn l) :
  Calls Try.prog 29 #[ptr c 0, vI env, vU32 id, vU32 bk] w (fun e w' => e = .returned (.bool (hasX (obs l env).xs id && decide (bk < (extG (obs l env).xs id).bl))) ∧ Fr [] w w') := by
 rw [hR.obs]
 cases h : hasE gs env with
 | false => rw [obs_no h]; exact block_no c pg hv he mb cn gs env id bk w hC hH hM hG hS hR.1.me (hasE_no h)
 | true =>
  obtain ⟨hg, hge⟩ := obs_yes h
  exact block_some c pg hv he mb cn gs env (obs gs env) id bk w hC hH hM hG hS hR.1.me hg hge (hR.1.fit _ hg).1 (hR.1.fit _ hg).2
theorem manifest_ok (c : Nat) (pg : UInt32) (hv : Value) (he : List UInt32) (mb cn : Nat) (gs : List Gr) (env : Int) (l : List Gr) (w : World) (hC : cellsAt w c [(vU32 pg), hv, (.map (some mb))]) (hH : Arr w hv 1 he.length (List.map vU32 he)) (hM : w.heap[mb]? = some (mP .i64 (List.map Gr.me gs) cn)) (hG : BsOK 120 Gr.cells Gr.b gs w) (hS : grD.list.ok w gs) (hR : CapR gs cn l) :
  Calls Try.prog 26 #[ptr c 0, vI env] w (fun e w' => ∃ v1 v2, e = .returned (.tuple #[.agg #[vU32 (obs l env).pg, v1, v2, .bool (obs l env).con], .bool (hasE l env)]) ∧ Owl.Own [] w w' [.row v1 108 2 (obs l env).xs.length (List.flatMap xtc (obs l env).xs), .row v2 50 1 (obs l env).ps.length (List.map vU16 (obs l env).ps)]) := by
 rw [hR.obs, ← hR.has]
 cases h : hasE gs env with
 | false => rw [obs_no h]; exact manifest_no c pg hv he mb cn gs env w hC hH hM hG hS hR.1.me (hasE_no h)
 | true =>
  obtain ⟨hg, hge⟩ := obs_yes h
  exact manifest_some c pg hv he mb cn gs env (obs gs env) w hC hH hM hG hS hR.1.me hg hge (hR.1.fit _ hg).1 (hR.1.fit _ hg).2
theorem freeL_ok (c : Nat) (pg : UInt32) (hv : Value) (he : List UInt32) (mb cn : Nat) (gs : List Gr) (l : List Gr) (w : World) (hC : cellsAt w c [(vU32 pg), hv, (.map (some mb))]) (hH : Arr w hv 1 he.length (List.map vU32 he)) (hM : w.heap[mb]? = some (mP .i64 (List.map Gr.me gs) cn)) (hG : BsOK 120 Gr.cells Gr.b gs w) (hS : grD.list.ok w gs) (hR : CapR gs cn l) :
  Calls Try.prog 25 #[ptr c 0] w (fun e w' => e = .returned (vU32 (freeS pg l)) ∧ Fr [] w w') := by
 rw [← hR.free]
 exact free_ok c pg hv he mb cn gs w hC hH hM hG hS hR.1.me
end Go.Proofs.Ytbjhccnffacbcaa
/-! from WCap16 -/
namespace Go.Proofs.Ytbjhccnffacbcaa
open Go.Owl Go.Spec
set_option maxHeartbeats 4000000 in
set_option maxRecDepth 100000 in
theorem calive_ok  (w : World) :
  Calls Try.prog 17 #[] w (fun e w' => e = .returned (.bool true) ∧ Fr [] w w') := by
 refine enter (args := []) Try.func17 rfl rfl ?_
 have H0 : Owl.Own [] w w [] := Own.start w []
 refine ws ?_
 refine wo (op_assign rfl ?_)
 refine wn ?_
 refine ws ?_
 refine wo (op_buildSlice (cs := [_, _]) H0 Try.underlying46 Fa.I29 rfl rfl rfl rfl (by decide) (by decide) (fun b1 w1 H1 => ?_))
 refine wo (op_build (cs := [_, _]) Fa.I48 Fa.PL48 rfl rfl ?_)
 refine wo (op_callF Fa.C18 rfl ((capsNew2_ok 10 _ ([4, 2]) _ (H1.arrR (i := 0) rfl) (by decide) rfl).mono (fun e w2 hq => ?_)))
 obtain ⟨c2, v2, mb2, rfl, hv2, hq2⟩ := hq
 refine ⟨_, rfl, ?_⟩
 have H2 : Owl.Own [] w w2 [.row (.slice (some ⟨b1, 0, none⟩) 2 2) 29 1 2 (List.map vU32 [4, 2]), .blk c2 [(vU32 10), v2, (.map (some mb2))] 112, Ent.ar v2 1 ([4, 2]).length (List.map vU32 ([4, 2])), .obj mb2 (mP .i64 (List.map Gr.me []) 0), Ent.bs 120 Gr.cells Gr.b [], Ent.dp grD.list []] := H1.splice [] [] [.blk c2 [(vU32 10), v2, (.map (some mb2))] 112, Ent.ar v2 1 ([4, 2]).length (List.map vU32 ([4, 2])), .obj mb2 (mP .i64 (List.map Gr.me []) 0), Ent.bs 120 Gr.cells Gr.b [], Ent.dp grD.list []] rfl rfl hq2 (Fits.solid True.intro (Fits.fresh hv2 (Fits.solid True.intro (Fits.solid True.intro (Fits.fresh (fun b hb => by cases hb) Fits.nil)))))
 refine wo (op_move rfl ?_)
 refine wo (op_extract rfl rfl ?_)
 refine wo (op_extract rfl rfl ?_)
 refine wo (op_assign rfl ?_)
 refine wo (op_assign rfl ?_)
 refine wn ?_
 refine WC.seq ?_
 refine ws ?_
 refine wo (op_move rfl ?_)
 refine wo (op_neqN (b := 0) rfl rfl ?_)
 refine wo (op_move rfl ?_)
 refine WL.yes rfl rfl rfl (by kernel_rfl) rfl (op_move rfl ?_)
 refine WL.yes rfl rfl rfl (by kernel_rfl) rfl (op_eqlPN Fa.PT52 rfl rfl ?_)
 refine wo (op_pickF rfl (by kernel_rfl) rfl ?_)
 refine wn ?_
 refine WC.no rfl rfl ?_
 refine WC.skip ?_
 refine WQ.next ?_
 refine ws ?_
 refine wo (op_move rfl ?_)
 refine wo (op_build (cs := [_, _]) Fa.I108 Fa.PL108 rfl rfl ?_)
 refine wo (op_buildSlice (cs := [_, _]) H2 Try.underlying56 Fa.I108 rfl rfl rfl rfl (by decide) (by decide) (fun b3 w3 H3 => ?_))
 refine wo (op_buildSlice (cs := [_]) H3 Try.underlying57 Fa.I50 rfl rfl rfl rfl (by decide) (by decide) (fun b4 w4 H4 => ?_))
 refine wo (op_build (cs := [_, _, _, _]) Fa.I59 Fa.PL59 rfl rfl ?_)
 have H5 : Owl.Own [] w w4 [.row (.slice (some ⟨b1, 0, none⟩) 2 2) 29 1 2 (List.map vU32 [4, 2]), .blk c2 [(vU32 10), v2, (.map (some mb2))] 112, Ent.ar v2 1 ([4, 2]).length (List.map vU32 ([4, 2])), .obj mb2 (mP .i64 (List.map Gr.me []) 0), Ent.bs 120 Gr.cells Gr.b [], Ent.dp grD.list [], Ent.ar (.slice (some ⟨b3, 0, none⟩) 1 1) 2 1 (List.map vU32 [0, 4]), .row (.slice (some ⟨b4, 0, none⟩) 1 1) 50 1 1 (List.map vU16 [7])] := H4.freeze (i := 6) rfl
 have H6 : Owl.Own [] w w4 [.row (.slice (some ⟨b1, 0, none⟩) 2 2) 29 1 2 (List.map vU32 [4, 2]), .blk c2 [(vU32 10), v2, (.map (some mb2))] 112, Ent.ar v2 1 ([4, 2]).length (List.map vU32 ([4, 2])), .obj mb2 (mP .i64 (List.map Gr.me []) 0), Ent.bs 120 Gr.cells Gr.b [], Ent.dp grD.list [], Ent.ar (.slice (some ⟨b3, 0, none⟩) 1 1) 2 1 (List.map vU32 [0, 4]), Ent.ar (.slice (some ⟨b4, 0, none⟩) 1 1) 1 1 (List.map vU16 [7])] := H5.freeze (i := 7) rfl
 refine wo (op_callF Fa.C19 rfl ((capG_ok c2 10 v2 ([4, 2]) mb2 0 ([]) ((1 : Nat) : Int) 3 (.slice (some ⟨b3, 0, none⟩) 1 1) (.slice (some ⟨b4, 0, none⟩) 1 1) ([(Xt.mk 0 4)]) ([7]) false 2 ([]) _ _ (H6.part [1, 2, 3, 4, 5, 6, 7] rfl rfl) (CapR.nil 0) capT7 (by decide) (by decide) (by decide)).mono (fun e w7 hq => ?_)))
 obtain ⟨cn7, gs7, rfl, hi7, hd7, hq7⟩ := hq
 refine ⟨_, rfl, ?_⟩
 have H7 : Owl.Own [] w w7 [.row (.slice (some ⟨b1, 0, none⟩) 2 2) 29 1 2 (List.map vU32 [4, 2]), .blk c2 [(vU32 10), v2, (.map (some mb2))] 112, Ent.ar v2 1 ([4, 2]).length (List.map vU32 ([4, 2])), .obj mb2 (mP .i64 (List.map Gr.me gs7) cn7), Ent.bs 120 Gr.cells Gr.b gs7, Ent.dp grD.list gs7, Ent.ar (.slice (some ⟨b3, 0, none⟩) 1 1) 2 1 (List.map vU32 [0, 4]), Ent.ar (.slice (some ⟨b4, 0, none⟩) 1 1) 1 1 (List.map vU16 [7])] := H6.splice [1, 2, 3, 4, 5, 6, 7] [.blk c2 [(vU32 10), v2, (.map (some mb2))] 112, Ent.ar v2 1 ([4, 2]).length (List.map vU32 ([4, 2])), .obj mb2 (mP .i64 (List.map Gr.me gs7) cn7), Ent.bs 120 Gr.cells Gr.b gs7, Ent.dp grD.list gs7, Ent.ar (.slice (some ⟨b3, 0, none⟩) 1 1) 2 1 (List.map vU32 [0, 4]), Ent.ar (.slice (some ⟨b4, 0, none⟩) 1 1) 1 1 (List.map vU16 [7])] [] rfl rfl hq7 (Fits.solid True.intro (Fits.same (j := 1) rfl (Fits.solid True.intro (Fits.solid True.intro (Fits.dpTo 4 rfl hd7 (Fits.same (j := 5) rfl (Fits.same (j := 6) rfl Fits.nil)))))))
 refine wo (op_assign rfl ?_)
 refine wn ?_
 refine ws ?_
 refine wo (op_move rfl ?_)
 refine wo (op_callF Fa.C25 rfl ((freeL_ok c2 10 v2 ([4, 2]) mb2 cn7 gs7 (grantG 10 ([4, 2]) ([]) ((1 : Nat) : Int) 3 ([(Xt.mk 0 4)]) ([7]) false 2) _ (H7.cellsAt (i := 1) rfl) (H7.arrO (i := 2) rfl) (H7.mp (i := 3) rfl) (H7.bsG (i := 4) rfl) (H7.dpO (i := 5) rfl) hi7).mono (fun e w8 hq => ?_)))
 obtain ⟨rfl, hf8⟩ := hq
 refine ⟨_, rfl, ?_⟩
 have H8 := H7.fr' hf8
 refine wo (op_assign rfl ?_)
 refine wn ?_
 refine ws ?_
 refine wo (op_move rfl ?_)
 refine wo (op_buildSlice (cs := [_]) H8 Try.underlying57 Fa.I50 rfl rfl rfl rfl (by decide) (by decide) (fun b9 w9 H9 => ?_))
 refine wo (op_build (cs := [_, _, _, _]) Fa.I59 Fa.PL59 rfl rfl ?_)
 have H10 : Owl.Own [] w w9 [.row (.slice (some ⟨b1, 0, none⟩) 2 2) 29 1 2 (List.map vU32 [4, 2]), .blk c2 [(vU32 10), v2, (.map (some mb2))] 112, Ent.ar v2 1 ([4, 2]).length (List.map vU32 ([4, 2])), .obj mb2 (mP .i64 (List.map Gr.me gs7) cn7), Ent.bs 120 Gr.cells Gr.b gs7, Ent.dp grD.list gs7, Ent.ar (.slice (some ⟨b3, 0, none⟩) 1 1) 2 1 (List.map vU32 [0, 4]), Ent.ar (.slice (some ⟨b4, 0, none⟩) 1 1) 1 1 (List.map vU16 [7]), .row (.slice (some ⟨b9, 0, none⟩) 1 1) 50 1 1 (List.map vU16 [7]), .row (.slice none 0 0) 108 2 0 (List.flatMap xtc [])] := H9.nilRow 108 2
 have H11 : Owl.Own [] w w9 [.row (.slice (some ⟨b1, 0, none⟩) 2 2) 29 1 2 (List.map vU32 [4, 2]), .blk c2 [(vU32 10), v2, (.map (some mb2))] 112, Ent.ar v2 1 ([4, 2]).length (List.map vU32 ([4, 2])), .obj mb2 (mP .i64 (List.map Gr.me gs7) cn7), Ent.bs 120 Gr.cells Gr.b gs7, Ent.dp grD.list gs7, Ent.ar (.slice (some ⟨b3, 0, none⟩) 1 1) 2 1 (List.map vU32 [0, 4]), Ent.ar (.slice (some ⟨b4, 0, none⟩) 1 1) 1 1 (List.map vU16 [7]), .row (.slice (some ⟨b9, 0, none⟩) 1 1) 50 1 1 (List.map vU16 [7]), Ent.ar (.slice none 0 0) 2 0 (List.flatMap xtc [])] := H10.freeze (i := 9) rfl
 have H12 : Owl.Own [] w w9 [.row (.slice (some ⟨b1, 0, none⟩) 2 2) 29 1 2 (List.map vU32 [4, 2]), .blk c2 [(vU32 10), v2, (.map (some mb2))] 112, Ent.ar v2 1 ([4, 2]).length (List.map vU32 ([4, 2])), .obj mb2 (mP .i64 (List.map Gr.me gs7) cn7), Ent.bs 120 Gr.cells Gr.b gs7, Ent.dp grD.list gs7, Ent.ar (.slice (some ⟨b3, 0, none⟩) 1 1) 2 1 (List.map vU32 [0, 4]), Ent.ar (.slice (some ⟨b4, 0, none⟩) 1 1) 1 1 (List.map vU16 [7]), Ent.ar (.slice (some ⟨b9, 0, none⟩) 1 1) 1 1 (List.map vU16 [7]), Ent.ar (.slice none 0 0) 2 0 (List.flatMap xtc [])] := H11.freeze (i := 8) rfl
 refine wo (op_callF Fa.C19 rfl ((capG_ok c2 10 v2 ([4, 2]) mb2 cn7 gs7 ((2 : Nat) : Int) 0 (.slice none 0 0) (.slice (some ⟨b9, 0, none⟩) 1 1) ([]) ([7]) false 0 (grantG 10 ([4, 2]) ([]) ((1 : Nat) : Int) 3 ([(Xt.mk 0 4)]) ([7]) false 2) _ _ (H12.part [1, 2, 3, 4, 5, 9, 8] rfl rfl) hi7 capT7 (by decide) (by decide) (by decide)).mono (fun e w13 hq => ?_)))
 obtain ⟨cn13, gs13, rfl, hi13, hd13, hq13⟩ := hq
 refine ⟨_, rfl, ?_⟩
 have H13 : Owl.Own [] w w13 [.row (.slice (some ⟨b1, 0, none⟩) 2 2) 29 1 2 (List.map vU32 [4, 2]), .blk c2 [(vU32 10), v2, (.map (some mb2))] 112, Ent.ar v2 1 ([4, 2]).length (List.map vU32 ([4, 2])), .obj mb2 (mP .i64 (List.map Gr.me gs13) cn13), Ent.bs 120 Gr.cells Gr.b gs13, Ent.dp grD.list gs13, Ent.ar (.slice (some ⟨b3, 0, none⟩) 1 1) 2 1 (List.map vU32 [0, 4]), Ent.ar (.slice (some ⟨b4, 0, none⟩) 1 1) 1 1 (List.map vU16 [7]), Ent.ar (.slice (some ⟨b9, 0, none⟩) 1 1) 1 1 (List.map vU16 [7]), Ent.ar (.slice none 0 0) 2 0 (List.flatMap xtc [])] := H12.splice [1, 2, 3, 4, 5, 9, 8] [.blk c2 [(vU32 10), v2, (.map (some mb2))] 112, Ent.ar v2 1 ([4, 2]).length (List.map vU32 ([4, 2])), .obj mb2 (mP .i64 (List.map Gr.me gs13) cn13), Ent.bs 120 Gr.cells Gr.b gs13, Ent.dp grD.list gs13, Ent.ar (.slice none 0 0) 2 0 (List.flatMap xtc []), Ent.ar (.slice (some ⟨b9, 0, none⟩) 1 1) 1 1 (List.map vU16 [7])] [] rfl rfl hq13 (Fits.solid True.intro (Fits.same (j := 1) rfl (Fits.solid True.intro (Fits.solid True.intro (Fits.dpTo 4 rfl hd13 (Fits.same (j := 5) rfl (Fits.same (j := 6) rfl Fits.nil)))))))
 refine wo (op_assign rfl ?_)
 refine wn ?_
 refine ws ?_
 refine wo (op_move rfl ?_)
 refine wo (op_build (cs := [_, _]) Fa.I108 Fa.PL108 rfl rfl ?_)
 refine wo (op_buildSlice (cs := [_, _]) H13 Try.underlying56 Fa.I108 rfl rfl rfl rfl (by decide) (by decide) (fun b14 w14 H14 => ?_))
 refine wo (op_build (cs := [_, _, _, _]) Fa.I59 Fa.PL59 rfl rfl ?_)
 have H15 : Owl.Own [] w w14 [.row (.slice (some ⟨b1, 0, none⟩) 2 2) 29 1 2 (List.map vU32 [4, 2]), .blk c2 [(vU32 10), v2, (.map (some mb2))] 112, Ent.ar v2 1 ([4, 2]).length (List.map vU32 ([4, 2])), .obj mb2 (mP .i64 (List.map Gr.me gs13) cn13), Ent.bs 120 Gr.cells Gr.b gs13, Ent.dp grD.list gs13, Ent.ar (.slice (some ⟨b3, 0, none⟩) 1 1) 2 1 (List.map vU32 [0, 4]), Ent.ar (.slice (some ⟨b4, 0, none⟩) 1 1) 1 1 (List.map vU16 [7]), Ent.ar (.slice (some ⟨b9, 0, none⟩) 1 1) 1 1 (List.map vU16 [7]), Ent.ar (.slice none 0 0) 2 0 (List.flatMap xtc []), Ent.ar (.slice (some ⟨b14, 0, none⟩) 1 1) 2 1 (List.map vU32 [1, 3])] := H14.freeze (i := 10) rfl
 have H16 : Owl.Own [] w w14 [.row (.slice (some ⟨b1, 0, none⟩) 2 2) 29 1 2 (List.map vU32 [4, 2]), .blk c2 [(vU32 10), v2, (.map (some mb2))] 112, Ent.ar v2 1 ([4, 2]).length (List.map vU32 ([4, 2])), .obj mb2 (mP .i64 (List.map Gr.me gs13) cn13), Ent.bs 120 Gr.cells Gr.b gs13, Ent.dp grD.list gs13, Ent.ar (.slice (some ⟨b3, 0, none⟩) 1 1) 2 1 (List.map vU32 [0, 4]), Ent.ar (.slice (some ⟨b4, 0, none⟩) 1 1) 1 1 (List.map vU16 [7]), Ent.ar (.slice (some ⟨b9, 0, none⟩) 1 1) 1 1 (List.map vU16 [7]), Ent.ar (.slice none 0 0) 2 0 (List.flatMap xtc []), Ent.ar (.slice (some ⟨b14, 0, none⟩) 1 1) 2 1 (List.map vU32 [1, 3]), .row (.slice none 0 0) 50 1 0 (List.map vU16 [])] := H15.nilRow 50 1
 have H17 : Owl.Own [] w w14 [.row (.slice (some ⟨b1, 0, none⟩) 2 2) 29 1 2 (List.map vU32 [4, 2]), .blk c2 [(vU32 10), v2, (.map (some mb2))] 112, Ent.ar v2 1 ([4, 2]).length (List.map vU32 ([4, 2])), .obj mb2 (mP .i64 (List.map Gr.me gs13) cn13), Ent.bs 120 Gr.cells Gr.b gs13, Ent.dp grD.list gs13, Ent.ar (.slice (some ⟨b3, 0, none⟩) 1 1) 2 1 (List.map vU32 [0, 4]), Ent.ar (.slice (some ⟨b4, 0, none⟩) 1 1) 1 1 (List.map vU16 [7]), Ent.ar (.slice (some ⟨b9, 0, none⟩) 1 1) 1 1 (List.map vU16 [7]), Ent.ar (.slice none 0 0) 2 0 (List.flatMap xtc []), Ent.ar (.slice (some ⟨b14, 0, none⟩) 1 1) 2 1 (List.map vU32 [1, 3]), Ent.ar (.slice none 0 0) 1 0 (List.map vU16 [])] := H16.freeze (i := 11) rfl
 refine wo (op_callF Fa.C19 rfl ((capG_ok c2 10 v2 ([4, 2]) mb2 cn13 gs13 ((2 : Nat) : Int) 0 (.slice (some ⟨b14, 0, none⟩) 1 1) (.slice none 0 0) ([(Xt.mk 1 3)]) ([]) false 0 (grantG 10 ([4, 2]) (grantG 10 ([4, 2]) ([]) ((1 : Nat) : Int) 3 ([(Xt.mk 0 4)]) ([7]) false 2) ((2 : Nat) : Int) 0 ([]) ([7]) false 0) _ _ (H17.part [1, 2, 3, 4, 5, 10, 11] rfl rfl) hi13 capT7 (by decide) (by decide) (by decide)).mono (fun e w18 hq => ?_)))
 obtain ⟨cn18, gs18, rfl, hi18, hd18, hq18⟩ := hq
 refine ⟨_, rfl, ?_⟩
 have H18 : Owl.Own [] w w18 [.row (.slice (some ⟨b1, 0, none⟩) 2 2) 29 1 2 (List.map vU32 [4, 2]), .blk c2 [(vU32 10), v2, (.map (some mb2))] 112, Ent.ar v2 1 ([4, 2]).length (List.map vU32 ([4, 2])), .obj mb2 (mP .i64 (List.map Gr.me gs18) cn18), Ent.bs 120 Gr.cells Gr.b gs18, Ent.dp grD.list gs18, Ent.ar (.slice (some ⟨b3, 0, none⟩) 1 1) 2 1 (List.map vU32 [0, 4]), Ent.ar (.slice (some ⟨b4, 0, none⟩) 1 1) 1 1 (List.map vU16 [7]), Ent.ar (.slice (some ⟨b9, 0, none⟩) 1 1) 1 1 (List.map vU16 [7]), Ent.ar (.slice none 0 0) 2 0 (List.flatMap xtc []), Ent.ar (.slice (some ⟨b14, 0, none⟩) 1 1) 2 1 (List.map vU32 [1, 3]), Ent.ar (.slice none 0 0) 1 0 (List.map vU16 [])] := H17.splice [1, 2, 3, 4, 5, 10, 11] [.blk c2 [(vU32 10), v2, (.map (some mb2))] 112, Ent.ar v2 1 ([4, 2]).length (List.map vU32 ([4, 2])), .obj mb2 (mP .i64 (List.map Gr.me gs18) cn18), Ent.bs 120 Gr.cells Gr.b gs18, Ent.dp grD.list gs18, Ent.ar (.slice (some ⟨b14, 0, none⟩) 1 1) 2 1 (List.map vU32 [1, 3]), Ent.ar (.slice none 0 0) 1 0 (List.map vU16 [])] [] rfl rfl hq18 (Fits.solid True.intro (Fits.same (j := 1) rfl (Fits.solid True.intro (Fits.solid True.intro (Fits.dpTo 4 rfl hd18 (Fits.same (j := 5) rfl (Fits.same (j := 6) rfl Fits.nil)))))))
 refine wo (op_assign rfl ?_)
 refine wn ?_
 refine ws ?_
 refine wo (op_move rfl ?_)
 refine wo (op_build (cs := [_, _]) Fa.I108 Fa.PL108 rfl rfl ?_)
 refine wo (op_buildSlice (cs := [_, _]) H18 Try.underlying56 Fa.I108 rfl rfl rfl rfl (by decide) (by decide) (fun b19 w19 H19 => ?_))
 refine wo (op_build (cs := [_, _, _, _]) Fa.I59 Fa.PL59 rfl rfl ?_)
 have H20 : Owl.Own [] w w19 [.row (.slice (some ⟨b1, 0, none⟩) 2 2) 29 1 2 (List.map vU32 [4, 2]), .blk c2 [(vU32 10), v2, (.map (some mb2))] 112, Ent.ar v2 1 ([4, 2]).length (List.map vU32 ([4, 2])), .obj mb2 (mP .i64 (List.map Gr.me gs18) cn18), Ent.bs 120 Gr.cells Gr.b gs18, Ent.dp grD.list gs18, Ent.ar (.slice (some ⟨b3, 0, none⟩) 1 1) 2 1 (List.map vU32 [0, 4]), Ent.ar (.slice (some ⟨b4, 0, none⟩) 1 1) 1 1 (List.map vU16 [7]), Ent.ar (.slice (some ⟨b9, 0, none⟩) 1 1) 1 1 (List.map vU16 [7]), Ent.ar (.slice none 0 0) 2 0 (List.flatMap xtc []), Ent.ar (.slice (some ⟨b14, 0, none⟩) 1 1) 2 1 (List.map vU32 [1, 3]), Ent.ar (.slice none 0 0) 1 0 (List.map vU16 []), Ent.ar (.slice (some ⟨b19, 0, none⟩) 1 1) 2 1 (List.map vU32 [2, 1])] := H19.freeze (i := 12) rfl
 have H21 : Owl.Own [] w w19 [.row (.slice (some ⟨b1, 0, none⟩) 2 2) 29 1 2 (List.map vU32 [4, 2]), .blk c2 [(vU32 10), v2, (.map (some mb2))] 112, Ent.ar v2 1 ([4, 2]).length (List.map vU32 ([4, 2])), .obj mb2 (mP .i64 (List.map Gr.me gs18) cn18), Ent.bs 120 Gr.cells Gr.b gs18, Ent.dp grD.list gs18, Ent.ar (.slice (some ⟨b3, 0, none⟩) 1 1) 2 1 (List.map vU32 [0, 4]), Ent.ar (.slice (some ⟨b4, 0, none⟩) 1 1) 1 1 (List.map vU16 [7]), Ent.ar (.slice (some ⟨b9, 0, none⟩) 1 1) 1 1 (List.map vU16 [7]), Ent.ar (.slice none 0 0) 2 0 (List.flatMap xtc []), Ent.ar (.slice (some ⟨b14, 0, none⟩) 1 1) 2 1 (List.map vU32 [1, 3]), Ent.ar (.slice none 0 0) 1 0 (List.map vU16 []), Ent.ar (.slice (some ⟨b19, 0, none⟩) 1 1) 2 1 (List.map vU32 [2, 1]), .row (.slice none 0 0) 50 1 0 (List.map vU16 [])] := H20.nilRow 50 1
 have H22 : Owl.Own [] w w19 [.row (.slice (some ⟨b1, 0, none⟩) 2 2) 29 1 2 (List.map vU32 [4, 2]), .blk c2 [(vU32 10), v2, (.map (some mb2))] 112, Ent.ar v2 1 ([4, 2]).length (List.map vU32 ([4, 2])), .obj mb2 (mP .i64 (List.map Gr.me gs18) cn18), Ent.bs 120 Gr.cells Gr.b gs18, Ent.dp grD.list gs18, Ent.ar (.slice (some ⟨b3, 0, none⟩) 1 1) 2 1 (List.map vU32 [0, 4]), Ent.ar (.slice (some ⟨b4, 0, none⟩) 1 1) 1 1 (List.map vU16 [7]), Ent.ar (.slice (some ⟨b9, 0, none⟩) 1 1) 1 1 (List.map vU16 [7]), Ent.ar (.slice none 0 0) 2 0 (List.flatMap xtc []), Ent.ar (.slice (some ⟨b14, 0, none⟩) 1 1) 2 1 (List.map vU32 [1, 3]), Ent.ar (.slice none 0 0) 1 0 (List.map vU16 []), Ent.ar (.slice (some ⟨b19, 0, none⟩) 1 1) 2 1 (List.map vU32 [2, 1]), Ent.ar (.slice none 0 0) 1 0 (List.map vU16 [])] := H21.freeze (i := 13) rfl
 refine wo (op_callF Fa.C19 rfl ((capG_ok c2 10 v2 ([4, 2]) mb2 cn18 gs18 ((2 : Nat) : Int) 0 (.slice (some ⟨b19, 0, none⟩) 1 1) (.slice none 0 0) ([(Xt.mk 2 1)]) ([]) false 0 (grantG 10 ([4, 2]) (grantG 10 ([4, 2]) (grantG 10 ([4, 2]) ([]) ((1 : Nat) : Int) 3 ([(Xt.mk 0 4)]) ([7]) false 2) ((2 : Nat) : Int) 0 ([]) ([7]) false 0) ((2 : Nat) : Int) 0 ([(Xt.mk 1 3)]) ([]) false 0) _ _ (H22.part [1, 2, 3, 4, 5, 12, 13] rfl rfl) hi18 capT7 (by decide) (by decide) (by decide)).mono (fun e w23 hq => ?_)))
 obtain ⟨cn23, gs23, rfl, hi23, hd23, hq23⟩ := hq
 refine ⟨_, rfl, ?_⟩
 have H23 : Owl.Own [] w w23 [.row (.slice (some ⟨b1, 0, none⟩) 2 2) 29 1 2 (List.map vU32 [4, 2]), .blk c2 [(vU32 10), v2, (.map (some mb2))] 112, Ent.ar v2 1 ([4, 2]).length (List.map vU32 ([4, 2])), .obj mb2 (mP .i64 (List.map Gr.me gs23) cn23), Ent.bs 120 Gr.cells Gr.b gs23, Ent.dp grD.list gs23, Ent.ar (.slice (some ⟨b3, 0, none⟩) 1 1) 2 1 (List.map vU32 [0, 4]), Ent.ar (.slice (some ⟨b4, 0, none⟩) 1 1) 1 1 (List.map vU16 [7]), Ent.ar (.slice (some ⟨b9, 0, none⟩) 1 1) 1 1 (List.map vU16 [7]), Ent.ar (.slice none 0 0) 2 0 (List.flatMap xtc []), Ent.ar (.slice (some ⟨b14, 0, none⟩) 1 1) 2 1 (List.map vU32 [1, 3]), Ent.ar (.slice none 0 0) 1 0 (List.map vU16 []), Ent.ar (.slice (some ⟨b19, 0, none⟩) 1 1) 2 1 (List.map vU32 [2, 1]), Ent.ar (.slice none 0 0) 1 0 (List.map vU16 [])] := H22.splice [1, 2, 3, 4, 5, 12, 13] [.blk c2 [(vU32 10), v2, (.map (some mb2))] 112, Ent.ar v2 1 ([4, 2]).length (List.map vU32 ([4, 2])), .obj mb2 (mP .i64 (List.map Gr.me gs23) cn23), Ent.bs 120 Gr.cells Gr.b gs23, Ent.dp grD.list gs23, Ent.ar (.slice (some ⟨b19, 0, none⟩) 1 1) 2 1 (List.map vU32 [2, 1]), Ent.ar (.slice none 0 0) 1 0 (List.map vU16 [])] [] rfl rfl hq23 (Fits.solid True.intro (Fits.same (j := 1) rfl (Fits.solid True.intro (Fits.solid True.intro (Fits.dpTo 4 rfl hd23 (Fits.same (j := 5) rfl (Fits.same (j := 6) rfl Fits.nil)))))))
 refine wo (op_assign rfl ?_)
 refine wn ?_
 refine ws ?_
 refine wo (op_move rfl ?_)
 refine wo (op_build (cs := [_, _, _, _]) Fa.I59 Fa.PL59 rfl rfl ?_)
 have H24 : Owl.Own [] w w23 [.row (.slice (some ⟨b1, 0, none⟩) 2 2) 29 1 2 (List.map vU32 [4, 2]), .blk c2 [(vU32 10), v2, (.map (some mb2))] 112, Ent.ar v2 1 ([4, 2]).length (List.map vU32 ([4, 2])), .obj mb2 (mP .i64 (List.map Gr.me gs23) cn23), Ent.bs 120 Gr.cells Gr.b gs23, Ent.dp grD.list gs23, Ent.ar (.slice (some ⟨b3, 0, none⟩) 1 1) 2 1 (List.map vU32 [0, 4]), Ent.ar (.slice (some ⟨b4, 0, none⟩) 1 1) 1 1 (List.map vU16 [7]), Ent.ar (.slice (some ⟨b9, 0, none⟩) 1 1) 1 1 (List.map vU16 [7]), Ent.ar (.slice none 0 0) 2 0 (List.flatMap xtc []), Ent.ar (.slice (some ⟨b14, 0, none⟩) 1 1) 2 1 (List.map vU32 [1, 3]), Ent.ar (.slice none 0 0) 1 0 (List.map vU16 []), Ent.ar (.slice (some ⟨b19, 0, none⟩) 1 1) 2 1 (List.map vU32 [2, 1]), Ent.ar (.slice none 0 0) 1 0 (List.map vU16 []), .row (.slice none 0 0) 108 2 0 (List.flatMap xtc [])] := H23.nilRow 108 2
 have H25 : Owl.Own [] w w23 [.row (.slice (some ⟨b1, 0, none⟩) 2 2) 29 1 2 (List.map vU32 [4, 2]), .blk c2 [(vU32 10), v2, (.map (some mb2))] 112, Ent.ar v2 1 ([4, 2]).length (List.map vU32 ([4, 2])), .obj mb2 (mP .i64 (List.map Gr.me gs23) cn23), Ent.bs 120 Gr.cells Gr.b gs23, Ent.dp grD.list gs23, Ent.ar (.slice (some ⟨b3, 0, none⟩) 1 1) 2 1 (List.map vU32 [0, 4]), Ent.ar (.slice (some ⟨b4, 0, none⟩) 1 1) 1 1 (List.map vU16 [7]), Ent.ar (.slice (some ⟨b9, 0, none⟩) 1 1) 1 1 (List.map vU16 [7]), Ent.ar (.slice none 0 0) 2 0 (List.flatMap xtc []), Ent.ar (.slice (some ⟨b14, 0, none⟩) 1 1) 2 1 (List.map vU32 [1, 3]), Ent.ar (.slice none 0 0) 1 0 (List.map vU16 []), Ent.ar (.slice (some ⟨b19, 0, none⟩) 1 1) 2 1 (List.map vU32 [2, 1]), Ent.ar (.slice none 0 0) 1 0 (List.map vU16 []), Ent.ar (.slice none 0 0) 2 0 (List.flatMap xtc [])] := H24.freeze (i := 14) rfl
 have H26 : Owl.Own [] w w23 [.row (.slice (some ⟨b1, 0, none⟩) 2 2) 29 1 2 (List.map vU32 [4, 2]), .blk c2 [(vU32 10), v2, (.map (some mb2))] 112, Ent.ar v2 1 ([4, 2]).length (List.map vU32 ([4, 2])), .obj mb2 (mP .i64 (List.map Gr.me gs23) cn23), Ent.bs 120 Gr.cells Gr.b gs23, Ent.dp grD.list gs23, Ent.ar (.slice (some ⟨b3, 0, none⟩) 1 1) 2 1 (List.map vU32 [0, 4]), Ent.ar (.slice (some ⟨b4, 0, none⟩) 1 1) 1 1 (List.map vU16 [7]), Ent.ar (.slice (some ⟨b9, 0, none⟩) 1 1) 1 1 (List.map vU16 [7]), Ent.ar (.slice none 0 0) 2 0 (List.flatMap xtc []), Ent.ar (.slice (some ⟨b14, 0, none⟩) 1 1) 2 1 (List.map vU32 [1, 3]), Ent.ar (.slice none 0 0) 1 0 (List.map vU16 []), Ent.ar (.slice (some ⟨b19, 0, none⟩) 1 1) 2 1 (List.map vU32 [2, 1]), Ent.ar (.slice none 0 0) 1 0 (List.map vU16 []), Ent.ar (.slice none 0 0) 2 0 (List.flatMap xtc []), .row (.slice none 0 0) 50 1 0 (List.map vU16 [])] := H25.nilRow 50 1
 have H27 : Owl.Own [] w w23 [.row (.slice (some ⟨b1, 0, none⟩) 2 2) 29 1 2 (List.map vU32 [4, 2]), .blk c2 [(vU32 10), v2, (.map (some mb2))] 112, Ent.ar v2 1 ([4, 2]).length (List.map vU32 ([4, 2])), .obj mb2 (mP .i64 (List.map Gr.me gs23) cn23), Ent.bs 120 Gr.cells Gr.b gs23, Ent.dp grD.list gs23, Ent.ar (.slice (some ⟨b3, 0, none⟩) 1 1) 2 1 (List.map vU32 [0, 4]), Ent.ar (.slice (some ⟨b4, 0, none⟩) 1 1) 1 1 (List.map vU16 [7]), Ent.ar (.slice (some ⟨b9, 0, none⟩) 1 1) 1 1 (List.map vU16 [7]), Ent.ar (.slice none 0 0) 2 0 (List.flatMap xtc []), Ent.ar (.slice (some ⟨b14, 0, none⟩) 1 1) 2 1 (List.map vU32 [1, 3]), Ent.ar (.slice none 0 0) 1 0 (List.map vU16 []), Ent.ar (.slice (some ⟨b19, 0, none⟩) 1 1) 2 1 (List.map vU32 [2, 1]), Ent.ar (.slice none 0 0) 1 0 (List.map vU16 []), Ent.ar (.slice none 0 0) 2 0 (List.flatMap xtc []), Ent.ar (.slice none 0 0) 1 0 (List.map vU16 [])] := H26.freeze (i := 15) rfl
 refine wo (op_callF Fa.C19 rfl ((capG_ok c2 10 v2 ([4, 2]) mb2 cn23 gs23 ((2 : Nat) : Int) 6 (.slice none 0 0) (.slice none 0 0) ([]) ([]) false 0 (grantG 10 ([4, 2]) (grantG 10 ([4, 2]) (grantG 10 ([4, 2]) (grantG 10 ([4, 2]) ([]) ((1 : Nat) : Int) 3 ([(Xt.mk 0 4)]) ([7]) false 2) ((2 : Nat) : Int) 0 ([]) ([7]) false 0) ((2 : Nat) : Int) 0 ([(Xt.mk 1 3)]) ([]) false 0) ((2 : Nat) : Int) 0 ([(Xt.mk 2 1)]) ([]) false 0) _ _ (H27.part [1, 2, 3, 4, 5, 14, 15] rfl rfl) hi23 capT7 (by decide) (by decide) (by decide)).mono (fun e w28 hq => ?_)))
 obtain ⟨cn28, gs28, rfl, hi28, hd28, hq28⟩ := hq
 refine ⟨_, rfl, ?_⟩
 have H28 : Owl.Own [] w w28 [.row (.slice (some ⟨b1, 0, none⟩) 2 2) 29 1 2 (List.map vU32 [4, 2]), .blk c2 [(vU32 10), v2, (.map (some mb2))] 112, Ent.ar v2 1 ([4, 2]).length (List.map vU32 ([4, 2])), .obj mb2 (mP .i64 (List.map Gr.me gs28) cn28), Ent.bs 120 Gr.cells Gr.b gs28, Ent.dp grD.list gs28, Ent.ar (.slice (some ⟨b3, 0, none⟩) 1 1) 2 1 (List.map vU32 [0, 4]), Ent.ar (.slice (some ⟨b4, 0, none⟩) 1 1) 1 1 (List.map vU16 [7]), Ent.ar (.slice (some ⟨b9, 0, none⟩) 1 1) 1 1 (List.map vU16 [7]), Ent.ar (.slice none 0 0) 2 0 (List.flatMap xtc []), Ent.ar (.slice (some ⟨b14, 0, none⟩) 1 1) 2 1 (List.map vU32 [1, 3]), Ent.ar (.slice none 0 0) 1 0 (List.map vU16 []), Ent.ar (.slice (some ⟨b19, 0, none⟩) 1 1) 2 1 (List.map vU32 [2, 1]), Ent.ar (.slice none 0 0) 1 0 (List.map vU16 []), Ent.ar (.slice none 0 0) 2 0 (List.flatMap xtc []), Ent.ar (.slice none 0 0) 1 0 (List.map vU16 [])] := H27.splice [1, 2, 3, 4, 5, 14, 15] [.blk c2 [(vU32 10), v2, (.map (some mb2))] 112, Ent.ar v2 1 ([4, 2]).length (List.map vU32 ([4, 2])), .obj mb2 (mP .i64 (List.map Gr.me gs28) cn28), Ent.bs 120 Gr.cells Gr.b gs28, Ent.dp grD.list gs28, Ent.ar (.slice none 0 0) 2 0 (List.flatMap xtc []), Ent.ar (.slice none 0 0) 1 0 (List.map vU16 [])] [] rfl rfl hq28 (Fits.solid True.intro (Fits.same (j := 1) rfl (Fits.solid True.intro (Fits.solid True.intro (Fits.dpTo 4 rfl hd28 (Fits.same (j := 5) rfl (Fits.same (j := 6) rfl Fits.nil)))))))
 refine wo (op_assign rfl ?_)
 refine wn ?_
 refine WC.seq ?_
 first | refine WC.regionA ?_ | refine WC.regionL ?_
 refine wo (op_move rfl ?_)
 refine wo (op_eqlN (b := 0) rfl rfl ?_)
 refine wo (op_move rfl ?_)
 refine WL.yes rfl rfl rfl (by kernel_rfl) rfl (op_move rfl ?_)
 refine WL.yes rfl rfl rfl (by kernel_rfl) rfl (op_eqlU32 (b := 5) rfl rfl ?_)
 refine wo (op_pickT rfl (by kernel_rfl) rfl ?_)
 refine wo (op_move rfl ?_)
 refine WL.yes rfl rfl rfl (by kernel_rfl) rfl (op_move rfl ?_)
 refine WL.yes rfl rfl rfl (by kernel_rfl) rfl (op_eqlN (b := 190) rfl rfl ?_)
 refine wo (op_pickT rfl (by kernel_rfl) rfl ?_)
 refine wo (op_move rfl ?_)
 refine WL.yes rfl rfl rfl (by kernel_rfl) rfl (op_move rfl ?_)
 refine WL.yes rfl rfl rfl (by kernel_rfl) rfl (op_eqlN (b := 5) rfl rfl ?_)
 refine wo (op_pickT rfl (by kernel_rfl) rfl ?_)
 refine wo (op_move rfl ?_)
 refine WL.yes rfl rfl rfl (by kernel_rfl) rfl (op_move rfl ?_)
 refine WL.yes rfl rfl rfl (by kernel_rfl) rfl (op_eqlN (b := 3) rfl rfl ?_)
 refine wo (op_pickT rfl (by kernel_rfl) rfl ?_)
 refine wo (op_move rfl ?_)
 refine WL.yes rfl rfl rfl (by kernel_rfl) rfl (op_move rfl ?_)
 refine WL.yes rfl rfl rfl (by kernel_rfl) rfl (op_eqlN (b := 4) rfl rfl ?_)
 refine wo (op_pickT rfl (by kernel_rfl) rfl ?_)
 refine wo (op_move rfl ?_)
 refine WL.yes rfl rfl rfl (by kernel_rfl) rfl (op_move rfl ?_)
 refine WL.yes rfl rfl rfl (by kernel_rfl) rfl (op_callF Fa.C29 rfl ((cblock_ok c2 10 v2 ([4, 2]) mb2 cn28 gs28 ((1 : Nat) : Int) 0 3 (grantG 10 ([4, 2]) (grantG 10 ([4, 2]) (grantG 10 ([4, 2]) (grantG 10 ([4, 2]) (grantG 10 ([4, 2]) ([]) ((1 : Nat) : Int) 3 ([(Xt.mk 0 4)]) ([7]) false 2) ((2 : Nat) : Int) 0 ([]) ([7]) false 0) ((2 : Nat) : Int) 0 ([(Xt.mk 1 3)]) ([]) false 0) ((2 : Nat) : Int) 0 ([(Xt.mk 2 1)]) ([]) false 0) ((2 : Nat) : Int) 6 ([]) ([]) false 0) _ (H28.cellsAt (i := 1) rfl) (H28.arrO (i := 2) rfl) (H28.mp (i := 3) rfl) (H28.bsG (i := 4) rfl) (H28.dpO (i := 5) rfl) hi28).mono (fun e w29 hq => ?_)))
 obtain ⟨rfl, hf29⟩ := hq
 refine ⟨_, rfl, ?_⟩
 have H29 := H28.fr' hf29
 refine wo (op_pickT rfl (by kernel_rfl) rfl ?_)
 refine wo (op_move rfl ?_)
 refine WL.yes rfl rfl rfl (by kernel_rfl) rfl (op_move rfl ?_)
 refine WL.yes rfl rfl rfl (by kernel_rfl) rfl (op_callF Fa.C29 rfl ((cblock_ok c2 10 v2 ([4, 2]) mb2 cn28 gs28 ((1 : Nat) : Int) 0 4 (grantG 10 ([4, 2]) (grantG 10 ([4, 2]) (grantG 10 ([4, 2]) (grantG 10 ([4, 2]) (grantG 10 ([4, 2]) ([]) ((1 : Nat) : Int) 3 ([(Xt.mk 0 4)]) ([7]) false 2) ((2 : Nat) : Int) 0 ([]) ([7]) false 0) ((2 : Nat) : Int) 0 ([(Xt.mk 1 3)]) ([]) false 0) ((2 : Nat) : Int) 0 ([(Xt.mk 2 1)]) ([]) false 0) ((2 : Nat) : Int) 6 ([]) ([]) false 0) _ (H29.cellsAt (i := 1) rfl) (H29.arrO (i := 2) rfl) (H29.mp (i := 3) rfl) (H29.bsG (i := 4) rfl) (H29.dpO (i := 5) rfl) hi28).mono (fun e w30 hq => ?_)))
 obtain ⟨rfl, hf30⟩ := hq
 refine ⟨_, rfl, ?_⟩
 have H30 := H29.fr' hf30
 refine WL.yes rfl rfl rfl (by kernel_rfl) rfl (op_not rfl ?_)
 refine wo (op_pickT rfl (by kernel_rfl) rfl ?_)
 refine wo (op_move rfl ?_)
 refine WL.yes rfl rfl rfl (by kernel_rfl) rfl (op_move rfl ?_)
 refine WL.yes rfl rfl rfl (by kernel_rfl) rfl (op_callF Fa.C29 rfl ((cblock_ok c2 10 v2 ([4, 2]) mb2 cn28 gs28 ((1 : Nat) : Int) 1 0 (grantG 10 ([4, 2]) (grantG 10 ([4, 2]) (grantG 10 ([4, 2]) (grantG 10 ([4, 2]) (grantG 10 ([4, 2]) ([]) ((1 : Nat) : Int) 3 ([(Xt.mk 0 4)]) ([7]) false 2) ((2 : Nat) : Int) 0 ([]) ([7]) false 0) ((2 : Nat) : Int) 0 ([(Xt.mk 1 3)]) ([]) false 0) ((2 : Nat) : Int) 0 ([(Xt.mk 2 1)]) ([]) false 0) ((2 : Nat) : Int) 6 ([]) ([]) false 0) _ (H30.cellsAt (i := 1) rfl) (H30.arrO (i := 2) rfl) (H30.mp (i := 3) rfl) (H30.bsG (i := 4) rfl) (H30.dpO (i := 5) rfl) hi28).mono (fun e w31 hq => ?_)))
 obtain ⟨rfl, hf31⟩ := hq
 refine ⟨_, rfl, ?_⟩
 have H31 := H30.fr' hf31
 refine WL.yes rfl rfl rfl (by kernel_rfl) rfl (op_not rfl ?_)
 refine wo (op_pickT rfl (by kernel_rfl) rfl ?_)
 refine wo (op_move rfl ?_)
 refine WL.yes rfl rfl rfl (by kernel_rfl) rfl (op_move rfl ?_)
 refine WL.yes rfl rfl rfl (by kernel_rfl) rfl (op_callF Fa.C28 rfl ((port_ok c2 10 v2 ([4, 2]) mb2 cn28 gs28 ((1 : Nat) : Int) 7 (grantG 10 ([4, 2]) (grantG 10 ([4, 2]) (grantG 10 ([4, 2]) (grantG 10 ([4, 2]) (grantG 10 ([4, 2]) ([]) ((1 : Nat) : Int) 3 ([(Xt.mk 0 4)]) ([7]) false 2) ((2 : Nat) : Int) 0 ([]) ([7]) false 0) ((2 : Nat) : Int) 0 ([(Xt.mk 1 3)]) ([]) false 0) ((2 : Nat) : Int) 0 ([(Xt.mk 2 1)]) ([]) false 0) ((2 : Nat) : Int) 6 ([]) ([]) false 0) _ (H31.cellsAt (i := 1) rfl) (H31.arrO (i := 2) rfl) (H31.mp (i := 3) rfl) (H31.bsG (i := 4) rfl) (H31.dpO (i := 5) rfl) hi28).mono (fun e w32 hq => ?_)))
 obtain ⟨rfl, hf32⟩ := hq
 refine ⟨_, rfl, ?_⟩
 have H32 := H31.fr' hf32
 refine wo (op_pickT rfl (by kernel_rfl) rfl ?_)
 refine wo (op_move rfl ?_)
 refine WL.yes rfl rfl rfl (by kernel_rfl) rfl (op_move rfl ?_)
 refine WL.yes rfl rfl rfl (by kernel_rfl) rfl (op_callF Fa.C31 rfl ((console_ok c2 10 v2 ([4, 2]) mb2 cn28 gs28 ((1 : Nat) : Int) (grantG 10 ([4, 2]) (grantG 10 ([4, 2]) (grantG 10 ([4, 2]) (grantG 10 ([4, 2]) (grantG 10 ([4, 2]) ([]) ((1 : Nat) : Int) 3 ([(Xt.mk 0 4)]) ([7]) false 2) ((2 : Nat) : Int) 0 ([]) ([7]) false 0) ((2 : Nat) : Int) 0 ([(Xt.mk 1 3)]) ([]) false 0) ((2 : Nat) : Int) 0 ([(Xt.mk 2 1)]) ([]) false 0) ((2 : Nat) : Int) 6 ([]) ([]) false 0) _ (H32.cellsAt (i := 1) rfl) (H32.arrO (i := 2) rfl) (H32.mp (i := 3) rfl) (H32.bsG (i := 4) rfl) (H32.dpO (i := 5) rfl) hi28).mono (fun e w33 hq => ?_)))
 obtain ⟨rfl, hf33⟩ := hq
 refine ⟨_, rfl, ?_⟩
 have H33 := H32.fr' hf33
 refine WL.yes rfl rfl rfl (by kernel_rfl) rfl (op_not rfl ?_)
 refine wo (op_pickT rfl (by kernel_rfl) rfl ?_)
 refine wo (op_move rfl ?_)
 refine WL.yes rfl rfl rfl (by kernel_rfl) rfl (op_move rfl ?_)
 refine WL.yes rfl rfl rfl (by kernel_rfl) rfl (op_callF Fa.C22 rfl ((capT_ok c2 10 v2 ([4, 2]) mb2 cn28 gs28 ((1 : Nat) : Int) (grantG 10 ([4, 2]) (grantG 10 ([4, 2]) (grantG 10 ([4, 2]) (grantG 10 ([4, 2]) (grantG 10 ([4, 2]) ([]) ((1 : Nat) : Int) 3 ([(Xt.mk 0 4)]) ([7]) false 2) ((2 : Nat) : Int) 0 ([]) ([7]) false 0) ((2 : Nat) : Int) 0 ([(Xt.mk 1 3)]) ([]) false 0) ((2 : Nat) : Int) 0 ([(Xt.mk 2 1)]) ([]) false 0) ((2 : Nat) : Int) 6 ([]) ([]) false 0) _ _ (H33.part [1, 2, 3, 4, 5] rfl rfl) hi28).mono (fun e w34 hq => ?_)))
 obtain ⟨gs34, rfl, hi34, hd34, hq34⟩ := hq
 refine ⟨_, rfl, ?_⟩
 have H34 : Owl.Own [] w w34 [.row (.slice (some ⟨b1, 0, none⟩) 2 2) 29 1 2 (List.map vU32 [4, 2]), .blk c2 [(vU32 10), v2, (.map (some mb2))] 112, Ent.ar v2 1 ([4, 2]).length (List.map vU32 ([4, 2])), .obj mb2 (mP .i64 (List.map Gr.me gs34) cn28), Ent.bs 120 Gr.cells Gr.b gs34, Ent.dp grD.list gs34, Ent.ar (.slice (some ⟨b3, 0, none⟩) 1 1) 2 1 (List.map vU32 [0, 4]), Ent.ar (.slice (some ⟨b4, 0, none⟩) 1 1) 1 1 (List.map vU16 [7]), Ent.ar (.slice (some ⟨b9, 0, none⟩) 1 1) 1 1 (List.map vU16 [7]), Ent.ar (.slice none 0 0) 2 0 (List.flatMap xtc []), Ent.ar (.slice (some ⟨b14, 0, none⟩) 1 1) 2 1 (List.map vU32 [1, 3]), Ent.ar (.slice none 0 0) 1 0 (List.map vU16 []), Ent.ar (.slice (some ⟨b19, 0, none⟩) 1 1) 2 1 (List.map vU32 [2, 1]), Ent.ar (.slice none 0 0) 1 0 (List.map vU16 []), Ent.ar (.slice none 0 0) 2 0 (List.flatMap xtc []), Ent.ar (.slice none 0 0) 1 0 (List.map vU16 [])] := H33.splice [1, 2, 3, 4, 5] [.blk c2 [(vU32 10), v2, (.map (some mb2))] 112, Ent.ar v2 1 ([4, 2]).length (List.map vU32 ([4, 2])), .obj mb2 (mP .i64 (List.map Gr.me gs34) cn28), Ent.bs 120 Gr.cells Gr.b gs34, Ent.dp grD.list gs34] [] rfl rfl hq34 (Fits.solid True.intro (Fits.same (j := 1) rfl (Fits.solid True.intro (Fits.solid True.intro (Fits.dpTo 4 rfl hd34 Fits.nil)))))
 refine WL.yes rfl rfl rfl (by kernel_rfl) rfl (op_eqlN (b := 0) rfl rfl ?_)
 refine wo (op_pickT rfl (by kernel_rfl) rfl ?_)
 refine wo (op_move rfl ?_)
 refine WL.yes rfl rfl rfl (by kernel_rfl) rfl (op_move rfl ?_)
 refine WL.yes rfl rfl rfl (by kernel_rfl) rfl (op_callF Fa.C27 rfl ((left_ok c2 10 v2 ([4, 2]) mb2 cn28 gs34 ((1 : Nat) : Int) (takeG (grantG 10 ([4, 2]) (grantG 10 ([4, 2]) (grantG 10 ([4, 2]) (grantG 10 ([4, 2]) (grantG 10 ([4, 2]) ([]) ((1 : Nat) : Int) 3 ([(Xt.mk 0 4)]) ([7]) false 2) ((2 : Nat) : Int) 0 ([]) ([7]) false 0) ((2 : Nat) : Int) 0 ([(Xt.mk 1 3)]) ([]) false 0) ((2 : Nat) : Int) 0 ([(Xt.mk 2 1)]) ([]) false 0) ((2 : Nat) : Int) 6 ([]) ([]) false 0) ((1 : Nat) : Int)) _ (H34.cellsAt (i := 1) rfl) (H34.arrO (i := 2) rfl) (H34.mp (i := 3) rfl) (H34.bsG (i := 4) rfl) (H34.dpO (i := 5) rfl) hi34).mono (fun e w35 hq => ?_)))
 obtain ⟨rfl, hf35⟩ := hq
 refine ⟨_, rfl, ?_⟩
 have H35 := H34.fr' hf35
 refine WL.yes rfl rfl rfl (by kernel_rfl) rfl (op_eqlU32 (b := 2) rfl rfl ?_)
 refine wo (op_pickT rfl (by kernel_rfl) rfl ?_)
 refine wo (op_move rfl ?_)
 refine WL.yes rfl rfl rfl (by kernel_rfl) rfl (op_move rfl ?_)
 refine WL.yes rfl rfl rfl (by kernel_rfl) rfl (op_callF Fa.C21 rfl ((capR_ok c2 10 v2 ([4, 2]) mb2 cn28 gs34 ((1 : Nat) : Int) (takeG (grantG 10 ([4, 2]) (grantG 10 ([4, 2]) (grantG 10 ([4, 2]) (grantG 10 ([4, 2]) (grantG 10 ([4, 2]) ([]) ((1 : Nat) : Int) 3 ([(Xt.mk 0 4)]) ([7]) false 2) ((2 : Nat) : Int) 0 ([]) ([7]) false 0) ((2 : Nat) : Int) 0 ([(Xt.mk 1 3)]) ([]) false 0) ((2 : Nat) : Int) 0 ([(Xt.mk 2 1)]) ([]) false 0) ((2 : Nat) : Int) 6 ([]) ([]) false 0) ((1 : Nat) : Int)) _ _ (H35.part [1, 2, 3, 4, 5] rfl rfl) hi34).mono (fun e w36 hq => ?_)))
 obtain ⟨gs36, rfl, hi36, hd36, hq36⟩ := hq
 refine ⟨_, rfl, ?_⟩
 have H36 : Owl.Own [] w w36 [.row (.slice (some ⟨b1, 0, none⟩) 2 2) 29 1 2 (List.map vU32 [4, 2]), .blk c2 [(vU32 10), v2, (.map (some mb2))] 112, Ent.ar v2 1 ([4, 2]).length (List.map vU32 ([4, 2])), .obj mb2 (mP .i64 (List.map Gr.me gs36) cn28), Ent.bs 120 Gr.cells Gr.b gs36, Ent.dp grD.list gs36, Ent.ar (.slice (some ⟨b3, 0, none⟩) 1 1) 2 1 (List.map vU32 [0, 4]), Ent.ar (.slice (some ⟨b4, 0, none⟩) 1 1) 1 1 (List.map vU16 [7]), Ent.ar (.slice (some ⟨b9, 0, none⟩) 1 1) 1 1 (List.map vU16 [7]), Ent.ar (.slice none 0 0) 2 0 (List.flatMap xtc []), Ent.ar (.slice (some ⟨b14, 0, none⟩) 1 1) 2 1 (List.map vU32 [1, 3]), Ent.ar (.slice none 0 0) 1 0 (List.map vU16 []), Ent.ar (.slice (some ⟨b19, 0, none⟩) 1 1) 2 1 (List.map vU32 [2, 1]), Ent.ar (.slice none 0 0) 1 0 (List.map vU16 []), Ent.ar (.slice none 0 0) 2 0 (List.flatMap xtc []), Ent.ar (.slice none 0 0) 1 0 (List.map vU16 [])] := H35.splice [1, 2, 3, 4, 5] [.blk c2 [(vU32 10), v2, (.map (some mb2))] 112, Ent.ar v2 1 ([4, 2]).length (List.map vU32 ([4, 2])), .obj mb2 (mP .i64 (List.map Gr.me gs36) cn28), Ent.bs 120 Gr.cells Gr.b gs36, Ent.dp grD.list gs36] [] rfl rfl hq36 (Fits.solid True.intro (Fits.same (j := 1) rfl (Fits.solid True.intro (Fits.solid True.intro (Fits.dpTo 4 rfl hd36 Fits.nil)))))
 refine WL.yes rfl rfl rfl (by kernel_rfl) rfl (op_eqlN (b := 0) rfl rfl ?_)
 refine wo (op_pickT rfl (by kernel_rfl) rfl ?_)
 refine wo (op_move rfl ?_)
 refine WL.yes rfl rfl rfl (by kernel_rfl) rfl (op_move rfl ?_)
 refine WL.yes rfl rfl rfl (by kernel_rfl) rfl (op_callF Fa.C25 rfl ((freeL_ok c2 10 v2 ([4, 2]) mb2 cn28 gs36 (relG (takeG (grantG 10 ([4, 2]) (grantG 10 ([4, 2]) (grantG 10 ([4, 2]) (grantG 10 ([4, 2]) (grantG 10 ([4, 2]) ([]) ((1 : Nat) : Int) 3 ([(Xt.mk 0 4)]) ([7]) false 2) ((2 : Nat) : Int) 0 ([]) ([7]) false 0) ((2 : Nat) : Int) 0 ([(Xt.mk 1 3)]) ([]) false 0) ((2 : Nat) : Int) 0 ([(Xt.mk 2 1)]) ([]) false 0) ((2 : Nat) : Int) 6 ([]) ([]) false 0) ((1 : Nat) : Int)) ((1 : Nat) : Int)) _ (H36.cellsAt (i := 1) rfl) (H36.arrO (i := 2) rfl) (H36.mp (i := 3) rfl) (H36.bsG (i := 4) rfl) (H36.dpO (i := 5) rfl) hi36).mono (fun e w37 hq => ?_)))
 obtain ⟨rfl, hf37⟩ := hq
 refine ⟨_, rfl, ?_⟩
 have H37 := H36.fr' hf37
 refine WL.yes rfl rfl rfl (by kernel_rfl) rfl (op_eqlU32 (b := 10) rfl rfl ?_)
 refine wo (op_pickT rfl (by kernel_rfl) rfl ?_)
 refine wo (op_assign rfl ?_)
 refine wn ?_
 refine WC.ret ?_
 refine WQ.out (.tmp rfl .nil) ?_
 exact ⟨by rw [((by kernel_rfl) : (decide ((freeS 10 (relG (takeG (grantG 10 ([4, 2]) (grantG 10 ([4, 2]) (grantG 10 ([4, 2]) (grantG 10 ([4, 2]) (grantG 10 ([4, 2]) ([]) ((1 : Nat) : Int) 3 ([(Xt.mk 0 4)]) ([7]) false 2) ((2 : Nat) : Int) 0 ([]) ([7]) false 0) ((2 : Nat) : Int) 0 ([(Xt.mk 1 3)]) ([]) false 0) ((2 : Nat) : Int) 0 ([(Xt.mk 2 1)]) ([]) false 0) ((2 : Nat) : Int) 6 ([]) ([]) false 0) ((1 : Nat) : Int)) ((1 : Nat) : Int))) = (10 : UInt32))) = true)]; rfl, H37.fr⟩
set_option maxRecDepth 100000 in
theorem clarge_ok (mp : UInt32) (ev pv : Value) (xs : List Xt) (ps : List UInt16) (con : Bool) (w : World) (hE : Arr w ev 2 xs.length (List.flatMap xtc xs)) (hP : Arr w pv 1 ps.length (List.map vU16 ps)) :
  Calls Try.prog 39 #[(.agg #[(vU32 mp), ev, pv, (.bool con)])] w (fun e w' => e = .returned (.bool (largeC xs ps)) ∧ Fr [] w w') := by
 refine enter (args := [(.agg #[(vU32 mp), ev, pv, (.bool con)])]) Try.func39 rfl rfl ?_
 have H0 : Owl.Own [] w w [] := Own.start w []
 refine ws ?_
 refine wo (op_box H0 rfl rfl (fun b1 w1 H1 => ?_))
 refine wo (op_assign rfl ?_)
 refine wn ?_
 refine ws ?_
 refine wo (op_fieldAddr rfl Fa.F59_1 ?_)
 refine wo (op_load rfl (H1.cell (i := 0) rfl rfl) Try.underlying56 rfl ?_)
 refine wo (op_lenA Try.underlying56 rfl (H1.arr hE) ?_)
 refine wo (op_gtrN (b := 40) rfl rfl ?_)
 refine wo (op_move rfl ?_)
 refine WL.split (t := 7) rfl (fun (hb2 : (decide (xs.length > 40)) = true) => ?_) (fun (hb2 : (decide (xs.length > 40)) = false) => ?_)
 ·
  have hc2 := of_decide_eq_true hb2
  refine WL.no rfl rfl rfl hb2 rfl ?_
  refine WL.no rfl rfl rfl hb2 rfl ?_
  refine WL.no rfl rfl rfl hb2 rfl ?_
  refine WL.no rfl rfl rfl hb2 rfl ?_
  refine wo (op_pickT rfl hb2 rfl ?_)
  refine wo (op_assign rfl ?_)
  refine wn ?_
  refine WC.ret ?_
  refine WQ.out (.tmp rfl .nil) ?_
  exact ⟨by (rw [largeC, hb2]) <;> rfl, H1.fr⟩
 ·
  have hc2 := of_decide_eq_false hb2
  refine WL.yes rfl rfl rfl hb2 rfl (op_fieldAddr rfl Fa.F59_2 ?_)
  refine WL.yes rfl rfl rfl hb2 rfl (op_load rfl (H1.cell (i := 0) rfl rfl) Try.underlying57 rfl ?_)
  refine WL.yes rfl rfl rfl hb2 rfl (op_lenA Try.underlying57 rfl (H1.arr hP) ?_)
  refine WL.yes rfl rfl rfl hb2 rfl (op_gtrN (b := 40) rfl rfl ?_)
  refine wo (op_pickF rfl hb2 rfl ?_)
  refine wo (op_assign rfl ?_)
  refine wn ?_
  refine WC.ret ?_
  refine WQ.out (.tmp rfl .nil) ?_
  exact ⟨by (rw [largeC, hb2]) <;> rfl, H1.fr⟩
end Go.Proofs.Ytbjhccnffacbcaa
/-! from WSeq -/
namespace Go.Proofs.Ytbjhccnffacbcaa
open Go.Owl Go.Spec
set_option maxRecDepth 100000 in
theorem keys1_int (mb c Bm : Nat) (l : List ME) (hl : MEok l c) {F : Fence} {m : Nat} (hF : Free F) (hro : F.round = none) (w0 : World) (hB : w0.cell? ⟨Bm, 0, none⟩ = some (.map (some mb))) (hM : w0.heap[mb]? = some (mP .i64 l c)) :
  SeqStopsK F m Try.prog 101 #[ptr Bm 0] (fun e : ME => #[kvI .i64 e]) KeepsWalks (fun xs => l.Perm xs) (fun _ => True) l.length w0 := by
 intro lp J Jx W hW hJ hJx hY h0
 have hM1 : W.heap[mb]? = some (mP .i64 l c) := (hW.block mb (Array.getElem?_eq_some_iff.1 hM).1).trans hM
 have hB1 : W.cell? ⟨Bm, 0, none⟩ = some (.map (some mb)) := (hW.cell (p := ⟨Bm, 0, none⟩) (block_lt_of_cell hB)).trans hB
 refine enterI (args := [.func (.yield lp) #[] #[], ptr Bm 0]) hF hro Try.func101 rfl rfl ?_
 refine WCI.seq ?_
 refine WCI.region ?_
 refine WLI.op hF rfl rfl rfl (op_load rfl hB1 Try.underlying110 rfl ?_)
 refine WLI.op hF rfl rfl rfl (op_rangeP (Own.start W []) hM1 Try.underlying110 rfl (fun ib w1 H1 => ?_))
 have hi1 : w1.heap[ib]? = some (itO mb c []) := H1.ok 0 _ rfl
 have hle : W.heap.size ≤ ib := (H1.own 0 _ rfl ib rfl).resolve_right (by simp)
 have hM2 : w1.heap[mb]? = some (mP .i64 l c) := (H1.fr.block mb (Array.getElem?_eq_some_iff.1 hM1).1 (by simp)).trans hM1
 have hJ1 : J [] w1 := hJ [] W w1 none h0 (Fr.grown H1.fr) (fun r e => by cases e)
 refine WLI.nil ?_
 refine WQ.nextI ?_
 refine WCI.block ?_
 refine WCI.loop (α := List ME × List ME) (fun z => [(0, .func (.yield lp) #[] #[]), (5, ptr ib 0)]) (fun z w' => l.Perm (z.1 ++ z.2) ∧ w'.heap[ib]? = some (itO mb c z.1) ∧ w'.heap[mb]? = some (mP .i64 l c) ∧ J z.1 w') (fun z => z.2.length) ([], l) ⟨List.Perm.refl _, hi1, hM2, hJ1⟩ ⟨rfl, rfl, trivial⟩ ?_
 rintro ⟨sn, rst⟩ w1 ⟨hp, hi2, hM3, hJ2⟩
 show WCI _ _ _ _ _ _ _ [(0, (.func (.yield lp) #[] #[])), (5, (ptr ib 0))] _
 refine WCI.seq ?_
 refine WCI.region ?_
 refine WLI.op hF rfl rfl rfl (op_nextP (i := 0) (sn := sn) (rest := rst) (Own.obj1 hi2) rfl hM3 hl hp rfl (fun h0 => ?_) (fun e rs hlen hp2 w3 HI => ?_))
 ·
  refine WLI.op hF rfl rfl rfl (op_extract rfl rfl ?_)
  refine WLI.nil ?_
  refine WQ.nextI ?_
  refine WCI.seq ?_
  refine WCI.no rfl rfl ?_
  refine WCI.exit ?_
  refine WQ.thenExit ?_
  refine WQ.thenExit ?_
  refine WQ.inHere ?_
  refine WQ.outEnd .nil ?_
  exact ⟨⟨_, rfl⟩, .inl ⟨sn, by rw [h0, List.append_nil] at hp; exact hp, hJ2⟩⟩
 ·
  have hi3 : w3.heap[ib]? = some (itO mb c (sn ++ [e])) := HI.ok 0 _ rfl
  have hne : mb ≠ ib := fun h => by rw [h, hi2] at hM3; cases hM3
  have hM4 : w3.heap[mb]? = some (mP .i64 l c) := (HI.fr.block mb (Array.getElem?_eq_some_iff.1 hM3).1 (by simpa using hne)).trans hM3
  have hJ3 : J sn w3 := hJ sn _ w3 (some ib) hJ2 (Fr.grown HI.fr) (fun r e => by cases e; exact ⟨hle, _, hi2, rfl⟩)
  have hlt : sn.length < l.length := by have := hp.length_eq; simp at this; omega
  refine WLI.op hF rfl rfl rfl (op_extract rfl rfl ?_)
  refine WLI.nil ?_
  refine WQ.nextI ?_
  refine WCI.seq ?_
  refine WCI.yes rfl rfl ?_
  refine WCI.skip ?_
  refine WQ.nextI ?_
  refine WCI.block ?_
  refine WCI.seq ?_
  refine WCI.region ?_
  refine WLI.op hF rfl rfl rfl (op_entryR hi3 hM4 hl hp2 rfl ?_)
  refine WLI.op hF rfl rfl rfl (op_extract rfl rfl ?_)
  refine WLI.op hF rfl rfl rfl (op_assign rfl ?_)
  refine WLI.nil ?_
  refine WQ.nextI ?_
  refine WCI.seq ?_
  refine WCI.region ?_
  refine WLI.op hF rfl rfl rfl (op_move rfl ?_)
  refine WLI.op hF rfl rfl rfl (op_move rfl ?_)
  refine WLI.yield hF rfl rfl rfl (hY sn e w3 hJ3 hlt) (fun e4 w4 h4 => ?_)
  rcases h4 with ⟨rfl, hJ4, hk4⟩ | ⟨rfl, hJ4⟩
  ·
   refine ⟨_, rfl, ?_⟩
   refine WLI.op hF rfl rfl rfl (op_not rfl ?_)
   refine WLI.nil ?_
   refine WQ.nextI ?_
   refine WCI.no rfl (congrArg Bool.not rfl) ?_
   refine WCI.skip ?_
   refine WQ.inNormal ?_
   exact WQ.round (sn ++ [e], rs) ⟨hp2, hk4.same _ _ hi3 rfl, hk4.same _ _ hM4 rfl, hJ4⟩ ⟨rfl, rfl, trivial⟩ (by show rs.length < rst.length; omega)
  ·
   refine ⟨_, rfl, ?_⟩
   refine WLI.op hF rfl rfl rfl (op_not rfl ?_)
   refine WLI.nil ?_
   refine WQ.nextI ?_
   refine WCI.yes rfl (congrArg Bool.not rfl) ?_
   refine WCI.ret ?_
   refine WQ.inRet ?_
   refine WQ.thenRet ?_
   refine WQ.inRet ?_
   refine WQ.out .nil ?_
   exact ⟨⟨_, rfl⟩, .inr ⟨_, trivial, hJ4⟩⟩
set_option maxRecDepth 100000 in
theorem aseq_int (mb c Bm : Nat) (l : List ME) (hl : MEok l c) (hn : l.length < 2 ^ 40) (w : World) (hB : w.cell? ⟨Bm, 0, none⟩ = some (.map (some mb))) (hM : w.heap[mb]? = some (mP .i64 l c)) :
  Calls Try.prog 124 #[.slice none 0 0, .func (.func 101) #[] #[ptr Bm 0]] w (fun e w' => ∃ v xs, e = .returned v ∧ l.Perm xs ∧ Owl.Own [] w w' [.row v 3 1 xs.length (List.map (kvI .i64) xs)]) := by
 refine (callsIn_wide (n := 6)).1 ?_
 refine enterM (args := [.slice none 0 0, .func (.func 101) #[] #[ptr Bm 0]]) Free.wide rfl Try.func124 rfl rfl ?_
 have H0 : Owl.Own [] w w [] := Own.start w []
 refine WCI.seq ?_
 refine WCI.region ?_
 refine WLI.op Free.wide rfl rfl rfl (op_box H0 rfl rfl (fun b1 w1 H1 => ?_))
 refine WLI.op Free.wide rfl rfl rfl (op_assign rfl ?_)
 refine WLI.nil ?_
 refine WQ.nextI ?_
 refine WCI.seq ?_
 refine WCI.seq ?_
 refine WCI.region ?_
 refine WLI.op Free.wide rfl rfl rfl (op_move rfl ?_)
 refine WLI.nil ?_
 refine WQ.nextI ?_
 refine WCI.block ?_
 have hN := H1.nilRow 3 1
 have hsz : w.heap.size ≤ w1.heap.size := H1.fr.size
 refine WCI.rangeF (enc := (kvI .i64)) (fun l => Free.round l) Free.wide rfl rfl (enters_callB Fa.C101) (keys1_int mb c Bm l hl Free.wide rfl w hB hM) (Fr.below H1.fr) (by decide) rfl rfl (fun xs W => ∃ v, Owl.Own [] w W [.blk b1 [v] 64, .row v 3 1 xs.length (List.map (kvI .i64) xs)]) (fun xs W W' row hs hg hr => hs.elim fun v H => ⟨v, H.turnF hg (fun r e => ⟨Nat.le_trans hsz (hr r e).1, (hr r e).2⟩)⟩) ⟨_, hN⟩ (fun lp pre x W hi hlt => ?_) (fun d xs W hd hS hi hk => ?_)
 ·
  obtain ⟨v, H5⟩ := hi
  have H6 := H5.part [0, 1] rfl rfl
  have hT := H5.cellsT2
  refine WCI.block ?_
  refine WCI.region ?_
  refine WLI.op (Free.round lp) rfl rfl rfl (op_load rfl (H6.cell (i := 0) rfl rfl) Try.underlying64 rfl ?_)
  refine WLI.op (Free.round lp) rfl rfl rfl (op_move rfl ?_)
  refine WLI.op (Free.round lp) rfl rfl rfl (op_buildSlice (cs := [_]) H6 Try.underlying64 Fa.I3 rfl rfl rfl rfl (by decide) (by decide) (fun b2 w2 H2 => ?_))
  refine WLI.op (Free.round lp) rfl rfl rfl (op_append (i := 1) H2 Try.underlying64 Fa.I3 rfl rfl rfl rfl (Src.ofArr Try.underlying64 (H2.arrR (i := 2) rfl)) (by intro c hc; rw [List.mem_singleton.1 hc]; rfl) (by omega) (by omega) (fun v3 w3 H3 => ?_))
  refine WLI.op (Free.round lp) rfl rfl rfl (op_storeB (i := 0) H3 rfl rfl rfl rfl (Arr.one (H3.arrR (i := 1) rfl)) Fa.I64 (fun w4 H4 => ?_))
  refine WLI.nil ?_
  refine WQ.inNormal ?_
  intro a ha
  have ho := Fr.others H4.fr hT
  have h8 := H4.sel [0, 1] rfl rfl
  have h9 := Own.splice H5 [0, 1] [.blk b1 [v3] 64, .row v3 3 1 (pre.length + 1) ((List.map (kvI .i64) pre) ++ [((kvI .i64) x)])] [] rfl rfl h8 (Fits.solid True.intro (Fits.solid True.intro Fits.nil))
  have e9 : ((List.map (kvI .i64) pre) ++ [((kvI .i64) x)]) = List.map (kvI .i64) (pre ++ [x]) := by rw [List.map_append]; rfl
  rw [e9, show (pre.length + 1) = (pre ++ [x]).length by simp] at h9
  exact ⟨ho.1, ho.2, _, h9⟩
 ·
  obtain ⟨v, H5⟩ := hi
  refine WQ.inNormal ?_
  refine WQ.nextI ?_
  refine WCI.seq ?_
  refine WCI.region ?_
  refine WLI.op Free.wide rfl rfl rfl (op_load rfl (H5.cell (i := 0) rfl rfl) Try.underlying64 rfl ?_)
  refine WLI.op Free.wide rfl rfl rfl (op_assign rfl ?_)
  refine WLI.nil ?_
  refine WQ.nextI ?_
  refine WCI.ret ?_
  refine WQ.outM hk (.tmp rfl .nil) ?_
  exact ⟨_, _, rfl, hS, (H5.turn (Fr.putObj _ _ _) (Nat.le_trans hsz hd) hk rfl).sel [1] rfl rfl⟩
end Go.Proofs.Ytbjhccnffacbcaa
/-! from WSeq2 -/
namespace Go.Proofs.Ytbjhccnffacbcaa
open Go.Owl Go.Spec
set_option maxRecDepth 100000 in
theorem coll_int (mb c Bm : Nat) (l : List ME) (w : World) (hl : MEok l c) (hn : l.length < 2 ^ 40) (hB : w.cell? ⟨Bm, 0, none⟩ = some (.map (some mb))) (hM : w.heap[mb]? = some (mP .i64 l c)) :
  Calls Try.prog 99 #[(.func (.func 101) #[] #[(ptr Bm 0)])] w (fun e w' => ∃ v ks, e = .returned v ∧ (l.map ME.k).Perm ks ∧ Owl.Own [] w w' [.row v 3 1 ks.length (List.map vN ks)]) := by
 refine enter (args := [(.func (.func 101) #[] #[(ptr Bm 0)])]) Try.func99 rfl rfl ?_
 have H0 : Owl.Own [] w w [] := Own.start w []
 refine ws ?_
 refine wo (op_assign rfl ?_)
 refine wn ?_
 refine ws ?_
 refine wo (op_move rfl ?_)
 refine wo (op_callF Fa.C124 rfl ((aseq_int mb c Bm l hl hn _ hB hM).mono (fun e w1 hq => ?_)))
 obtain ⟨v1, xs1, rfl, hp1, hq1⟩ := hq
 refine ⟨_, rfl, ?_⟩
 have H1 : Owl.Own [] w w1 [.row v1 3 1 xs1.length (List.map (kvI .i64) xs1)] := H0.splice [] [] [.row v1 3 1 xs1.length (List.map (kvI .i64) xs1)] rfl rfl hq1 (Fits.solid True.intro Fits.nil)
 refine wo (op_assign rfl ?_)
 refine wn ?_
 refine WC.ret ?_
 refine WQ.out (.tmp rfl .nil) ?_
 have e9 : List.map (kvI .i64) xs1 = List.map vN (xs1.map ME.k) := by rw [List.map_map]; exact rfl
 have h9 := H1.sel [0] rfl rfl
 rw [e9, show xs1.length = (xs1.map ME.k).length by rw [List.length_map]] at h9
 exact ⟨_, _, rfl, hp1.map _, h9⟩
end Go.Proofs.Ytbjhccnffacbcaa
/-! from NSort -/
namespace Go.Proofs.Ytbjhccnffacbcaa
open Go.Owl Go.Spec
set_option maxRecDepth 100000 in
theorem nan_ok (x : Nat) (w : World) :
  Calls Try.prog 168 #[(vN x)] w (fun e w' => e = .returned (.bool false) ∧ Fr [] w w') := by
 refine enter (args := [(vN x)]) Try.func168 rfl rfl ?_
 have H0 : Owl.Own [] w w [] := Own.start w []
 refine ws ?_
 refine wo (op_assign rfl ?_)
 refine wn ?_
 refine ws ?_
 refine wo (op_move rfl ?_)
 refine wo (op_move rfl ?_)
 refine wo (op_neqN rfl rfl ?_)
 refine wo (op_assign rfl ?_)
 refine wn ?_
 refine WC.ret ?_
 refine WQ.out (.tmp rfl .nil) ?_
 exact ⟨by rw [show decide (x ≠ x) = false from decide_eq_false (fun h => h rfl)]; rfl, H0.fr⟩
set_option maxRecDepth 100000 in
theorem less_ok (x y : Nat) (w : World) :
  Calls Try.prog 149 #[(vN x), (vN y)] w (fun e w' => e = .returned (.bool (ltN x y)) ∧ Fr [] w w') := by
 refine enter (args := [(vN x), (vN y)]) Try.func149 rfl rfl ?_
 have H0 : Owl.Own [] w w [] := Own.start w []
 refine ws ?_
 refine wo (op_assign rfl ?_)
 refine wn ?_
 refine ws ?_
 refine wo (op_move rfl ?_)
 refine wo (op_callF Fa.C168 rfl ((nan_ok x _).mono (fun e w1 hq => ?_)))
 obtain ⟨rfl, hf1⟩ := hq
 refine ⟨_, rfl, ?_⟩
 have H1 := H0.fr' hf1
 refine wo (op_move rfl ?_)
 refine WL.no rfl rfl rfl rfl rfl ?_
 refine WL.no rfl rfl rfl rfl rfl ?_
 refine WL.no rfl rfl rfl rfl rfl ?_
 refine wo (op_pickF rfl rfl rfl ?_)
 refine wo (op_move rfl ?_)
 refine WL.yes rfl rfl rfl rfl rfl (op_move rfl ?_)
 refine WL.yes rfl rfl rfl rfl rfl (op_move rfl ?_)
 refine WL.yes rfl rfl rfl rfl rfl (op_lssN rfl rfl ?_)
 refine wo (op_pickF rfl rfl rfl ?_)
 refine wo (op_assign rfl ?_)
 refine wn ?_
 refine WC.ret ?_
 refine WQ.out (.tmp rfl .nil) ?_
 exact ⟨rfl, H1.fr⟩
set_option maxRecDepth 100000 in
theorem ins_ok (v : Value) (n : Nat) (l : List Nat) (a b : Nat) (T : List Nat) (w : World) (H : Owl.Own T w w [.row v 3 1 n (List.map vN l)]) (hn : l.length = n) (hN : n < 2 ^ 62) (hb : b ≤ n) (ha : a ≤ n) :
  Calls Try.prog 143 #[v, (vN a), (vN b)] w (fun e w' => ∃ l' : List Nat, e = .returned undef ∧ (Sw 0 a b l l' ∧ SortS ltN 0 a b l') ∧ Owl.Own T w w' [.row v 3 1 n (List.map vN l')]) := by
 refine enter (args := [v, (vN a), (vN b)]) Try.func143 rfl rfl ?_
 refine ws ?_
 refine wo (op_move rfl ?_)
 refine wo (op_addN (b := 1) rfl rfl (by omega) ?_)
 refine wo (op_assign rfl ?_)
 refine wn ?_
 refine WC.block ?_
 refine WC.loop (α := Nat × List Nat) (fun (i, l1) => [(0, v), (1, (vN a)), (2, (vN b)), (6, (vN i))]) (fun (i, l1) w' => (a + 1 ≤ i ∧ i ≤ max b (a + 1) ∧ Sw 0 a b l l1 ∧ SortS ltN 0 a i l1) ∧ Owl.Own T w w' [.row v 3 1 n (List.map vN l1)]) (fun (i, l1) => b - i) (a + 1, l) ⟨⟨Nat.le_refl _, by omega, .refl _, SortS.nil (by omega)⟩, H⟩ ⟨rfl, rfl, rfl, rfl, trivial⟩ ?_
 rintro ⟨i, l1⟩ w1 ⟨⟨hi1, hi2, hs1, ho1⟩, H1⟩
 show WC _ _ _ _ _ [(0, v), (1, (vN a)), (2, (vN b)), (6, (vN i))] _
 have hL1 := hs1.len
 refine WC.seq ?_
 refine ws ?_
 refine wo (op_move rfl ?_)
 refine wo (op_move rfl ?_)
 refine wo (op_lssN rfl rfl ?_)
 refine wn ?_
 refine WC.cond rfl (fun (hb2 : (decide (i < b)) = true) => ?_) (fun (hb2 : (decide (i < b)) = false) => ?_)
 ·
  have hc2 := of_decide_eq_true hb2
  refine WC.skip ?_
  refine WQ.next ?_
  refine WC.seq ?_
  refine WC.block ?_
  refine ws ?_
  refine wo (op_move rfl ?_)
  refine wo (op_assign rfl ?_)
  refine wn ?_
  refine WC.block ?_
  refine WC.loop (α := Nat × List Nat) (fun (j, l2) => [(0, v), (1, (vN a)), (2, (vN b)), (6, (vN i)), (7, (vN j))]) (fun (j, l2) w' => (a ≤ j ∧ j ≤ i ∧ Sw 0 a b l l2 ∧ InsI ltN 0 a i j l2) ∧ Owl.Own T w w' [.row v 3 1 n (List.map vN l2)]) (fun (j, l2) => j) (i, l1) ⟨⟨by omega, Nat.le_refl _, hs1, ins_init ho1⟩, H1⟩ ⟨rfl, rfl, rfl, rfl, rfl, trivial⟩ ?_
  rintro ⟨j, l2⟩ w3 ⟨⟨hj1, hj2, hs2, hj3⟩, H3⟩
  show WC _ _ _ _ _ [(0, v), (1, (vN a)), (2, (vN b)), (6, (vN i)), (7, (vN j))] _
  have hL2 := hs2.len
  refine WC.seq ?_
  refine WC.seq ?_
  refine bsplit (fun (hb4 : (decide (j > a)) = true) => ?_) (fun (hb4 : (decide (j > a)) = false) => ?_)
  ·
   have hc4 := of_decide_eq_true hb4
   refine WC.draw 15 Fa.M H3 (HW.op rfl (fun w1 H1 => op_move rfl ⟨rfl, Fr.refl _ _⟩) (HW.op rfl (fun w1 H1 => op_move rfl ⟨rfl, Fr.refl _ _⟩) (HW.op rfl (fun w1 H1 => op_gtrN rfl rfl ⟨rfl, Fr.refl _ _⟩) (HW.op rfl (fun w1 H1 => op_move rfl ⟨rfl, Fr.refl _ _⟩) (HW.yes rfl rfl rfl hb4 (fun w1 H1 => op_move rfl ⟨rfl, Fr.refl _ _⟩) (HW.yes rfl rfl rfl hb4 (fun w1 H1 => op_move rfl ⟨rfl, Fr.refl _ _⟩) (HW.yes rfl rfl rfl hb4 (fun w1 H1 => op_indexAddr1 Try.underlying64 Fa.I3 rfl (H1.arrR (i := 0) rfl) rfl (by omega) ⟨rfl, Fr.refl _ _⟩) (HW.yes rfl rfl rfl hb4 (fun w1 H1 => op_load rfl ((H1.arrR (i := 0) rfl).at (get_map vN 0 (Arr.ltM (H1.arrR (i := 0) rfl) (by omega)))) Try.underlying3 rfl ⟨rfl, Fr.refl _ _⟩) (HW.yes rfl rfl rfl hb4 (fun w1 H1 => op_move rfl ⟨rfl, Fr.refl _ _⟩) (HW.yes rfl rfl rfl hb4 (fun w1 H1 => op_move rfl ⟨rfl, Fr.refl _ _⟩) (HW.yes rfl rfl rfl hb4 (fun w1 H1 => op_subN (b := 1) rfl rfl (by omega) (by omega) ⟨rfl, Fr.refl _ _⟩) (HW.yes rfl rfl rfl hb4 (fun w1 H1 => op_indexAddr1 Try.underlying64 Fa.I3 rfl (H1.arrR (i := 0) rfl) rfl (by omega) ⟨rfl, Fr.refl _ _⟩) (HW.yes rfl rfl rfl hb4 (fun w1 H1 => op_load rfl ((H1.arrR (i := 0) rfl).at (get_map vN 0 (Arr.ltM (H1.arrR (i := 0) rfl) (by omega)))) Try.underlying3 rfl ⟨rfl, Fr.refl _ _⟩) (HW.yes rfl rfl rfl hb4 (fun w1 H1 => op_callF Fa.C149 rfl ((less_ok (l2.getD j 0) (l2.getD (j - 1) 0) _).mono (fun e w2 hq => ⟨_, hq.1, rfl, hq.2⟩))) (HW.op rfl (fun w1 H1 => op_pickT rfl hb4 rfl ⟨rfl, Fr.refl _ _⟩)  HW.nil))))))))))))))) (by kernel_rfl) ?_
   intro β6 w6 H6
   refine wn ?_
   refine WC.cond rfl (fun (hb7 : (ltN (l2.getD j 0) (l2.getD (j - 1) 0)) = true) => ?_) (fun (hb7 : (ltN (l2.getD j 0) (l2.getD (j - 1) 0)) = false) => ?_)
   ·
    refine WC.skip ?_
    refine WQ.next ?_
    refine WC.seq ?_
    refine WC.block ?_
    refine WC.held 18 rfl Fa.M H6 (fun w' => ∃ L', Owl.Own T w w' ([] ++ L')) ?_
    intro w8 H8
    refine WH.take (i := 0) (v := v) rfl rfl (.inl rfl) rfl (by kernel_rfl) ⟨[.row v 3 1 n (List.map vN l2)], H8⟩ (fun wX hSX => hSX.elim fun LX HX => op_move rfl ⟨rfl, rfl⟩) ?_
    refine WH.take (i := 1) (v := (vN j)) rfl rfl (.inl rfl) rfl (by kernel_rfl) ⟨[.row v 3 1 n (List.map vN l2)], H8⟩ (fun wX hSX => hSX.elim fun LX HX => op_move rfl ⟨rfl, rfl⟩) ?_
    refine WH.take (i := 2) (v := v) rfl rfl (.inl rfl) rfl (by kernel_rfl) ⟨[.row v 3 1 n (List.map vN l2)], H8⟩ (fun wX hSX => hSX.elim fun LX HX => op_move rfl ⟨rfl, rfl⟩) ?_
    refine WH.take (i := 3) (v := (vN j)) rfl rfl (.inl rfl) rfl (by kernel_rfl) ⟨[.row v 3 1 n (List.map vN l2)], H8⟩ (fun wX hSX => hSX.elim fun LX HX => op_move rfl ⟨rfl, rfl⟩) ?_
    refine WH.take (i := 4) (v := (vN (j - 1))) rfl rfl (.inl rfl) rfl (by kernel_rfl) ⟨[.row v 3 1 n (List.map vN l2)], H8⟩ (fun wX hSX => hSX.elim fun LX HX => op_subN (b := 1) rfl rfl (by omega) (by omega) ⟨rfl, rfl⟩) ?_
    refine WH.take (i := 5) (v := v) rfl rfl (.inl rfl) rfl (by kernel_rfl) ⟨[.row v 3 1 n (List.map vN l2)], H8⟩ (fun wX hSX => hSX.elim fun LX HX => op_move rfl ⟨rfl, rfl⟩) ?_
    refine WH.take (i := 6) (v := (vN j)) rfl rfl (.inl rfl) rfl (by kernel_rfl) ⟨[.row v 3 1 n (List.map vN l2)], H8⟩ (fun wX hSX => hSX.elim fun LX HX => op_move rfl ⟨rfl, rfl⟩) ?_
    refine WH.take (i := 7) (v := (vN (j - 1))) rfl rfl (.inl rfl) rfl (by kernel_rfl) ⟨[.row v 3 1 n (List.map vN l2)], H8⟩ (fun wX hSX => hSX.elim fun LX HX => op_subN (b := 1) rfl rfl (by omega) (by omega) ⟨rfl, rfl⟩) ?_
    refine WH.take (i := 8) (v := (.pointer (some (sp v (j - 1))))) rfl rfl (.inl rfl) rfl (by kernel_rfl) ⟨[.row v 3 1 n (List.map vN l2)], H8⟩ (fun wX hSX => hSX.elim fun LX HX => op_indexAddr1W Try.underlying64 Fa.I3 rfl (H8.arrR (i := 0) rfl) rfl (by omega) ⟨rfl, rfl⟩) ?_
    refine WH.take (i := 10) (v := v) rfl rfl (.inl rfl) rfl (by kernel_rfl) ⟨[.row v 3 1 n (List.map vN l2)], H8⟩ (fun wX hSX => hSX.elim fun LX HX => op_move rfl ⟨rfl, rfl⟩) ?_
    refine WH.take (i := 11) (v := (vN j)) rfl rfl (.inl rfl) rfl (by kernel_rfl) ⟨[.row v 3 1 n (List.map vN l2)], H8⟩ (fun wX hSX => hSX.elim fun LX HX => op_move rfl ⟨rfl, rfl⟩) ?_
    refine WH.take (i := 12) (v := (.pointer (some (sp v j)))) rfl rfl (.inl rfl) rfl (by kernel_rfl) ⟨[.row v 3 1 n (List.map vN l2)], H8⟩ (fun wX hSX => hSX.elim fun LX HX => op_indexAddr1W Try.underlying64 Fa.I3 rfl (H8.arrR (i := 0) rfl) rfl (by omega) ⟨rfl, rfl⟩) ?_
    refine WH.named (fun W hW => ?_)
    have st6_5 : ∀ (wS : World), Owl.Own T w wS [.row v 3 1 n (List.map vN ((l2.set j (l2.getD (j - 1) 0)).set (j - 1) (l2.getD j 0)))] → W 0 #[tt, tt, tt, tt, tt, tt, tt, tt, tt, tt, tt, tt, tt, tt, tt, tt, tt, tt] [(0, v), (1, (vN a)), (2, (vN b)), (6, (vN i)), (7, (vN j)), (16, (vN j)), (17, (vN a)), (18, (.bool (decide (j > a)))), (19, (.bool (decide (j > a)))), (20, v), (21, (vN j)), (22, (.pointer (some (sp v j)))), (23, (vN (l2.getD j 0))), (24, v), (25, (vN j)), (26, (vN (j - 1))), (27, (.pointer (some (sp v (j - 1))))), (28, (vN (l2.getD (j - 1) 0))), (29, (.bool (ltN (l2.getD j 0) (l2.getD (j - 1) 0)))), (30, (.bool (ltN (l2.getD j 0) (l2.getD (j - 1) 0)))), (33, v), (34, (vN j)), (35, v), (36, (vN j)), (37, (vN (j - 1))), (38, v), (39, (vN j)), (40, (vN (j - 1))), (41, (.pointer (some (sp v (j - 1))))), (42, (vN (l2.getD (j - 1) 0))), (43, v), (44, (vN j)), (45, (.pointer (some (sp v j)))), (46, (vN (l2.getD j 0))), (47, (.pointer (some (sp v j)))), (48, (.pointer (some (sp v (j - 1)))))] wS := by
     intro wS HS
     rw [hW]
     refine WH.done (by kernel_rfl) ?_
     refine WQ.inNormal ?_
     refine WQ.next ?_
     refine WC.region ?_
     refine wo (op_move rfl ?_)
     refine wo (op_subN (b := 1) rfl rfl (by omega) (by omega) ?_)
     refine wo (op_assign rfl ?_)
     refine WL.nil ?_
     exact WQ.round (j - 1, swapL 0 l2 j (j - 1)) ⟨⟨by omega, by omega, hs2.step (by omega) (by omega) (by omega) (by omega), ins_step ltNOK (by omega) hj3 (by omega) hj2 hb7⟩, HS⟩ ⟨rfl, rfl, rfl, rfl, rfl, trivial⟩ (by show j - 1 < j; omega)
    have st6_4 : ∀ (wS : World), Owl.Own T w wS [.row v 3 1 n (List.map vN (l2.set j (l2.getD (j - 1) 0)))] → W 1 #[tt, tt, tt, tt, tt, tt, tt, tt, tt, tt, tt, tt, tt, tt, tt, tt, tt, ff] [(0, v), (1, (vN a)), (2, (vN b)), (6, (vN i)), (7, (vN j)), (16, (vN j)), (17, (vN a)), (18, (.bool (decide (j > a)))), (19, (.bool (decide (j > a)))), (20, v), (21, (vN j)), (22, (.pointer (some (sp v j)))), (23, (vN (l2.getD j 0))), (24, v), (25, (vN j)), (26, (vN (j - 1))), (27, (.pointer (some (sp v (j - 1))))), (28, (vN (l2.getD (j - 1) 0))), (29, (.bool (ltN (l2.getD j 0) (l2.getD (j - 1) 0)))), (30, (.bool (ltN (l2.getD j 0) (l2.getD (j - 1) 0)))), (33, v), (34, (vN j)), (35, v), (36, (vN j)), (37, (vN (j - 1))), (38, v), (39, (vN j)), (40, (vN (j - 1))), (41, (.pointer (some (sp v (j - 1))))), (42, (vN (l2.getD (j - 1) 0))), (43, v), (44, (vN j)), (45, (.pointer (some (sp v j)))), (46, (vN (l2.getD j 0))), (47, (.pointer (some (sp v j)))), (48, (.pointer (some (sp v (j - 1)))))] wS := by
     intro wS HS
     rw [hW]
     refine WH.all1 (i := 17) (by kernel_rfl) ?_
     ·
      refine WHS.op (i := 17) rfl (.inl rfl) rfl (op_storeRM (i := 0) (f := vN) (l := (l2.set j (l2.getD (j - 1) 0))) (c := (l2.getD j 0)) HS rfl rfl rfl (by omega) rfl Fa.I3 (fun w19341 H19341 => ?_))
      refine ⟨⟨[.row v 3 1 n (List.map vN ((l2.set j (l2.getD (j - 1) 0)).set (j - 1) (l2.getD j 0)))], H19341⟩, ?_⟩
      have hq := st6_5 w19341 H19341
      rw [hW] at hq
      exact WH.cv hq
    have st6_3 : ∀ (wS : World), Owl.Own T w wS [.row v 3 1 n (List.map vN l2)] → W 3 #[tt, tt, tt, tt, tt, tt, tt, tt, tt, tt, tt, tt, tt, tt, tt, ff, ff, ff] [(0, v), (1, (vN a)), (2, (vN b)), (6, (vN i)), (7, (vN j)), (16, (vN j)), (17, (vN a)), (18, (.bool (decide (j > a)))), (19, (.bool (decide (j > a)))), (20, v), (21, (vN j)), (22, (.pointer (some (sp v j)))), (23, (vN (l2.getD j 0))), (24, v), (25, (vN j)), (26, (vN (j - 1))), (27, (.pointer (some (sp v (j - 1))))), (28, (vN (l2.getD (j - 1) 0))), (29, (.bool (ltN (l2.getD j 0) (l2.getD (j - 1) 0)))), (30, (.bool (ltN (l2.getD j 0) (l2.getD (j - 1) 0)))), (33, v), (34, (vN j)), (35, v), (36, (vN j)), (37, (vN (j - 1))), (38, v), (39, (vN j)), (40, (vN (j - 1))), (41, (.pointer (some (sp v (j - 1))))), (42, (vN (l2.getD (j - 1) 0))), (43, v), (44, (vN j)), (45, (.pointer (some (sp v j)))), (46, (vN (l2.getD j 0))), (47, (.pointer (some (sp v j))))] wS := by
     intro wS HS
     rw [hW]
     refine WH.all1 (i := 15) (by kernel_rfl) ?_
     ·
      refine WHS.op (i := 15) rfl (.inl rfl) rfl (op_storeRM (i := 0) (f := vN) (l := l2) (c := (l2.getD (j - 1) 0)) HS rfl rfl rfl (by omega) rfl Fa.I3 (fun w19301 H19301 => ?_))
      refine ⟨⟨[.row v 3 1 n (List.map vN (l2.set j (l2.getD (j - 1) 0)))], H19301⟩, ?_⟩
      refine WH.take (i := 16) (v := (.pointer (some (sp v (j - 1))))) rfl rfl (.inl rfl) rfl (by kernel_rfl) ⟨[.row v 3 1 n (List.map vN (l2.set j (l2.getD (j - 1) 0)))], H19301⟩ (fun wX hSX => hSX.elim fun LX HX => op_indexAddr1W Try.underlying64 Fa.I3 rfl (H19301.arrR (i := 0) rfl) rfl (by omega) ⟨rfl, rfl⟩) ?_
      have hq := st6_4 w19301 H19301
      rw [hW] at hq
      exact WH.cv hq
    have st6_1 : ∀ (wS : World), Owl.Own T w wS [.row v 3 1 n (List.map vN l2)] → W 5 #[tt, tt, tt, tt, tt, tt, tt, tt, tt, tt, tt, tt, tt, ff, ff, ff, ff, ff] [(0, v), (1, (vN a)), (2, (vN b)), (6, (vN i)), (7, (vN j)), (16, (vN j)), (17, (vN a)), (18, (.bool (decide (j > a)))), (19, (.bool (decide (j > a)))), (20, v), (21, (vN j)), (22, (.pointer (some (sp v j)))), (23, (vN (l2.getD j 0))), (24, v), (25, (vN j)), (26, (vN (j - 1))), (27, (.pointer (some (sp v (j - 1))))), (28, (vN (l2.getD (j - 1) 0))), (29, (.bool (ltN (l2.getD j 0) (l2.getD (j - 1) 0)))), (30, (.bool (ltN (l2.getD j 0) (l2.getD (j - 1) 0)))), (33, v), (34, (vN j)), (35, v), (36, (vN j)), (37, (vN (j - 1))), (38, v), (39, (vN j)), (40, (vN (j - 1))), (41, (.pointer (some (sp v (j - 1))))), (42, (vN (l2.getD (j - 1) 0))), (43, v), (44, (vN j)), (45, (.pointer (some (sp v j))))] wS := by
     intro wS HS
     rw [hW]
     refine WH.all1 (i := 13) (by kernel_rfl) ?_
     ·
      refine WHS.op (i := 13) rfl (.inl rfl) rfl (op_load rfl ((HS.arrR (i := 0) rfl).at (get_map vN 0 (Arr.ltM (HS.arrR (i := 0) rfl) (by omega)))) Try.underlying3 rfl ?_)
      refine ⟨⟨[.row v 3 1 n (List.map vN l2)], HS⟩, ?_⟩
      refine WH.take (i := 14) (v := (.pointer (some (sp v j)))) rfl rfl (.inl rfl) rfl (by kernel_rfl) ⟨[.row v 3 1 n (List.map vN l2)], HS⟩ (fun wX hSX => hSX.elim fun LX HX => op_indexAddr1W Try.underlying64 Fa.I3 rfl (HS.arrR (i := 0) rfl) rfl (by omega) ⟨rfl, rfl⟩) ?_
      have hq := st6_3 wS HS
      rw [hW] at hq
      exact WH.cv hq
    have st6_2 : ∀ (wS : World), Owl.Own T w wS [.row v 3 1 n (List.map vN l2)] → W 5 #[tt, tt, tt, tt, tt, tt, tt, tt, tt, ff, tt, tt, tt, tt, ff, ff, ff, ff] [(0, v), (1, (vN a)), (2, (vN b)), (6, (vN i)), (7, (vN j)), (16, (vN j)), (17, (vN a)), (18, (.bool (decide (j > a)))), (19, (.bool (decide (j > a)))), (20, v), (21, (vN j)), (22, (.pointer (some (sp v j)))), (23, (vN (l2.getD j 0))), (24, v), (25, (vN j)), (26, (vN (j - 1))), (27, (.pointer (some (sp v (j - 1))))), (28, (vN (l2.getD (j - 1) 0))), (29, (.bool (ltN (l2.getD j 0) (l2.getD (j - 1) 0)))), (30, (.bool (ltN (l2.getD j 0) (l2.getD (j - 1) 0)))), (33, v), (34, (vN j)), (35, v), (36, (vN j)), (37, (vN (j - 1))), (38, v), (39, (vN j)), (40, (vN (j - 1))), (41, (.pointer (some (sp v (j - 1))))), (43, v), (44, (vN j)), (45, (.pointer (some (sp v j)))), (46, (vN (l2.getD j 0)))] wS := by
     intro wS HS
     rw [hW]
     refine WH.all1 (i := 9) (by kernel_rfl) ?_
     ·
      refine WHS.op (i := 9) rfl (.inl rfl) rfl (op_load rfl ((HS.arrR (i := 0) rfl).at (get_map vN 0 (Arr.ltM (HS.arrR (i := 0) rfl) (by omega)))) Try.underlying3 rfl ?_)
      refine ⟨⟨[.row v 3 1 n (List.map vN l2)], HS⟩, ?_⟩
      refine WH.take (i := 14) (v := (.pointer (some (sp v j)))) rfl rfl (.inl rfl) rfl (by kernel_rfl) ⟨[.row v 3 1 n (List.map vN l2)], HS⟩ (fun wX hSX => hSX.elim fun LX HX => op_indexAddr1W Try.underlying64 Fa.I3 rfl (HS.arrR (i := 0) rfl) rfl (by omega) ⟨rfl, rfl⟩) ?_
      have hq := st6_3 wS HS
      rw [hW] at hq
      exact WH.cv hq
    have st6_0 : ∀ (wS : World), Owl.Own T w wS [.row v 3 1 n (List.map vN l2)] → W 6 #[tt, tt, tt, tt, tt, tt, tt, tt, tt, ff, tt, tt, tt, ff, ff, ff, ff, ff] [(0, v), (1, (vN a)), (2, (vN b)), (6, (vN i)), (7, (vN j)), (16, (vN j)), (17, (vN a)), (18, (.bool (decide (j > a)))), (19, (.bool (decide (j > a)))), (20, v), (21, (vN j)), (22, (.pointer (some (sp v j)))), (23, (vN (l2.getD j 0))), (24, v), (25, (vN j)), (26, (vN (j - 1))), (27, (.pointer (some (sp v (j - 1))))), (28, (vN (l2.getD (j - 1) 0))), (29, (.bool (ltN (l2.getD j 0) (l2.getD (j - 1) 0)))), (30, (.bool (ltN (l2.getD j 0) (l2.getD (j - 1) 0)))), (33, v), (34, (vN j)), (35, v), (36, (vN j)), (37, (vN (j - 1))), (38, v), (39, (vN j)), (40, (vN (j - 1))), (41, (.pointer (some (sp v (j - 1))))), (43, v), (44, (vN j)), (45, (.pointer (some (sp v j))))] wS := by
     intro wS HS
     rw [hW]
     refine WH.all2 (i := 9) (j := 13) (by kernel_rfl) ?_ ?_
     ·
      refine WHS.op (i := 9) rfl (.inl rfl) rfl (op_load rfl ((HS.arrR (i := 0) rfl).at (get_map vN 0 (Arr.ltM (HS.arrR (i := 0) rfl) (by omega)))) Try.underlying3 rfl ?_)
      refine ⟨⟨[.row v 3 1 n (List.map vN l2)], HS⟩, ?_⟩
      have hq := st6_1 wS HS
      rw [hW] at hq
      exact WH.cv hq
     ·
      refine WHS.op (i := 13) rfl (.inl rfl) rfl (op_load rfl ((HS.arrR (i := 0) rfl).at (get_map vN 0 (Arr.ltM (HS.arrR (i := 0) rfl) (by omega)))) Try.underlying3 rfl ?_)
      refine ⟨⟨[.row v 3 1 n (List.map vN l2)], HS⟩, ?_⟩
      have hq := st6_2 wS HS
      rw [hW] at hq
      exact WH.cv hq
    have hq := st6_0 w8 H8
    rw [hW] at hq ⊢
    exact WH.cv hq
   ·
    refine WC.exit ?_
    refine WQ.thenExit ?_
    refine WQ.thenExit ?_
    refine WQ.inHere ?_
    refine WQ.inNormal ?_
    refine WQ.next ?_
    refine WC.region ?_
    refine wo (op_move rfl ?_)
    refine wo (op_addN (b := 1) rfl rfl (by omega) ?_)
    refine wo (op_assign rfl ?_)
    refine WL.nil ?_
    exact WQ.round (i + 1, l2) ⟨⟨by omega, by omega, hs2, ins_done ltNOK hj3 (.inr hb7) hj1⟩, H6⟩ ⟨rfl, rfl, rfl, rfl, trivial⟩ (by show b - (i + 1) < b - i; omega)
  ·
   have hc4 := of_decide_eq_false hb4
   refine WC.draw 15 Fa.M H3 (HW.op rfl (fun w1 H1 => op_move rfl ⟨rfl, Fr.refl _ _⟩) (HW.op rfl (fun w1 H1 => op_move rfl ⟨rfl, Fr.refl _ _⟩) (HW.op rfl (fun w1 H1 => op_gtrN rfl rfl ⟨rfl, Fr.refl _ _⟩) (HW.op rfl (fun w1 H1 => op_move rfl ⟨rfl, Fr.refl _ _⟩) (HW.no rfl rfl rfl hb4 (HW.no rfl rfl rfl hb4 (HW.no rfl rfl rfl hb4 (HW.no rfl rfl rfl hb4 (HW.no rfl rfl rfl hb4 (HW.no rfl rfl rfl hb4 (HW.no rfl rfl rfl hb4 (HW.no rfl rfl rfl hb4 (HW.no rfl rfl rfl hb4 (HW.no rfl rfl rfl hb4 (HW.op rfl (fun w1 H1 => op_pickF rfl hb4 rfl ⟨rfl, Fr.refl _ _⟩)  HW.nil))))))))))))))) (by kernel_rfl) ?_
   intro β10 w10 H10
   refine wn ?_
   refine WC.no rfl rfl ?_
   refine WC.exit ?_
   refine WQ.thenExit ?_
   refine WQ.thenExit ?_
   refine WQ.inHere ?_
   refine WQ.inNormal ?_
   refine WQ.next ?_
   refine WC.region ?_
   refine wo (op_move rfl ?_)
   refine wo (op_addN (b := 1) rfl rfl (by omega) ?_)
   refine wo (op_assign rfl ?_)
   refine WL.nil ?_
   exact WQ.round (i + 1, l2) ⟨⟨by omega, by omega, hs2, ins_done ltNOK hj3 (.inl (by omega)) hj1⟩, H10⟩ ⟨rfl, rfl, rfl, rfl, trivial⟩ (by show b - (i + 1) < b - i; omega)
 ·
  have hc2 := of_decide_eq_false hb2
  refine WC.exit ?_
  refine WQ.thenExit ?_
  refine WQ.thenExit ?_
  refine WQ.inHere ?_
  refine WQ.outEnd .nil ?_
  exact ⟨_, rfl, ⟨hs1, fun p q h1 h2 h3 => ho1 p q h1 h2 (by omega)⟩, H1⟩
end Go.Proofs.Ytbjhccnffacbcaa
