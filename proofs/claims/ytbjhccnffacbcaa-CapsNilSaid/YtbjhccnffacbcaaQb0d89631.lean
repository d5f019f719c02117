/- General lemmas and walks: WCap9, WCap10, WCap11, WCap12, WCap13, WCap14, WCap15, WCap16. No condition but what each theorem names. -/
import Derived.Test.YtbjhccnffacbcaaQ4a603691
import Derived.Test.YtbjhccnffacbcaaQ2173113a
/-! from WCap9 -/
namespace Go.Proofs.Ytbjhccnffacbcaa
open Go.Owl Go.Spec
set_option maxRecDepth 100000 in
theorem left_some (c : Nat) (pg : UInt32) (hv : Value) (he : List UInt32) (mb cn : Nat) (gs : List Gr) (env : Int) (g : Gr) (w : World) (hC : cellsAt w c [(vU32 pg), hv, (.map (some mb))]) (hH : Arr w hv 1 he.length (List.map vU32 he)) (hM : w.heap[mb]? = some (mP .i64 (List.map Gr.me gs) cn)) (hG : BsOK 120 Gr.cells Gr.b gs w) (hS : grD.list.ok w gs) (hME : MEok (List.map Gr.me gs) cn) (hg : g ∈ gs) (hge : (g.e : Int) = env) (hgp : g.ps.length < 2 ^ 40) (hgx : g.xs.length < 2 ^ 40) :
    Calls Try.prog 27 #[(ptr c 0), (vI env)] w (fun e w' => e = .returned (vU32 (g.pg - g.tk)) ∧ Fr [] w w') := by
  refine enter (args := [(ptr c 0), (vI env)]) Try.func27 rfl rfl ?_
  have H0 : Own [] w w [Ent.bo c [(vU32 pg), hv, (.map (some mb))], Ent.ar hv 1 he.length (List.map vU32 he), Ent.mo .i64 mb (List.map Gr.me gs) cn, Ent.bsO 120 Gr.cells Gr.b gs, Ent.dp grD.list gs] := ((((((Own.start w []).oldB hC).oldA hH).mpOld hM).bsOld hG).dpOld hS)
  refine WC.seq ?_
  refine WC.region ?_
  refine WL.op rfl rfl (op_assign rfl ?_)
  refine WL.nil ?_
  refine WQ.next ?_
  refine WC.seq ?_
  refine WC.region ?_
  refine WL.op rfl rfl (op_move rfl ?_)
  refine WL.op rfl rfl (op_move rfl ?_)
  have H1 : Own [] w w [Ent.bo c [(vU32 pg), hv, (.map (some mb))], Ent.ar hv 1 he.length (List.map vU32 he), Ent.mo .i64 mb (List.map Gr.me gs) cn, Ent.bsO 120 Gr.cells Gr.b gs, Ent.dp grD.list gs, Ent.bo g.b [(vU32 g.pg), g.ev, g.pv, (.bool g.con), (vU32 g.pp), (vU32 g.tk)], Ent.ar g.ev 2 g.xs.length (List.flatMap xtc g.xs), Ent.ar g.pv 1 g.ps.length (List.map vU16 g.ps)] := (((H0.bsView (i := 3) (a := g) rfl hg).dpView (i := 4) (a := g) rfl hg (fun w h => h.1) (fun b hb => List.mem_append.2 (.inl hb))).dpView (i := 4) (a := g) rfl hg (fun w h => h.2) (fun b hb => List.mem_append.2 (.inr hb)))
  refine WL.op rfl rfl (op_callF Fa.C60 rfl ((of_some c pg hv he mb cn gs env g _ (H1.cellsAtO (i := 0) rfl) (H1.arrO (i := 1) rfl) (H1.mpO (i := 2) rfl) (H1.bsR (i := 3) rfl) (H1.dpO (i := 4) rfl) hME hg hge).mono (fun e w2 hq => ?_)))
  obtain ⟨rfl, hf2⟩ := hq
  refine ⟨_, rfl, ?_⟩
  have H2 := H1.fr' hf2
  refine WL.op rfl rfl (op_move rfl ?_)
  refine WL.op rfl rfl (op_extract rfl rfl ?_)
  refine WL.op rfl rfl (op_extract rfl rfl ?_)
  refine WL.op rfl rfl (op_assign rfl ?_)
  refine WL.op rfl rfl (op_assign rfl ?_)
  refine WL.nil ?_
  refine WQ.next ?_
  refine WC.seq ?_
  refine WC.draw 11 Fa.M H2 (HW.op rfl (fun w1 H1 => op_move rfl ⟨rfl, Fr.refl _ _⟩) (HW.op rfl (fun w1 H1 => op_nilCheck rfl ⟨rfl, Fr.refl _ _⟩) (HW.op rfl (fun w1 H1 => op_fieldAddr rfl Fa.F120_0 ⟨rfl, Fr.refl _ _⟩) (HW.op rfl (fun w1 H1 => op_fieldAddr rfl Fa.F59_0 ⟨rfl, Fr.refl _ _⟩) (HW.op rfl (fun w1 H1 => op_load rfl (H1.cellO (i := 5) rfl rfl) Try.underlying29 rfl ⟨rfl, Fr.refl _ _⟩) (HW.op rfl (fun w1 H1 => op_move rfl ⟨rfl, Fr.refl _ _⟩) (HW.op rfl (fun w1 H1 => op_nilCheck rfl ⟨rfl, Fr.refl _ _⟩) (HW.op rfl (fun w1 H1 => op_fieldAddr rfl Fa.F120_2 ⟨rfl, Fr.refl _ _⟩) (HW.op rfl (fun w1 H1 => op_load rfl (H1.cellO (i := 5) rfl rfl) Try.underlying29 rfl ⟨rfl, Fr.refl _ _⟩) (HW.op rfl (fun w1 H1 => op_subU32 rfl rfl ⟨rfl, Fr.refl _ _⟩) (HW.op rfl (fun w1 H1 => op_assign rfl ⟨rfl, Fr.refl _ _⟩)  HW.nil))))))))))) (by kernel_rfl) ?_
  intro β3 w3 H3
  refine WL.nil ?_
  refine WQ.next ?_
  refine WC.ret ?_
  refine WQ.out (.tmp rfl .nil) ?_
  exact ⟨rfl, H3.fr⟩
set_option maxRecDepth 100000 in
theorem console_some (c : Nat) (pg : UInt32) (hv : Value) (he : List UInt32) (mb cn : Nat) (gs : List Gr) (env : Int) (g : Gr) (w : World) (hC : cellsAt w c [(vU32 pg), hv, (.map (some mb))]) (hH : Arr w hv 1 he.length (List.map vU32 he)) (hM : w.heap[mb]? = some (mP .i64 (List.map Gr.me gs) cn)) (hG : BsOK 120 Gr.cells Gr.b gs w) (hS : grD.list.ok w gs) (hME : MEok (List.map Gr.me gs) cn) (hg : g ∈ gs) (hge : (g.e : Int) = env) (hgp : g.ps.length < 2 ^ 40) (hgx : g.xs.length < 2 ^ 40) :
    Calls Try.prog 31 #[(ptr c 0), (vI env)] w (fun e w' => e = .returned (.bool g.con) ∧ Fr [] w w') := by
  refine enter (args := [(ptr c 0), (vI env)]) Try.func31 rfl rfl ?_
  have H0 : Own [] w w [Ent.bo c [(vU32 pg), hv, (.map (some mb))], Ent.ar hv 1 he.length (List.map vU32 he), Ent.mo .i64 mb (List.map Gr.me gs) cn, Ent.bsO 120 Gr.cells Gr.b gs, Ent.dp grD.list gs] := ((((((Own.start w []).oldB hC).oldA hH).mpOld hM).bsOld hG).dpOld hS)
  refine WC.seq ?_
  refine WC.region ?_
  refine WL.op rfl rfl (op_assign rfl ?_)
  refine WL.nil ?_
  refine WQ.next ?_
  refine WC.seq ?_
  refine WC.region ?_
  refine WL.op rfl rfl (op_move rfl ?_)
  refine WL.op rfl rfl (op_move rfl ?_)
  have H1 : Own [] w w [Ent.bo c [(vU32 pg), hv, (.map (some mb))], Ent.ar hv 1 he.length (List.map vU32 he), Ent.mo .i64 mb (List.map Gr.me gs) cn, Ent.bsO 120 Gr.cells Gr.b gs, Ent.dp grD.list gs, Ent.bo g.b [(vU32 g.pg), g.ev, g.pv, (.bool g.con), (vU32 g.pp), (vU32 g.tk)], Ent.ar g.ev 2 g.xs.length (List.flatMap xtc g.xs), Ent.ar g.pv 1 g.ps.length (List.map vU16 g.ps)] := (((H0.bsView (i := 3) (a := g) rfl hg).dpView (i := 4) (a := g) rfl hg (fun w h => h.1) (fun b hb => List.mem_append.2 (.inl hb))).dpView (i := 4) (a := g) rfl hg (fun w h => h.2) (fun b hb => List.mem_append.2 (.inr hb)))
  refine WL.op rfl rfl (op_callF Fa.C60 rfl ((of_some c pg hv he mb cn gs env g _ (H1.cellsAtO (i := 0) rfl) (H1.arrO (i := 1) rfl) (H1.mpO (i := 2) rfl) (H1.bsR (i := 3) rfl) (H1.dpO (i := 4) rfl) hME hg hge).mono (fun e w2 hq => ?_)))
  obtain ⟨rfl, hf2⟩ := hq
  refine ⟨_, rfl, ?_⟩
  have H2 := H1.fr' hf2
  refine WL.op rfl rfl (op_move rfl ?_)
  refine WL.op rfl rfl (op_extract rfl rfl ?_)
  refine WL.op rfl rfl (op_extract rfl rfl ?_)
  refine WL.op rfl rfl (op_assign rfl ?_)
  refine WL.op rfl rfl (op_assign rfl ?_)
  refine WL.nil ?_
  refine WQ.next ?_
  refine WC.seq ?_
  refine WC.region ?_
  refine WL.op rfl rfl (op_move rfl ?_)
  refine WL.op rfl rfl (op_nilCheck rfl ?_)
  refine WL.op rfl rfl (op_fieldAddr rfl Fa.F120_0 ?_)
  refine WL.op rfl rfl (op_fieldAddr rfl Fa.F59_3 ?_)
  refine WL.op rfl rfl (op_load rfl (H2.cellO (i := 5) rfl rfl) Try.underlying4 rfl ?_)
  refine WL.op rfl rfl (op_assign rfl ?_)
  refine WL.nil ?_
  refine WQ.next ?_
  refine WC.ret ?_
  refine WQ.out (.tmp rfl .nil) ?_
  exact ⟨rfl, H2.fr⟩
set_option maxRecDepth 100000 in
theorem port_some (c : Nat) (pg : UInt32) (hv : Value) (he : List UInt32) (mb cn : Nat) (gs : List Gr) (env : Int) (g : Gr) (y : UInt16) (w : World) (hC : cellsAt w c [(vU32 pg), hv, (.map (some mb))]) (hH : Arr w hv 1 he.length (List.map vU32 he)) (hM : w.heap[mb]? = some (mP .i64 (List.map Gr.me gs) cn)) (hG : BsOK 120 Gr.cells Gr.b gs w) (hS : grD.list.ok w gs) (hME : MEok (List.map Gr.me gs) cn) (hg : g ∈ gs) (hge : (g.e : Int) = env) (hgp : g.ps.length < 2 ^ 40) (hgx : g.xs.length < 2 ^ 40) :
    Calls Try.prog 28 #[(ptr c 0), (vI env), (vU16 y)] w (fun e w' => e = .returned (.bool (busyQ g y)) ∧ Fr [] w w') := by
  refine enter (args := [(ptr c 0), (vI env), (vU16 y)]) Try.func28 rfl rfl ?_
  have H0 : Own [] w w [Ent.bo c [(vU32 pg), hv, (.map (some mb))], Ent.ar hv 1 he.length (List.map vU32 he), Ent.mo .i64 mb (List.map Gr.me gs) cn, Ent.bsO 120 Gr.cells Gr.b gs, Ent.dp grD.list gs] := ((((((Own.start w []).oldB hC).oldA hH).mpOld hM).bsOld hG).dpOld hS)
  refine WC.seq ?_
  refine WC.region ?_
  refine WL.op rfl rfl (op_assign rfl ?_)
  refine WL.nil ?_
  refine WQ.next ?_
  refine WC.seq ?_
  refine WC.region ?_
  refine WL.op rfl rfl (op_move rfl ?_)
  refine WL.op rfl rfl (op_move rfl ?_)
  have H1 : Own [] w w [Ent.bo c [(vU32 pg), hv, (.map (some mb))], Ent.ar hv 1 he.length (List.map vU32 he), Ent.mo .i64 mb (List.map Gr.me gs) cn, Ent.bsO 120 Gr.cells Gr.b gs, Ent.dp grD.list gs, Ent.bo g.b [(vU32 g.pg), g.ev, g.pv, (.bool g.con), (vU32 g.pp), (vU32 g.tk)], Ent.ar g.ev 2 g.xs.length (List.flatMap xtc g.xs), Ent.ar g.pv 1 g.ps.length (List.map vU16 g.ps)] := (((H0.bsView (i := 3) (a := g) rfl hg).dpView (i := 4) (a := g) rfl hg (fun w h => h.1) (fun b hb => List.mem_append.2 (.inl hb))).dpView (i := 4) (a := g) rfl hg (fun w h => h.2) (fun b hb => List.mem_append.2 (.inr hb)))
  refine WL.op rfl rfl (op_callF Fa.C60 rfl ((of_some c pg hv he mb cn gs env g _ (H1.cellsAtO (i := 0) rfl) (H1.arrO (i := 1) rfl) (H1.mpO (i := 2) rfl) (H1.bsR (i := 3) rfl) (H1.dpO (i := 4) rfl) hME hg hge).mono (fun e w2 hq => ?_)))
  obtain ⟨rfl, hf2⟩ := hq
  refine ⟨_, rfl, ?_⟩
  have H2 := H1.fr' hf2
  refine WL.op rfl rfl (op_move rfl ?_)
  refine WL.op rfl rfl (op_extract rfl rfl ?_)
  refine WL.op rfl rfl (op_extract rfl rfl ?_)
  refine WL.op rfl rfl (op_assign rfl ?_)
  refine WL.op rfl rfl (op_assign rfl ?_)
  refine WL.nil ?_
  refine WQ.next ?_
  refine WC.seq ?_
  refine WC.region ?_
  refine WL.op rfl rfl (op_move rfl ?_)
  refine WL.op rfl rfl (op_nilCheck rfl ?_)
  refine WL.op rfl rfl (op_fieldAddr rfl Fa.F120_0 ?_)
  refine WL.op rfl rfl (op_fieldAddr rfl Fa.F59_2 ?_)
  refine WL.op rfl rfl (op_load rfl (H2.cellO (i := 5) rfl rfl) Try.underlying57 rfl ?_)
  refine WL.op rfl rfl (op_move rfl ?_)
  refine WL.op rfl rfl (op_callF Fa.C63 rfl ((con16_ok _ g.ps y _ (H2.arrO (i := 7) rfl) (by omega)).mono (fun e w3 hq => ?_)))
  obtain ⟨rfl, hf3⟩ := hq
  refine ⟨_, rfl, ?_⟩
  have H3 := H2.fr' hf3
  refine WL.op rfl rfl (op_assign rfl ?_)
  refine WL.nil ?_
  refine WQ.next ?_
  refine WC.ret ?_
  refine WQ.out (.tmp rfl .nil) ?_
  exact ⟨rfl, H3.fr⟩
set_option maxRecDepth 100000 in
theorem block_some (c : Nat) (pg : UInt32) (hv : Value) (he : List UInt32) (mb cn : Nat) (gs : List Gr) (env : Int) (g : Gr) (id bk : UInt32) (w : World) (hC : cellsAt w c [(vU32 pg), hv, (.map (some mb))]) (hH : Arr w hv 1 he.length (List.map vU32 he)) (hM : w.heap[mb]? = some (mP .i64 (List.map Gr.me gs) cn)) (hG : BsOK 120 Gr.cells Gr.b gs w) (hS : grD.list.ok w gs) (hME : MEok (List.map Gr.me gs) cn) (hg : g ∈ gs) (hge : (g.e : Int) = env) (hgp : g.ps.length < 2 ^ 40) (hgx : g.xs.length < 2 ^ 40) :
    Calls Try.prog 29 #[(ptr c 0), (vI env), (vU32 id), (vU32 bk)] w (fun e w' => e = .returned (.bool (hasX g.xs id && decide (bk < (extG g.xs id).bl))) ∧ Fr [] w w') := by
  refine enter (args := [(ptr c 0), (vI env), (vU32 id), (vU32 bk)]) Try.func29 rfl rfl ?_
  have H0 : Own [] w w [Ent.bo c [(vU32 pg), hv, (.map (some mb))], Ent.ar hv 1 he.length (List.map vU32 he), Ent.mo .i64 mb (List.map Gr.me gs) cn, Ent.bsO 120 Gr.cells Gr.b gs, Ent.dp grD.list gs] := ((((((Own.start w []).oldB hC).oldA hH).mpOld hM).bsOld hG).dpOld hS)
  refine WC.seq ?_
  refine WC.region ?_
  refine WL.op rfl rfl (op_assign rfl ?_)
  refine WL.nil ?_
  refine WQ.next ?_
  refine WC.seq ?_
  refine WC.region ?_
  refine WL.op rfl rfl (op_move rfl ?_)
  refine WL.op rfl rfl (op_move rfl ?_)
  have H1 : Own [] w w [Ent.bo c [(vU32 pg), hv, (.map (some mb))], Ent.ar hv 1 he.length (List.map vU32 he), Ent.mo .i64 mb (List.map Gr.me gs) cn, Ent.bsO 120 Gr.cells Gr.b gs, Ent.dp grD.list gs, Ent.bo g.b [(vU32 g.pg), g.ev, g.pv, (.bool g.con), (vU32 g.pp), (vU32 g.tk)], Ent.ar g.ev 2 g.xs.length (List.flatMap xtc g.xs), Ent.ar g.pv 1 g.ps.length (List.map vU16 g.ps)] := (((H0.bsView (i := 3) (a := g) rfl hg).dpView (i := 4) (a := g) rfl hg (fun w h => h.1) (fun b hb => List.mem_append.2 (.inl hb))).dpView (i := 4) (a := g) rfl hg (fun w h => h.2) (fun b hb => List.mem_append.2 (.inr hb)))
  refine WL.op rfl rfl (op_callF Fa.C60 rfl ((of_some c pg hv he mb cn gs env g _ (H1.cellsAtO (i := 0) rfl) (H1.arrO (i := 1) rfl) (H1.mpO (i := 2) rfl) (H1.bsR (i := 3) rfl) (H1.dpO (i := 4) rfl) hME hg hge).mono (fun e w2 hq => ?_)))
  obtain ⟨rfl, hf2⟩ := hq
  refine ⟨_, rfl, ?_⟩
  have H2 := H1.fr' hf2
  refine WL.op rfl rfl (op_move rfl ?_)
  refine WL.op rfl rfl (op_extract rfl rfl ?_)
  refine WL.op rfl rfl (op_extract rfl rfl ?_)
  refine WL.op rfl rfl (op_assign rfl ?_)
  refine WL.op rfl rfl (op_assign rfl ?_)
  refine WL.nil ?_
  refine WQ.next ?_
  refine WC.seq ?_
  refine WC.seq ?_
  refine WC.region ?_
  refine WL.op rfl rfl (op_move rfl ?_)
  refine WL.op rfl rfl (op_nilCheck rfl ?_)
  refine WL.op rfl rfl (op_fieldAddr rfl Fa.F120_0 ?_)
  refine WL.op rfl rfl (op_loadS (vs := [_, _, _, _]) rfl (H2.cellsO (i := 5) rfl rfl) Try.underlying59 rfl Fa.I59 rfl ?_)
  refine WL.op rfl rfl (op_move rfl ?_)
  refine WL.op rfl rfl (op_callF Fa.C64 rfl ((extent_ok g.pg _ _ g.xs g.ps g.con id _ (H2.arrO (i := 6) rfl) (H2.arrO (i := 7) rfl) hgx hgp).mono (fun e w3 hq => ?_)))
  obtain ⟨rfl, hf3⟩ := hq
  refine ⟨_, rfl, ?_⟩
  have H3 := H2.fr' hf3
  refine WL.op rfl rfl (op_move rfl ?_)
  refine WL.op rfl rfl (op_extract rfl rfl ?_)
  refine WL.op rfl rfl (op_extract rfl rfl ?_)
  refine WL.op rfl rfl (op_alloc H3 Fa.I108 (fun b4 w4 H4 => ?_))
  refine WL.op rfl rfl (op_storeBW (i := 8) H4 rfl rfl rfl rfl rfl Fa.I108 (fun w5 H5 => ?_))
  refine WL.op rfl rfl (op_assign rfl ?_)
  refine WL.nil ?_
  refine WQ.next ?_
  refine WC.seq ?_
  refine WC.region ?_
  refine WL.op rfl rfl (op_move rfl ?_)
  refine WL.nil ?_
  refine WQ.next ?_
  refine WC.cond rfl (fun (hb6 : (hasX g.xs id) = true) => ?_) (fun (hb6 : (hasX g.xs id) = false) => ?_)
  ·
    refine WC.seq ?_
    refine WC.region ?_
    refine WL.op rfl rfl (op_move rfl ?_)
    refine WL.op rfl rfl (op_fieldAddr rfl Fa.F108_1 ?_)
    refine WL.op rfl rfl (op_load rfl (H5.cell (i := 8) rfl rfl) Try.underlying29 rfl ?_)
    refine WL.op rfl rfl (op_lssU32 rfl rfl ?_)
    refine WL.op rfl rfl (op_assign rfl ?_)
    refine WL.nil ?_
    refine WQ.next ?_
    refine WC.ret ?_
    refine WQ.thenRet ?_
    refine WQ.out (.tmp rfl .nil) ?_
    exact ⟨by rw [hb6, Bool.true_and]; rfl, H5.fr⟩
  ·
    refine WC.skip ?_
    refine WQ.next ?_
    refine WC.seq ?_
    refine WC.region ?_
    refine WL.op rfl rfl (op_assign rfl ?_)
    refine WL.nil ?_
    refine WQ.next ?_
    refine WC.ret ?_
    refine WQ.out (.tmp rfl .nil) ?_
    exact ⟨by rw [hb6, Bool.false_and]; rfl, H5.fr⟩
set_option maxRecDepth 100000 in
theorem left_no (c : Nat) (pg : UInt32) (hv : Value) (he : List UInt32) (mb cn : Nat) (gs : List Gr) (env : Int) (w : World) (hC : cellsAt w c [(vU32 pg), hv, (.map (some mb))]) (hH : Arr w hv 1 he.length (List.map vU32 he)) (hM : w.heap[mb]? = some (mP .i64 (List.map Gr.me gs) cn)) (hG : BsOK 120 Gr.cells Gr.b gs w) (hS : grD.list.ok w gs) (hME : MEok (List.map Gr.me gs) cn) (no : ∀ g ∈ gs, (g.e : Int) ≠ env) :
    Calls Try.prog 27 #[(ptr c 0), (vI env)] w (fun e w' => e = .returned (vU32 0) ∧ Fr [] w w') := by
  refine enter (args := [(ptr c 0), (vI env)]) Try.func27 rfl rfl ?_
  have H0 : Own [] w w [Ent.bo c [(vU32 pg), hv, (.map (some mb))], Ent.ar hv 1 he.length (List.map vU32 he), Ent.mo .i64 mb (List.map Gr.me gs) cn, Ent.bsO 120 Gr.cells Gr.b gs, Ent.dp grD.list gs] := ((((((Own.start w []).oldB hC).oldA hH).mpOld hM).bsOld hG).dpOld hS)
  refine WC.seq ?_
  refine WC.region ?_
  refine WL.op rfl rfl (op_assign rfl ?_)
  refine WL.nil ?_
  refine WQ.next ?_
  refine WC.seq ?_
  refine WC.region ?_
  refine WL.op rfl rfl (op_move rfl ?_)
  refine WL.op rfl rfl (op_move rfl ?_)
  refine WL.op rfl rfl (op_callF Fa.C60 rfl ((of_no c pg hv he mb cn gs env _ (H0.cellsAtO (i := 0) rfl) (H0.arrO (i := 1) rfl) (H0.mpO (i := 2) rfl) (H0.bsR (i := 3) rfl) (H0.dpO (i := 4) rfl) hME no).mono (fun e w1 hq => ?_)))
  obtain ⟨b1, rfl, hq1⟩ := hq
  refine ⟨_, rfl, ?_⟩
  have H1 : Own [] w w1 [Ent.bo c [(vU32 pg), hv, (.map (some mb))], Ent.ar hv 1 he.length (List.map vU32 he), Ent.mo .i64 mb (List.map Gr.me gs) cn, Ent.bsO 120 Gr.cells Gr.b gs, Ent.dp grD.list gs, .blk b1 [(vU32 0), (.slice none 0 0), (.slice none 0 0), (.bool false), (vU32 0), (vU32 0)] 120] := H0.splice [] [] [.blk b1 [(vU32 0), (.slice none 0 0), (.slice none 0 0), (.bool false), (vU32 0), (vU32 0)] 120] rfl rfl hq1 (Fits.solid True.intro Fits.nil)
  refine WL.op rfl rfl (op_move rfl ?_)
  refine WL.op rfl rfl (op_extract rfl rfl ?_)
  refine WL.op rfl rfl (op_extract rfl rfl ?_)
  refine WL.op rfl rfl (op_assign rfl ?_)
  refine WL.op rfl rfl (op_assign rfl ?_)
  refine WL.nil ?_
  refine WQ.next ?_
  refine WC.seq ?_
  refine WC.draw 11 Fa.M H1 (HW.op rfl (fun w1 H1 => op_move rfl ⟨rfl, Fr.refl _ _⟩) (HW.op rfl (fun w1 H1 => op_nilCheck rfl ⟨rfl, Fr.refl _ _⟩) (HW.op rfl (fun w1 H1 => op_fieldAddr rfl Fa.F120_0 ⟨rfl, Fr.refl _ _⟩) (HW.op rfl (fun w1 H1 => op_fieldAddr rfl Fa.F59_0 ⟨rfl, Fr.refl _ _⟩) (HW.op rfl (fun w1 H1 => op_load rfl (H1.cell (i := 5) rfl rfl) Try.underlying29 rfl ⟨rfl, Fr.refl _ _⟩) (HW.op rfl (fun w1 H1 => op_move rfl ⟨rfl, Fr.refl _ _⟩) (HW.op rfl (fun w1 H1 => op_nilCheck rfl ⟨rfl, Fr.refl _ _⟩) (HW.op rfl (fun w1 H1 => op_fieldAddr rfl Fa.F120_2 ⟨rfl, Fr.refl _ _⟩) (HW.op rfl (fun w1 H1 => op_load rfl (H1.cell (i := 5) rfl rfl) Try.underlying29 rfl ⟨rfl, Fr.refl _ _⟩) (HW.op rfl (fun w1 H1 => op_subU32 (a := 0) (b := 0) rfl rfl ⟨rfl, Fr.refl _ _⟩) (HW.op rfl (fun w1 H1 => op_assign rfl ⟨rfl, Fr.refl _ _⟩)  HW.nil))))))))))) (by kernel_rfl) ?_
  intro β2 w2 H2
  refine WL.nil ?_
  refine WQ.next ?_
  refine WC.ret ?_
  refine WQ.out (.tmp rfl .nil) ?_
  exact ⟨rfl, H2.fr⟩
set_option maxRecDepth 100000 in
theorem console_no (c : Nat) (pg : UInt32) (hv : Value) (he : List UInt32) (mb cn : Nat) (gs : List Gr) (env : Int) (w : World) (hC : cellsAt w c [(vU32 pg), hv, (.map (some mb))]) (hH : Arr w hv 1 he.length (List.map vU32 he)) (hM : w.heap[mb]? = some (mP .i64 (List.map Gr.me gs) cn)) (hG : BsOK 120 Gr.cells Gr.b gs w) (hS : grD.list.ok w gs) (hME : MEok (List.map Gr.me gs) cn) (no : ∀ g ∈ gs, (g.e : Int) ≠ env) :
    Calls Try.prog 31 #[(ptr c 0), (vI env)] w (fun e w' => e = .returned (.bool false) ∧ Fr [] w w') := by
  refine enter (args := [(ptr c 0), (vI env)]) Try.func31 rfl rfl ?_
  have H0 : Own [] w w [Ent.bo c [(vU32 pg), hv, (.map (some mb))], Ent.ar hv 1 he.length (List.map vU32 he), Ent.mo .i64 mb (List.map Gr.me gs) cn, Ent.bsO 120 Gr.cells Gr.b gs, Ent.dp grD.list gs] := ((((((Own.start w []).oldB hC).oldA hH).mpOld hM).bsOld hG).dpOld hS)
  refine WC.seq ?_
  refine WC.region ?_
  refine WL.op rfl rfl (op_assign rfl ?_)
  refine WL.nil ?_
  refine WQ.next ?_
  refine WC.seq ?_
  refine WC.region ?_
  refine WL.op rfl rfl (op_move rfl ?_)
  refine WL.op rfl rfl (op_move rfl ?_)
  refine WL.op rfl rfl (op_callF Fa.C60 rfl ((of_no c pg hv he mb cn gs env _ (H0.cellsAtO (i := 0) rfl) (H0.arrO (i := 1) rfl) (H0.mpO (i := 2) rfl) (H0.bsR (i := 3) rfl) (H0.dpO (i := 4) rfl) hME no).mono (fun e w1 hq => ?_)))
  obtain ⟨b1, rfl, hq1⟩ := hq
  refine ⟨_, rfl, ?_⟩
  have H1 : Own [] w w1 [Ent.bo c [(vU32 pg), hv, (.map (some mb))], Ent.ar hv 1 he.length (List.map vU32 he), Ent.mo .i64 mb (List.map Gr.me gs) cn, Ent.bsO 120 Gr.cells Gr.b gs, Ent.dp grD.list gs, .blk b1 [(vU32 0), (.slice none 0 0), (.slice none 0 0), (.bool false), (vU32 0), (vU32 0)] 120] := H0.splice [] [] [.blk b1 [(vU32 0), (.slice none 0 0), (.slice none 0 0), (.bool false), (vU32 0), (vU32 0)] 120] rfl rfl hq1 (Fits.solid True.intro Fits.nil)
  refine WL.op rfl rfl (op_move rfl ?_)
  refine WL.op rfl rfl (op_extract rfl rfl ?_)
  refine WL.op rfl rfl (op_extract rfl rfl ?_)
  refine WL.op rfl rfl (op_assign rfl ?_)
  refine WL.op rfl rfl (op_assign rfl ?_)
  refine WL.nil ?_
  refine WQ.next ?_
  refine WC.seq ?_
  refine WC.region ?_
  refine WL.op rfl rfl (op_move rfl ?_)
  refine WL.op rfl rfl (op_nilCheck rfl ?_)
  refine WL.op rfl rfl (op_fieldAddr rfl Fa.F120_0 ?_)
  refine WL.op rfl rfl (op_fieldAddr rfl Fa.F59_3 ?_)
  refine WL.op rfl rfl (op_load rfl (H1.cell (i := 5) rfl rfl) Try.underlying4 rfl ?_)
  refine WL.op rfl rfl (op_assign rfl ?_)
  refine WL.nil ?_
  refine WQ.next ?_
  refine WC.ret ?_
  refine WQ.out (.tmp rfl .nil) ?_
  exact ⟨rfl, H1.fr⟩
set_option maxRecDepth 100000 in
theorem port_no (c : Nat) (pg : UInt32) (hv : Value) (he : List UInt32) (mb cn : Nat) (gs : List Gr) (env : Int) (y : UInt16) (w : World) (hC : cellsAt w c [(vU32 pg), hv, (.map (some mb))]) (hH : Arr w hv 1 he.length (List.map vU32 he)) (hM : w.heap[mb]? = some (mP .i64 (List.map Gr.me gs) cn)) (hG : BsOK 120 Gr.cells Gr.b gs w) (hS : grD.list.ok w gs) (hME : MEok (List.map Gr.me gs) cn) (no : ∀ g ∈ gs, (g.e : Int) ≠ env) :
    Calls Try.prog 28 #[(ptr c 0), (vI env), (vU16 y)] w (fun e w' => e = .returned (.bool false) ∧ Fr [] w w') := by
  refine enter (args := [(ptr c 0), (vI env), (vU16 y)]) Try.func28 rfl rfl ?_
  have H0 : Own [] w w [Ent.bo c [(vU32 pg), hv, (.map (some mb))], Ent.ar hv 1 he.length (List.map vU32 he), Ent.mo .i64 mb (List.map Gr.me gs) cn, Ent.bsO 120 Gr.cells Gr.b gs, Ent.dp grD.list gs] := ((((((Own.start w []).oldB hC).oldA hH).mpOld hM).bsOld hG).dpOld hS)
  refine WC.seq ?_
  refine WC.region ?_
  refine WL.op rfl rfl (op_assign rfl ?_)
  refine WL.nil ?_
  refine WQ.next ?_
  refine WC.seq ?_
  refine WC.region ?_
  refine WL.op rfl rfl (op_move rfl ?_)
  refine WL.op rfl rfl (op_move rfl ?_)
  refine WL.op rfl rfl (op_callF Fa.C60 rfl ((of_no c pg hv he mb cn gs env _ (H0.cellsAtO (i := 0) rfl) (H0.arrO (i := 1) rfl) (H0.mpO (i := 2) rfl) (H0.bsR (i := 3) rfl) (H0.dpO (i := 4) rfl) hME no).mono (fun e w1 hq => ?_)))
  obtain ⟨b1, rfl, hq1⟩ := hq
  refine ⟨_, rfl, ?_⟩
  have H1 : Own [] w w1 [Ent.bo c [(vU32 pg), hv, (.map (some mb))], Ent.ar hv 1 he.length (List.map vU32 he), Ent.mo .i64 mb (List.map Gr.me gs) cn, Ent.bsO 120 Gr.cells Gr.b gs, Ent.dp grD.list gs, .blk b1 [(vU32 0), (.slice none 0 0), (.slice none 0 0), (.bool false), (vU32 0), (vU32 0)] 120] := H0.splice [] [] [.blk b1 [(vU32 0), (.slice none 0 0), (.slice none 0 0), (.bool false), (vU32 0), (vU32 0)] 120] rfl rfl hq1 (Fits.solid True.intro Fits.nil)
  refine WL.op rfl rfl (op_move rfl ?_)
  refine WL.op rfl rfl (op_extract rfl rfl ?_)
  refine WL.op rfl rfl (op_extract rfl rfl ?_)
  refine WL.op rfl rfl (op_assign rfl ?_)
  refine WL.op rfl rfl (op_assign rfl ?_)
  refine WL.nil ?_
  refine WQ.next ?_
  refine WC.seq ?_
  refine WC.region ?_
  refine WL.op rfl rfl (op_move rfl ?_)
  refine WL.op rfl rfl (op_nilCheck rfl ?_)
  refine WL.op rfl rfl (op_fieldAddr rfl Fa.F120_0 ?_)
  refine WL.op rfl rfl (op_fieldAddr rfl Fa.F59_2 ?_)
  refine WL.op rfl rfl (op_load rfl (H1.cell (i := 5) rfl rfl) Try.underlying57 rfl ?_)
  refine WL.op rfl rfl (op_move rfl ?_)
  refine WL.op rfl rfl (op_callF Fa.C63 rfl ((con16_ok _ [] y _ (Arr.nil _ _) (by simp)).mono (fun e w2 hq => ?_)))
  obtain ⟨rfl, hf2⟩ := hq
  refine ⟨_, rfl, ?_⟩
  have H2 := H1.fr' hf2
  refine WL.op rfl rfl (op_assign rfl ?_)
  refine WL.nil ?_
  refine WQ.next ?_
  refine WC.ret ?_
  refine WQ.out (.tmp rfl .nil) ?_
  exact ⟨rfl, H2.fr⟩
set_option maxRecDepth 100000 in
theorem block_no (c : Nat) (pg : UInt32) (hv : Value) (he : List UInt32) (mb cn : Nat) (gs : List Gr) (env : Int) (id bk : UInt32) (w : World) (hC : cellsAt w c [(vU32 pg), hv, (.map (some mb))]) (hH : Arr w hv 1 he.length (List.map vU32 he)) (hM : w.heap[mb]? = some (mP .i64 (List.map Gr.me gs) cn)) (hG : BsOK 120 Gr.cells Gr.b gs w) (hS : grD.list.ok w gs) (hME : MEok (List.map Gr.me gs) cn) (no : ∀ g ∈ gs, (g.e : Int) ≠ env) :
    Calls Try.prog 29 #[(ptr c 0), (vI env), (vU32 id), (vU32 bk)] w (fun e w' => e = .returned (.bool false) ∧ Fr [] w w') := by
  refine enter (args := [(ptr c 0), (vI env), (vU32 id), (vU32 bk)]) Try.func29 rfl rfl ?_
  have H0 : Own [] w w [Ent.bo c [(vU32 pg), hv, (.map (some mb))], Ent.ar hv 1 he.length (List.map vU32 he), Ent.mo .i64 mb (List.map Gr.me gs) cn, Ent.bsO 120 Gr.cells Gr.b gs, Ent.dp grD.list gs] := ((((((Own.start w []).oldB hC).oldA hH).mpOld hM).bsOld hG).dpOld hS)
  refine WC.seq ?_
  refine WC.region ?_
  refine WL.op rfl rfl (op_assign rfl ?_)
  refine WL.nil ?_
  refine WQ.next ?_
  refine WC.seq ?_
  refine WC.region ?_
  refine WL.op rfl rfl (op_move rfl ?_)
  refine WL.op rfl rfl (op_move rfl ?_)
  refine WL.op rfl rfl (op_callF Fa.C60 rfl ((of_no c pg hv he mb cn gs env _ (H0.cellsAtO (i := 0) rfl) (H0.arrO (i := 1) rfl) (H0.mpO (i := 2) rfl) (H0.bsR (i := 3) rfl) (H0.dpO (i := 4) rfl) hME no).mono (fun e w1 hq => ?_)))
  obtain ⟨b1, rfl, hq1⟩ := hq
  refine ⟨_, rfl, ?_⟩
  have H1 : Own [] w w1 [Ent.bo c [(vU32 pg), hv, (.map (some mb))], Ent.ar hv 1 he.length (List.map vU32 he), Ent.mo .i64 mb (List.map Gr.me gs) cn, Ent.bsO 120 Gr.cells Gr.b gs, Ent.dp grD.list gs, .blk b1 [(vU32 0), (.slice none 0 0), (.slice none 0 0), (.bool false), (vU32 0), (vU32 0)] 120] := H0.splice [] [] [.blk b1 [(vU32 0), (.slice none 0 0), (.slice none 0 0), (.bool false), (vU32 0), (vU32 0)] 120] rfl rfl hq1 (Fits.solid True.intro Fits.nil)
  refine WL.op rfl rfl (op_move rfl ?_)
  refine WL.op rfl rfl (op_extract rfl rfl ?_)
  refine WL.op rfl rfl (op_extract rfl rfl ?_)
  refine WL.op rfl rfl (op_assign rfl ?_)
  refine WL.op rfl rfl (op_assign rfl ?_)
  refine WL.nil ?_
  refine WQ.next ?_
  refine WC.seq ?_
  refine WC.seq ?_
  refine WC.region ?_
  refine WL.op rfl rfl (op_move rfl ?_)
  refine WL.op rfl rfl (op_nilCheck rfl ?_)
  refine WL.op rfl rfl (op_fieldAddr rfl Fa.F120_0 ?_)
  refine WL.op rfl rfl (op_loadS (vs := [_, _, _, _]) rfl (H1.cells (i := 5) rfl rfl) Try.underlying59 rfl Fa.I59 rfl ?_)
  refine WL.op rfl rfl (op_move rfl ?_)
  refine WL.op rfl rfl (op_callF Fa.C64 rfl ((extent_ok 0 _ _ [] [] false id _ (Arr.nil _ _) (Arr.nil _ _) (by simp) (by simp)).mono (fun e w2 hq => ?_)))
  obtain ⟨rfl, hf2⟩ := hq
  refine ⟨_, rfl, ?_⟩
  have H2 := H1.fr' hf2
  refine WL.op rfl rfl (op_move rfl ?_)
  refine WL.op rfl rfl (op_extract rfl rfl ?_)
  refine WL.op rfl rfl (op_extract rfl rfl ?_)
  refine WL.op rfl rfl (op_alloc H2 Fa.I108 (fun b3 w3 H3 => ?_))
  refine WL.op rfl rfl (op_storeBW (i := 6) H3 rfl rfl rfl rfl rfl Fa.I108 (fun w4 H4 => ?_))
  refine WL.op rfl rfl (op_assign rfl ?_)
  refine WL.nil ?_
  refine WQ.next ?_
  refine WC.seq ?_
  refine WC.region ?_
  refine WL.op rfl rfl (op_move rfl ?_)
  refine WL.nil ?_
  refine WQ.next ?_
  refine WC.cond rfl (fun (hb5 : (hasX [] id) = true) => ?_) (fun (hb5 : (hasX [] id) = false) => ?_)
  ·
    refine WC.seq ?_
    refine WC.region ?_
    refine WL.op rfl rfl (op_move rfl ?_)
    refine WL.op rfl rfl (op_fieldAddr rfl Fa.F108_1 ?_)
    refine WL.op rfl rfl (op_load rfl (H4.cell (i := 6) rfl rfl) Try.underlying29 rfl ?_)
    refine WL.op rfl rfl (op_lssU32 rfl rfl ?_)
    refine WL.op rfl rfl (op_assign rfl ?_)
    refine WL.nil ?_
    refine WQ.next ?_
    refine WC.ret ?_
    refine WQ.thenRet ?_
    refine WQ.out (.tmp rfl .nil) ?_
    exact absurd hb5 (by simp [hasX])
  ·
    refine WC.skip ?_
    refine WQ.next ?_
    refine WC.seq ?_
    refine WC.region ?_
    refine WL.op rfl rfl (op_assign rfl ?_)
    refine WL.nil ?_
    refine WQ.next ?_
    refine WC.ret ?_
    refine WQ.out (.tmp rfl .nil) ?_
    exact ⟨rfl, H4.fr⟩
set_option maxRecDepth 100000 in
theorem left_nil (env : Int) (w : World) :
    Calls Try.prog 27 #[(.pointer none), (vI env)] w (fun e w' => e = .returned (vU32 0) ∧ Fr [] w w') := by
  refine enter (args := [(.pointer none), (vI env)]) Try.func27 rfl rfl ?_
  have H0 : Own [] w w [] := Own.start w []
  refine WC.seq ?_
  refine WC.region ?_
  refine WL.op rfl rfl (op_assign rfl ?_)
  refine WL.nil ?_
  refine WQ.next ?_
  refine WC.seq ?_
  refine WC.region ?_
  refine WL.op rfl rfl (op_move rfl ?_)
  refine WL.op rfl rfl (op_move rfl ?_)
  refine WL.op rfl rfl (op_callF Fa.C60 rfl ((of_nil env _).mono (fun e w1 hq => ?_)))
  obtain ⟨b1, rfl, hq1⟩ := hq
  refine ⟨_, rfl, ?_⟩
  have H1 : Own [] w w1 [.blk b1 [(vU32 0), (.slice none 0 0), (.slice none 0 0), (.bool false), (vU32 0), (vU32 0)] 120] := H0.splice [] [] [.blk b1 [(vU32 0), (.slice none 0 0), (.slice none 0 0), (.bool false), (vU32 0), (vU32 0)] 120] rfl rfl hq1 (Fits.solid True.intro Fits.nil)
  refine WL.op rfl rfl (op_move rfl ?_)
  refine WL.op rfl rfl (op_extract rfl rfl ?_)
  refine WL.op rfl rfl (op_extract rfl rfl ?_)
  refine WL.op rfl rfl (op_assign rfl ?_)
  refine WL.op rfl rfl (op_assign rfl ?_)
  refine WL.nil ?_
  refine WQ.next ?_
  refine WC.seq ?_
  refine WC.draw 11 Fa.M H1 (HW.op rfl (fun w1 H1 => op_move rfl ⟨rfl, Fr.refl _ _⟩) (HW.op rfl (fun w1 H1 => op_nilCheck rfl ⟨rfl, Fr.refl _ _⟩) (HW.op rfl (fun w1 H1 => op_fieldAddr rfl Fa.F120_0 ⟨rfl, Fr.refl _ _⟩) (HW.op rfl (fun w1 H1 => op_fieldAddr rfl Fa.F59_0 ⟨rfl, Fr.refl _ _⟩) (HW.op rfl (fun w1 H1 => op_load rfl (H1.cell (i := 0) rfl rfl) Try.underlying29 rfl ⟨rfl, Fr.refl _ _⟩) (HW.op rfl (fun w1 H1 => op_move rfl ⟨rfl, Fr.refl _ _⟩) (HW.op rfl (fun w1 H1 => op_nilCheck rfl ⟨rfl, Fr.refl _ _⟩) (HW.op rfl (fun w1 H1 => op_fieldAddr rfl Fa.F120_2 ⟨rfl, Fr.refl _ _⟩) (HW.op rfl (fun w1 H1 => op_load rfl (H1.cell (i := 0) rfl rfl) Try.underlying29 rfl ⟨rfl, Fr.refl _ _⟩) (HW.op rfl (fun w1 H1 => op_subU32 (a := 0) (b := 0) rfl rfl ⟨rfl, Fr.refl _ _⟩) (HW.op rfl (fun w1 H1 => op_assign rfl ⟨rfl, Fr.refl _ _⟩)  HW.nil))))))))))) (by kernel_rfl) ?_
  intro β2 w2 H2
  refine WL.nil ?_
  refine WQ.next ?_
  refine WC.ret ?_
  refine WQ.out (.tmp rfl .nil) ?_
  exact ⟨rfl, H2.fr⟩
set_option maxRecDepth 100000 in
theorem console_nil (env : Int) (w : World) :
    Calls Try.prog 31 #[(.pointer none), (vI env)] w (fun e w' => e = .returned (.bool false) ∧ Fr [] w w') := by
  refine enter (args := [(.pointer none), (vI env)]) Try.func31 rfl rfl ?_
  have H0 : Own [] w w [] := Own.start w []
  refine WC.seq ?_
  refine WC.region ?_
  refine WL.op rfl rfl (op_assign rfl ?_)
  refine WL.nil ?_
  refine WQ.next ?_
  refine WC.seq ?_
  refine WC.region ?_
  refine WL.op rfl rfl (op_move rfl ?_)
  refine WL.op rfl rfl (op_move rfl ?_)
  refine WL.op rfl rfl (op_callF Fa.C60 rfl ((of_nil env _).mono (fun e w1 hq => ?_)))
  obtain ⟨b1, rfl, hq1⟩ := hq
  refine ⟨_, rfl, ?_⟩
  have H1 : Own [] w w1 [.blk b1 [(vU32 0), (.slice none 0 0), (.slice none 0 0), (.bool false), (vU32 0), (vU32 0)] 120] := H0.splice [] [] [.blk b1 [(vU32 0), (.slice none 0 0), (.slice none 0 0), (.bool false), (vU32 0), (vU32 0)] 120] rfl rfl hq1 (Fits.solid True.intro Fits.nil)
  refine WL.op rfl rfl (op_move rfl ?_)
  refine WL.op rfl rfl (op_extract rfl rfl ?_)
  refine WL.op rfl rfl (op_extract rfl rfl ?_)
  refine WL.op rfl rfl (op_assign rfl ?_)
  refine WL.op rfl rfl (op_assign rfl ?_)
  refine WL.nil ?_
  refine WQ.next ?_
  refine WC.seq ?_
  refine WC.region ?_
  refine WL.op rfl rfl (op_move rfl ?_)
  refine WL.op rfl rfl (op_nilCheck rfl ?_)
  refine WL.op rfl rfl (op_fieldAddr rfl Fa.F120_0 ?_)
  refine WL.op rfl rfl (op_fieldAddr rfl Fa.F59_3 ?_)
  refine WL.op rfl rfl (op_load rfl (H1.cell (i := 0) rfl rfl) Try.underlying4 rfl ?_)
  refine WL.op rfl rfl (op_assign rfl ?_)
  refine WL.nil ?_
  refine WQ.next ?_
  refine WC.ret ?_
  refine WQ.out (.tmp rfl .nil) ?_
  exact ⟨rfl, H1.fr⟩
set_option maxRecDepth 100000 in
theorem port_nil (env : Int) (y : UInt16) (w : World) :
    Calls Try.prog 28 #[(.pointer none), (vI env), (vU16 y)] w (fun e w' => e = .returned (.bool false) ∧ Fr [] w w') := by
  refine enter (args := [(.pointer none), (vI env), (vU16 y)]) Try.func28 rfl rfl ?_
  have H0 : Own [] w w [] := Own.start w []
  refine WC.seq ?_
  refine WC.region ?_
  refine WL.op rfl rfl (op_assign rfl ?_)
  refine WL.nil ?_
  refine WQ.next ?_
  refine WC.seq ?_
  refine WC.region ?_
  refine WL.op rfl rfl (op_move rfl ?_)
  refine WL.op rfl rfl (op_move rfl ?_)
  refine WL.op rfl rfl (op_callF Fa.C60 rfl ((of_nil env _).mono (fun e w1 hq => ?_)))
  obtain ⟨b1, rfl, hq1⟩ := hq
  refine ⟨_, rfl, ?_⟩
  have H1 : Own [] w w1 [.blk b1 [(vU32 0), (.slice none 0 0), (.slice none 0 0), (.bool false), (vU32 0), (vU32 0)] 120] := H0.splice [] [] [.blk b1 [(vU32 0), (.slice none 0 0), (.slice none 0 0), (.bool false), (vU32 0), (vU32 0)] 120] rfl rfl hq1 (Fits.solid True.intro Fits.nil)
  refine WL.op rfl rfl (op_move rfl ?_)
  refine WL.op rfl rfl (op_extract rfl rfl ?_)
  refine WL.op rfl rfl (op_extract rfl rfl ?_)
  refine WL.op rfl rfl (op_assign rfl ?_)
  refine WL.op rfl rfl (op_assign rfl ?_)
  refine WL.nil ?_
  refine WQ.next ?_
  refine WC.seq ?_
  refine WC.region ?_
  refine WL.op rfl rfl (op_move rfl ?_)
  refine WL.op rfl rfl (op_nilCheck rfl ?_)
  refine WL.op rfl rfl (op_fieldAddr rfl Fa.F120_0 ?_)
  refine WL.op rfl rfl (op_fieldAddr rfl Fa.F59_2 ?_)
  refine WL.op rfl rfl (op_load rfl (H1.cell (i := 0) rfl rfl) Try.underlying57 rfl ?_)
  refine WL.op rfl rfl (op_move rfl ?_)
  refine WL.op rfl rfl (op_callF Fa.C63 rfl ((con16_ok _ [] y _ (Arr.nil _ _) (by simp)).mono (fun e w2 hq => ?_)))
  obtain ⟨rfl, hf2⟩ := hq
  refine ⟨_, rfl, ?_⟩
  have H2 := H1.fr' hf2
  refine WL.op rfl rfl (op_assign rfl ?_)
  refine WL.nil ?_
  refine WQ.next ?_
  refine WC.ret ?_
  refine WQ.out (.tmp rfl .nil) ?_
  exact ⟨rfl, H2.fr⟩
set_option maxRecDepth 100000 in
theorem block_nil (env : Int) (id bk : UInt32) (w : World) :
    Calls Try.prog 29 #[(.pointer none), (vI env), (vU32 id), (vU32 bk)] w (fun e w' => e = .returned (.bool false) ∧ Fr [] w w') := by
  refine enter (args := [(.pointer none), (vI env), (vU32 id), (vU32 bk)]) Try.func29 rfl rfl ?_
  have H0 : Own [] w w [] := Own.start w []
  refine WC.seq ?_
  refine WC.region ?_
  refine WL.op rfl rfl (op_assign rfl ?_)
  refine WL.nil ?_
  refine WQ.next ?_
  refine WC.seq ?_
  refine WC.region ?_
  refine WL.op rfl rfl (op_move rfl ?_)
  refine WL.op rfl rfl (op_move rfl ?_)
  refine WL.op rfl rfl (op_callF Fa.C60 rfl ((of_nil env _).mono (fun e w1 hq => ?_)))
  obtain ⟨b1, rfl, hq1⟩ := hq
  refine ⟨_, rfl, ?_⟩
  have H1 : Own [] w w1 [.blk b1 [(vU32 0), (.slice none 0 0), (.slice none 0 0), (.bool false), (vU32 0), (vU32 0)] 120] := H0.splice [] [] [.blk b1 [(vU32 0), (.slice none 0 0), (.slice none 0 0), (.bool false), (vU32 0), (vU32 0)] 120] rfl rfl hq1 (Fits.solid True.intro Fits.nil)
  refine WL.op rfl rfl (op_move rfl ?_)
  refine WL.op rfl rfl (op_extract rfl rfl ?_)
  refine WL.op rfl rfl (op_extract rfl rfl ?_)
  refine WL.op rfl rfl (op_assign rfl ?_)
  refine WL.op rfl rfl (op_assign rfl ?_)
  refine WL.nil ?_
  refine WQ.next ?_
  refine WC.seq ?_
  refine WC.seq ?_
  refine WC.region ?_
  refine WL.op rfl rfl (op_move rfl ?_)
  refine WL.op rfl rfl (op_nilCheck rfl ?_)
  refine WL.op rfl rfl (op_fieldAddr rfl Fa.F120_0 ?_)
  refine WL.op rfl rfl (op_loadS (vs := [_, _, _, _]) rfl (H1.cells (i := 0) rfl rfl) Try.underlying59 rfl Fa.I59 rfl ?_)
  refine WL.op rfl rfl (op_move rfl ?_)
  refine WL.op rfl rfl (op_callF Fa.C64 rfl ((extent_ok 0 _ _ [] [] false id _ (Arr.nil _ _) (Arr.nil _ _) (by simp) (by simp)).mono (fun e w2 hq => ?_)))
  obtain ⟨rfl, hf2⟩ := hq
  refine ⟨_, rfl, ?_⟩
  have H2 := H1.fr' hf2
  refine WL.op rfl rfl (op_move rfl ?_)
  refine WL.op rfl rfl (op_extract rfl rfl ?_)
  refine WL.op rfl rfl (op_extract rfl rfl ?_)
  refine WL.op rfl rfl (op_alloc H2 Fa.I108 (fun b3 w3 H3 => ?_))
  refine WL.op rfl rfl (op_storeBW (i := 1) H3 rfl rfl rfl rfl rfl Fa.I108 (fun w4 H4 => ?_))
  refine WL.op rfl rfl (op_assign rfl ?_)
  refine WL.nil ?_
  refine WQ.next ?_
  refine WC.seq ?_
  refine WC.region ?_
  refine WL.op rfl rfl (op_move rfl ?_)
  refine WL.nil ?_
  refine WQ.next ?_
  refine WC.cond rfl (fun (hb5 : (hasX [] id) = true) => ?_) (fun (hb5 : (hasX [] id) = false) => ?_)
  ·
    refine WC.seq ?_
    refine WC.region ?_
    refine WL.op rfl rfl (op_move rfl ?_)
    refine WL.op rfl rfl (op_fieldAddr rfl Fa.F108_1 ?_)
    refine WL.op rfl rfl (op_load rfl (H4.cell (i := 1) rfl rfl) Try.underlying29 rfl ?_)
    refine WL.op rfl rfl (op_lssU32 rfl rfl ?_)
    refine WL.op rfl rfl (op_assign rfl ?_)
    refine WL.nil ?_
    refine WQ.next ?_
    refine WC.ret ?_
    refine WQ.thenRet ?_
    refine WQ.out (.tmp rfl .nil) ?_
    exact absurd hb5 (by simp [hasX])
  ·
    refine WC.skip ?_
    refine WQ.next ?_
    refine WC.seq ?_
    refine WC.region ?_
    refine WL.op rfl rfl (op_assign rfl ?_)
    refine WL.nil ?_
    refine WQ.next ?_
    refine WC.ret ?_
    refine WQ.out (.tmp rfl .nil) ?_
    exact ⟨rfl, H4.fr⟩
end Go.Proofs.Ytbjhccnffacbcaa
/-! from WCap10 -/
namespace Go.Proofs.Ytbjhccnffacbcaa
open Go.Owl Go.Spec
set_option maxRecDepth 100000 in
theorem release_yes (c : Nat) (pg : UInt32) (hv : Value) (he : List UInt32) (mb cn : Nat) (l1 l2 : List Gr) (g : Gr) (env : Int) (T : List Nat) (w : World) (H : Own T w w [.blk c [(vU32 pg), hv, (.map (some mb))] 112, Ent.ar hv 1 he.length (List.map vU32 he), .obj mb (mP .i64 (List.map Gr.me (l1 ++ g :: l2)) cn), Ent.bs 120 Gr.cells Gr.b (l1 ++ g :: l2), Ent.dp grD.list (l1 ++ g :: l2)]) (hME : MEok (List.map Gr.me (l1 ++ g :: l2)) cn) (hge : (g.e : Int) = env) :
    Calls Try.prog 21 #[(ptr c 0), (vI env)] w (fun e w' => e = .returned (vN 0) ∧ Own T w w' [.blk c [(vU32 pg), hv, (.map (some mb))] 112, Ent.ar hv 1 he.length (List.map vU32 he), .obj mb (mP .i64 (List.map Gr.me (l1 ++ l2)) cn), Ent.bs 120 Gr.cells Gr.b (l1 ++ l2), Ent.dp grD.list (l1 ++ l2)]) := by
  refine enter (args := [(ptr c 0), (vI env)]) Try.func21 rfl rfl ?_
  refine WC.seq ?_
  refine WC.region ?_
  refine WL.op rfl rfl (op_assign rfl ?_)
  refine WL.nil ?_
  refine WQ.next ?_
  refine WC.seq ?_
  refine WC.block ?_
  refine WC.seq ?_
  refine WC.region ?_
  refine WL.op rfl rfl (op_move rfl ?_)
  refine WL.op rfl rfl (op_eqlPN Fa.PT52 rfl rfl ?_)
  refine WL.op rfl rfl (op_assign rfl ?_)
  refine WL.nil ?_
  refine WQ.next ?_
  refine WC.no rfl rfl ?_
  refine WC.seq ?_
  refine WC.region ?_
  refine WL.op rfl rfl (op_move rfl ?_)
  refine WL.op rfl rfl (op_nilCheck rfl ?_)
  refine WL.op rfl rfl (op_fieldAddr rfl Fa.F112_1 ?_)
  refine WL.op rfl rfl (op_load rfl (H.cell (i := 0) rfl rfl) Try.underlying110 rfl ?_)
  refine WL.op rfl rfl (op_move rfl ?_)
  refine WL.op rfl rfl (op_lookG_some (g := g) (H.mp (i := 2) rfl) hME (by simp) hge Try.underlying110 Try.underlying3 rfl rfl ?_)
  refine WL.op rfl rfl (op_eqlPN Fa.PT114 rfl rfl ?_)
  refine WL.op rfl rfl (op_assign rfl ?_)
  refine WL.nil ?_
  refine WQ.next ?_
  refine WC.no rfl rfl ?_
  refine WC.skip ?_
  refine WQ.inNormal ?_
  refine WQ.next ?_
  refine WC.seq ?_
  refine WC.region ?_
  refine WL.op rfl rfl (op_move rfl ?_)
  refine WL.op rfl rfl (op_nilCheck rfl ?_)
  refine WL.op rfl rfl (op_fieldAddr rfl Fa.F112_1 ?_)
  refine WL.op rfl rfl (op_load rfl (H.cell (i := 0) rfl rfl) Try.underlying110 rfl ?_)
  refine WL.op rfl rfl (op_move rfl ?_)
  have H1 : Own T w w [.blk c [(vU32 pg), hv, (.map (some mb))] 112, Ent.ar hv 1 he.length (List.map vU32 he), .obj mb (mP .i64 (List.map Gr.me l1 ++ Gr.me g :: List.map Gr.me l2) cn), Ent.bs 120 Gr.cells Gr.b (l1 ++ g :: l2), Ent.dp grD.list (l1 ++ g :: l2)] := by
    have h := H
    rw [List.map_append, List.map_cons] at h
    exact h
  refine WL.op rfl rfl (op_delP (i := 2) (l1 := (List.map Gr.me l1)) (l2 := (List.map Gr.me l2)) H1 rfl Try.underlying110 Try.underlying3 (fun x hx hk => by rw [List.map_append, List.map_cons] at hME; exact hME.left x hx (hk.trans hge.symm)) hge rfl rfl (fun w2 H2 => ?_))
  refine WL.nil ?_
  refine WQ.next ?_
  refine WC.seq ?_
  refine WC.region ?_
  refine WL.op rfl rfl (op_assign rfl ?_)
  refine WL.nil ?_
  refine WQ.next ?_
  refine WC.ret ?_
  refine WQ.out (.tmp rfl .nil) ?_
  have h := H2
  rw [← List.map_append] at h
  have h2 := h.focus (i := 3) (l1 := l1) (l2 := l2) (a := g) (f := Gr.cells) (bl := Gr.b) rfl
  have h3 := h2.dpLess (i := 4) (D := grD) (l' := l1 ++ l2) rfl (fun x hx => by rcases List.mem_append.1 hx with h9 | h9 <;> simp [h9])
  exact ⟨rfl, h3.sel [0, 1, 2, 3, 6] rfl rfl⟩
set_option maxRecDepth 100000 in
theorem release_no (c : Nat) (pg : UInt32) (hv : Value) (he : List UInt32) (mb cn : Nat) (gs : List Gr) (env : Int) (w : World) (hC : cellsAt w c [(vU32 pg), hv, (.map (some mb))]) (hH : Arr w hv 1 he.length (List.map vU32 he)) (hM : w.heap[mb]? = some (mP .i64 (List.map Gr.me gs) cn)) (hG : BsOK 120 Gr.cells Gr.b gs w) (hS : grD.list.ok w gs) (hME : MEok (List.map Gr.me gs) cn) (no : ∀ g ∈ gs, (g.e : Int) ≠ env) :
    Calls Try.prog 21 #[(ptr c 0), (vI env)] w (fun e w' => e = .returned (vN 3) ∧ Fr [] w w') := by
  refine enter (args := [(ptr c 0), (vI env)]) Try.func21 rfl rfl ?_
  have H0 : Own [] w w [Ent.bo c [(vU32 pg), hv, (.map (some mb))], Ent.ar hv 1 he.length (List.map vU32 he), Ent.mo .i64 mb (List.map Gr.me gs) cn, Ent.bsO 120 Gr.cells Gr.b gs, Ent.dp grD.list gs] := ((((((Own.start w []).oldB hC).oldA hH).mpOld hM).bsOld hG).dpOld hS)
  refine WC.seq ?_
  refine WC.region ?_
  refine WL.op rfl rfl (op_assign rfl ?_)
  refine WL.nil ?_
  refine WQ.next ?_
  refine WC.seq ?_
  refine WC.block ?_
  refine WC.seq ?_
  refine WC.region ?_
  refine WL.op rfl rfl (op_move rfl ?_)
  refine WL.op rfl rfl (op_eqlPN Fa.PT52 rfl rfl ?_)
  refine WL.op rfl rfl (op_assign rfl ?_)
  refine WL.nil ?_
  refine WQ.next ?_
  refine WC.no rfl rfl ?_
  refine WC.seq ?_
  refine WC.region ?_
  refine WL.op rfl rfl (op_move rfl ?_)
  refine WL.op rfl rfl (op_nilCheck rfl ?_)
  refine WL.op rfl rfl (op_fieldAddr rfl Fa.F112_1 ?_)
  refine WL.op rfl rfl (op_load rfl (H0.cellO (i := 0) rfl rfl) Try.underlying110 rfl ?_)
  refine WL.op rfl rfl (op_move rfl ?_)
  refine WL.op rfl rfl (op_lookG_no (H0.mpO (i := 2) rfl) no Try.underlying110 Try.underlying3 Fa.Z114 rfl rfl ?_)
  refine WL.op rfl rfl (op_eqlPN Fa.PT114 rfl rfl ?_)
  refine WL.op rfl rfl (op_assign rfl ?_)
  refine WL.nil ?_
  refine WQ.next ?_
  refine WC.yes rfl rfl ?_
  refine WC.seq ?_
  refine WC.region ?_
  refine WL.op rfl rfl (op_assign rfl ?_)
  refine WL.nil ?_
  refine WQ.next ?_
  refine WC.ret ?_
  refine WQ.inRet ?_
  refine WQ.thenRet ?_
  refine WQ.out (.tmp rfl .nil) ?_
  exact ⟨rfl, H0.fr⟩
set_option maxRecDepth 100000 in
theorem release_nil (env : Int) (w : World) :
    Calls Try.prog 21 #[(.pointer none), (vI env)] w (fun e w' => e = .returned (vN 1) ∧ Fr [] w w') := by
  refine enter (args := [(.pointer none), (vI env)]) Try.func21 rfl rfl ?_
  have H0 : Own [] w w [] := Own.start w []
  refine WC.seq ?_
  refine WC.region ?_
  refine WL.op rfl rfl (op_assign rfl ?_)
  refine WL.nil ?_
  refine WQ.next ?_
  refine WC.seq ?_
  refine WC.block ?_
  refine WC.seq ?_
  refine WC.region ?_
  refine WL.op rfl rfl (op_move rfl ?_)
  refine WL.op rfl rfl (op_eqlPN Fa.PT52 rfl rfl ?_)
  refine WL.op rfl rfl (op_assign rfl ?_)
  refine WL.nil ?_
  refine WQ.next ?_
  refine WC.yes rfl rfl ?_
  refine WC.seq ?_
  refine WC.region ?_
  refine WL.op rfl rfl (op_assign rfl ?_)
  refine WL.nil ?_
  refine WQ.next ?_
  refine WC.ret ?_
  refine WQ.inRet ?_
  refine WQ.thenRet ?_
  refine WQ.out (.tmp rfl .nil) ?_
  exact ⟨rfl, H0.fr⟩
end Go.Proofs.Ytbjhccnffacbcaa
/-! from WCap11 -/
namespace Go.Proofs.Ytbjhccnffacbcaa
open Go.Owl Go.Spec
set_option maxRecDepth 100000 in
theorem take_bad (c : Nat) (pg : UInt32) (hv : Value) (he : List UInt32) (mb cn : Nat) (gs : List Gr) (env : Int) (g : Gr) (w : World) (hC : cellsAt w c [(vU32 pg), hv, (.map (some mb))]) (hH : Arr w hv 1 he.length (List.map vU32 he)) (hM : w.heap[mb]? = some (mP .i64 (List.map Gr.me gs) cn)) (hG : BsOK 120 Gr.cells Gr.b gs w) (hS : grD.list.ok w gs) (hME : MEok (List.map Gr.me gs) cn) (hg : g ∈ gs) (hge : (g.e : Int) = env) (hw : g.tk ≥ g.pg) :
    Calls Try.prog 22 #[(ptr c 0), (vI env)] w (fun e w' => e = .returned (vN 4) ∧ Fr [] w w') := by
  refine enter (args := [(ptr c 0), (vI env)]) Try.func22 rfl rfl ?_
  have H0 : Own [] w w [Ent.bo c [(vU32 pg), hv, (.map (some mb))], Ent.ar hv 1 he.length (List.map vU32 he), Ent.mo .i64 mb (List.map Gr.me gs) cn, Ent.bsO 120 Gr.cells Gr.b gs, Ent.dp grD.list gs] := ((((((Own.start w []).oldB hC).oldA hH).mpOld hM).bsOld hG).dpOld hS)
  refine WC.seq ?_
  refine WC.region ?_
  refine WL.op rfl rfl (op_assign rfl ?_)
  refine WL.nil ?_
  refine WQ.next ?_
  refine WC.seq ?_
  refine WC.region ?_
  refine WL.op rfl rfl (op_move rfl ?_)
  refine WL.op rfl rfl (op_move rfl ?_)
  have H1 : Own [] w w [Ent.bo c [(vU32 pg), hv, (.map (some mb))], Ent.ar hv 1 he.length (List.map vU32 he), Ent.mo .i64 mb (List.map Gr.me gs) cn, Ent.bsO 120 Gr.cells Gr.b gs, Ent.dp grD.list gs, Ent.bo g.b [(vU32 g.pg), g.ev, g.pv, (.bool g.con), (vU32 g.pp), (vU32 g.tk)], Ent.ar g.ev 2 g.xs.length (List.flatMap xtc g.xs), Ent.ar g.pv 1 g.ps.length (List.map vU16 g.ps)] := (((H0.bsView (i := 3) (a := g) rfl hg).dpView (i := 4) (a := g) rfl hg (fun w h => h.1) (fun b hb => List.mem_append.2 (.inl hb))).dpView (i := 4) (a := g) rfl hg (fun w h => h.2) (fun b hb => List.mem_append.2 (.inr hb)))
  refine WL.op rfl rfl (op_callF Fa.C60 rfl ((of_some c pg hv he mb cn gs env g _ (H1.cellsAtO (i := 0) rfl) (H1.arrO (i := 1) rfl) (H1.mpO (i := 2) rfl) (H1.bsR (i := 3) rfl) (H1.dpO (i := 4) rfl) hME hg hge).mono (fun e w2 hq => ?_)))
  obtain ⟨rfl, hf2⟩ := hq
  refine ⟨_, rfl, ?_⟩
  have H2 := H1.fr' hf2
  refine WL.op rfl rfl (op_move rfl ?_)
  refine WL.op rfl rfl (op_extract rfl rfl ?_)
  refine WL.op rfl rfl (op_extract rfl rfl ?_)
  refine WL.op rfl rfl (op_assign rfl ?_)
  refine WL.op rfl rfl (op_assign rfl ?_)
  refine WL.nil ?_
  refine WQ.next ?_
  refine WC.seq ?_
  refine WC.block ?_
  refine WC.seq ?_
  refine WC.region ?_
  refine WL.op rfl rfl (op_move rfl ?_)
  refine WL.op rfl rfl (op_eqlPN Fa.PT52 rfl rfl ?_)
  refine WL.op rfl rfl (op_assign rfl ?_)
  refine WL.nil ?_
  refine WQ.next ?_
  refine WC.no rfl rfl ?_
  refine WC.seq ?_
  refine WC.region ?_
  refine WL.op rfl rfl (op_move rfl ?_)
  refine WL.op rfl rfl (op_not rfl ?_)
  refine WL.op rfl rfl (op_assign rfl ?_)
  refine WL.nil ?_
  refine WQ.next ?_
  refine WC.no rfl (congrArg Bool.not rfl) ?_
  refine WC.seq ?_
  refine WC.draw 11 Fa.M H2 (HW.op rfl (fun w1 H1 => op_move rfl ⟨rfl, Fr.refl _ _⟩) (HW.op rfl (fun w1 H1 => op_nilCheck rfl ⟨rfl, Fr.refl _ _⟩) (HW.op rfl (fun w1 H1 => op_fieldAddr rfl Fa.F120_2 ⟨rfl, Fr.refl _ _⟩) (HW.op rfl (fun w1 H1 => op_load rfl (H1.cellO (i := 5) rfl rfl) Try.underlying29 rfl ⟨rfl, Fr.refl _ _⟩) (HW.op rfl (fun w1 H1 => op_move rfl ⟨rfl, Fr.refl _ _⟩) (HW.op rfl (fun w1 H1 => op_nilCheck rfl ⟨rfl, Fr.refl _ _⟩) (HW.op rfl (fun w1 H1 => op_fieldAddr rfl Fa.F120_0 ⟨rfl, Fr.refl _ _⟩) (HW.op rfl (fun w1 H1 => op_fieldAddr rfl Fa.F59_0 ⟨rfl, Fr.refl _ _⟩) (HW.op rfl (fun w1 H1 => op_load rfl (H1.cellO (i := 5) rfl rfl) Try.underlying29 rfl ⟨rfl, Fr.refl _ _⟩) (HW.op rfl (fun w1 H1 => op_geqU32 rfl rfl ⟨rfl, Fr.refl _ _⟩) (HW.op rfl (fun w1 H1 => op_assign rfl ⟨rfl, Fr.refl _ _⟩)  HW.nil))))))))))) (by kernel_rfl) ?_
  intro β3 w3 H3
  refine WL.nil ?_
  refine WQ.next ?_
  refine WC.yes rfl (decide_eq_true hw) ?_
  refine WC.seq ?_
  refine WC.region ?_
  refine WL.op rfl rfl (op_assign rfl ?_)
  refine WL.nil ?_
  refine WQ.next ?_
  refine WC.ret ?_
  refine WQ.inRet ?_
  refine WQ.thenRet ?_
  refine WQ.out (.tmp rfl .nil) ?_
  exact ⟨rfl, H3.fr⟩
set_option maxRecDepth 100000 in
theorem take_no (c : Nat) (pg : UInt32) (hv : Value) (he : List UInt32) (mb cn : Nat) (gs : List Gr) (env : Int) (w : World) (hC : cellsAt w c [(vU32 pg), hv, (.map (some mb))]) (hH : Arr w hv 1 he.length (List.map vU32 he)) (hM : w.heap[mb]? = some (mP .i64 (List.map Gr.me gs) cn)) (hG : BsOK 120 Gr.cells Gr.b gs w) (hS : grD.list.ok w gs) (hME : MEok (List.map Gr.me gs) cn) (no : ∀ g ∈ gs, (g.e : Int) ≠ env) :
    Calls Try.prog 22 #[(ptr c 0), (vI env)] w (fun e w' => e = .returned (vN 3) ∧ Fr [] w w') := by
  refine enter (args := [(ptr c 0), (vI env)]) Try.func22 rfl rfl ?_
  have H0 : Own [] w w [Ent.bo c [(vU32 pg), hv, (.map (some mb))], Ent.ar hv 1 he.length (List.map vU32 he), Ent.mo .i64 mb (List.map Gr.me gs) cn, Ent.bsO 120 Gr.cells Gr.b gs, Ent.dp grD.list gs] := ((((((Own.start w []).oldB hC).oldA hH).mpOld hM).bsOld hG).dpOld hS)
  refine WC.seq ?_
  refine WC.region ?_
  refine WL.op rfl rfl (op_assign rfl ?_)
  refine WL.nil ?_
  refine WQ.next ?_
  refine WC.seq ?_
  refine WC.region ?_
  refine WL.op rfl rfl (op_move rfl ?_)
  refine WL.op rfl rfl (op_move rfl ?_)
  refine WL.op rfl rfl (op_callF Fa.C60 rfl ((of_no c pg hv he mb cn gs env _ (H0.cellsAtO (i := 0) rfl) (H0.arrO (i := 1) rfl) (H0.mpO (i := 2) rfl) (H0.bsR (i := 3) rfl) (H0.dpO (i := 4) rfl) hME no).mono (fun e w1 hq => ?_)))
  obtain ⟨b1, rfl, hq1⟩ := hq
  refine ⟨_, rfl, ?_⟩
  have H1 : Own [] w w1 [Ent.bo c [(vU32 pg), hv, (.map (some mb))], Ent.ar hv 1 he.length (List.map vU32 he), Ent.mo .i64 mb (List.map Gr.me gs) cn, Ent.bsO 120 Gr.cells Gr.b gs, Ent.dp grD.list gs, .blk b1 [(vU32 0), (.slice none 0 0), (.slice none 0 0), (.bool false), (vU32 0), (vU32 0)] 120] := H0.splice [] [] [.blk b1 [(vU32 0), (.slice none 0 0), (.slice none 0 0), (.bool false), (vU32 0), (vU32 0)] 120] rfl rfl hq1 (Fits.solid True.intro Fits.nil)
  refine WL.op rfl rfl (op_move rfl ?_)
  refine WL.op rfl rfl (op_extract rfl rfl ?_)
  refine WL.op rfl rfl (op_extract rfl rfl ?_)
  refine WL.op rfl rfl (op_assign rfl ?_)
  refine WL.op rfl rfl (op_assign rfl ?_)
  refine WL.nil ?_
  refine WQ.next ?_
  refine WC.seq ?_
  refine WC.block ?_
  refine WC.seq ?_
  refine WC.region ?_
  refine WL.op rfl rfl (op_move rfl ?_)
  refine WL.op rfl rfl (op_eqlPN Fa.PT52 rfl rfl ?_)
  refine WL.op rfl rfl (op_assign rfl ?_)
  refine WL.nil ?_
  refine WQ.next ?_
  refine WC.no rfl rfl ?_
  refine WC.seq ?_
  refine WC.region ?_
  refine WL.op rfl rfl (op_move rfl ?_)
  refine WL.op rfl rfl (op_not rfl ?_)
  refine WL.op rfl rfl (op_assign rfl ?_)
  refine WL.nil ?_
  refine WQ.next ?_
  refine WC.yes rfl (congrArg Bool.not rfl) ?_
  refine WC.seq ?_
  refine WC.region ?_
  refine WL.op rfl rfl (op_assign rfl ?_)
  refine WL.nil ?_
  refine WQ.next ?_
  refine WC.ret ?_
  refine WQ.inRet ?_
  refine WQ.thenRet ?_
  refine WQ.out (.tmp rfl .nil) ?_
  exact ⟨rfl, H1.fr⟩
set_option maxRecDepth 100000 in
theorem take_nil (env : Int) (w : World) :
    Calls Try.prog 22 #[(.pointer none), (vI env)] w (fun e w' => e = .returned (vN 1) ∧ Fr [] w w') := by
  refine enter (args := [(.pointer none), (vI env)]) Try.func22 rfl rfl ?_
  have H0 : Own [] w w [] := Own.start w []
  refine WC.seq ?_
  refine WC.region ?_
  refine WL.op rfl rfl (op_assign rfl ?_)
  refine WL.nil ?_
  refine WQ.next ?_
  refine WC.seq ?_
  refine WC.region ?_
  refine WL.op rfl rfl (op_move rfl ?_)
  refine WL.op rfl rfl (op_move rfl ?_)
  refine WL.op rfl rfl (op_callF Fa.C60 rfl ((of_nil env _).mono (fun e w1 hq => ?_)))
  obtain ⟨b1, rfl, hq1⟩ := hq
  refine ⟨_, rfl, ?_⟩
  have H1 : Own [] w w1 [.blk b1 [(vU32 0), (.slice none 0 0), (.slice none 0 0), (.bool false), (vU32 0), (vU32 0)] 120] := H0.splice [] [] [.blk b1 [(vU32 0), (.slice none 0 0), (.slice none 0 0), (.bool false), (vU32 0), (vU32 0)] 120] rfl rfl hq1 (Fits.solid True.intro Fits.nil)
  refine WL.op rfl rfl (op_move rfl ?_)
  refine WL.op rfl rfl (op_extract rfl rfl ?_)
  refine WL.op rfl rfl (op_extract rfl rfl ?_)
  refine WL.op rfl rfl (op_assign rfl ?_)
  refine WL.op rfl rfl (op_assign rfl ?_)
  refine WL.nil ?_
  refine WQ.next ?_
  refine WC.seq ?_
  refine WC.block ?_
  refine WC.seq ?_
  refine WC.region ?_
  refine WL.op rfl rfl (op_move rfl ?_)
  refine WL.op rfl rfl (op_eqlPN Fa.PT52 rfl rfl ?_)
  refine WL.op rfl rfl (op_assign rfl ?_)
  refine WL.nil ?_
  refine WQ.next ?_
  refine WC.yes rfl rfl ?_
  refine WC.seq ?_
  refine WC.region ?_
  refine WL.op rfl rfl (op_assign rfl ?_)
  refine WL.nil ?_
  refine WQ.next ?_
  refine WC.ret ?_
  refine WQ.inRet ?_
  refine WQ.thenRet ?_
  refine WQ.out (.tmp rfl .nil) ?_
  exact ⟨rfl, H1.fr⟩
set_option maxRecDepth 100000 in
theorem take_yes (c : Nat) (pg : UInt32) (hv : Value) (he : List UInt32) (mb cn : Nat) (l1 l2 : List Gr) (g : Gr) (env : Int) (T : List Nat) (w : World) (H : Own T w w [.blk c [(vU32 pg), hv, (.map (some mb))] 112, Ent.ar hv 1 he.length (List.map vU32 he), .obj mb (mP .i64 (List.map Gr.me (l1 ++ g :: l2)) cn), Ent.bs 120 Gr.cells Gr.b (l1 ++ g :: l2), Ent.dp grD.list (l1 ++ g :: l2)]) (hME : MEok (List.map Gr.me (l1 ++ g :: l2)) cn) (hge : (g.e : Int) = env) (hw : ¬ g.tk ≥ g.pg) :
    Calls Try.prog 22 #[(ptr c 0), (vI env)] w (fun e w' => e = .returned (vN 0) ∧ Own T w w' [.blk c [(vU32 pg), hv, (.map (some mb))] 112, Ent.ar hv 1 he.length (List.map vU32 he), .obj mb (mP .i64 (List.map Gr.me (l1 ++ ({ g with tk := g.tk + 1 } : Gr) :: l2)) cn), Ent.bs 120 Gr.cells Gr.b (l1 ++ ({ g with tk := g.tk + 1 } : Gr) :: l2), Ent.dp grD.list (l1 ++ ({ g with tk := g.tk + 1 } : Gr) :: l2)]) := by
  refine enter (args := [(ptr c 0), (vI env)]) Try.func22 rfl rfl ?_
  refine WC.seq ?_
  refine WC.region ?_
  refine WL.op rfl rfl (op_assign rfl ?_)
  refine WL.nil ?_
  refine WQ.next ?_
  refine WC.seq ?_
  refine WC.region ?_
  refine WL.op rfl rfl (op_move rfl ?_)
  refine WL.op rfl rfl (op_move rfl ?_)
  refine WL.op rfl rfl (op_callF Fa.C60 rfl ((of_some c pg hv he mb cn (l1 ++ g :: l2) env g _ (H.cellsAt (i := 0) rfl) (H.arrO (i := 1) rfl) (H.mp (i := 2) rfl) (H.bsG (i := 3) rfl) (H.dpO (i := 4) rfl) hME (by simp) hge).mono (fun e w1 hq => ?_)))
  obtain ⟨rfl, hf1⟩ := hq
  refine ⟨_, rfl, ?_⟩
  have H1 := H.fr' hf1
  have H2 : Own T w w1 [.blk c [(vU32 pg), hv, (.map (some mb))] 112, Ent.ar hv 1 he.length (List.map vU32 he), .obj mb (mP .i64 (List.map Gr.me (l1 ++ g :: l2)) cn), Ent.bs 120 Gr.cells Gr.b (l1 ++ l2), Ent.dp grD.list (l1 ++ g :: l2), .blk g.b [(vU32 g.pg), g.ev, g.pv, (.bool g.con), (vU32 g.pp), (vU32 g.tk)] 120] := H1.focus (i := 3) (l1 := l1) (l2 := l2) (a := g) (f := Gr.cells) (bl := Gr.b) rfl
  refine WL.op rfl rfl (op_move rfl ?_)
  refine WL.op rfl rfl (op_extract rfl rfl ?_)
  refine WL.op rfl rfl (op_extract rfl rfl ?_)
  refine WL.op rfl rfl (op_assign rfl ?_)
  refine WL.op rfl rfl (op_assign rfl ?_)
  refine WL.nil ?_
  refine WQ.next ?_
  refine WC.seq ?_
  refine WC.block ?_
  refine WC.seq ?_
  refine WC.region ?_
  refine WL.op rfl rfl (op_move rfl ?_)
  refine WL.op rfl rfl (op_eqlPN Fa.PT52 rfl rfl ?_)
  refine WL.op rfl rfl (op_assign rfl ?_)
  refine WL.nil ?_
  refine WQ.next ?_
  refine WC.no rfl rfl ?_
  refine WC.seq ?_
  refine WC.region ?_
  refine WL.op rfl rfl (op_move rfl ?_)
  refine WL.op rfl rfl (op_not rfl ?_)
  refine WL.op rfl rfl (op_assign rfl ?_)
  refine WL.nil ?_
  refine WQ.next ?_
  refine WC.no rfl (congrArg Bool.not rfl) ?_
  refine WC.seq ?_
  refine WC.draw 11 Fa.M H2 (HW.op rfl (fun w1 H1 => op_move rfl ⟨rfl, Fr.refl _ _⟩) (HW.op rfl (fun w1 H1 => op_nilCheck rfl ⟨rfl, Fr.refl _ _⟩) (HW.op rfl (fun w1 H1 => op_fieldAddr rfl Fa.F120_2 ⟨rfl, Fr.refl _ _⟩) (HW.op rfl (fun w1 H1 => op_load rfl (H1.cell (i := 5) rfl rfl) Try.underlying29 rfl ⟨rfl, Fr.refl _ _⟩) (HW.op rfl (fun w1 H1 => op_move rfl ⟨rfl, Fr.refl _ _⟩) (HW.op rfl (fun w1 H1 => op_nilCheck rfl ⟨rfl, Fr.refl _ _⟩) (HW.op rfl (fun w1 H1 => op_fieldAddr rfl Fa.F120_0 ⟨rfl, Fr.refl _ _⟩) (HW.op rfl (fun w1 H1 => op_fieldAddr rfl Fa.F59_0 ⟨rfl, Fr.refl _ _⟩) (HW.op rfl (fun w1 H1 => op_load rfl (H1.cell (i := 5) rfl rfl) Try.underlying29 rfl ⟨rfl, Fr.refl _ _⟩) (HW.op rfl (fun w1 H1 => op_geqU32 rfl rfl ⟨rfl, Fr.refl _ _⟩) (HW.op rfl (fun w1 H1 => op_assign rfl ⟨rfl, Fr.refl _ _⟩)  HW.nil))))))))))) (by kernel_rfl) ?_
  intro β3 w3 H3
  refine WL.nil ?_
  refine WQ.next ?_
  refine WC.no rfl (decide_eq_false hw) ?_
  refine WC.skip ?_
  refine WQ.inNormal ?_
  refine WQ.next ?_
  refine WC.seq ?_
  refine WC.region ?_
  refine WL.op rfl rfl (op_move rfl ?_)
  refine WL.op rfl rfl (op_nilCheck rfl ?_)
  refine WL.op rfl rfl (op_fieldAddr rfl Fa.F120_2 ?_)
  refine WL.op rfl rfl (op_load rfl (H3.cell (i := 5) rfl rfl) Try.underlying29 rfl ?_)
  refine WL.op rfl rfl (op_addU32 (b := 1) rfl rfl ?_)
  refine WL.op rfl rfl (op_nilCheck rfl ?_)
  refine WL.op rfl rfl (op_fieldAddr rfl Fa.F120_2 ?_)
  refine WL.op rfl rfl (op_storeB (i := 5) H3 rfl rfl rfl rfl rfl Fa.I29 (fun w4 H4 => ?_))
  refine WL.nil ?_
  refine WQ.next ?_
  refine WC.seq ?_
  refine WC.region ?_
  refine WL.op rfl rfl (op_assign rfl ?_)
  refine WL.nil ?_
  refine WQ.next ?_
  refine WC.ret ?_
  refine WQ.out (.tmp rfl .nil) ?_
  have h := H4
  rw [show List.map Gr.me (l1 ++ g :: l2) = List.map Gr.me (l1 ++ ({ g with tk := g.tk + 1 } : Gr) :: l2) from by rw [List.map_append, List.map_append]; rfl] at h
  have h2 := h.fold (i := 3) (j := 5) (f := Gr.cells) (bl := Gr.b) (a := ({ g with tk := g.tk + 1 } : Gr)) (l1 := l1) (l2 := l2) rfl rfl rfl rfl rfl
  have h3 := h2.dpSame (i := 4) (D := grD) (a := g) (a' := ({ g with tk := g.tk + 1 } : Gr)) rfl (fun w h => h) (fun b hb => hb)
  exact ⟨rfl, h3.sel [0, 1, 2, 3, 6] rfl rfl⟩
set_option maxRecDepth 100000 in
theorem give_nil (env : Int) (w : World) :
    Calls Try.prog 23 #[(.pointer none), (vI env)] w (fun e w' => e = .returned (vN 1) ∧ Fr [] w w') := by
  refine enter (args := [(.pointer none), (vI env)]) Try.func23 rfl rfl ?_
  have H0 : Own [] w w [] := Own.start w []
  refine WC.seq ?_
  refine WC.region ?_
  refine WL.op rfl rfl (op_assign rfl ?_)
  refine WL.nil ?_
  refine WQ.next ?_
  refine WC.seq ?_
  refine WC.region ?_
  refine WL.op rfl rfl (op_move rfl ?_)
  refine WL.op rfl rfl (op_move rfl ?_)
  refine WL.op rfl rfl (op_callF Fa.C60 rfl ((of_nil env _).mono (fun e w1 hq => ?_)))
  obtain ⟨b1, rfl, hq1⟩ := hq
  refine ⟨_, rfl, ?_⟩
  have H1 : Own [] w w1 [.blk b1 [(vU32 0), (.slice none 0 0), (.slice none 0 0), (.bool false), (vU32 0), (vU32 0)] 120] := H0.splice [] [] [.blk b1 [(vU32 0), (.slice none 0 0), (.slice none 0 0), (.bool false), (vU32 0), (vU32 0)] 120] rfl rfl hq1 (Fits.solid True.intro Fits.nil)
  refine WL.op rfl rfl (op_move rfl ?_)
  refine WL.op rfl rfl (op_extract rfl rfl ?_)
  refine WL.op rfl rfl (op_extract rfl rfl ?_)
  refine WL.op rfl rfl (op_assign rfl ?_)
  refine WL.op rfl rfl (op_assign rfl ?_)
  refine WL.nil ?_
  refine WQ.next ?_
  refine WC.seq ?_
  refine WC.block ?_
  refine WC.seq ?_
  refine WC.region ?_
  refine WL.op rfl rfl (op_move rfl ?_)
  refine WL.op rfl rfl (op_eqlPN Fa.PT52 rfl rfl ?_)
  refine WL.op rfl rfl (op_assign rfl ?_)
  refine WL.nil ?_
  refine WQ.next ?_
  refine WC.yes rfl rfl ?_
  refine WC.seq ?_
  refine WC.region ?_
  refine WL.op rfl rfl (op_assign rfl ?_)
  refine WL.nil ?_
  refine WQ.next ?_
  refine WC.ret ?_
  refine WQ.inRet ?_
  refine WQ.thenRet ?_
  refine WQ.out (.tmp rfl .nil) ?_
  exact ⟨rfl, H1.fr⟩
end Go.Proofs.Ytbjhccnffacbcaa
/-! from WCap12 -/
namespace Go.Proofs.Ytbjhccnffacbcaa
open Go.Owl Go.Spec
set_option maxRecDepth 100000 in
theorem free_nil  (w : World) :
    Calls Try.prog 25 #[(.pointer none)] w (fun e w' => e = .returned (vU32 0) ∧ Fr [] w w') := by
  refine enter (args := [(.pointer none)]) Try.func25 rfl rfl ?_
  have H0 : Own [] w w [] := Own.start w []
  refine WC.seq ?_
  refine WC.region ?_
  refine WL.op rfl rfl (op_assign rfl ?_)
  refine WL.nil ?_
  refine WQ.next ?_
  refine WC.seq ?_
  refine WC.seq ?_
  refine WC.region ?_
  refine WL.op rfl rfl (op_move rfl ?_)
  refine WL.op rfl rfl (op_eqlPN Fa.PT52 rfl rfl ?_)
  refine WL.nil ?_
  refine WQ.next ?_
  refine WC.yes rfl rfl ?_
  refine WC.seq ?_
  refine WC.region ?_
  refine WL.op rfl rfl (op_assign rfl ?_)
  refine WL.nil ?_
  refine WQ.next ?_
  refine WC.ret ?_
  refine WQ.thenRet ?_
  refine WQ.out (.tmp rfl .nil) ?_
  exact ⟨rfl, H0.fr⟩
set_option maxRecDepth 100000 in
theorem envs_nil  (w : World) :
    Calls Try.prog 24 #[(.pointer none)] w (fun e w' => e = .returned (.slice none 0 0) ∧ Fr [] w w') := by
  refine enter (args := [(.pointer none)]) Try.func24 rfl rfl ?_
  have H0 : Own [] w w [] := Own.start w []
  refine WC.seq ?_
  refine WC.region ?_
  refine WL.op rfl rfl (op_assign rfl ?_)
  refine WL.nil ?_
  refine WQ.next ?_
  refine WC.seq ?_
  refine WC.seq ?_
  refine WC.region ?_
  refine WL.op rfl rfl (op_move rfl ?_)
  refine WL.op rfl rfl (op_eqlPN Fa.PT52 rfl rfl ?_)
  refine WL.nil ?_
  refine WQ.next ?_
  refine WC.yes rfl rfl ?_
  refine WC.seq ?_
  refine WC.region ?_
  refine WL.op rfl rfl (op_assign rfl ?_)
  refine WL.nil ?_
  refine WQ.next ?_
  refine WC.ret ?_
  refine WQ.thenRet ?_
  refine WQ.out (.tmp rfl .nil) ?_
  exact ⟨rfl, H0.fr⟩
set_option maxRecDepth 100000 in
theorem copy_nil  (w : World) :
    Calls Try.prog 35 #[(.pointer none)] w (fun e w' => e = .returned (.pointer none) ∧ Fr [] w w') := by
  refine enter (args := [(.pointer none)]) Try.func35 rfl rfl ?_
  have H0 : Own [] w w [] := Own.start w []
  refine WC.seq ?_
  refine WC.region ?_
  refine WL.op rfl rfl (op_assign rfl ?_)
  refine WL.nil ?_
  refine WQ.next ?_
  refine WC.seq ?_
  refine WC.seq ?_
  refine WC.region ?_
  refine WL.op rfl rfl (op_move rfl ?_)
  refine WL.op rfl rfl (op_eqlPN Fa.PT52 rfl rfl ?_)
  refine WL.nil ?_
  refine WQ.next ?_
  refine WC.yes rfl rfl ?_
  refine WC.seq ?_
  refine WC.region ?_
  refine WL.op rfl rfl (op_assign rfl ?_)
  refine WL.nil ?_
  refine WQ.next ?_
  refine WC.ret ?_
  refine WQ.thenRet ?_
  refine WQ.out (.tmp rfl .nil) ?_
  exact ⟨rfl, H0.fr⟩
set_option maxRecDepth 100000 in
theorem grant_nil (env : Int) (mp : UInt32) (ev pv : Value) (xs : List Xt) (ps : List UInt16) (con : Bool) (pages : UInt32) (w : World) (hE : Arr w ev 2 xs.length (List.flatMap xtc xs)) (hP : Arr w pv 1 ps.length (List.map vU16 ps)) :
    Calls Try.prog 19 #[(.pointer none), (vI env), (.agg #[(vU32 mp), ev, pv, (.bool con)]), (vU32 pages)] w (fun e w' => e = .returned (vN 1) ∧ Fr [] w w') := by
  refine enter (args := [(.pointer none), (vI env), (.agg #[(vU32 mp), ev, pv, (.bool con)]), (vU32 pages)]) Try.func19 rfl rfl ?_
  have H0 : Own [] w w [] := Own.start w []
  refine WC.seq ?_
  refine WC.region ?_
  refine WL.op rfl rfl (op_box H0 rfl rfl (fun b1 w1 H1 => ?_))
  refine WL.op rfl rfl (op_box H1 rfl rfl (fun b2 w2 H2 => ?_))
  refine WL.op rfl rfl (op_assign rfl ?_)
  refine WL.nil ?_
  refine WQ.next ?_
  refine WC.seq ?_
  refine WC.block ?_
  refine WC.seq ?_
  refine WC.region ?_
  refine WL.op rfl rfl (op_move rfl ?_)
  refine WL.op rfl rfl (op_eqlPN Fa.PT52 rfl rfl ?_)
  refine WL.op rfl rfl (op_assign rfl ?_)
  refine WL.nil ?_
  refine WQ.next ?_
  refine WC.yes rfl rfl ?_
  refine WC.seq ?_
  refine WC.region ?_
  refine WL.op rfl rfl (op_assign rfl ?_)
  refine WL.nil ?_
  refine WQ.next ?_
  refine WC.ret ?_
  refine WQ.inRet ?_
  refine WQ.thenRet ?_
  refine WQ.out (.tmp rfl .nil) ?_
  exact ⟨rfl, H2.fr⟩
set_option maxRecDepth 100000 in
theorem manifest_nil (env : Int) (w : World) :
    Calls Try.prog 26 #[(.pointer none), (vI env)] w (fun e w' => ∃ v1 v2, e = .returned (.tuple #[.agg #[vU32 0, v1, v2, .bool false], .bool false]) ∧ Own [] w w' [.row v1 108 2 0 (List.flatMap xtc []), .row v2 50 1 0 (List.map vU16 [])]) := by
  refine enter (args := [(.pointer none), (vI env)]) Try.func26 rfl rfl ?_
  have H0 : Own [] w w [] := Own.start w []
  refine WC.seq ?_
  refine WC.region ?_
  refine WL.op rfl rfl (op_alloc H0 Fa.I59 (fun b1 w1 H1 => ?_))
  refine WL.op rfl rfl (op_assign rfl ?_)
  refine WL.nil ?_
  refine WQ.next ?_
  refine WC.seq ?_
  refine WC.region ?_
  refine WL.op rfl rfl (op_move rfl ?_)
  refine WL.op rfl rfl (op_move rfl ?_)
  refine WL.op rfl rfl (op_callF Fa.C60 rfl ((of_nil env _).mono (fun e w2 hq => ?_)))
  obtain ⟨b2, rfl, hq2⟩ := hq
  refine ⟨_, rfl, ?_⟩
  have H2 : Own [] w w2 [.blk b1 [(vU32 0), (.slice none 0 0), (.slice none 0 0), (.bool false)] 59, .blk b2 [(vU32 0), (.slice none 0 0), (.slice none 0 0), (.bool false), (vU32 0), (vU32 0)] 120] := H1.splice [] [] [.blk b2 [(vU32 0), (.slice none 0 0), (.slice none 0 0), (.bool false), (vU32 0), (vU32 0)] 120] rfl rfl hq2 (Fits.solid True.intro Fits.nil)
  refine WL.op rfl rfl (op_move rfl ?_)
  refine WL.op rfl rfl (op_extract rfl rfl ?_)
  refine WL.op rfl rfl (op_extract rfl rfl ?_)
  refine WL.op rfl rfl (op_assign rfl ?_)
  refine WL.op rfl rfl (op_assign rfl ?_)
  refine WL.nil ?_
  refine WQ.next ?_
  refine WC.seq ?_
  refine WC.region ?_
  refine WL.op rfl rfl (op_move rfl ?_)
  refine WL.op rfl rfl (op_nilCheck rfl ?_)
  refine WL.op rfl rfl (op_fieldAddr rfl Fa.F120_0 ?_)
  refine WL.op rfl rfl (op_loadS (vs := [_, _, _, _]) rfl (H2.cells (i := 1) rfl rfl) Try.underlying59 rfl Fa.I59 rfl ?_)
  refine WL.op rfl rfl (op_alloc H2 Fa.I59 (fun b3 w3 H3 => ?_))
  refine WL.op rfl rfl (op_storeBW (i := 2) H3 rfl rfl rfl rfl rfl Fa.I59 (fun w4 H4 => ?_))
  refine WL.nil ?_
  refine WQ.next ?_
  refine WC.seq ?_
  refine WC.draw 7 Fa.M H4 (HW.op rfl (fun w1 H1 => op_fieldAddr rfl Fa.F59_1 ⟨rfl, Fr.refl _ _⟩) (HW.op rfl (fun w1 H1 => op_load rfl (H1.cell (i := 2) rfl rfl) Try.underlying56 rfl ⟨rfl, Fr.refl _ _⟩) (HW.flt (mk := fun bq => bq.2) (ent := fun bq => .row bq.2 108 2 [].length (List.flatMap xtc [])) rfl (fun w1 H1 => op_callF Fa.C58 rfl ((cloneX_ok _ [] _ (Arr.nil _ _) (by simp)).mono (fun e w2 ⟨v, he, hO⟩ => ⟨_, he, (0, v), rfl, hO, True.intro⟩))) (HW.op rfl (fun w1 H1 => op_fieldAddr rfl Fa.F59_2 ⟨rfl, Fr.refl _ _⟩) (HW.op rfl (fun w1 H1 => op_load rfl (H1.cell (i := 2) rfl rfl) Try.underlying57 rfl ⟨rfl, Fr.refl _ _⟩) (HW.flt (mk := fun bq => bq.2) (ent := fun bq => .row bq.2 50 1 [].length (List.map vU16 [])) rfl (fun w1 H1 => op_callF Fa.C59 rfl ((clone16_ok _ [] _ (Arr.nil _ _) (by simp)).mono (fun e w2 ⟨v, he, hO⟩ => ⟨_, he, (0, v), rfl, hO, True.intro⟩))) (HW.op rfl (fun w1 H1 => op_fieldAddr rfl Fa.F59_1 ⟨rfl, Fr.refl _ _⟩)  HW.nil))))))) (by kernel_rfl) ?_
  intro β7 w7 H7
  refine WL.op rfl rfl (op_storeB (i := 2) H7 rfl rfl rfl rfl (Arr.one (H7.arrR (i := 3) rfl)) Fa.I56 (fun w8 H8 => ?_))
  refine WL.op rfl rfl (op_fieldAddr rfl Fa.F59_2 ?_)
  refine WL.op rfl rfl (op_storeB (i := 2) H8 rfl rfl rfl rfl (Arr.one (H8.arrR (i := 4) rfl)) Fa.I57 (fun w9 H9 => ?_))
  refine WL.nil ?_
  refine WQ.next ?_
  refine WC.seq ?_
  refine WC.region ?_
  refine WL.op rfl rfl (op_loadS (vs := [_, _, _, _]) rfl (H9.cells (i := 2) rfl rfl) Try.underlying59 rfl Fa.I59 rfl ?_)
  refine WL.op rfl rfl (op_move rfl ?_)
  refine WL.op rfl rfl (op_storeBW (i := 0) H9 rfl rfl rfl rfl (one_cons rfl (one_cons (Arr.one (H9.arrR (i := 3) rfl)) (one_cons (Arr.one (H9.arrR (i := 4) rfl)) (one_cons rfl one_nil)))) Fa.I59 (fun w10 H10 => ?_))
  refine WL.op rfl rfl (op_assign rfl ?_)
  refine WL.nil ?_
  refine WQ.next ?_
  refine WC.ret ?_
  refine WQ.out (.cell rfl (run_loadVarS (vs := [_, _, _, _]) (H10.cells (i := 0) rfl rfl) Try.underlying59 rfl Fa.I59 rfl) (.tmp rfl .nil)) ?_
  exact ⟨_, _, rfl, H10.sel [3, 4] rfl rfl⟩
end Go.Proofs.Ytbjhccnffacbcaa
/-! from WCap13 -/
namespace Go.Proofs.Ytbjhccnffacbcaa
open Go.Owl Go.Spec
set_option maxRecDepth 100000 in
theorem grant_bad1 (c : Nat) (pg : UInt32) (hv : Value) (he : List UInt32) (mb cn : Nat) (gs : List Gr) (env : Int) (mp : UInt32) (ev pv : Value) (xs : List Xt) (ps : List UInt16) (con : Bool) (pages : UInt32) (w : World) (hC : cellsAt w c [(vU32 pg), hv, (.map (some mb))]) (hH : Arr w hv 1 he.length (List.map vU32 he)) (hM : w.heap[mb]? = some (mP .i64 (List.map Gr.me gs) cn)) (hG : BsOK 120 Gr.cells Gr.b gs w) (hS : grD.list.ok w gs) (hE : Arr w ev 2 xs.length (List.flatMap xtc xs)) (hP : Arr w pv 1 ps.length (List.map vU16 ps)) (hn : xs.length < 2 ^ 40) (hm : ps.length < 2 ^ 40) (hb : env < 1 ∨ env > 8) :
    Calls Try.prog 19 #[(ptr c 0), (vI env), (.agg #[(vU32 mp), ev, pv, (.bool con)]), (vU32 pages)] w (fun e w' => e = .returned (vN 2) ∧ Fr [] w w') := by
  refine enter (args := [(ptr c 0), (vI env), (.agg #[(vU32 mp), ev, pv, (.bool con)]), (vU32 pages)]) Try.func19 rfl rfl ?_
  have H0 : Own [] w w [Ent.bo c [(vU32 pg), hv, (.map (some mb))], Ent.ar hv 1 he.length (List.map vU32 he), Ent.mo .i64 mb (List.map Gr.me gs) cn, Ent.bsO 120 Gr.cells Gr.b gs, Ent.dp grD.list gs] := ((((((Own.start w []).oldB hC).oldA hH).mpOld hM).bsOld hG).dpOld hS)
  refine WC.seq ?_
  refine WC.region ?_
  refine WL.op rfl rfl (op_box H0 rfl rfl (fun b1 w1 H1 => ?_))
  refine WL.op rfl rfl (op_box H1 rfl rfl (fun b2 w2 H2 => ?_))
  refine WL.op rfl rfl (op_assign rfl ?_)
  refine WL.nil ?_
  refine WQ.next ?_
  refine WC.seq ?_
  refine WC.block ?_
  refine WC.seq ?_
  refine WC.region ?_
  refine WL.op rfl rfl (op_move rfl ?_)
  refine WL.op rfl rfl (op_eqlPN Fa.PT52 rfl rfl ?_)
  refine WL.op rfl rfl (op_assign rfl ?_)
  refine WL.nil ?_
  refine WQ.next ?_
  refine WC.no rfl rfl ?_
  refine WC.seq ?_
  refine WC.region ?_
  refine WL.op rfl rfl (op_move rfl ?_)
  refine WL.op rfl rfl (op_lssI (b := (1 : Int)) rfl rfl ?_)
  refine WL.op rfl rfl (op_move rfl ?_)
  refine WL.split (t := 17) rfl (fun (hb3 : (decide (env < (1 : Int))) = true) => ?_) (fun (hb3 : (decide (env < (1 : Int))) = false) => ?_)
  ·
    have hc3 := of_decide_eq_true hb3
    refine WL.no rfl rfl rfl hb3 rfl ?_
    refine WL.no rfl rfl rfl hb3 rfl ?_
    refine WL.op rfl rfl (op_pickT rfl hb3 rfl ?_)
    refine WL.op rfl rfl (op_move rfl ?_)
    refine WL.no rfl rfl rfl rfl rfl ?_
    refine WL.no rfl rfl rfl rfl rfl ?_
    refine WL.no rfl rfl rfl rfl rfl ?_
    refine WL.op rfl rfl (op_pickT rfl rfl rfl ?_)
    refine WL.op rfl rfl (op_move rfl ?_)
    refine WL.no rfl rfl rfl rfl rfl ?_
    refine WL.no rfl rfl rfl rfl rfl ?_
    refine WL.op rfl rfl (op_pickT rfl rfl rfl ?_)
    refine WL.op rfl rfl (op_assign rfl ?_)
    refine WL.nil ?_
    refine WQ.next ?_
    refine WC.yes rfl rfl ?_
    refine WC.seq ?_
    refine WC.region ?_
    refine WL.op rfl rfl (op_assign rfl ?_)
    refine WL.nil ?_
    refine WQ.next ?_
    refine WC.ret ?_
    refine WQ.inRet ?_
    refine WQ.thenRet ?_
    refine WQ.out (.tmp rfl .nil) ?_
    exact ⟨rfl, H2.fr⟩
  ·
    have hc3 := of_decide_eq_false hb3
    refine WL.yes rfl rfl rfl hb3 rfl (op_move rfl ?_)
    refine WL.yes rfl rfl rfl hb3 rfl (op_gtrI (b := (8 : Int)) rfl rfl ?_)
    refine WL.op rfl rfl (op_pickF rfl hb3 rfl ?_)
    refine WL.op rfl rfl (op_move rfl ?_)
    refine WL.no rfl rfl rfl (decide_eq_true (by omega)) rfl ?_
    refine WL.no rfl rfl rfl (decide_eq_true (by omega)) rfl ?_
    refine WL.no rfl rfl rfl (decide_eq_true (by omega)) rfl ?_
    refine WL.op rfl rfl (op_pickT rfl (decide_eq_true (by omega)) rfl ?_)
    refine WL.op rfl rfl (op_move rfl ?_)
    refine WL.no rfl rfl rfl rfl rfl ?_
    refine WL.no rfl rfl rfl rfl rfl ?_
    refine WL.op rfl rfl (op_pickT rfl rfl rfl ?_)
    refine WL.op rfl rfl (op_assign rfl ?_)
    refine WL.nil ?_
    refine WQ.next ?_
    refine WC.yes rfl rfl ?_
    refine WC.seq ?_
    refine WC.region ?_
    refine WL.op rfl rfl (op_assign rfl ?_)
    refine WL.nil ?_
    refine WQ.next ?_
    refine WC.ret ?_
    refine WQ.inRet ?_
    refine WQ.thenRet ?_
    refine WQ.out (.tmp rfl .nil) ?_
    exact ⟨rfl, H2.fr⟩
set_option maxRecDepth 100000 in
theorem grant_bad2 (c : Nat) (pg : UInt32) (hv : Value) (he : List UInt32) (mb cn : Nat) (gs : List Gr) (env : Int) (mp : UInt32) (ev pv : Value) (xs : List Xt) (ps : List UInt16) (con : Bool) (pages : UInt32) (w : World) (hC : cellsAt w c [(vU32 pg), hv, (.map (some mb))]) (hH : Arr w hv 1 he.length (List.map vU32 he)) (hM : w.heap[mb]? = some (mP .i64 (List.map Gr.me gs) cn)) (hG : BsOK 120 Gr.cells Gr.b gs w) (hS : grD.list.ok w gs) (hE : Arr w ev 2 xs.length (List.flatMap xtc xs)) (hP : Arr w pv 1 ps.length (List.map vU16 ps)) (hn : xs.length < 2 ^ 40) (hm : ps.length < 2 ^ 40) (h1 : 1 ≤ env) (h8 : env ≤ 8) (hmf : mfE mp xs ps ≠ 0) :
    Calls Try.prog 19 #[(ptr c 0), (vI env), (.agg #[(vU32 mp), ev, pv, (.bool con)]), (vU32 pages)] w (fun e w' => e = .returned (vN 2) ∧ Fr [] w w') := by
  refine enter (args := [(ptr c 0), (vI env), (.agg #[(vU32 mp), ev, pv, (.bool con)]), (vU32 pages)]) Try.func19 rfl rfl ?_
  have H0 : Own [] w w [Ent.bo c [(vU32 pg), hv, (.map (some mb))], Ent.ar hv 1 he.length (List.map vU32 he), Ent.mo .i64 mb (List.map Gr.me gs) cn, Ent.bsO 120 Gr.cells Gr.b gs, Ent.dp grD.list gs] := ((((((Own.start w []).oldB hC).oldA hH).mpOld hM).bsOld hG).dpOld hS)
  refine WC.seq ?_
  refine WC.region ?_
  refine WL.op rfl rfl (op_box H0 rfl rfl (fun b1 w1 H1 => ?_))
  refine WL.op rfl rfl (op_box H1 rfl rfl (fun b2 w2 H2 => ?_))
  refine WL.op rfl rfl (op_assign rfl ?_)
  refine WL.nil ?_
  refine WQ.next ?_
  refine WC.seq ?_
  refine WC.block ?_
  refine WC.seq ?_
  refine WC.region ?_
  refine WL.op rfl rfl (op_move rfl ?_)
  refine WL.op rfl rfl (op_eqlPN Fa.PT52 rfl rfl ?_)
  refine WL.op rfl rfl (op_assign rfl ?_)
  refine WL.nil ?_
  refine WQ.next ?_
  refine WC.no rfl rfl ?_
  refine WC.seq ?_
  refine WC.region ?_
  refine WL.op rfl rfl (op_move rfl ?_)
  refine WL.op rfl rfl (op_lssI (b := (1 : Int)) rfl rfl ?_)
  refine WL.op rfl rfl (op_move rfl ?_)
  refine WL.yes rfl rfl rfl (decide_eq_false (by omega)) rfl (op_move rfl ?_)
  refine WL.yes rfl rfl rfl (decide_eq_false (by omega)) rfl (op_gtrI (b := (8 : Int)) rfl rfl ?_)
  refine WL.op rfl rfl (op_pickF rfl (decide_eq_false (by omega)) rfl ?_)
  refine WL.op rfl rfl (op_move rfl ?_)
  refine WL.yes rfl rfl rfl (decide_eq_false (by omega)) rfl (op_loadS (vs := [_, _, _, _]) rfl (H2.cells (i := 5) rfl rfl) Try.underlying59 rfl Fa.I59 rfl ?_)
  refine WL.yes rfl rfl rfl (decide_eq_false (by omega)) rfl (op_callF Fa.C55 rfl ((dcheck_ok mp _ _ xs ps con _ (H2.arr hE) (H2.arr hP) (by omega) (by omega)).mono (fun e w3 hq => ?_)))
  obtain ⟨rfl, hf3⟩ := hq
  refine ⟨_, rfl, ?_⟩
  have H3 := H2.fr' hf3
  refine WL.yes rfl rfl rfl (decide_eq_false (by omega)) rfl (op_neqN (b := 0) rfl rfl ?_)
  refine WL.op rfl rfl (op_pickF rfl (decide_eq_false (by omega)) rfl ?_)
  refine WL.op rfl rfl (op_move rfl ?_)
  refine WL.no rfl rfl rfl (decide_eq_true hmf) rfl ?_
  refine WL.no rfl rfl rfl (decide_eq_true hmf) rfl ?_
  refine WL.op rfl rfl (op_pickT rfl (decide_eq_true hmf) rfl ?_)
  refine WL.op rfl rfl (op_assign rfl ?_)
  refine WL.nil ?_
  refine WQ.next ?_
  refine WC.yes rfl rfl ?_
  refine WC.seq ?_
  refine WC.region ?_
  refine WL.op rfl rfl (op_assign rfl ?_)
  refine WL.nil ?_
  refine WQ.next ?_
  refine WC.ret ?_
  refine WQ.inRet ?_
  refine WQ.thenRet ?_
  refine WQ.out (.tmp rfl .nil) ?_
  exact ⟨rfl, H3.fr⟩
set_option maxRecDepth 100000 in
theorem grant_bad3 (c : Nat) (pg : UInt32) (hv : Value) (he : List UInt32) (mb cn : Nat) (gs : List Gr) (env : Int) (mp : UInt32) (ev pv : Value) (xs : List Xt) (ps : List UInt16) (con : Bool) (pages : UInt32) (w : World) (hC : cellsAt w c [(vU32 pg), hv, (.map (some mb))]) (hH : Arr w hv 1 he.length (List.map vU32 he)) (hM : w.heap[mb]? = some (mP .i64 (List.map Gr.me gs) cn)) (hG : BsOK 120 Gr.cells Gr.b gs w) (hS : grD.list.ok w gs) (hE : Arr w ev 2 xs.length (List.flatMap xtc xs)) (hP : Arr w pv 1 ps.length (List.map vU16 ps)) (hn : xs.length < 2 ^ 40) (hm : ps.length < 2 ^ 40) (h1 : 1 ≤ env) (h8 : env ≤ 8) (hmf : mfE mp xs ps = 0) (hpg : pages > 4096) :
    Calls Try.prog 19 #[(ptr c 0), (vI env), (.agg #[(vU32 mp), ev, pv, (.bool con)]), (vU32 pages)] w (fun e w' => e = .returned (vN 2) ∧ Fr [] w w') := by
  refine enter (args := [(ptr c 0), (vI env), (.agg #[(vU32 mp), ev, pv, (.bool con)]), (vU32 pages)]) Try.func19 rfl rfl ?_
  have H0 : Own [] w w [Ent.bo c [(vU32 pg), hv, (.map (some mb))], Ent.ar hv 1 he.length (List.map vU32 he), Ent.mo .i64 mb (List.map Gr.me gs) cn, Ent.bsO 120 Gr.cells Gr.b gs, Ent.dp grD.list gs] := ((((((Own.start w []).oldB hC).oldA hH).mpOld hM).bsOld hG).dpOld hS)
  refine WC.seq ?_
  refine WC.region ?_
  refine WL.op rfl rfl (op_box H0 rfl rfl (fun b1 w1 H1 => ?_))
  refine WL.op rfl rfl (op_box H1 rfl rfl (fun b2 w2 H2 => ?_))
  refine WL.op rfl rfl (op_assign rfl ?_)
  refine WL.nil ?_
  refine WQ.next ?_
  refine WC.seq ?_
  refine WC.block ?_
  refine WC.seq ?_
  refine WC.region ?_
  refine WL.op rfl rfl (op_move rfl ?_)
  refine WL.op rfl rfl (op_eqlPN Fa.PT52 rfl rfl ?_)
  refine WL.op rfl rfl (op_assign rfl ?_)
  refine WL.nil ?_
  refine WQ.next ?_
  refine WC.no rfl rfl ?_
  refine WC.seq ?_
  refine WC.region ?_
  refine WL.op rfl rfl (op_move rfl ?_)
  refine WL.op rfl rfl (op_lssI (b := (1 : Int)) rfl rfl ?_)
  refine WL.op rfl rfl (op_move rfl ?_)
  refine WL.yes rfl rfl rfl (decide_eq_false (by omega)) rfl (op_move rfl ?_)
  refine WL.yes rfl rfl rfl (decide_eq_false (by omega)) rfl (op_gtrI (b := (8 : Int)) rfl rfl ?_)
  refine WL.op rfl rfl (op_pickF rfl (decide_eq_false (by omega)) rfl ?_)
  refine WL.op rfl rfl (op_move rfl ?_)
  refine WL.yes rfl rfl rfl (decide_eq_false (by omega)) rfl (op_loadS (vs := [_, _, _, _]) rfl (H2.cells (i := 5) rfl rfl) Try.underlying59 rfl Fa.I59 rfl ?_)
  refine WL.yes rfl rfl rfl (decide_eq_false (by omega)) rfl (op_callF Fa.C55 rfl ((dcheck_ok mp _ _ xs ps con _ (H2.arr hE) (H2.arr hP) (by omega) (by omega)).mono (fun e w3 hq => ?_)))
  obtain ⟨rfl, hf3⟩ := hq
  refine ⟨_, rfl, ?_⟩
  have H3 := H2.fr' hf3
  refine WL.yes rfl rfl rfl (decide_eq_false (by omega)) rfl (op_neqN (b := 0) rfl rfl ?_)
  refine WL.op rfl rfl (op_pickF rfl (decide_eq_false (by omega)) rfl ?_)
  refine WL.op rfl rfl (op_move rfl ?_)
  refine WL.yes rfl rfl rfl (decide_eq_false (fun h => h hmf)) rfl (op_load rfl (H3.cell (i := 6) rfl rfl) Try.underlying29 rfl ?_)
  refine WL.yes rfl rfl rfl (decide_eq_false (fun h => h hmf)) rfl (op_gtrU32 (b := 4096) rfl rfl ?_)
  refine WL.op rfl rfl (op_pickF rfl (decide_eq_false (fun h => h hmf)) rfl ?_)
  refine WL.op rfl rfl (op_assign rfl ?_)
  refine WL.nil ?_
  refine WQ.next ?_
  refine WC.yes rfl (decide_eq_true hpg) ?_
  refine WC.seq ?_
  refine WC.region ?_
  refine WL.op rfl rfl (op_assign rfl ?_)
  refine WL.nil ?_
  refine WQ.next ?_
  refine WC.ret ?_
  refine WQ.inRet ?_
  refine WQ.thenRet ?_
  refine WQ.out (.tmp rfl .nil) ?_
  exact ⟨rfl, H3.fr⟩
end Go.Proofs.Ytbjhccnffacbcaa
/-! from WCap14 -/
namespace Go.Proofs.Ytbjhccnffacbcaa
open Go.Owl Go.Spec
theorem capsNew2_ok (pg : UInt32) (lv : Value) (he : List UInt32) (w : World) (hA : Arr w lv 1 he.length (List.map vU32 he)) (hn : he.length < 2 ^ 40) (hok0 : hardE pg he = 0) :
    Calls Try.prog 18 #[.agg #[vU32 pg, lv]] w (fun e w' => ∃ c v mb, e = .returned (.tuple #[ptr c 0, vN 0]) ∧ (∀ b ∈ footA v (List.map vU32 he), w.heap.size ≤ b) ∧ Own [] w w' [.blk c [(vU32 pg), v, (.map (some mb))] 112, Ent.ar v 1 he.length (List.map vU32 he), .obj mb (mP .i64 (List.map Gr.me []) 0), Ent.bs 120 Gr.cells Gr.b [], Ent.dp grD.list []]) :=
  (capsNew_ok pg lv he w hA hn hok0).mono (fun e w' ⟨c, v, mb, h1, h⟩ => ⟨c, v, mb, h1, h.rowFresh (i := 1) rfl, ((h.freeze (i := 1) rfl).bsNil 120 Gr.cells Gr.b).dpNil grD⟩)
end Go.Proofs.Ytbjhccnffacbcaa
/-! from WCap15 -/
namespace Go.Proofs.Ytbjhccnffacbcaa
open Go.Owl Go.Spec
theorem capG_ok (c : Nat) (pg : UInt32) (hv : Value) (he : List UInt32) (mb cn : Nat) (gs : List Gr) (en : Int) (mp : UInt32) (ev pv : Value) (xs : List Xt) (ps : List UInt16) (con : Bool) (pages : UInt32) (l : List Gr) (T : List Nat) (w : World) (H : Own T w w [.blk c [(vU32 pg), hv, (.map (some mb))] 112, Ent.ar hv 1 he.length (List.map vU32 he), .obj mb (mP .i64 (List.map Gr.me gs) cn), Ent.bs 120 Gr.cells Gr.b gs, Ent.dp grD.list gs, Ent.ar ev 2 xs.length (List.flatMap xtc xs), Ent.ar pv 1 ps.length (List.map vU16 ps)]) (hR : CapR gs cn l) (hT : ∀ b ∈ T, b = c ∨ b = mb ∨ b ∈ List.map Gr.b gs) (hn : xs.length < 2 ^ 40) (hm : ps.length < 2 ^ 40) (hhe : he.length < 2 ^ 32) :
    Calls Try.prog 19 #[ptr c 0, vI en, .agg #[vU32 mp, ev, pv, .bool con], vU32 pages] w (fun e w' => ∃ cn' gs', e = .returned (vN (grantE pg he l en mp xs ps pages)) ∧ (CapR gs' cn' (grantG pg he l en mp xs ps con pages) ∧ DpTo w gs gs') ∧ Own T w w' [.blk c [(vU32 pg), hv, (.map (some mb))] 112, Ent.ar hv 1 he.length (List.map vU32 he), .obj mb (mP .i64 (List.map Gr.me gs') cn'), Ent.bs 120 Gr.cells Gr.b gs', Ent.dp grD.list gs', Ent.ar ev 2 xs.length (List.flatMap xtc xs), Ent.ar pv 1 ps.length (List.map vU16 ps)]) := by
  obtain ⟨hI, rfl⟩ := hR
  rw [grantE_bare]
  have no : ∀ n, n ≠ 0 → grantE pg he gs en mp xs ps pages = n → CapR gs cn (grantG pg he (gs.map Gr.bare) en mp xs ps con pages) := fun n h0 h => ⟨hI, by rw [grantG, grantE_bare, h, if_neg h0]⟩
  by_cases h1 : en < 1 ∨ en > 8
  · have e0 : grantE pg he gs en mp xs ps pages = 2 := if_pos (.inl h1)
    exact (grant_bad1 c pg hv he mb cn gs en mp ev pv xs ps con pages w (H.cellsAt (i := 0) rfl) (H.arrO (i := 1) rfl) (H.mp (i := 2) rfl) (H.bsG (i := 3) rfl) (H.dpO (i := 4) rfl) (H.arrO (i := 5) rfl) (H.arrO (i := 6) rfl) hn hm h1).mono (fun e w' ⟨he1, hf⟩ => ⟨cn, gs, by rw [e0]; exact he1, ⟨no 2 (by decide) e0, DpTo.sub (fun _ h => h)⟩, H.fr' hf⟩)
  by_cases h2 : mfE mp xs ps ≠ 0
  · have e0 : grantE pg he gs en mp xs ps pages = 2 := if_pos (.inr (.inl h2))
    exact (grant_bad2 c pg hv he mb cn gs en mp ev pv xs ps con pages w (H.cellsAt (i := 0) rfl) (H.arrO (i := 1) rfl) (H.mp (i := 2) rfl) (H.bsG (i := 3) rfl) (H.dpO (i := 4) rfl) (H.arrO (i := 5) rfl) (H.arrO (i := 6) rfl) hn hm (by omega) (by omega) h2).mono (fun e w' ⟨he1, hf⟩ => ⟨cn, gs, by rw [e0]; exact he1, ⟨no 2 (by decide) e0, DpTo.sub (fun _ h => h)⟩, H.fr' hf⟩)
  by_cases h3 : pages > 4096
  · have e0 : grantE pg he gs en mp xs ps pages = 2 := if_pos (.inr (.inr h3))
    exact (grant_bad3 c pg hv he mb cn gs en mp ev pv xs ps con pages w (H.cellsAt (i := 0) rfl) (H.arrO (i := 1) rfl) (H.mp (i := 2) rfl) (H.bsG (i := 3) rfl) (H.dpO (i := 4) rfl) (H.arrO (i := 5) rfl) (H.arrO (i := 6) rfl) hn hm (by omega) (by omega) (Classical.not_not.1 h2) h3).mono (fun e w' ⟨he1, hf⟩ => ⟨cn, gs, by rw [e0]; exact he1, ⟨no 2 (by decide) e0, DpTo.sub (fun _ h => h)⟩, H.fr' hf⟩)
  have e1 : grantE pg he gs en mp xs ps pages = if hasE gs en = true then 9 else whyE pg he gs mp xs ps pages := if_neg (fun h => h.elim h1 (fun h => h.elim h2 h3))
  obtain ⟨n, rfl⟩ : ∃ n : Nat, en = n := ⟨en.toNat, by omega⟩
  cases h4 : hasE gs n with
  | true =>
    obtain ⟨hg, hge⟩ := obs_yes h4
    have e0 := e1.trans (if_pos h4)
    exact (grant_have c pg hv he mb cn gs n mp ev pv xs ps con pages (obs gs n) T w H hI.me (by omega) (by omega) hn hm hhe hI.fit (Classical.not_not.1 h2) h3 hg hge).mono (fun e w' ⟨he1, h⟩ => ⟨cn, gs, by rw [e0]; exact he1, ⟨no 9 (by decide) e0, DpTo.sub (fun _ h => h)⟩, h⟩)
  | false =>
    have e0 := e1.trans (if_neg (by rw [h4]; decide))
    by_cases h5 : whyE pg he gs mp xs ps pages = 0
    · rw [h5] at e0
      exact (grant_yes c pg hv he mb cn gs n mp ev pv xs ps con pages T w H hI.me (by omega) (by omega) hn hm hhe hI.fit (Classical.not_not.1 h2) h3 (hasE_no h4) h5 hT).mono (fun e w' ⟨b, v1, v2, he1, hz, h⟩ => ⟨cn + 1, _, by rw [e0]; exact he1, ⟨⟨hI.add (fun g hg he => hasE_no h4 g hg (by rw [he])) hn hm, by rw [grantG, grantE_bare, e0, if_pos rfl, List.map_append]; rfl⟩, DpTo.add hz⟩, h⟩)
    · exact (grant_no c pg hv he mb cn gs n mp ev pv xs ps con pages T w H hI.me (by omega) (by omega) hn hm hhe hI.fit (Classical.not_not.1 h2) h3 (hasE_no h4) h5).mono (fun e w' ⟨he1, h⟩ => ⟨cn, gs, by rw [e0]; exact he1, ⟨no _ h5 e0, DpTo.sub (fun _ h => h)⟩, h⟩)
theorem capR_ok (c : Nat) (pg : UInt32) (hv : Value) (he : List UInt32) (mb cn : Nat) (gs : List Gr) (en : Int) (l : List Gr) (T : List Nat) (w : World) (H : Own T w w [.blk c [(vU32 pg), hv, (.map (some mb))] 112, Ent.ar hv 1 he.length (List.map vU32 he), .obj mb (mP .i64 (List.map Gr.me gs) cn), Ent.bs 120 Gr.cells Gr.b gs, Ent.dp grD.list gs]) (hR : CapR gs cn l) :
    Calls Try.prog 21 #[ptr c 0, vI en] w (fun e w' => ∃ gs', e = .returned (vN (relE l en)) ∧ (CapR gs' cn (relG l en) ∧ DpTo w gs gs') ∧ Own T w w' [.blk c [(vU32 pg), hv, (.map (some mb))] 112, Ent.ar hv 1 he.length (List.map vU32 he), .obj mb (mP .i64 (List.map Gr.me gs') cn), Ent.bs 120 Gr.cells Gr.b gs', Ent.dp grD.list gs']) := by
  obtain ⟨hI, rfl⟩ := hR
  have e0 : relE (gs.map Gr.bare) en = relE gs en := by rw [relE, relE, hasE_bare]
  rw [e0]
  cases h : hasE gs en with
  | false => exact (release_no c pg hv he mb cn gs en w (H.cellsAt (i := 0) rfl) (H.arrO (i := 1) rfl) (H.mp (i := 2) rfl) (H.bsG (i := 3) rfl) (H.dpO (i := 4) rfl) hI.me (hasE_no h)).mono (fun e w' ⟨he1, hf⟩ => ⟨gs, by rw [relE, h]; exact he1, ⟨⟨hI, by rw [relG_bare, relG_no h]⟩, DpTo.sub (fun _ h => h)⟩, H.fr' hf⟩)
  | true =>
    obtain ⟨hg, hge⟩ := obs_yes h
    generalize obs gs en = g at hg hge
    obtain ⟨l1, l2, rfl⟩ := List.append_of_mem hg
    exact (release_yes c pg hv he mb cn l1 l2 g en T w H hI.me hge).mono (fun e w' ⟨he1, h2⟩ => ⟨l1 ++ l2, by rw [relE, h]; exact he1, ⟨⟨hI.del, by rw [relG_bare, hI.rel hge]⟩, DpTo.sub (fun x hx => by rcases List.mem_append.1 hx with hx | hx <;> simp [hx])⟩, h2⟩)
theorem capT_ok (c : Nat) (pg : UInt32) (hv : Value) (he : List UInt32) (mb cn : Nat) (gs : List Gr) (en : Int) (l : List Gr) (T : List Nat) (w : World) (H : Own T w w [.blk c [(vU32 pg), hv, (.map (some mb))] 112, Ent.ar hv 1 he.length (List.map vU32 he), .obj mb (mP .i64 (List.map Gr.me gs) cn), Ent.bs 120 Gr.cells Gr.b gs, Ent.dp grD.list gs]) (hR : CapR gs cn l) :
    Calls Try.prog 22 #[ptr c 0, vI en] w (fun e w' => ∃ gs', e = .returned (vN (takeE l en)) ∧ (CapR gs' cn (takeG l en) ∧ DpTo w gs gs') ∧ Own T w w' [.blk c [(vU32 pg), hv, (.map (some mb))] 112, Ent.ar hv 1 he.length (List.map vU32 he), .obj mb (mP .i64 (List.map Gr.me gs') cn), Ent.bs 120 Gr.cells Gr.b gs', Ent.dp grD.list gs']) := by
  obtain ⟨hI, rfl⟩ := hR
  rw [takeE_bare]
  cases h : hasE gs en with
  | false =>
    have e0 : takeE gs en = 3 := if_neg (by rw [h]; decide)
    exact (take_no c pg hv he mb cn gs en w (H.cellsAt (i := 0) rfl) (H.arrO (i := 1) rfl) (H.mp (i := 2) rfl) (H.bsG (i := 3) rfl) (H.dpO (i := 4) rfl) hI.me (hasE_no h)).mono (fun e w' ⟨he1, hf⟩ => ⟨gs, by rw [e0]; exact he1, ⟨⟨hI, by rw [takeG_bare, takeG, e0, if_neg (by decide)]⟩, DpTo.sub (fun _ h => h)⟩, H.fr' hf⟩)
  | true =>
    obtain ⟨hg, hge⟩ := obs_yes h
    have e1 : takeE gs en = if (obs gs en).tk ≥ (obs gs en).pg then 4 else 0 := if_pos h
    generalize obs gs en = g at hg hge e1
    obtain ⟨l1, l2, rfl⟩ := List.append_of_mem hg
    by_cases hw : g.tk ≥ g.pg
    · have e0 := e1.trans (if_pos hw)
      exact (take_bad c pg hv he mb cn (l1 ++ g :: l2) en g w (H.cellsAt (i := 0) rfl) (H.arrO (i := 1) rfl) (H.mp (i := 2) rfl) (H.bsG (i := 3) rfl) (H.dpO (i := 4) rfl) hI.me (by simp) hge hw).mono (fun e w' ⟨he1, hf⟩ => ⟨_, by rw [e0]; exact he1, ⟨⟨hI, by rw [takeG_bare, takeG, e0, if_neg (by decide)]⟩, DpTo.sub (fun _ h => h)⟩, H.fr' hf⟩)
    · have e0 := e1.trans (if_neg hw)
      exact (take_yes c pg hv he mb cn l1 l2 g en T w H hI.me hge hw).mono (fun e w' ⟨he1, h2⟩ => ⟨l1 ++ { g with tk := g.tk + 1 } :: l2, by rw [e0]; exact he1, ⟨⟨hI.put rfl rfl rfl, by rw [takeG_bare, takeG, e0, if_pos rfl, hI.updG hge]⟩, DpTo.put rfl⟩, h2⟩)
theorem left_ok (c : Nat) (pg : UInt32) (hv : Value) (he : List UInt32) (mb cn : Nat) (gs : List Gr) (env : Int) (l : List Gr) (w : World) (hC : cellsAt w c [(vU32 pg), hv, (.map (some mb))]) (hH : Arr w hv 1 he.length (List.map vU32 he)) (hM : w.heap[mb]? = some (mP .i64 (List.map Gr.me gs) cn)) (hG : BsOK 120 Gr.cells Gr.b gs w) (hS : grD.list.ok w gs) (hR : CapR gs cn l) :
    Calls Try.prog 27 #[ptr c 0, vI env] w (fun e w' => e = .returned (vU32 ((obs l env).pg - (obs l env).tk)) ∧ Fr [] w w') := by
  rw [hR.obs]
  cases h : hasE gs env with
  | false => rw [obs_no h]; exact left_no c pg hv he mb cn gs env w hC hH hM hG hS hR.1.me (hasE_no h)
  | true =>
    obtain ⟨hg, hge⟩ := obs_yes h
    exact left_some c pg hv he mb cn gs env (obs gs env) w hC hH hM hG hS hR.1.me hg hge (hR.1.fit _ hg).1 (hR.1.fit _ hg).2
theorem console_ok (c : Nat) (pg : UInt32) (hv : Value) (he : List UInt32) (mb cn : Nat) (gs : List Gr) (env : Int) (l : List Gr) (w : World) (hC : cellsAt w c [(vU32 pg), hv, (.map (some mb))]) (hH : Arr w hv 1 he.length (List.map vU32 he)) (hM : w.heap[mb]? = some (mP .i64 (List.map Gr.me gs) cn)) (hG : BsOK 120 Gr.cells Gr.b gs w) (hS : grD.list.ok w gs) (hR : CapR gs cn l) :
    Calls Try.prog 31 #[ptr c 0, vI env] w (fun e w' => e = .returned (.bool (obs l env).con) ∧ Fr [] w w') := by
  rw [hR.obs]
  cases h : hasE gs env with
  | false => rw [obs_no h]; exact console_no c pg hv he mb cn gs env w hC hH hM hG hS hR.1.me (hasE_no h)
  | true =>
    obtain ⟨hg, hge⟩ := obs_yes h
    exact console_some c pg hv he mb cn gs env (obs gs env) w hC hH hM hG hS hR.1.me hg hge (hR.1.fit _ hg).1 (hR.1.fit _ hg).2
theorem port_ok (c : Nat) (pg : UInt32) (hv : Value) (he : List UInt32) (mb cn : Nat) (gs : List Gr) (env : Int) (y : UInt16) (l : List Gr) (w : World) (hC : cellsAt w c [(vU32 pg), hv, (.map (some mb))]) (hH : Arr w hv 1 he.length (List.map vU32 he)) (hM : w.heap[mb]? = some (mP .i64 (List.map Gr.me gs) cn)) (hG : BsOK 120 Gr.cells Gr.b gs w) (hS : grD.list.ok w gs) (hR : CapR gs cn l) :
    Calls Try.prog 28 #[ptr c 0, vI env, vU16 y] w (fun e w' => e = .returned (.bool (busyQ (obs l env) y)) ∧ Fr [] w w') := by
  rw [hR.obs]
  cases h : hasE gs env with
  | false => rw [obs_no h]; exact port_no c pg hv he mb cn gs env y w hC hH hM hG hS hR.1.me (hasE_no h)
  | true =>
    obtain ⟨hg, hge⟩ := obs_yes h
    exact port_some c pg hv he mb cn gs env (obs gs env) y w hC hH hM hG hS hR.1.me hg hge (hR.1.fit _ hg).1 (hR.1.fit _ hg).2
theorem cblock_ok (c : Nat) (pg : UInt32) (hv : Value) (he : List UInt32) (mb cn : Nat) (gs : List Gr) (env : Int) (id bk : UInt32) (l : List Gr) (w : World) (hC : cellsAt w c [(vU32 pg), hv, (.map (some mb))]) (hH : Arr w hv 1 he.length (List.map vU32 he)) (hM : w.heap[mb]? = some (mP .i64 (List.map Gr.me gs) cn)) (hG : BsOK 120 Gr.cells Gr.b gs w) (hS : grD.list.ok w gs) (hR : CapR gs cn l) :
    Calls Try.prog 29 #[ptr c 0, vI env, vU32 id, vU32 bk] w (fun e w' => e = .returned (.bool (hasX (obs l env).xs id && decide (bk < (extG (obs l env).xs id).bl))) ∧ Fr [] w w') := by
  rw [hR.obs]
  cases h : hasE gs env with
  | false => rw [obs_no h]; exact block_no c pg hv he mb cn gs env id bk w hC hH hM hG hS hR.1.me (hasE_no h)
  | true =>
    obtain ⟨hg, hge⟩ := obs_yes h
    exact block_some c pg hv he mb cn gs env (obs gs env) id bk w hC hH hM hG hS hR.1.me hg hge (hR.1.fit _ hg).1 (hR.1.fit _ hg).2
theorem freeL_ok (c : Nat) (pg : UInt32) (hv : Value) (he : List UInt32) (mb cn : Nat) (gs : List Gr) (l : List Gr) (w : World) (hC : cellsAt w c [(vU32 pg), hv, (.map (some mb))]) (hH : Arr w hv 1 he.length (List.map vU32 he)) (hM : w.heap[mb]? = some (mP .i64 (List.map Gr.me gs) cn)) (hG : BsOK 120 Gr.cells Gr.b gs w) (hS : grD.list.ok w gs) (hR : CapR gs cn l) :
    Calls Try.prog 25 #[ptr c 0] w (fun e w' => e = .returned (vU32 (freeS pg l)) ∧ Fr [] w w') := by
  rw [← hR.free]
  exact free_ok c pg hv he mb cn gs w hC hH hM hG hS hR.1.me
end Go.Proofs.Ytbjhccnffacbcaa
/-! from WCap16 -/
namespace Go.Proofs.Ytbjhccnffacbcaa
open Go.Owl Go.Spec
set_option maxHeartbeats 4000000 in
set_option maxRecDepth 100000 in
theorem calive_ok  (w : World) :
    Calls Try.prog 17 #[] w (fun e w' => e = .returned (.bool true) ∧ Fr [] w w') := by
  refine enter (args := []) Try.func17 rfl rfl ?_
  have H0 : Own [] w w [] := Own.start w []
  refine WC.seq ?_
  refine WC.region ?_
  refine WL.op rfl rfl (op_assign rfl ?_)
  refine WL.nil ?_
  refine WQ.next ?_
  refine WC.seq ?_
  refine WC.region ?_
  refine WL.op rfl rfl (op_buildSlice (cs := [_, _]) H0 Try.underlying46 Fa.I29 rfl rfl rfl rfl (by decide) (by decide) (fun b1 w1 H1 => ?_))
  refine WL.op rfl rfl (op_build (cs := [_, _]) Fa.I48 Fa.PL48 rfl rfl ?_)
  refine WL.op rfl rfl (op_callF Fa.C18 rfl ((capsNew2_ok 10 _ ([4, 2]) _ (H1.arrR (i := 0) rfl) (by decide) rfl).mono (fun e w2 hq => ?_)))
  obtain ⟨c2, v2, mb2, rfl, hv2, hq2⟩ := hq
  refine ⟨_, rfl, ?_⟩
  have H2 : Own [] w w2 [.row (.slice (some ⟨b1, 0, none⟩) 2 2) 29 1 2 (List.map vU32 [4, 2]), .blk c2 [(vU32 10), v2, (.map (some mb2))] 112, Ent.ar v2 1 ([4, 2]).length (List.map vU32 ([4, 2])), .obj mb2 (mP .i64 (List.map Gr.me []) 0), Ent.bs 120 Gr.cells Gr.b [], Ent.dp grD.list []] := H1.splice [] [] [.blk c2 [(vU32 10), v2, (.map (some mb2))] 112, Ent.ar v2 1 ([4, 2]).length (List.map vU32 ([4, 2])), .obj mb2 (mP .i64 (List.map Gr.me []) 0), Ent.bs 120 Gr.cells Gr.b [], Ent.dp grD.list []] rfl rfl hq2 (Fits.solid True.intro (Fits.fresh hv2 (Fits.solid True.intro (Fits.solid True.intro (Fits.fresh (fun b hb => by cases hb) Fits.nil)))))
  refine WL.op rfl rfl (op_move rfl ?_)
  refine WL.op rfl rfl (op_extract rfl rfl ?_)
  refine WL.op rfl rfl (op_extract rfl rfl ?_)
  refine WL.op rfl rfl (op_assign rfl ?_)
  refine WL.op rfl rfl (op_assign rfl ?_)
  refine WL.nil ?_
  refine WQ.next ?_
  refine WC.seq ?_
  refine WC.seq ?_
  refine WC.region ?_
  refine WL.op rfl rfl (op_move rfl ?_)
  refine WL.op rfl rfl (op_neqN (b := 0) rfl rfl ?_)
  refine WL.op rfl rfl (op_move rfl ?_)
  refine WL.yes rfl rfl rfl (by kernel_rfl) rfl (op_move rfl ?_)
  refine WL.yes rfl rfl rfl (by kernel_rfl) rfl (op_eqlPN Fa.PT52 rfl rfl ?_)
  refine WL.op rfl rfl (op_pickF rfl (by kernel_rfl) rfl ?_)
  refine WL.nil ?_
  refine WQ.next ?_
  refine WC.no rfl rfl ?_
  refine WC.skip ?_
  refine WQ.next ?_
  refine WC.seq ?_
  refine WC.region ?_
  refine WL.op rfl rfl (op_move rfl ?_)
  refine WL.op rfl rfl (op_build (cs := [_, _]) Fa.I108 Fa.PL108 rfl rfl ?_)
  refine WL.op rfl rfl (op_buildSlice (cs := [_, _]) H2 Try.underlying56 Fa.I108 rfl rfl rfl rfl (by decide) (by decide) (fun b3 w3 H3 => ?_))
  refine WL.op rfl rfl (op_buildSlice (cs := [_]) H3 Try.underlying57 Fa.I50 rfl rfl rfl rfl (by decide) (by decide) (fun b4 w4 H4 => ?_))
  refine WL.op rfl rfl (op_build (cs := [_, _, _, _]) Fa.I59 Fa.PL59 rfl rfl ?_)
  have H5 : Own [] w w4 [.row (.slice (some ⟨b1, 0, none⟩) 2 2) 29 1 2 (List.map vU32 [4, 2]), .blk c2 [(vU32 10), v2, (.map (some mb2))] 112, Ent.ar v2 1 ([4, 2]).length (List.map vU32 ([4, 2])), .obj mb2 (mP .i64 (List.map Gr.me []) 0), Ent.bs 120 Gr.cells Gr.b [], Ent.dp grD.list [], Ent.ar (.slice (some ⟨b3, 0, none⟩) 1 1) 2 1 (List.map vU32 [0, 4]), .row (.slice (some ⟨b4, 0, none⟩) 1 1) 50 1 1 (List.map vU16 [7])] := H4.freeze (i := 6) rfl
  have H6 : Own [] w w4 [.row (.slice (some ⟨b1, 0, none⟩) 2 2) 29 1 2 (List.map vU32 [4, 2]), .blk c2 [(vU32 10), v2, (.map (some mb2))] 112, Ent.ar v2 1 ([4, 2]).length (List.map vU32 ([4, 2])), .obj mb2 (mP .i64 (List.map Gr.me []) 0), Ent.bs 120 Gr.cells Gr.b [], Ent.dp grD.list [], Ent.ar (.slice (some ⟨b3, 0, none⟩) 1 1) 2 1 (List.map vU32 [0, 4]), Ent.ar (.slice (some ⟨b4, 0, none⟩) 1 1) 1 1 (List.map vU16 [7])] := H5.freeze (i := 7) rfl
  refine WL.op rfl rfl (op_callF Fa.C19 rfl ((capG_ok c2 10 v2 ([4, 2]) mb2 0 ([]) ((1 : Nat) : Int) 3 (.slice (some ⟨b3, 0, none⟩) 1 1) (.slice (some ⟨b4, 0, none⟩) 1 1) ([(Xt.mk 0 4)]) ([7]) false 2 ([]) _ _ (H6.part [1, 2, 3, 4, 5, 6, 7] rfl rfl) (CapR.nil 0) capT7 (by decide) (by decide) (by decide)).mono (fun e w7 hq => ?_)))
  obtain ⟨cn7, gs7, rfl, hi7, hq7⟩ := hq
  refine ⟨_, rfl, ?_⟩
  have H7 : Own [] w w7 [.row (.slice (some ⟨b1, 0, none⟩) 2 2) 29 1 2 (List.map vU32 [4, 2]), .blk c2 [(vU32 10), v2, (.map (some mb2))] 112, Ent.ar v2 1 ([4, 2]).length (List.map vU32 ([4, 2])), .obj mb2 (mP .i64 (List.map Gr.me gs7) cn7), Ent.bs 120 Gr.cells Gr.b gs7, Ent.dp grD.list gs7, Ent.ar (.slice (some ⟨b3, 0, none⟩) 1 1) 2 1 (List.map vU32 [0, 4]), Ent.ar (.slice (some ⟨b4, 0, none⟩) 1 1) 1 1 (List.map vU16 [7])] := H6.splice [1, 2, 3, 4, 5, 6, 7] [.blk c2 [(vU32 10), v2, (.map (some mb2))] 112, Ent.ar v2 1 ([4, 2]).length (List.map vU32 ([4, 2])), .obj mb2 (mP .i64 (List.map Gr.me gs7) cn7), Ent.bs 120 Gr.cells Gr.b gs7, Ent.dp grD.list gs7, Ent.ar (.slice (some ⟨b3, 0, none⟩) 1 1) 2 1 (List.map vU32 [0, 4]), Ent.ar (.slice (some ⟨b4, 0, none⟩) 1 1) 1 1 (List.map vU16 [7])] [] rfl rfl hq7 (Fits.solid True.intro (Fits.same (j := 1) rfl (Fits.solid True.intro (Fits.solid True.intro (Fits.dpTo 4 rfl hi7.2 (Fits.same (j := 5) rfl (Fits.same (j := 6) rfl Fits.nil)))))))
  refine WL.op rfl rfl (op_assign rfl ?_)
  refine WL.nil ?_
  refine WQ.next ?_
  refine WC.seq ?_
  refine WC.region ?_
  refine WL.op rfl rfl (op_move rfl ?_)
  refine WL.op rfl rfl (op_callF Fa.C25 rfl ((freeL_ok c2 10 v2 ([4, 2]) mb2 cn7 gs7 (grantG 10 ([4, 2]) ([]) ((1 : Nat) : Int) 3 ([(Xt.mk 0 4)]) ([7]) false 2) _ (H7.cellsAt (i := 1) rfl) (H7.arrO (i := 2) rfl) (H7.mp (i := 3) rfl) (H7.bsG (i := 4) rfl) (H7.dpO (i := 5) rfl) hi7.1).mono (fun e w8 hq => ?_)))
  obtain ⟨rfl, hf8⟩ := hq
  refine ⟨_, rfl, ?_⟩
  have H8 := H7.fr' hf8
  refine WL.op rfl rfl (op_assign rfl ?_)
  refine WL.nil ?_
  refine WQ.next ?_
  refine WC.seq ?_
  refine WC.region ?_
  refine WL.op rfl rfl (op_move rfl ?_)
  refine WL.op rfl rfl (op_buildSlice (cs := [_]) H8 Try.underlying57 Fa.I50 rfl rfl rfl rfl (by decide) (by decide) (fun b9 w9 H9 => ?_))
  refine WL.op rfl rfl (op_build (cs := [_, _, _, _]) Fa.I59 Fa.PL59 rfl rfl ?_)
  have H10 : Own [] w w9 [.row (.slice (some ⟨b1, 0, none⟩) 2 2) 29 1 2 (List.map vU32 [4, 2]), .blk c2 [(vU32 10), v2, (.map (some mb2))] 112, Ent.ar v2 1 ([4, 2]).length (List.map vU32 ([4, 2])), .obj mb2 (mP .i64 (List.map Gr.me gs7) cn7), Ent.bs 120 Gr.cells Gr.b gs7, Ent.dp grD.list gs7, Ent.ar (.slice (some ⟨b3, 0, none⟩) 1 1) 2 1 (List.map vU32 [0, 4]), Ent.ar (.slice (some ⟨b4, 0, none⟩) 1 1) 1 1 (List.map vU16 [7]), .row (.slice (some ⟨b9, 0, none⟩) 1 1) 50 1 1 (List.map vU16 [7]), .row (.slice none 0 0) 108 2 0 (List.flatMap xtc [])] := H9.nilRow 108 2
  have H11 : Own [] w w9 [.row (.slice (some ⟨b1, 0, none⟩) 2 2) 29 1 2 (List.map vU32 [4, 2]), .blk c2 [(vU32 10), v2, (.map (some mb2))] 112, Ent.ar v2 1 ([4, 2]).length (List.map vU32 ([4, 2])), .obj mb2 (mP .i64 (List.map Gr.me gs7) cn7), Ent.bs 120 Gr.cells Gr.b gs7, Ent.dp grD.list gs7, Ent.ar (.slice (some ⟨b3, 0, none⟩) 1 1) 2 1 (List.map vU32 [0, 4]), Ent.ar (.slice (some ⟨b4, 0, none⟩) 1 1) 1 1 (List.map vU16 [7]), .row (.slice (some ⟨b9, 0, none⟩) 1 1) 50 1 1 (List.map vU16 [7]), Ent.ar (.slice none 0 0) 2 0 (List.flatMap xtc [])] := H10.freeze (i := 9) rfl
  have H12 : Own [] w w9 [.row (.slice (some ⟨b1, 0, none⟩) 2 2) 29 1 2 (List.map vU32 [4, 2]), .blk c2 [(vU32 10), v2, (.map (some mb2))] 112, Ent.ar v2 1 ([4, 2]).length (List.map vU32 ([4, 2])), .obj mb2 (mP .i64 (List.map Gr.me gs7) cn7), Ent.bs 120 Gr.cells Gr.b gs7, Ent.dp grD.list gs7, Ent.ar (.slice (some ⟨b3, 0, none⟩) 1 1) 2 1 (List.map vU32 [0, 4]), Ent.ar (.slice (some ⟨b4, 0, none⟩) 1 1) 1 1 (List.map vU16 [7]), Ent.ar (.slice (some ⟨b9, 0, none⟩) 1 1) 1 1 (List.map vU16 [7]), Ent.ar (.slice none 0 0) 2 0 (List.flatMap xtc [])] := H11.freeze (i := 8) rfl
  refine WL.op rfl rfl (op_callF Fa.C19 rfl ((capG_ok c2 10 v2 ([4, 2]) mb2 cn7 gs7 ((2 : Nat) : Int) 0 (.slice none 0 0) (.slice (some ⟨b9, 0, none⟩) 1 1) ([]) ([7]) false 0 (grantG 10 ([4, 2]) ([]) ((1 : Nat) : Int) 3 ([(Xt.mk 0 4)]) ([7]) false 2) _ _ (H12.part [1, 2, 3, 4, 5, 9, 8] rfl rfl) hi7.1 capT7 (by decide) (by decide) (by decide)).mono (fun e w13 hq => ?_)))
  obtain ⟨cn13, gs13, rfl, hi13, hq13⟩ := hq
  refine ⟨_, rfl, ?_⟩
  have H13 : Own [] w w13 [.row (.slice (some ⟨b1, 0, none⟩) 2 2) 29 1 2 (List.map vU32 [4, 2]), .blk c2 [(vU32 10), v2, (.map (some mb2))] 112, Ent.ar v2 1 ([4, 2]).length (List.map vU32 ([4, 2])), .obj mb2 (mP .i64 (List.map Gr.me gs13) cn13), Ent.bs 120 Gr.cells Gr.b gs13, Ent.dp grD.list gs13, Ent.ar (.slice (some ⟨b3, 0, none⟩) 1 1) 2 1 (List.map vU32 [0, 4]), Ent.ar (.slice (some ⟨b4, 0, none⟩) 1 1) 1 1 (List.map vU16 [7]), Ent.ar (.slice (some ⟨b9, 0, none⟩) 1 1) 1 1 (List.map vU16 [7]), Ent.ar (.slice none 0 0) 2 0 (List.flatMap xtc [])] := H12.splice [1, 2, 3, 4, 5, 9, 8] [.blk c2 [(vU32 10), v2, (.map (some mb2))] 112, Ent.ar v2 1 ([4, 2]).length (List.map vU32 ([4, 2])), .obj mb2 (mP .i64 (List.map Gr.me gs13) cn13), Ent.bs 120 Gr.cells Gr.b gs13, Ent.dp grD.list gs13, Ent.ar (.slice none 0 0) 2 0 (List.flatMap xtc []), Ent.ar (.slice (some ⟨b9, 0, none⟩) 1 1) 1 1 (List.map vU16 [7])] [] rfl rfl hq13 (Fits.solid True.intro (Fits.same (j := 1) rfl (Fits.solid True.intro (Fits.solid True.intro (Fits.dpTo 4 rfl hi13.2 (Fits.same (j := 5) rfl (Fits.same (j := 6) rfl Fits.nil)))))))
  refine WL.op rfl rfl (op_assign rfl ?_)
  refine WL.nil ?_
  refine WQ.next ?_
  refine WC.seq ?_
  refine WC.region ?_
  refine WL.op rfl rfl (op_move rfl ?_)
  refine WL.op rfl rfl (op_build (cs := [_, _]) Fa.I108 Fa.PL108 rfl rfl ?_)
  refine WL.op rfl rfl (op_buildSlice (cs := [_, _]) H13 Try.underlying56 Fa.I108 rfl rfl rfl rfl (by decide) (by decide) (fun b14 w14 H14 => ?_))
  refine WL.op rfl rfl (op_build (cs := [_, _, _, _]) Fa.I59 Fa.PL59 rfl rfl ?_)
  have H15 : Own [] w w14 [.row (.slice (some ⟨b1, 0, none⟩) 2 2) 29 1 2 (List.map vU32 [4, 2]), .blk c2 [(vU32 10), v2, (.map (some mb2))] 112, Ent.ar v2 1 ([4, 2]).length (List.map vU32 ([4, 2])), .obj mb2 (mP .i64 (List.map Gr.me gs13) cn13), Ent.bs 120 Gr.cells Gr.b gs13, Ent.dp grD.list gs13, Ent.ar (.slice (some ⟨b3, 0, none⟩) 1 1) 2 1 (List.map vU32 [0, 4]), Ent.ar (.slice (some ⟨b4, 0, none⟩) 1 1) 1 1 (List.map vU16 [7]), Ent.ar (.slice (some ⟨b9, 0, none⟩) 1 1) 1 1 (List.map vU16 [7]), Ent.ar (.slice none 0 0) 2 0 (List.flatMap xtc []), Ent.ar (.slice (some ⟨b14, 0, none⟩) 1 1) 2 1 (List.map vU32 [1, 3])] := H14.freeze (i := 10) rfl
  have H16 : Own [] w w14 [.row (.slice (some ⟨b1, 0, none⟩) 2 2) 29 1 2 (List.map vU32 [4, 2]), .blk c2 [(vU32 10), v2, (.map (some mb2))] 112, Ent.ar v2 1 ([4, 2]).length (List.map vU32 ([4, 2])), .obj mb2 (mP .i64 (List.map Gr.me gs13) cn13), Ent.bs 120 Gr.cells Gr.b gs13, Ent.dp grD.list gs13, Ent.ar (.slice (some ⟨b3, 0, none⟩) 1 1) 2 1 (List.map vU32 [0, 4]), Ent.ar (.slice (some ⟨b4, 0, none⟩) 1 1) 1 1 (List.map vU16 [7]), Ent.ar (.slice (some ⟨b9, 0, none⟩) 1 1) 1 1 (List.map vU16 [7]), Ent.ar (.slice none 0 0) 2 0 (List.flatMap xtc []), Ent.ar (.slice (some ⟨b14, 0, none⟩) 1 1) 2 1 (List.map vU32 [1, 3]), .row (.slice none 0 0) 50 1 0 (List.map vU16 [])] := H15.nilRow 50 1
  have H17 : Own [] w w14 [.row (.slice (some ⟨b1, 0, none⟩) 2 2) 29 1 2 (List.map vU32 [4, 2]), .blk c2 [(vU32 10), v2, (.map (some mb2))] 112, Ent.ar v2 1 ([4, 2]).length (List.map vU32 ([4, 2])), .obj mb2 (mP .i64 (List.map Gr.me gs13) cn13), Ent.bs 120 Gr.cells Gr.b gs13, Ent.dp grD.list gs13, Ent.ar (.slice (some ⟨b3, 0, none⟩) 1 1) 2 1 (List.map vU32 [0, 4]), Ent.ar (.slice (some ⟨b4, 0, none⟩) 1 1) 1 1 (List.map vU16 [7]), Ent.ar (.slice (some ⟨b9, 0, none⟩) 1 1) 1 1 (List.map vU16 [7]), Ent.ar (.slice none 0 0) 2 0 (List.flatMap xtc []), Ent.ar (.slice (some ⟨b14, 0, none⟩) 1 1) 2 1 (List.map vU32 [1, 3]), Ent.ar (.slice none 0 0) 1 0 (List.map vU16 [])] := H16.freeze (i := 11) rfl
  refine WL.op rfl rfl (op_callF Fa.C19 rfl ((capG_ok c2 10 v2 ([4, 2]) mb2 cn13 gs13 ((2 : Nat) : Int) 0 (.slice (some ⟨b14, 0, none⟩) 1 1) (.slice none 0 0) ([(Xt.mk 1 3)]) ([]) false 0 (grantG 10 ([4, 2]) (grantG 10 ([4, 2]) ([]) ((1 : Nat) : Int) 3 ([(Xt.mk 0 4)]) ([7]) false 2) ((2 : Nat) : Int) 0 ([]) ([7]) false 0) _ _ (H17.part [1, 2, 3, 4, 5, 10, 11] rfl rfl) hi13.1 capT7 (by decide) (by decide) (by decide)).mono (fun e w18 hq => ?_)))
  obtain ⟨cn18, gs18, rfl, hi18, hq18⟩ := hq
  refine ⟨_, rfl, ?_⟩
  have H18 : Own [] w w18 [.row (.slice (some ⟨b1, 0, none⟩) 2 2) 29 1 2 (List.map vU32 [4, 2]), .blk c2 [(vU32 10), v2, (.map (some mb2))] 112, Ent.ar v2 1 ([4, 2]).length (List.map vU32 ([4, 2])), .obj mb2 (mP .i64 (List.map Gr.me gs18) cn18), Ent.bs 120 Gr.cells Gr.b gs18, Ent.dp grD.list gs18, Ent.ar (.slice (some ⟨b3, 0, none⟩) 1 1) 2 1 (List.map vU32 [0, 4]), Ent.ar (.slice (some ⟨b4, 0, none⟩) 1 1) 1 1 (List.map vU16 [7]), Ent.ar (.slice (some ⟨b9, 0, none⟩) 1 1) 1 1 (List.map vU16 [7]), Ent.ar (.slice none 0 0) 2 0 (List.flatMap xtc []), Ent.ar (.slice (some ⟨b14, 0, none⟩) 1 1) 2 1 (List.map vU32 [1, 3]), Ent.ar (.slice none 0 0) 1 0 (List.map vU16 [])] := H17.splice [1, 2, 3, 4, 5, 10, 11] [.blk c2 [(vU32 10), v2, (.map (some mb2))] 112, Ent.ar v2 1 ([4, 2]).length (List.map vU32 ([4, 2])), .obj mb2 (mP .i64 (List.map Gr.me gs18) cn18), Ent.bs 120 Gr.cells Gr.b gs18, Ent.dp grD.list gs18, Ent.ar (.slice (some ⟨b14, 0, none⟩) 1 1) 2 1 (List.map vU32 [1, 3]), Ent.ar (.slice none 0 0) 1 0 (List.map vU16 [])] [] rfl rfl hq18 (Fits.solid True.intro (Fits.same (j := 1) rfl (Fits.solid True.intro (Fits.solid True.intro (Fits.dpTo 4 rfl hi18.2 (Fits.same (j := 5) rfl (Fits.same (j := 6) rfl Fits.nil)))))))
  refine WL.op rfl rfl (op_assign rfl ?_)
  refine WL.nil ?_
  refine WQ.next ?_
  refine WC.seq ?_
  refine WC.region ?_
  refine WL.op rfl rfl (op_move rfl ?_)
  refine WL.op rfl rfl (op_build (cs := [_, _]) Fa.I108 Fa.PL108 rfl rfl ?_)
  refine WL.op rfl rfl (op_buildSlice (cs := [_, _]) H18 Try.underlying56 Fa.I108 rfl rfl rfl rfl (by decide) (by decide) (fun b19 w19 H19 => ?_))
  refine WL.op rfl rfl (op_build (cs := [_, _, _, _]) Fa.I59 Fa.PL59 rfl rfl ?_)
  have H20 : Own [] w w19 [.row (.slice (some ⟨b1, 0, none⟩) 2 2) 29 1 2 (List.map vU32 [4, 2]), .blk c2 [(vU32 10), v2, (.map (some mb2))] 112, Ent.ar v2 1 ([4, 2]).length (List.map vU32 ([4, 2])), .obj mb2 (mP .i64 (List.map Gr.me gs18) cn18), Ent.bs 120 Gr.cells Gr.b gs18, Ent.dp grD.list gs18, Ent.ar (.slice (some ⟨b3, 0, none⟩) 1 1) 2 1 (List.map vU32 [0, 4]), Ent.ar (.slice (some ⟨b4, 0, none⟩) 1 1) 1 1 (List.map vU16 [7]), Ent.ar (.slice (some ⟨b9, 0, none⟩) 1 1) 1 1 (List.map vU16 [7]), Ent.ar (.slice none 0 0) 2 0 (List.flatMap xtc []), Ent.ar (.slice (some ⟨b14, 0, none⟩) 1 1) 2 1 (List.map vU32 [1, 3]), Ent.ar (.slice none 0 0) 1 0 (List.map vU16 []), Ent.ar (.slice (some ⟨b19, 0, none⟩) 1 1) 2 1 (List.map vU32 [2, 1])] := H19.freeze (i := 12) rfl
  have H21 : Own [] w w19 [.row (.slice (some ⟨b1, 0, none⟩) 2 2) 29 1 2 (List.map vU32 [4, 2]), .blk c2 [(vU32 10), v2, (.map (some mb2))] 112, Ent.ar v2 1 ([4, 2]).length (List.map vU32 ([4, 2])), .obj mb2 (mP .i64 (List.map Gr.me gs18) cn18), Ent.bs 120 Gr.cells Gr.b gs18, Ent.dp grD.list gs18, Ent.ar (.slice (some ⟨b3, 0, none⟩) 1 1) 2 1 (List.map vU32 [0, 4]), Ent.ar (.slice (some ⟨b4, 0, none⟩) 1 1) 1 1 (List.map vU16 [7]), Ent.ar (.slice (some ⟨b9, 0, none⟩) 1 1) 1 1 (List.map vU16 [7]), Ent.ar (.slice none 0 0) 2 0 (List.flatMap xtc []), Ent.ar (.slice (some ⟨b14, 0, none⟩) 1 1) 2 1 (List.map vU32 [1, 3]), Ent.ar (.slice none 0 0) 1 0 (List.map vU16 []), Ent.ar (.slice (some ⟨b19, 0, none⟩) 1 1) 2 1 (List.map vU32 [2, 1]), .row (.slice none 0 0) 50 1 0 (List.map vU16 [])] := H20.nilRow 50 1
  have H22 : Own [] w w19 [.row (.slice (some ⟨b1, 0, none⟩) 2 2) 29 1 2 (List.map vU32 [4, 2]), .blk c2 [(vU32 10), v2, (.map (some mb2))] 112, Ent.ar v2 1 ([4, 2]).length (List.map vU32 ([4, 2])), .obj mb2 (mP .i64 (List.map Gr.me gs18) cn18), Ent.bs 120 Gr.cells Gr.b gs18, Ent.dp grD.list gs18, Ent.ar (.slice (some ⟨b3, 0, none⟩) 1 1) 2 1 (List.map vU32 [0, 4]), Ent.ar (.slice (some ⟨b4, 0, none⟩) 1 1) 1 1 (List.map vU16 [7]), Ent.ar (.slice (some ⟨b9, 0, none⟩) 1 1) 1 1 (List.map vU16 [7]), Ent.ar (.slice none 0 0) 2 0 (List.flatMap xtc []), Ent.ar (.slice (some ⟨b14, 0, none⟩) 1 1) 2 1 (List.map vU32 [1, 3]), Ent.ar (.slice none 0 0) 1 0 (List.map vU16 []), Ent.ar (.slice (some ⟨b19, 0, none⟩) 1 1) 2 1 (List.map vU32 [2, 1]), Ent.ar (.slice none 0 0) 1 0 (List.map vU16 [])] := H21.freeze (i := 13) rfl
  refine WL.op rfl rfl (op_callF Fa.C19 rfl ((capG_ok c2 10 v2 ([4, 2]) mb2 cn18 gs18 ((2 : Nat) : Int) 0 (.slice (some ⟨b19, 0, none⟩) 1 1) (.slice none 0 0) ([(Xt.mk 2 1)]) ([]) false 0 (grantG 10 ([4, 2]) (grantG 10 ([4, 2]) (grantG 10 ([4, 2]) ([]) ((1 : Nat) : Int) 3 ([(Xt.mk 0 4)]) ([7]) false 2) ((2 : Nat) : Int) 0 ([]) ([7]) false 0) ((2 : Nat) : Int) 0 ([(Xt.mk 1 3)]) ([]) false 0) _ _ (H22.part [1, 2, 3, 4, 5, 12, 13] rfl rfl) hi18.1 capT7 (by decide) (by decide) (by decide)).mono (fun e w23 hq => ?_)))
  obtain ⟨cn23, gs23, rfl, hi23, hq23⟩ := hq
  refine ⟨_, rfl, ?_⟩
  have H23 : Own [] w w23 [.row (.slice (some ⟨b1, 0, none⟩) 2 2) 29 1 2 (List.map vU32 [4, 2]), .blk c2 [(vU32 10), v2, (.map (some mb2))] 112, Ent.ar v2 1 ([4, 2]).length (List.map vU32 ([4, 2])), .obj mb2 (mP .i64 (List.map Gr.me gs23) cn23), Ent.bs 120 Gr.cells Gr.b gs23, Ent.dp grD.list gs23, Ent.ar (.slice (some ⟨b3, 0, none⟩) 1 1) 2 1 (List.map vU32 [0, 4]), Ent.ar (.slice (some ⟨b4, 0, none⟩) 1 1) 1 1 (List.map vU16 [7]), Ent.ar (.slice (some ⟨b9, 0, none⟩) 1 1) 1 1 (List.map vU16 [7]), Ent.ar (.slice none 0 0) 2 0 (List.flatMap xtc []), Ent.ar (.slice (some ⟨b14, 0, none⟩) 1 1) 2 1 (List.map vU32 [1, 3]), Ent.ar (.slice none 0 0) 1 0 (List.map vU16 []), Ent.ar (.slice (some ⟨b19, 0, none⟩) 1 1) 2 1 (List.map vU32 [2, 1]), Ent.ar (.slice none 0 0) 1 0 (List.map vU16 [])] := H22.splice [1, 2, 3, 4, 5, 12, 13] [.blk c2 [(vU32 10), v2, (.map (some mb2))] 112, Ent.ar v2 1 ([4, 2]).length (List.map vU32 ([4, 2])), .obj mb2 (mP .i64 (List.map Gr.me gs23) cn23), Ent.bs 120 Gr.cells Gr.b gs23, Ent.dp grD.list gs23, Ent.ar (.slice (some ⟨b19, 0, none⟩) 1 1) 2 1 (List.map vU32 [2, 1]), Ent.ar (.slice none 0 0) 1 0 (List.map vU16 [])] [] rfl rfl hq23 (Fits.solid True.intro (Fits.same (j := 1) rfl (Fits.solid True.intro (Fits.solid True.intro (Fits.dpTo 4 rfl hi23.2 (Fits.same (j := 5) rfl (Fits.same (j := 6) rfl Fits.nil)))))))
  refine WL.op rfl rfl (op_assign rfl ?_)
  refine WL.nil ?_
  refine WQ.next ?_
  refine WC.seq ?_
  refine WC.region ?_
  refine WL.op rfl rfl (op_move rfl ?_)
  refine WL.op rfl rfl (op_build (cs := [_, _, _, _]) Fa.I59 Fa.PL59 rfl rfl ?_)
  have H24 : Own [] w w23 [.row (.slice (some ⟨b1, 0, none⟩) 2 2) 29 1 2 (List.map vU32 [4, 2]), .blk c2 [(vU32 10), v2, (.map (some mb2))] 112, Ent.ar v2 1 ([4, 2]).length (List.map vU32 ([4, 2])), .obj mb2 (mP .i64 (List.map Gr.me gs23) cn23), Ent.bs 120 Gr.cells Gr.b gs23, Ent.dp grD.list gs23, Ent.ar (.slice (some ⟨b3, 0, none⟩) 1 1) 2 1 (List.map vU32 [0, 4]), Ent.ar (.slice (some ⟨b4, 0, none⟩) 1 1) 1 1 (List.map vU16 [7]), Ent.ar (.slice (some ⟨b9, 0, none⟩) 1 1) 1 1 (List.map vU16 [7]), Ent.ar (.slice none 0 0) 2 0 (List.flatMap xtc []), Ent.ar (.slice (some ⟨b14, 0, none⟩) 1 1) 2 1 (List.map vU32 [1, 3]), Ent.ar (.slice none 0 0) 1 0 (List.map vU16 []), Ent.ar (.slice (some ⟨b19, 0, none⟩) 1 1) 2 1 (List.map vU32 [2, 1]), Ent.ar (.slice none 0 0) 1 0 (List.map vU16 []), .row (.slice none 0 0) 108 2 0 (List.flatMap xtc [])] := H23.nilRow 108 2
  have H25 : Own [] w w23 [.row (.slice (some ⟨b1, 0, none⟩) 2 2) 29 1 2 (List.map vU32 [4, 2]), .blk c2 [(vU32 10), v2, (.map (some mb2))] 112, Ent.ar v2 1 ([4, 2]).length (List.map vU32 ([4, 2])), .obj mb2 (mP .i64 (List.map Gr.me gs23) cn23), Ent.bs 120 Gr.cells Gr.b gs23, Ent.dp grD.list gs23, Ent.ar (.slice (some ⟨b3, 0, none⟩) 1 1) 2 1 (List.map vU32 [0, 4]), Ent.ar (.slice (some ⟨b4, 0, none⟩) 1 1) 1 1 (List.map vU16 [7]), Ent.ar (.slice (some ⟨b9, 0, none⟩) 1 1) 1 1 (List.map vU16 [7]), Ent.ar (.slice none 0 0) 2 0 (List.flatMap xtc []), Ent.ar (.slice (some ⟨b14, 0, none⟩) 1 1) 2 1 (List.map vU32 [1, 3]), Ent.ar (.slice none 0 0) 1 0 (List.map vU16 []), Ent.ar (.slice (some ⟨b19, 0, none⟩) 1 1) 2 1 (List.map vU32 [2, 1]), Ent.ar (.slice none 0 0) 1 0 (List.map vU16 []), Ent.ar (.slice none 0 0) 2 0 (List.flatMap xtc [])] := H24.freeze (i := 14) rfl
  have H26 : Own [] w w23 [.row (.slice (some ⟨b1, 0, none⟩) 2 2) 29 1 2 (List.map vU32 [4, 2]), .blk c2 [(vU32 10), v2, (.map (some mb2))] 112, Ent.ar v2 1 ([4, 2]).length (List.map vU32 ([4, 2])), .obj mb2 (mP .i64 (List.map Gr.me gs23) cn23), Ent.bs 120 Gr.cells Gr.b gs23, Ent.dp grD.list gs23, Ent.ar (.slice (some ⟨b3, 0, none⟩) 1 1) 2 1 (List.map vU32 [0, 4]), Ent.ar (.slice (some ⟨b4, 0, none⟩) 1 1) 1 1 (List.map vU16 [7]), Ent.ar (.slice (some ⟨b9, 0, none⟩) 1 1) 1 1 (List.map vU16 [7]), Ent.ar (.slice none 0 0) 2 0 (List.flatMap xtc []), Ent.ar (.slice (some ⟨b14, 0, none⟩) 1 1) 2 1 (List.map vU32 [1, 3]), Ent.ar (.slice none 0 0) 1 0 (List.map vU16 []), Ent.ar (.slice (some ⟨b19, 0, none⟩) 1 1) 2 1 (List.map vU32 [2, 1]), Ent.ar (.slice none 0 0) 1 0 (List.map vU16 []), Ent.ar (.slice none 0 0) 2 0 (List.flatMap xtc []), .row (.slice none 0 0) 50 1 0 (List.map vU16 [])] := H25.nilRow 50 1
  have H27 : Own [] w w23 [.row (.slice (some ⟨b1, 0, none⟩) 2 2) 29 1 2 (List.map vU32 [4, 2]), .blk c2 [(vU32 10), v2, (.map (some mb2))] 112, Ent.ar v2 1 ([4, 2]).length (List.map vU32 ([4, 2])), .obj mb2 (mP .i64 (List.map Gr.me gs23) cn23), Ent.bs 120 Gr.cells Gr.b gs23, Ent.dp grD.list gs23, Ent.ar (.slice (some ⟨b3, 0, none⟩) 1 1) 2 1 (List.map vU32 [0, 4]), Ent.ar (.slice (some ⟨b4, 0, none⟩) 1 1) 1 1 (List.map vU16 [7]), Ent.ar (.slice (some ⟨b9, 0, none⟩) 1 1) 1 1 (List.map vU16 [7]), Ent.ar (.slice none 0 0) 2 0 (List.flatMap xtc []), Ent.ar (.slice (some ⟨b14, 0, none⟩) 1 1) 2 1 (List.map vU32 [1, 3]), Ent.ar (.slice none 0 0) 1 0 (List.map vU16 []), Ent.ar (.slice (some ⟨b19, 0, none⟩) 1 1) 2 1 (List.map vU32 [2, 1]), Ent.ar (.slice none 0 0) 1 0 (List.map vU16 []), Ent.ar (.slice none 0 0) 2 0 (List.flatMap xtc []), Ent.ar (.slice none 0 0) 1 0 (List.map vU16 [])] := H26.freeze (i := 15) rfl
  refine WL.op rfl rfl (op_callF Fa.C19 rfl ((capG_ok c2 10 v2 ([4, 2]) mb2 cn23 gs23 ((2 : Nat) : Int) 6 (.slice none 0 0) (.slice none 0 0) ([]) ([]) false 0 (grantG 10 ([4, 2]) (grantG 10 ([4, 2]) (grantG 10 ([4, 2]) (grantG 10 ([4, 2]) ([]) ((1 : Nat) : Int) 3 ([(Xt.mk 0 4)]) ([7]) false 2) ((2 : Nat) : Int) 0 ([]) ([7]) false 0) ((2 : Nat) : Int) 0 ([(Xt.mk 1 3)]) ([]) false 0) ((2 : Nat) : Int) 0 ([(Xt.mk 2 1)]) ([]) false 0) _ _ (H27.part [1, 2, 3, 4, 5, 14, 15] rfl rfl) hi23.1 capT7 (by decide) (by decide) (by decide)).mono (fun e w28 hq => ?_)))
  obtain ⟨cn28, gs28, rfl, hi28, hq28⟩ := hq
  refine ⟨_, rfl, ?_⟩
  have H28 : Own [] w w28 [.row (.slice (some ⟨b1, 0, none⟩) 2 2) 29 1 2 (List.map vU32 [4, 2]), .blk c2 [(vU32 10), v2, (.map (some mb2))] 112, Ent.ar v2 1 ([4, 2]).length (List.map vU32 ([4, 2])), .obj mb2 (mP .i64 (List.map Gr.me gs28) cn28), Ent.bs 120 Gr.cells Gr.b gs28, Ent.dp grD.list gs28, Ent.ar (.slice (some ⟨b3, 0, none⟩) 1 1) 2 1 (List.map vU32 [0, 4]), Ent.ar (.slice (some ⟨b4, 0, none⟩) 1 1) 1 1 (List.map vU16 [7]), Ent.ar (.slice (some ⟨b9, 0, none⟩) 1 1) 1 1 (List.map vU16 [7]), Ent.ar (.slice none 0 0) 2 0 (List.flatMap xtc []), Ent.ar (.slice (some ⟨b14, 0, none⟩) 1 1) 2 1 (List.map vU32 [1, 3]), Ent.ar (.slice none 0 0) 1 0 (List.map vU16 []), Ent.ar (.slice (some ⟨b19, 0, none⟩) 1 1) 2 1 (List.map vU32 [2, 1]), Ent.ar (.slice none 0 0) 1 0 (List.map vU16 []), Ent.ar (.slice none 0 0) 2 0 (List.flatMap xtc []), Ent.ar (.slice none 0 0) 1 0 (List.map vU16 [])] := H27.splice [1, 2, 3, 4, 5, 14, 15] [.blk c2 [(vU32 10), v2, (.map (some mb2))] 112, Ent.ar v2 1 ([4, 2]).length (List.map vU32 ([4, 2])), .obj mb2 (mP .i64 (List.map Gr.me gs28) cn28), Ent.bs 120 Gr.cells Gr.b gs28, Ent.dp grD.list gs28, Ent.ar (.slice none 0 0) 2 0 (List.flatMap xtc []), Ent.ar (.slice none 0 0) 1 0 (List.map vU16 [])] [] rfl rfl hq28 (Fits.solid True.intro (Fits.same (j := 1) rfl (Fits.solid True.intro (Fits.solid True.intro (Fits.dpTo 4 rfl hi28.2 (Fits.same (j := 5) rfl (Fits.same (j := 6) rfl Fits.nil)))))))
  refine WL.op rfl rfl (op_assign rfl ?_)
  refine WL.nil ?_
  refine WQ.next ?_
  refine WC.seq ?_
  first | refine WC.regionA ?_ | refine WC.regionL ?_
  refine WL.op rfl rfl (op_move rfl ?_)
  refine WL.op rfl rfl (op_eqlN (b := 0) rfl rfl ?_)
  refine WL.op rfl rfl (op_move rfl ?_)
  refine WL.yes rfl rfl rfl (by kernel_rfl) rfl (op_move rfl ?_)
  refine WL.yes rfl rfl rfl (by kernel_rfl) rfl (op_eqlU32 (b := 5) rfl rfl ?_)
  refine WL.op rfl rfl (op_pickT rfl (by kernel_rfl) rfl ?_)
  refine WL.op rfl rfl (op_move rfl ?_)
  refine WL.yes rfl rfl rfl (by kernel_rfl) rfl (op_move rfl ?_)
  refine WL.yes rfl rfl rfl (by kernel_rfl) rfl (op_eqlN (b := 190) rfl rfl ?_)
  refine WL.op rfl rfl (op_pickT rfl (by kernel_rfl) rfl ?_)
  refine WL.op rfl rfl (op_move rfl ?_)
  refine WL.yes rfl rfl rfl (by kernel_rfl) rfl (op_move rfl ?_)
  refine WL.yes rfl rfl rfl (by kernel_rfl) rfl (op_eqlN (b := 5) rfl rfl ?_)
  refine WL.op rfl rfl (op_pickT rfl (by kernel_rfl) rfl ?_)
  refine WL.op rfl rfl (op_move rfl ?_)
  refine WL.yes rfl rfl rfl (by kernel_rfl) rfl (op_move rfl ?_)
  refine WL.yes rfl rfl rfl (by kernel_rfl) rfl (op_eqlN (b := 3) rfl rfl ?_)
  refine WL.op rfl rfl (op_pickT rfl (by kernel_rfl) rfl ?_)
  refine WL.op rfl rfl (op_move rfl ?_)
  refine WL.yes rfl rfl rfl (by kernel_rfl) rfl (op_move rfl ?_)
  refine WL.yes rfl rfl rfl (by kernel_rfl) rfl (op_eqlN (b := 4) rfl rfl ?_)
  refine WL.op rfl rfl (op_pickT rfl (by kernel_rfl) rfl ?_)
  refine WL.op rfl rfl (op_move rfl ?_)
  refine WL.yes rfl rfl rfl (by kernel_rfl) rfl (op_move rfl ?_)
  refine WL.yes rfl rfl rfl (by kernel_rfl) rfl (op_callF Fa.C29 rfl ((cblock_ok c2 10 v2 ([4, 2]) mb2 cn28 gs28 ((1 : Nat) : Int) 0 3 (grantG 10 ([4, 2]) (grantG 10 ([4, 2]) (grantG 10 ([4, 2]) (grantG 10 ([4, 2]) (grantG 10 ([4, 2]) ([]) ((1 : Nat) : Int) 3 ([(Xt.mk 0 4)]) ([7]) false 2) ((2 : Nat) : Int) 0 ([]) ([7]) false 0) ((2 : Nat) : Int) 0 ([(Xt.mk 1 3)]) ([]) false 0) ((2 : Nat) : Int) 0 ([(Xt.mk 2 1)]) ([]) false 0) ((2 : Nat) : Int) 6 ([]) ([]) false 0) _ (H28.cellsAt (i := 1) rfl) (H28.arrO (i := 2) rfl) (H28.mp (i := 3) rfl) (H28.bsG (i := 4) rfl) (H28.dpO (i := 5) rfl) hi28.1).mono (fun e w29 hq => ?_)))
  obtain ⟨rfl, hf29⟩ := hq
  refine ⟨_, rfl, ?_⟩
  have H29 := H28.fr' hf29
  refine WL.op rfl rfl (op_pickT rfl (by kernel_rfl) rfl ?_)
  refine WL.op rfl rfl (op_move rfl ?_)
  refine WL.yes rfl rfl rfl (by kernel_rfl) rfl (op_move rfl ?_)
  refine WL.yes rfl rfl rfl (by kernel_rfl) rfl (op_callF Fa.C29 rfl ((cblock_ok c2 10 v2 ([4, 2]) mb2 cn28 gs28 ((1 : Nat) : Int) 0 4 (grantG 10 ([4, 2]) (grantG 10 ([4, 2]) (grantG 10 ([4, 2]) (grantG 10 ([4, 2]) (grantG 10 ([4, 2]) ([]) ((1 : Nat) : Int) 3 ([(Xt.mk 0 4)]) ([7]) false 2) ((2 : Nat) : Int) 0 ([]) ([7]) false 0) ((2 : Nat) : Int) 0 ([(Xt.mk 1 3)]) ([]) false 0) ((2 : Nat) : Int) 0 ([(Xt.mk 2 1)]) ([]) false 0) ((2 : Nat) : Int) 6 ([]) ([]) false 0) _ (H29.cellsAt (i := 1) rfl) (H29.arrO (i := 2) rfl) (H29.mp (i := 3) rfl) (H29.bsG (i := 4) rfl) (H29.dpO (i := 5) rfl) hi28.1).mono (fun e w30 hq => ?_)))
  obtain ⟨rfl, hf30⟩ := hq
  refine ⟨_, rfl, ?_⟩
  have H30 := H29.fr' hf30
  refine WL.yes rfl rfl rfl (by kernel_rfl) rfl (op_not rfl ?_)
  refine WL.op rfl rfl (op_pickT rfl (by kernel_rfl) rfl ?_)
  refine WL.op rfl rfl (op_move rfl ?_)
  refine WL.yes rfl rfl rfl (by kernel_rfl) rfl (op_move rfl ?_)
  refine WL.yes rfl rfl rfl (by kernel_rfl) rfl (op_callF Fa.C29 rfl ((cblock_ok c2 10 v2 ([4, 2]) mb2 cn28 gs28 ((1 : Nat) : Int) 1 0 (grantG 10 ([4, 2]) (grantG 10 ([4, 2]) (grantG 10 ([4, 2]) (grantG 10 ([4, 2]) (grantG 10 ([4, 2]) ([]) ((1 : Nat) : Int) 3 ([(Xt.mk 0 4)]) ([7]) false 2) ((2 : Nat) : Int) 0 ([]) ([7]) false 0) ((2 : Nat) : Int) 0 ([(Xt.mk 1 3)]) ([]) false 0) ((2 : Nat) : Int) 0 ([(Xt.mk 2 1)]) ([]) false 0) ((2 : Nat) : Int) 6 ([]) ([]) false 0) _ (H30.cellsAt (i := 1) rfl) (H30.arrO (i := 2) rfl) (H30.mp (i := 3) rfl) (H30.bsG (i := 4) rfl) (H30.dpO (i := 5) rfl) hi28.1).mono (fun e w31 hq => ?_)))
  obtain ⟨rfl, hf31⟩ := hq
  refine ⟨_, rfl, ?_⟩
  have H31 := H30.fr' hf31
  refine WL.yes rfl rfl rfl (by kernel_rfl) rfl (op_not rfl ?_)
  refine WL.op rfl rfl (op_pickT rfl (by kernel_rfl) rfl ?_)
  refine WL.op rfl rfl (op_move rfl ?_)
  refine WL.yes rfl rfl rfl (by kernel_rfl) rfl (op_move rfl ?_)
  refine WL.yes rfl rfl rfl (by kernel_rfl) rfl (op_callF Fa.C28 rfl ((port_ok c2 10 v2 ([4, 2]) mb2 cn28 gs28 ((1 : Nat) : Int) 7 (grantG 10 ([4, 2]) (grantG 10 ([4, 2]) (grantG 10 ([4, 2]) (grantG 10 ([4, 2]) (grantG 10 ([4, 2]) ([]) ((1 : Nat) : Int) 3 ([(Xt.mk 0 4)]) ([7]) false 2) ((2 : Nat) : Int) 0 ([]) ([7]) false 0) ((2 : Nat) : Int) 0 ([(Xt.mk 1 3)]) ([]) false 0) ((2 : Nat) : Int) 0 ([(Xt.mk 2 1)]) ([]) false 0) ((2 : Nat) : Int) 6 ([]) ([]) false 0) _ (H31.cellsAt (i := 1) rfl) (H31.arrO (i := 2) rfl) (H31.mp (i := 3) rfl) (H31.bsG (i := 4) rfl) (H31.dpO (i := 5) rfl) hi28.1).mono (fun e w32 hq => ?_)))
  obtain ⟨rfl, hf32⟩ := hq
  refine ⟨_, rfl, ?_⟩
  have H32 := H31.fr' hf32
  refine WL.op rfl rfl (op_pickT rfl (by kernel_rfl) rfl ?_)
  refine WL.op rfl rfl (op_move rfl ?_)
  refine WL.yes rfl rfl rfl (by kernel_rfl) rfl (op_move rfl ?_)
  refine WL.yes rfl rfl rfl (by kernel_rfl) rfl (op_callF Fa.C31 rfl ((console_ok c2 10 v2 ([4, 2]) mb2 cn28 gs28 ((1 : Nat) : Int) (grantG 10 ([4, 2]) (grantG 10 ([4, 2]) (grantG 10 ([4, 2]) (grantG 10 ([4, 2]) (grantG 10 ([4, 2]) ([]) ((1 : Nat) : Int) 3 ([(Xt.mk 0 4)]) ([7]) false 2) ((2 : Nat) : Int) 0 ([]) ([7]) false 0) ((2 : Nat) : Int) 0 ([(Xt.mk 1 3)]) ([]) false 0) ((2 : Nat) : Int) 0 ([(Xt.mk 2 1)]) ([]) false 0) ((2 : Nat) : Int) 6 ([]) ([]) false 0) _ (H32.cellsAt (i := 1) rfl) (H32.arrO (i := 2) rfl) (H32.mp (i := 3) rfl) (H32.bsG (i := 4) rfl) (H32.dpO (i := 5) rfl) hi28.1).mono (fun e w33 hq => ?_)))
  obtain ⟨rfl, hf33⟩ := hq
  refine ⟨_, rfl, ?_⟩
  have H33 := H32.fr' hf33
  refine WL.yes rfl rfl rfl (by kernel_rfl) rfl (op_not rfl ?_)
  refine WL.op rfl rfl (op_pickT rfl (by kernel_rfl) rfl ?_)
  refine WL.op rfl rfl (op_move rfl ?_)
  refine WL.yes rfl rfl rfl (by kernel_rfl) rfl (op_move rfl ?_)
  refine WL.yes rfl rfl rfl (by kernel_rfl) rfl (op_callF Fa.C22 rfl ((capT_ok c2 10 v2 ([4, 2]) mb2 cn28 gs28 ((1 : Nat) : Int) (grantG 10 ([4, 2]) (grantG 10 ([4, 2]) (grantG 10 ([4, 2]) (grantG 10 ([4, 2]) (grantG 10 ([4, 2]) ([]) ((1 : Nat) : Int) 3 ([(Xt.mk 0 4)]) ([7]) false 2) ((2 : Nat) : Int) 0 ([]) ([7]) false 0) ((2 : Nat) : Int) 0 ([(Xt.mk 1 3)]) ([]) false 0) ((2 : Nat) : Int) 0 ([(Xt.mk 2 1)]) ([]) false 0) ((2 : Nat) : Int) 6 ([]) ([]) false 0) _ _ (H33.part [1, 2, 3, 4, 5] rfl rfl) hi28.1).mono (fun e w34 hq => ?_)))
  obtain ⟨gs34, rfl, hi34, hq34⟩ := hq
  refine ⟨_, rfl, ?_⟩
  have H34 : Own [] w w34 [.row (.slice (some ⟨b1, 0, none⟩) 2 2) 29 1 2 (List.map vU32 [4, 2]), .blk c2 [(vU32 10), v2, (.map (some mb2))] 112, Ent.ar v2 1 ([4, 2]).length (List.map vU32 ([4, 2])), .obj mb2 (mP .i64 (List.map Gr.me gs34) cn28), Ent.bs 120 Gr.cells Gr.b gs34, Ent.dp grD.list gs34, Ent.ar (.slice (some ⟨b3, 0, none⟩) 1 1) 2 1 (List.map vU32 [0, 4]), Ent.ar (.slice (some ⟨b4, 0, none⟩) 1 1) 1 1 (List.map vU16 [7]), Ent.ar (.slice (some ⟨b9, 0, none⟩) 1 1) 1 1 (List.map vU16 [7]), Ent.ar (.slice none 0 0) 2 0 (List.flatMap xtc []), Ent.ar (.slice (some ⟨b14, 0, none⟩) 1 1) 2 1 (List.map vU32 [1, 3]), Ent.ar (.slice none 0 0) 1 0 (List.map vU16 []), Ent.ar (.slice (some ⟨b19, 0, none⟩) 1 1) 2 1 (List.map vU32 [2, 1]), Ent.ar (.slice none 0 0) 1 0 (List.map vU16 []), Ent.ar (.slice none 0 0) 2 0 (List.flatMap xtc []), Ent.ar (.slice none 0 0) 1 0 (List.map vU16 [])] := H33.splice [1, 2, 3, 4, 5] [.blk c2 [(vU32 10), v2, (.map (some mb2))] 112, Ent.ar v2 1 ([4, 2]).length (List.map vU32 ([4, 2])), .obj mb2 (mP .i64 (List.map Gr.me gs34) cn28), Ent.bs 120 Gr.cells Gr.b gs34, Ent.dp grD.list gs34] [] rfl rfl hq34 (Fits.solid True.intro (Fits.same (j := 1) rfl (Fits.solid True.intro (Fits.solid True.intro (Fits.dpTo 4 rfl hi34.2 Fits.nil)))))
  refine WL.yes rfl rfl rfl (by kernel_rfl) rfl (op_eqlN (b := 0) rfl rfl ?_)
  refine WL.op rfl rfl (op_pickT rfl (by kernel_rfl) rfl ?_)
  refine WL.op rfl rfl (op_move rfl ?_)
  refine WL.yes rfl rfl rfl (by kernel_rfl) rfl (op_move rfl ?_)
  refine WL.yes rfl rfl rfl (by kernel_rfl) rfl (op_callF Fa.C27 rfl ((left_ok c2 10 v2 ([4, 2]) mb2 cn28 gs34 ((1 : Nat) : Int) (takeG (grantG 10 ([4, 2]) (grantG 10 ([4, 2]) (grantG 10 ([4, 2]) (grantG 10 ([4, 2]) (grantG 10 ([4, 2]) ([]) ((1 : Nat) : Int) 3 ([(Xt.mk 0 4)]) ([7]) false 2) ((2 : Nat) : Int) 0 ([]) ([7]) false 0) ((2 : Nat) : Int) 0 ([(Xt.mk 1 3)]) ([]) false 0) ((2 : Nat) : Int) 0 ([(Xt.mk 2 1)]) ([]) false 0) ((2 : Nat) : Int) 6 ([]) ([]) false 0) ((1 : Nat) : Int)) _ (H34.cellsAt (i := 1) rfl) (H34.arrO (i := 2) rfl) (H34.mp (i := 3) rfl) (H34.bsG (i := 4) rfl) (H34.dpO (i := 5) rfl) hi34.1).mono (fun e w35 hq => ?_)))
  obtain ⟨rfl, hf35⟩ := hq
  refine ⟨_, rfl, ?_⟩
  have H35 := H34.fr' hf35
  refine WL.yes rfl rfl rfl (by kernel_rfl) rfl (op_eqlU32 (b := 2) rfl rfl ?_)
  refine WL.op rfl rfl (op_pickT rfl (by kernel_rfl) rfl ?_)
  refine WL.op rfl rfl (op_move rfl ?_)
  refine WL.yes rfl rfl rfl (by kernel_rfl) rfl (op_move rfl ?_)
  refine WL.yes rfl rfl rfl (by kernel_rfl) rfl (op_callF Fa.C21 rfl ((capR_ok c2 10 v2 ([4, 2]) mb2 cn28 gs34 ((1 : Nat) : Int) (takeG (grantG 10 ([4, 2]) (grantG 10 ([4, 2]) (grantG 10 ([4, 2]) (grantG 10 ([4, 2]) (grantG 10 ([4, 2]) ([]) ((1 : Nat) : Int) 3 ([(Xt.mk 0 4)]) ([7]) false 2) ((2 : Nat) : Int) 0 ([]) ([7]) false 0) ((2 : Nat) : Int) 0 ([(Xt.mk 1 3)]) ([]) false 0) ((2 : Nat) : Int) 0 ([(Xt.mk 2 1)]) ([]) false 0) ((2 : Nat) : Int) 6 ([]) ([]) false 0) ((1 : Nat) : Int)) _ _ (H35.part [1, 2, 3, 4, 5] rfl rfl) hi34.1).mono (fun e w36 hq => ?_)))
  obtain ⟨gs36, rfl, hi36, hq36⟩ := hq
  refine ⟨_, rfl, ?_⟩
  have H36 : Own [] w w36 [.row (.slice (some ⟨b1, 0, none⟩) 2 2) 29 1 2 (List.map vU32 [4, 2]), .blk c2 [(vU32 10), v2, (.map (some mb2))] 112, Ent.ar v2 1 ([4, 2]).length (List.map vU32 ([4, 2])), .obj mb2 (mP .i64 (List.map Gr.me gs36) cn28), Ent.bs 120 Gr.cells Gr.b gs36, Ent.dp grD.list gs36, Ent.ar (.slice (some ⟨b3, 0, none⟩) 1 1) 2 1 (List.map vU32 [0, 4]), Ent.ar (.slice (some ⟨b4, 0, none⟩) 1 1) 1 1 (List.map vU16 [7]), Ent.ar (.slice (some ⟨b9, 0, none⟩) 1 1) 1 1 (List.map vU16 [7]), Ent.ar (.slice none 0 0) 2 0 (List.flatMap xtc []), Ent.ar (.slice (some ⟨b14, 0, none⟩) 1 1) 2 1 (List.map vU32 [1, 3]), Ent.ar (.slice none 0 0) 1 0 (List.map vU16 []), Ent.ar (.slice (some ⟨b19, 0, none⟩) 1 1) 2 1 (List.map vU32 [2, 1]), Ent.ar (.slice none 0 0) 1 0 (List.map vU16 []), Ent.ar (.slice none 0 0) 2 0 (List.flatMap xtc []), Ent.ar (.slice none 0 0) 1 0 (List.map vU16 [])] := H35.splice [1, 2, 3, 4, 5] [.blk c2 [(vU32 10), v2, (.map (some mb2))] 112, Ent.ar v2 1 ([4, 2]).length (List.map vU32 ([4, 2])), .obj mb2 (mP .i64 (List.map Gr.me gs36) cn28), Ent.bs 120 Gr.cells Gr.b gs36, Ent.dp grD.list gs36] [] rfl rfl hq36 (Fits.solid True.intro (Fits.same (j := 1) rfl (Fits.solid True.intro (Fits.solid True.intro (Fits.dpTo 4 rfl hi36.2 Fits.nil)))))
  refine WL.yes rfl rfl rfl (by kernel_rfl) rfl (op_eqlN (b := 0) rfl rfl ?_)
  refine WL.op rfl rfl (op_pickT rfl (by kernel_rfl) rfl ?_)
  refine WL.op rfl rfl (op_move rfl ?_)
  refine WL.yes rfl rfl rfl (by kernel_rfl) rfl (op_move rfl ?_)
  refine WL.yes rfl rfl rfl (by kernel_rfl) rfl (op_callF Fa.C25 rfl ((freeL_ok c2 10 v2 ([4, 2]) mb2 cn28 gs36 (relG (takeG (grantG 10 ([4, 2]) (grantG 10 ([4, 2]) (grantG 10 ([4, 2]) (grantG 10 ([4, 2]) (grantG 10 ([4, 2]) ([]) ((1 : Nat) : Int) 3 ([(Xt.mk 0 4)]) ([7]) false 2) ((2 : Nat) : Int) 0 ([]) ([7]) false 0) ((2 : Nat) : Int) 0 ([(Xt.mk 1 3)]) ([]) false 0) ((2 : Nat) : Int) 0 ([(Xt.mk 2 1)]) ([]) false 0) ((2 : Nat) : Int) 6 ([]) ([]) false 0) ((1 : Nat) : Int)) ((1 : Nat) : Int)) _ (H36.cellsAt (i := 1) rfl) (H36.arrO (i := 2) rfl) (H36.mp (i := 3) rfl) (H36.bsG (i := 4) rfl) (H36.dpO (i := 5) rfl) hi36.1).mono (fun e w37 hq => ?_)))
  obtain ⟨rfl, hf37⟩ := hq
  refine ⟨_, rfl, ?_⟩
  have H37 := H36.fr' hf37
  refine WL.yes rfl rfl rfl (by kernel_rfl) rfl (op_eqlU32 (b := 10) rfl rfl ?_)
  refine WL.op rfl rfl (op_pickT rfl (by kernel_rfl) rfl ?_)
  refine WL.op rfl rfl (op_assign rfl ?_)
  refine WL.nil ?_
  refine WQ.next ?_
  refine WC.ret ?_
  refine WQ.out (.tmp rfl .nil) ?_
  exact ⟨by rw [((by kernel_rfl) : (decide ((freeS 10 (relG (takeG (grantG 10 ([4, 2]) (grantG 10 ([4, 2]) (grantG 10 ([4, 2]) (grantG 10 ([4, 2]) (grantG 10 ([4, 2]) ([]) ((1 : Nat) : Int) 3 ([(Xt.mk 0 4)]) ([7]) false 2) ((2 : Nat) : Int) 0 ([]) ([7]) false 0) ((2 : Nat) : Int) 0 ([(Xt.mk 1 3)]) ([]) false 0) ((2 : Nat) : Int) 0 ([(Xt.mk 2 1)]) ([]) false 0) ((2 : Nat) : Int) 6 ([]) ([]) false 0) ((1 : Nat) : Int)) ((1 : Nat) : Int))) = (10 : UInt32))) = true)]; rfl, H37.fr⟩
set_option maxRecDepth 100000 in
theorem clarge_ok (mp : UInt32) (ev pv : Value) (xs : List Xt) (ps : List UInt16) (con : Bool) (w : World) (hE : Arr w ev 2 xs.length (List.flatMap xtc xs)) (hP : Arr w pv 1 ps.length (List.map vU16 ps)) :
    Calls Try.prog 39 #[(.agg #[(vU32 mp), ev, pv, (.bool con)])] w (fun e w' => e = .returned (.bool (largeC xs ps)) ∧ Fr [] w w') := by
  refine enter (args := [(.agg #[(vU32 mp), ev, pv, (.bool con)])]) Try.func39 rfl rfl ?_
  have H0 : Own [] w w [] := Own.start w []
  refine WC.seq ?_
  refine WC.region ?_
  refine WL.op rfl rfl (op_box H0 rfl rfl (fun b1 w1 H1 => ?_))
  refine WL.op rfl rfl (op_assign rfl ?_)
  refine WL.nil ?_
  refine WQ.next ?_
  refine WC.seq ?_
  refine WC.region ?_
  refine WL.op rfl rfl (op_fieldAddr rfl Fa.F59_1 ?_)
  refine WL.op rfl rfl (op_load rfl (H1.cell (i := 0) rfl rfl) Try.underlying56 rfl ?_)
  refine WL.op rfl rfl (op_lenA Try.underlying56 rfl (H1.arr hE) ?_)
  refine WL.op rfl rfl (op_gtrN (b := 40) rfl rfl ?_)
  refine WL.op rfl rfl (op_move rfl ?_)
  refine WL.split (t := 7) rfl (fun (hb2 : (decide (xs.length > 40)) = true) => ?_) (fun (hb2 : (decide (xs.length > 40)) = false) => ?_)
  ·
    have hc2 := of_decide_eq_true hb2
    refine WL.no rfl rfl rfl hb2 rfl ?_
    refine WL.no rfl rfl rfl hb2 rfl ?_
    refine WL.no rfl rfl rfl hb2 rfl ?_
    refine WL.no rfl rfl rfl hb2 rfl ?_
    refine WL.op rfl rfl (op_pickT rfl hb2 rfl ?_)
    refine WL.op rfl rfl (op_assign rfl ?_)
    refine WL.nil ?_
    refine WQ.next ?_
    refine WC.ret ?_
    refine WQ.out (.tmp rfl .nil) ?_
    exact ⟨by (rw [largeC, hb2]) <;> rfl, H1.fr⟩
  ·
    have hc2 := of_decide_eq_false hb2
    refine WL.yes rfl rfl rfl hb2 rfl (op_fieldAddr rfl Fa.F59_2 ?_)
    refine WL.yes rfl rfl rfl hb2 rfl (op_load rfl (H1.cell (i := 0) rfl rfl) Try.underlying57 rfl ?_)
    refine WL.yes rfl rfl rfl hb2 rfl (op_lenA Try.underlying57 rfl (H1.arr hP) ?_)
    refine WL.yes rfl rfl rfl hb2 rfl (op_gtrN (b := 40) rfl rfl ?_)
    refine WL.op rfl rfl (op_pickF rfl hb2 rfl ?_)
    refine WL.op rfl rfl (op_assign rfl ?_)
    refine WL.nil ?_
    refine WQ.next ?_
    refine WC.ret ?_
    refine WQ.out (.tmp rfl .nil) ?_
    exact ⟨by (rw [largeC, hb2]) <;> rfl, H1.fr⟩
set_option maxHeartbeats 4000000 in
set_option maxRecDepth 100000 in
theorem capsNil_ok (d env : Int) (mp : UInt32) (ev pv : Value) (xs : List Xt) (ps : List UInt16) (con : Bool) (pages n : UInt32) (w : World) (hE : Arr w ev 2 xs.length (List.flatMap xtc xs)) (hP : Arr w pv 1 ps.length (List.map vU16 ps)) :
    Calls Try.prog 7 #[(.agg #[(vI d), (vI env), (vU32 mp), ev, pv, (.bool con), (vU32 pages)]), (vU32 n)] w (fun e w' => e = .returned (.bool true) ∧ Fr [] w w') := by
  refine enter (args := [(.agg #[(vI d), (vI env), (vU32 mp), ev, pv, (.bool con), (vU32 pages)]), (vU32 n)]) Try.func7 rfl rfl ?_
  have H0 : Own [] w w [] := Own.start w []
  refine WC.seq ?_
  refine WC.region ?_
  refine WL.op rfl rfl (op_box H0 rfl rfl (fun b1 w1 H1 => ?_))
  refine WL.op rfl rfl (op_assign rfl ?_)
  refine WL.nil ?_
  refine WQ.next ?_
  refine WC.seq ?_
  refine WC.seq ?_
  refine WC.region ?_
  refine WL.op rfl rfl (op_fieldAddr rfl Fa.F61_2 ?_)
  refine WL.op rfl rfl (op_loadS (vs := [_, _, _, _]) rfl (H1.cells (i := 0) rfl rfl) Try.underlying59 rfl Fa.I59 rfl ?_)
  refine WL.op rfl rfl (op_callF Fa.C39 rfl ((clarge_ok mp _ _ xs ps con _ (H1.arr hE) (H1.arr hP)).mono (fun e w2 hq => ?_)))
  obtain ⟨rfl, hf2⟩ := hq
  refine ⟨_, rfl, ?_⟩
  have H2 := H1.fr' hf2
  refine WL.nil ?_
  refine WQ.next ?_
  refine WC.cond rfl (fun (hb3 : (largeC xs ps) = true) => ?_) (fun (hb3 : (largeC xs ps) = false) => ?_)
  ·
    refine WC.seq ?_
    refine WC.region ?_
    refine WL.op rfl rfl (op_callF Fa.C17 rfl ((calive_ok _).mono (fun e w4 hq => ?_)))
    obtain ⟨rfl, hf4⟩ := hq
    refine ⟨_, rfl, ?_⟩
    have H4 := H2.fr' hf4
    refine WL.op rfl rfl (op_assign rfl ?_)
    refine WL.nil ?_
    refine WQ.next ?_
    refine WC.ret ?_
    refine WQ.thenRet ?_
    refine WQ.out (.tmp rfl .nil) ?_
    exact ⟨rfl, H4.fr⟩
  ·
    refine WC.skip ?_
    refine WQ.next ?_
    refine WC.seq ?_
    refine WC.region ?_
    refine WL.op rfl rfl (op_assign rfl ?_)
    refine WL.nil ?_
    refine WQ.next ?_
    refine WC.seq ?_
    refine WC.region ?_
    refine WL.op rfl rfl (op_move rfl ?_)
    refine WL.op rfl rfl (op_fieldAddr rfl Fa.F61_1 ?_)
    refine WL.op rfl rfl (op_load rfl (H2.cell (i := 0) rfl rfl) Try.underlying3 rfl ?_)
    refine WL.op rfl rfl (op_callF Fa.C26 rfl ((manifest_nil env _).mono (fun e w5 hq => ?_)))
    obtain ⟨v5, u5, rfl, hq5⟩ := hq
    refine ⟨_, rfl, ?_⟩
    have H5 : Own [] w w5 [.blk b1 [(vI d), (vI env), (vU32 mp), ev, pv, (.bool con), (vU32 pages)] 61, .row v5 108 2 0 (List.flatMap xtc []), .row u5 50 1 0 (List.map vU16 [])] := H2.splice [] [] [.row v5 108 2 0 (List.flatMap xtc []), .row u5 50 1 0 (List.map vU16 [])] rfl rfl hq5 (Fits.solid True.intro (Fits.solid True.intro Fits.nil))
    refine WL.op rfl rfl (op_move rfl ?_)
    refine WL.op rfl rfl (op_extract rfl rfl ?_)
    refine WL.op rfl rfl (op_extract rfl rfl ?_)
    refine WL.op rfl rfl (op_alloc H5 Fa.I59 (fun b6 w6 H6 => ?_))
    refine WL.op rfl rfl (op_storeBW (i := 3) H6 rfl rfl rfl rfl (one_cons rfl (one_cons (Arr.one (H6.arrR (i := 1) rfl)) (one_cons (Arr.one (H6.arrR (i := 2) rfl)) (one_cons rfl one_nil)))) Fa.I59 (fun w7 H7 => ?_))
    refine WL.op rfl rfl (op_assign rfl ?_)
    refine WL.nil ?_
    refine WQ.next ?_
    refine WC.seq ?_
    first | refine WC.regionA ?_ | refine WC.regionL ?_
    refine WL.op rfl rfl (op_move rfl ?_)
    refine WL.op rfl rfl (op_fieldAddr rfl Fa.F61_1 ?_)
    refine WL.op rfl rfl (op_load rfl (H7.cell (i := 0) rfl rfl) Try.underlying3 rfl ?_)
    refine WL.op rfl rfl (op_fieldAddr rfl Fa.F61_2 ?_)
    refine WL.op rfl rfl (op_loadS (vs := [_, _, _, _]) rfl (H7.cells (i := 0) rfl rfl) Try.underlying59 rfl Fa.I59 rfl ?_)
    refine WL.op rfl rfl (op_fieldAddr rfl Fa.F61_3 ?_)
    refine WL.op rfl rfl (op_load rfl (H7.cell (i := 0) rfl rfl) Try.underlying29 rfl ?_)
    refine WL.op rfl rfl (op_callF Fa.C19 rfl ((grant_nil env mp _ _ xs ps con pages _ (H7.arr hE) (H7.arr hP)).mono (fun e w8 hq => ?_)))
    obtain ⟨rfl, hf8⟩ := hq
    refine ⟨_, rfl, ?_⟩
    have H8 := H7.fr' hf8
    refine WL.op rfl rfl (op_eqlN (b := 1) rfl rfl ?_)
    refine WL.op rfl rfl (op_move rfl ?_)
    refine WL.yes rfl rfl rfl (by decide) rfl (op_move rfl ?_)
    refine WL.yes rfl rfl rfl (by decide) rfl (op_fieldAddr rfl Fa.F61_1 ?_)
    refine WL.yes rfl rfl rfl (by decide) rfl (op_load rfl (H8.cell (i := 0) rfl rfl) Try.underlying3 rfl ?_)
    refine WL.yes rfl rfl rfl (by decide) rfl (op_callF Fa.C21 rfl ((release_nil env _).mono (fun e w9 hq => ?_)))
    obtain ⟨rfl, hf9⟩ := hq
    refine ⟨_, rfl, ?_⟩
    have H9 := H8.fr' hf9
    refine WL.yes rfl rfl rfl (by decide) rfl (op_eqlN (b := 1) rfl rfl ?_)
    refine WL.op rfl rfl (op_pickT rfl (by decide) rfl ?_)
    refine WL.op rfl rfl (op_move rfl ?_)
    refine WL.yes rfl rfl rfl (by decide) rfl (op_move rfl ?_)
    refine WL.yes rfl rfl rfl (by decide) rfl (op_not rfl ?_)
    refine WL.op rfl rfl (op_pickT rfl (by decide) rfl ?_)
    refine WL.op rfl rfl (op_move rfl ?_)
    refine WL.yes rfl rfl rfl (congrArg Bool.not rfl) rfl (op_move rfl ?_)
    refine WL.yes rfl rfl rfl (congrArg Bool.not rfl) rfl (op_fieldAddr rfl Fa.F61_1 ?_)
    refine WL.yes rfl rfl rfl (congrArg Bool.not rfl) rfl (op_load rfl (H9.cell (i := 0) rfl rfl) Try.underlying3 rfl ?_)
    refine WL.yes rfl rfl rfl (congrArg Bool.not rfl) rfl (op_move rfl ?_)
    refine WL.yes rfl rfl rfl (congrArg Bool.not rfl) rfl (op_move rfl ?_)
    refine WL.yes rfl rfl rfl (congrArg Bool.not rfl) rfl (op_callF Fa.C29 rfl ((block_nil env n n _).mono (fun e w10 hq => ?_)))
    obtain ⟨rfl, hf10⟩ := hq
    refine ⟨_, rfl, ?_⟩
    have H10 := H9.fr' hf10
    refine WL.yes rfl rfl rfl (congrArg Bool.not rfl) rfl (op_not rfl ?_)
    refine WL.op rfl rfl (op_pickT rfl (congrArg Bool.not rfl) rfl ?_)
    refine WL.op rfl rfl (op_move rfl ?_)
    refine WL.yes rfl rfl rfl (congrArg Bool.not rfl) rfl (op_move rfl ?_)
    refine WL.yes rfl rfl rfl (congrArg Bool.not rfl) rfl (op_fieldAddr rfl Fa.F61_1 ?_)
    refine WL.yes rfl rfl rfl (congrArg Bool.not rfl) rfl (op_load rfl (H10.cell (i := 0) rfl rfl) Try.underlying3 rfl ?_)
    refine WL.yes rfl rfl rfl (congrArg Bool.not rfl) rfl (op_move rfl ?_)
    refine WL.yes rfl rfl rfl (congrArg Bool.not rfl) rfl (op_remU32 (b := 65536) rfl rfl (by decide) ?_)
    refine WL.yes rfl rfl rfl (congrArg Bool.not rfl) rfl (op_convU32U16 (hs := Try.underlying29) (hd := Try.underlying50) rfl ?_)
    refine WL.yes rfl rfl rfl (congrArg Bool.not rfl) rfl (op_callF Fa.C28 rfl ((port_nil env (UInt16.ofNat (n % (65536 : UInt32)).toNat) _).mono (fun e w11 hq => ?_)))
    obtain ⟨rfl, hf11⟩ := hq
    refine ⟨_, rfl, ?_⟩
    have H11 := H10.fr' hf11
    refine WL.yes rfl rfl rfl (congrArg Bool.not rfl) rfl (op_not rfl ?_)
    refine WL.op rfl rfl (op_pickT rfl (congrArg Bool.not rfl) rfl ?_)
    refine WL.op rfl rfl (op_move rfl ?_)
    refine WL.yes rfl rfl rfl (congrArg Bool.not rfl) rfl (op_move rfl ?_)
    refine WL.yes rfl rfl rfl (congrArg Bool.not rfl) rfl (op_fieldAddr rfl Fa.F61_1 ?_)
    refine WL.yes rfl rfl rfl (congrArg Bool.not rfl) rfl (op_load rfl (H11.cell (i := 0) rfl rfl) Try.underlying3 rfl ?_)
    refine WL.yes rfl rfl rfl (congrArg Bool.not rfl) rfl (op_callF Fa.C31 rfl ((console_nil env _).mono (fun e w12 hq => ?_)))
    obtain ⟨rfl, hf12⟩ := hq
    refine ⟨_, rfl, ?_⟩
    have H12 := H11.fr' hf12
    refine WL.yes rfl rfl rfl (congrArg Bool.not rfl) rfl (op_not rfl ?_)
    refine WL.op rfl rfl (op_pickT rfl (congrArg Bool.not rfl) rfl ?_)
    refine WL.op rfl rfl (op_move rfl ?_)
    refine WL.yes rfl rfl rfl (congrArg Bool.not rfl) rfl (op_move rfl ?_)
    refine WL.yes rfl rfl rfl (congrArg Bool.not rfl) rfl (op_fieldAddr rfl Fa.F61_1 ?_)
    refine WL.yes rfl rfl rfl (congrArg Bool.not rfl) rfl (op_load rfl (H12.cell (i := 0) rfl rfl) Try.underlying3 rfl ?_)
    refine WL.yes rfl rfl rfl (congrArg Bool.not rfl) rfl (op_callF Fa.C22 rfl ((take_nil env _).mono (fun e w13 hq => ?_)))
    obtain ⟨rfl, hf13⟩ := hq
    refine ⟨_, rfl, ?_⟩
    have H13 := H12.fr' hf13
    refine WL.yes rfl rfl rfl (congrArg Bool.not rfl) rfl (op_eqlN (b := 1) rfl rfl ?_)
    refine WL.op rfl rfl (op_pickT rfl (congrArg Bool.not rfl) rfl ?_)
    refine WL.op rfl rfl (op_move rfl ?_)
    refine WL.yes rfl rfl rfl (by decide) rfl (op_move rfl ?_)
    refine WL.yes rfl rfl rfl (by decide) rfl (op_fieldAddr rfl Fa.F61_1 ?_)
    refine WL.yes rfl rfl rfl (by decide) rfl (op_load rfl (H13.cell (i := 0) rfl rfl) Try.underlying3 rfl ?_)
    refine WL.yes rfl rfl rfl (by decide) rfl (op_callF Fa.C23 rfl ((give_nil env _).mono (fun e w14 hq => ?_)))
    obtain ⟨rfl, hf14⟩ := hq
    refine ⟨_, rfl, ?_⟩
    have H14 := H13.fr' hf14
    refine WL.yes rfl rfl rfl (by decide) rfl (op_eqlN (b := 1) rfl rfl ?_)
    refine WL.op rfl rfl (op_pickT rfl (by decide) rfl ?_)
    refine WL.op rfl rfl (op_move rfl ?_)
    refine WL.yes rfl rfl rfl (by decide) rfl (op_move rfl ?_)
    refine WL.yes rfl rfl rfl (by decide) rfl (op_fieldAddr rfl Fa.F61_1 ?_)
    refine WL.yes rfl rfl rfl (by decide) rfl (op_load rfl (H14.cell (i := 0) rfl rfl) Try.underlying3 rfl ?_)
    refine WL.yes rfl rfl rfl (by decide) rfl (op_callF Fa.C27 rfl ((left_nil env _).mono (fun e w15 hq => ?_)))
    obtain ⟨rfl, hf15⟩ := hq
    refine ⟨_, rfl, ?_⟩
    have H15 := H14.fr' hf15
    refine WL.yes rfl rfl rfl (by decide) rfl (op_eqlU32 (a := 0) (b := 0) rfl rfl ?_)
    refine WL.op rfl rfl (op_pickT rfl (by decide) rfl ?_)
    refine WL.op rfl rfl (op_move rfl ?_)
    refine WL.yes rfl rfl rfl (by kernel_rfl) rfl (op_move rfl ?_)
    refine WL.yes rfl rfl rfl (by kernel_rfl) rfl (op_callF Fa.C25 rfl ((free_nil _).mono (fun e w16 hq => ?_)))
    obtain ⟨rfl, hf16⟩ := hq
    refine ⟨_, rfl, ?_⟩
    have H16 := H15.fr' hf16
    refine WL.yes rfl rfl rfl (by kernel_rfl) rfl (op_eqlU32 (a := 0) (b := 0) rfl rfl ?_)
    refine WL.op rfl rfl (op_pickT rfl (by kernel_rfl) rfl ?_)
    refine WL.op rfl rfl (op_move rfl ?_)
    refine WL.yes rfl rfl rfl (by kernel_rfl) rfl (op_move rfl ?_)
    refine WL.yes rfl rfl rfl (by kernel_rfl) rfl (op_callF Fa.C24 rfl ((envs_nil _).mono (fun e w17 hq => ?_)))
    obtain ⟨rfl, hf17⟩ := hq
    refine ⟨_, rfl, ?_⟩
    have H17 := H16.fr' hf17
    refine WL.yes rfl rfl rfl (by kernel_rfl) rfl (op_lenA Try.underlying64 rfl (Arr.nil _ 1) ?_)
    refine WL.yes rfl rfl rfl (by kernel_rfl) rfl (op_eqlN (b := 0) rfl rfl ?_)
    refine WL.op rfl rfl (op_pickT rfl (by kernel_rfl) rfl ?_)
    refine WL.op rfl rfl (op_move rfl ?_)
    refine WL.yes rfl rfl rfl (by decide) rfl (op_move rfl ?_)
    refine WL.yes rfl rfl rfl (by decide) rfl (op_callF Fa.C35 rfl ((copy_nil _).mono (fun e w18 hq => ?_)))
    obtain ⟨rfl, hf18⟩ := hq
    refine ⟨_, rfl, ?_⟩
    have H18 := H17.fr' hf18
    refine WL.yes rfl rfl rfl (by decide) rfl (op_eqlPN Fa.PT52 rfl rfl ?_)
    refine WL.op rfl rfl (op_pickT rfl (by decide) rfl ?_)
    refine WL.op rfl rfl (op_move rfl ?_)
    refine WL.yes rfl rfl rfl rfl rfl (op_callF Fa.C17 rfl ((calive_ok _).mono (fun e w19 hq => ?_)))
    obtain ⟨rfl, hf19⟩ := hq
    refine ⟨_, rfl, ?_⟩
    have H19 := H18.fr' hf19
    refine WL.op rfl rfl (op_pickT rfl rfl rfl ?_)
    refine WL.op rfl rfl (op_assign rfl ?_)
    refine WL.nil ?_
    refine WQ.next ?_
    refine WC.ret ?_
    refine WQ.out (.tmp rfl .nil) ?_
    exact ⟨rfl, H19.fr⟩
end Go.Proofs.Ytbjhccnffacbcaa
