/- General lemmas and walks: WExo2, WExo3, WExo4, WExo5, WExo6, WLda, WLda2, WLoad, WLoad2, WLoad3. No condition but what each theorem names. -/
import Derived.Test.YtbjhccnffacbcaaGreatQ9230fe84
import Derived.Test.YtbjhccnffacbcaaGreatQ0b41aed8
import Derived.Test.YtbjhccnffacbcaaGreatQcb9860f8
import Derived.Test.YtbjhccnffacbcaaGreatQ2aadc3ab
import Derived.Test.YtbjhccnffacbcaaGreatQ0bae0ea3
set_option maxRecDepth 100000
set_option maxHeartbeats 8000000
namespace Go.Proofs.YtbjhccnffacbcaaGreat
open Go.Owl Go.Spec
theorem xkern_ok (x k:Nat) (sl:List Slt) (w:World) (hX:cellsAt w x (xoC k sl))  :
  Calls Tryz.prog 58 #[(ptr x 0)] w (fun e w'=>e=.returned (ptr k 0)∧Fr [] w w'):=by
 refine enter (args:=[(ptr x 0)]) Tryz.func58 rfl rfl ?_
 have H0:Owl.Own [] w w [Ent.bo x (xoC k sl)]:=((Own.start w []).oldB hX)
 exact ws<|wa rfl<|wn<|WC.seq<|ws<|wm rfl<|wo (op_eqlPN Fa.PT47 rfl rfl<|wn<|WC.no rfl rfl<|WC.skip<|WQ.next<|ws<|wm rfl<|wo (op_nilCheck rfl<|wo (op_fieldAddr rfl Fa.F146_0<|wo (op_load rfl (H0.cellO (i:=0) rfl rfl) Tryz.underlying111 rfl<|wa rfl<|wn<|WC.ret<|WQ.out (.tmp rfl .nil) (⟨rfl,H0.fr⟩)))))
theorem kcaps_ok (k:Nat) (pk:UInt32) (hx:Value) (c:Nat) (nv bv:Value) (w:World) (hK:cellsAt w k [(vU32 pk),hx,(ptr c 0),nv,bv,(vU32 0)]) :
  Calls Tryz.prog 59 #[(ptr k 0)] w (fun e w'=>e=.returned (ptr c 0)∧Fr [] w w'):=by
 refine enter (args:=[(ptr k 0)]) Tryz.func59 rfl rfl ?_
 have H0:Owl.Own [] w w [Ent.bo k [(vU32 pk),hx,(ptr c 0),nv,bv,(vU32 0)]]:=((Own.start w []).oldB hK)
 exact ws<|wa rfl<|wn<|WC.seq<|ws<|wm rfl<|wo (op_eqlPN Fa.PT111 rfl rfl<|wn<|WC.no rfl rfl<|WC.skip<|WQ.next<|ws<|wm rfl<|wo (op_nilCheck rfl<|wo (op_fieldAddr rfl Fa.F193_1<|wo (op_load rfl (H0.cellO (i:=0) rfl rfl) Tryz.underlying110 rfl<|wa rfl<|wn<|WC.ret<|WQ.out (.tmp rfl .nil) (⟨rfl,H0.fr⟩)))))
theorem xhas_ok (x k:Nat) (sl:List Slt) (i:Nat) (w:World) (hX:cellsAt w x (xoC k sl)) (h9:sl.length=9) :
  Calls Tryz.prog 104 #[(ptr x 0),(vN i)] w (fun e w'=>e=.returned (.bool (hasS sl i))∧Fr [] w w'):=by
 refine enter (args:=[(ptr x 0),(vN i)]) Tryz.func104 rfl rfl ?_
 have H0:Owl.Own [] w w [Ent.bo x (xoC k sl)]:=((Own.start w []).oldB hX)
 refine ws<|wa rfl<|wn<|ws<|wm rfl<|wo (op_neqPN Fa.PT47 rfl rfl<|wm rfl<|wY rfl (op_move rfl<|wY rfl (op_geqN (b:=1) rfl rfl<|wo (op_pickT rfl rfl rfl<|wm rfl (wV 11 (decide (i≥1)) (fun hb1=>?_) (fun hb1=>?_))))))
 ·
  have hc1:=dT hb1
  refine wY hb1 (op_move rfl<|wY hb1 (op_lssN (b:=9) rfl rfl<|wo (op_pickT rfl hb1 rfl<|wm rfl (wV 15 (decide (i<9)) (fun hb2=>?_) (fun hb2=>?_)))))
  ·
   have hc2:=dT hb2
   exact wY hb2 (op_move rfl<|wY hb2 (op_move rfl<|wY hb2 (op_nilCheck rfl<|wY hb2 (op_fieldAddr rfl Fa.F146_1<|wY hb2 (op_indexAddrA Tryz.underlying143 Fa.I142 rfl rfl (by omega)<|wY hb2 (op_fieldAddr rfl Fa.F142_0<|wY hb2 (op_load rfl (H0.cellO (i:=0) rfl (xo_get h9 (dT hb2) (by decide) rfl)) Tryz.underlying4 rfl<|wo (op_pickT rfl hb2 rfl<|wa rfl<|wn<|WC.ret<|WQ.out (.tmp rfl .nil) (⟨by rw [hasS,hb1,hb2]; rfl,H0.fr⟩)))))))))
  ·
   have hc2:=dF hb2
   exact wN hb2<|wN hb2<|wN hb2<|wN hb2<|wN hb2<|wN hb2<|wN hb2<|wo (op_pickF rfl hb2 rfl<|wa rfl<|wn<|WC.ret<|WQ.out (.tmp rfl .nil) (⟨by rw [hasS,hb1,hb2]; rfl,H0.fr⟩))
 ·
  have hc1:=dF hb1
  exact wN hb1<|wN hb1<|wo (op_pickF rfl hb1 rfl<|wm rfl<|wN rfl<|wN rfl<|wN rfl<|wN rfl<|wN rfl<|wN rfl<|wN rfl<|wo (op_pickF rfl rfl rfl<|wa rfl<|wn<|WC.ret<|WQ.out (.tmp rfl .nil) (⟨by rw [hasS,hb1]; rfl,H0.fr⟩)))
theorem xof_ok (x k:Nat) (sl:List Slt) (i:Nat) (a:Ev) (w:World) (hX:cellsAt w x (xoC k sl)) (hE:cellsAt w a.e [(ptr a.s 0),(.slice none 0 0),(ptr a.c 0),(vN a.num),(vU8 2),(vU32 0),(vN 0),(str [])]) (h9:sl.length=9) (hs:hasS sl i=true) (ha:(sl.getD i Slt.zero).ev=some a) :
  Calls Tryz.prog 93 #[(ptr x 0),(vN i)] w (fun e w'=>e=.returned (ptr a.e 0)∧Fr [] w w'):=by
 refine enter (args:=[(ptr x 0),(vN i)]) Tryz.func93 rfl rfl ?_
 have H0:Owl.Own [] w w [Ent.bo x (xoC k sl),Ent.bo a.e [(ptr a.s 0),(.slice none 0 0),(ptr a.c 0),(vN a.num),(vU8 2),(vU32 0),(vN 0),(str [])]]:=(((Own.start w []).oldB hX).oldB hE)
 have hs9:=hasS_lt hs
 refine ws<|wa rfl<|wn<|WC.seq<|ws<|wm rfl<|wm rfl<|wo (op_callF Fa.C104 rfl ((xhas_ok x k sl i _ (H0.cellsAtO (i:=0) rfl) h9).mono (fun e w1 hq=>?_)))
 obtain ⟨rfl,hf1⟩:=hq
 refine ⟨_,rfl,?_⟩
 have H1:=H0.fr' hf1
 exact wo (op_not rfl<|wn<|WC.no rfl (by rw [hs]; rfl)<|WC.skip<|WQ.next<|ws<|wm rfl<|wm rfl<|wo (op_nilCheck rfl<|wo (op_fieldAddr rfl Fa.F146_1<|wo (op_indexAddrA Tryz.underlying143 Fa.I142 rfl rfl hs9.2.1<|wo (op_fieldAddr rfl Fa.F142_2<|wo (op_load rfl (H1.cellO (i:=0) rfl (xo_get (j:=2) h9 hs9.2.1 (by decide) (by rw [sltc,ha]; rfl))) Tryz.underlying140 rfl<|wa rfl<|wn<|WC.ret<|WQ.out (.tmp rfl .nil) (⟨rfl,H1.fr⟩)))))))
theorem evstate_ok (a:Ev) (w:World) (hE:cellsAt w a.e [(ptr a.s 0),(.slice none 0 0),(ptr a.c 0),(vN a.num),(vU8 2),(vU32 0),(vN 0),(str [])]) :
  Calls Tryz.prog 121 #[(ptr a.e 0)] w (fun e w'=>e=.returned (.agg #[vU8 2,vU32 0,vN 0])∧Fr [] w w'):=by
 refine enter (args:=[(ptr a.e 0)]) Tryz.func121 rfl rfl ?_
 have H0:Owl.Own [] w w [Ent.bo a.e [(ptr a.s 0),(.slice none 0 0),(ptr a.c 0),(vN a.num),(vU8 2),(vU32 0),(vN 0),(str [])]]:=((Own.start w []).oldB hE)
 exact ws<|wo (op_alloc H0 Fa.I120 (fun b1 w1 H1=>(wn<|WC.seq<|ws<|wm rfl<|wo (op_eqlPN Fa.PT140 rfl rfl<|wn<|WC.no rfl rfl<|WC.skip<|WQ.next<|ws<|wm rfl<|wo (op_nilCheck rfl<|wo (op_fieldAddr rfl Fa.F236_3<|wo (op_loadS (vs:=[_,_,_]) rfl (H1.cellsO (i:=0) rfl rfl) Tryz.underlying120 rfl Fa.I120 rfl<|wo (op_storeBW (i:=1) H1 rfl rfl rfl rfl rfl Fa.I120 (fun w2 H2=>(wn<|WC.ret<|WQ.out (.cell rfl (run_loadVarS (vs:=[_,_,_]) (H2.cells (i:=1) rfl rfl) Tryz.underlying120 rfl Fa.I120 rfl) .nil) (⟨rfl,H2.fr⟩)))))))))))
theorem xstate_ok (x k:Nat) (sl:List Slt) (i:Nat) (a:Ev) (w:World) (hX:cellsAt w x (xoC k sl)) (hE:cellsAt w a.e [(ptr a.s 0),(.slice none 0 0),(ptr a.c 0),(vN a.num),(vU8 2),(vU32 0),(vN 0),(str [])]) (h9:sl.length=9) (hs:hasS sl i=true) (ha:(sl.getD i Slt.zero).ev=some a) :
  Calls Tryz.prog 72 #[(ptr x 0),(vN i)] w (fun e w'=>e=.returned (.agg #[vU8 2,vU32 0,vN 0])∧Fr [] w w'):=by
 refine enter (args:=[(ptr x 0),(vN i)]) Tryz.func72 rfl rfl ?_
 have H0:Owl.Own [] w w [Ent.bo x (xoC k sl),Ent.bo a.e [(ptr a.s 0),(.slice none 0 0),(ptr a.c 0),(vN a.num),(vU8 2),(vU32 0),(vN 0),(str [])]]:=(((Own.start w []).oldB hX).oldB hE)
 have hs9:=hasS_lt hs
 refine ws<|wo (op_alloc H0 Fa.I120 (fun b1 w1 H1=>(wn<|WC.seq<|WC.block<|ws<|wm rfl<|wm rfl<|wo (op_callF Fa.C104 rfl ((xhas_ok x k sl i _ (H1.cellsAtO (i:=0) rfl) h9).mono (fun e w2 hq=>?_))))))
 obtain ⟨rfl,hf2⟩:=hq
 refine ⟨_,rfl,?_⟩
 have H2:=H1.fr' hf2
 refine wo (op_not rfl<|wa rfl<|wn<|WC.no rfl (by rw [hs]; rfl)<|ws<|wm rfl<|wm rfl<|wo (op_nilCheck rfl<|wo (op_fieldAddr rfl Fa.F146_1<|wo (op_indexAddrA Tryz.underlying143 Fa.I142 rfl rfl hs9.2.1<|wo (op_fieldAddr rfl Fa.F142_2<|wo (op_load rfl (H2.cellO (i:=0) rfl (xo_get (j:=2) h9 hs9.2.1 (by decide) (by rw [sltc,ha]; rfl))) Tryz.underlying140 rfl<|wo (op_eqlPN Fa.PT140 rfl rfl<|wa rfl<|wn<|WC.no rfl rfl<|WC.skip<|WQ.inNormal<|WQ.next<|ws<|wm rfl<|wm rfl<|wo (op_nilCheck rfl<|wo (op_fieldAddr rfl Fa.F146_1<|wo (op_indexAddrA Tryz.underlying143 Fa.I142 rfl rfl hs9.2.1<|wo (op_fieldAddr rfl Fa.F142_2<|wo (op_load rfl (H2.cellO (i:=0) rfl (xo_get (j:=2) h9 hs9.2.1 (by decide) (by rw [sltc,ha]; rfl))) Tryz.underlying140 rfl<|wo (op_callF Fa.C121 rfl ((evstate_ok a _ (H2.cellsAtO (i:=1) rfl)).mono (fun e w3 hq=>?_)))))))))))))))
 obtain ⟨rfl,hf3⟩:=hq
 refine ⟨_,rfl,?_⟩
 have H3:=H2.fr' hf3
 exact wo (op_storeBW (i:=2) H3 rfl rfl rfl rfl rfl Fa.I120 (fun w4 H4=>(wn<|WC.ret<|WQ.out (.cell rfl (run_loadVarS (vs:=[_,_,_]) (H4.cells (i:=2) rfl rfl) Tryz.underlying120 rfl Fa.I120 rfl) .nil) (⟨rfl,H4.fr⟩))))
theorem evspace_ok (a:Ev) (w:World) (hE:cellsAt w a.e [(ptr a.s 0),(.slice none 0 0),(ptr a.c 0),(vN a.num),(vU8 2),(vU32 0),(vN 0),(str [])]) :
  Calls Tryz.prog 94 #[(ptr a.e 0)] w (fun e w'=>e=.returned (ptr a.s 0)∧Fr [] w w'):=by
 refine enter (args:=[(ptr a.e 0)]) Tryz.func94 rfl rfl ?_
 have H0:Owl.Own [] w w [Ent.bo a.e [(ptr a.s 0),(.slice none 0 0),(ptr a.c 0),(vN a.num),(vU8 2),(vU32 0),(vN 0),(str [])]]:=((Own.start w []).oldB hE)
 exact ws<|wa rfl<|wn<|WC.seq<|ws<|wm rfl<|wo (op_eqlPN Fa.PT140 rfl rfl<|wn<|WC.no rfl rfl<|WC.skip<|WQ.next<|ws<|wm rfl<|wo (op_nilCheck rfl<|wo (op_fieldAddr rfl Fa.F236_0<|wo (op_fieldAddr rfl Fa.F234_0<|wo (op_load rfl (H0.cellO (i:=0) rfl rfl) Tryz.underlying68 rfl<|wa rfl<|wn<|WC.ret<|WQ.out (.tmp rfl .nil) (⟨rfl,H0.fr⟩))))))
theorem xspace_ok (x k:Nat) (sl:List Slt) (i:Nat) (a:Ev) (w:World) (hX:cellsAt w x (xoC k sl)) (hE:cellsAt w a.e [(ptr a.s 0),(.slice none 0 0),(ptr a.c 0),(vN a.num),(vU8 2),(vU32 0),(vN 0),(str [])]) (h9:sl.length=9) (hs:hasS sl i=true) (ha:(sl.getD i Slt.zero).ev=some a) :
  Calls Tryz.prog 42 #[(ptr x 0),(vN i)] w (fun e w'=>e=.returned (ptr a.s 0)∧Fr [] w w'):=by
 refine enter (args:=[(ptr x 0),(vN i)]) Tryz.func42 rfl rfl ?_
 have H0:Owl.Own [] w w [Ent.bo x (xoC k sl),Ent.bo a.e [(ptr a.s 0),(.slice none 0 0),(ptr a.c 0),(vN a.num),(vU8 2),(vU32 0),(vN 0),(str [])]]:=(((Own.start w []).oldB hX).oldB hE)
 have hs9:=hasS_lt hs
 refine ws<|wa rfl<|wn<|ws<|wm rfl<|wm rfl<|wo (op_callF Fa.C93 rfl ((xof_ok x k sl i a _ (H0.cellsAtO (i:=0) rfl) (H0.cellsAtO (i:=1) rfl) h9 hs ha).mono (fun e w1 hq=>?_)))
 obtain ⟨rfl,hf1⟩:=hq
 refine ⟨_,rfl,?_⟩
 have H1:=H0.fr' hf1
 refine wo (op_callF Fa.C94 rfl ((evspace_ok a _ (H1.cellsAtO (i:=1) rfl)).mono (fun e w2 hq=>?_)))
 obtain ⟨rfl,hf2⟩:=hq
 refine ⟨_,rfl,?_⟩
 have H2:=H1.fr' hf2
 exact wa rfl<|wn<|WC.ret<|WQ.out (.tmp rfl .nil) (⟨rfl,H2.fr⟩)
theorem xfree_ok (x k:Nat) (pk:UInt32) (hx nv bv:Value) (c:Nat) (pg:UInt32) (hv:Value) (he:List UInt32) (mb cn:Nat) (gs:List Gr) (sl:List Slt) (l:List Gr) (w:World) (hX:cellsAt w x (xoC k sl)) (hK:cellsAt w k [(vU32 pk),hx,(ptr c 0),nv,bv,(vU32 0)]) (hC:cellsAt w c [(vU32 pg),hv,(.map (some mb))]) (hH:Arr w hv 1 he.length (List.map vU32 he)) (hM:w.heap[mb]?=some (mP .i64 (List.map Gr.me gs) cn)) (hG:BsOK 199 Gr.cells Gr.b gs w) (hS:grD.list.ok w gs) (hD:(sltD 211).list.ok w sl) (hR:CapR gs cn l) :
  Calls Tryz.prog 22 #[(ptr x 0)] w (fun e w'=>e=.returned (vU32 (freeS pg l))∧Fr [] w w'):=by
 refine enter (args:=[(ptr x 0)]) Tryz.func22 rfl rfl ?_
 have H0:Owl.Own [] w w [Ent.bo x (xoC k sl),Ent.bo k [(vU32 pk),hx,(ptr c 0),nv,bv,(vU32 0)],Ent.bo c [(vU32 pg),hv,(.map (some mb))],Ent.ar hv 1 he.length (List.map vU32 he),Ent.mo .i64 mb (List.map Gr.me gs) cn,Ent.bsO 199 Gr.cells Gr.b gs,Ent.dp grD.list gs,Ent.dp (sltD 211).list sl]:=(((((((((Own.start w []).oldB hX).oldB hK).oldB hC).oldA hH).mpOld hM).bsOld hG).dpOld hS).dpOld hD)
 refine ws<|wa rfl<|wn<|ws<|wm rfl<|wo (op_callF Fa.C58 rfl ((xkern_ok x k sl _ (H0.cellsAtO (i:=0) rfl)).mono (fun e w1 hq=>?_)))
 obtain ⟨rfl,hf1⟩:=hq
 refine ⟨_,rfl,?_⟩
 have H1:=H0.fr' hf1
 refine wo (op_callF Fa.C59 rfl ((kcaps_ok k pk hx c nv bv _ (H1.cellsAtO (i:=1) rfl)).mono (fun e w2 hq=>?_)))
 obtain ⟨rfl,hf2⟩:=hq
 refine ⟨_,rfl,?_⟩
 have H2:=H1.fr' hf2
 refine wo (op_callF Fa.C60 rfl ((freeL_ok c pg hv he mb cn gs l _ (H2.cellsAtO (i:=2) rfl) (H2.arrO (i:=3) rfl) (H2.mpO (i:=4) rfl) (H2.bsR (i:=5) rfl) (H2.dpO (i:=6) rfl) hR).mono (fun e w3 hq=>?_)))
 obtain ⟨rfl,hf3⟩:=hq
 refine ⟨_,rfl,?_⟩
 have H3:=H2.fr' hf3
 exact wa rfl<|wn<|WC.ret<|WQ.out (.tmp rfl .nil) (⟨rfl,H3.fr⟩)
theorem xbound_ok (x k:Nat) (pk:UInt32) (hx nv bv:Value) (c:Nat) (pg:UInt32) (hv:Value) (he:List UInt32) (mb cn:Nat) (gs:List Gr) (sl:List Slt) (l:List Gr) (i:Nat) (w:World) (hX:cellsAt w x (xoC k sl)) (hK:cellsAt w k [(vU32 pk),hx,(ptr c 0),nv,bv,(vU32 0)]) (hC:cellsAt w c [(vU32 pg),hv,(.map (some mb))]) (hH:Arr w hv 1 he.length (List.map vU32 he)) (hM:w.heap[mb]?=some (mP .i64 (List.map Gr.me gs) cn)) (hG:BsOK 199 Gr.cells Gr.b gs w) (hS:grD.list.ok w gs) (hD:(sltD 211).list.ok w sl) (hR:CapR gs cn l) :
  Calls Tryz.prog 85 #[(ptr x 0),(vN i)] w (fun e w'=> ∃v u,e=.returned (.tuple #[.agg #[vU32 (obs l ((i:Nat):Int)).pg,v,u,.bool (obs l ((i:Nat):Int)).con],.bool (hasE l ((i:Nat):Int))])∧Owl.Own [] w w' [.row v 207 2 (obs l ((i:Nat):Int)).xs.length (List.flatMap xtc (obs l ((i:Nat):Int)).xs),.row u 203 1 (obs l ((i:Nat):Int)).ps.length (List.map vU16 (obs l ((i:Nat):Int)).ps)]):=by
 refine enter (args:=[(ptr x 0),(vN i)]) Tryz.func85 rfl rfl ?_
 have H0:Owl.Own [] w w [Ent.bo x (xoC k sl),Ent.bo k [(vU32 pk),hx,(ptr c 0),nv,bv,(vU32 0)],Ent.bo c [(vU32 pg),hv,(.map (some mb))],Ent.ar hv 1 he.length (List.map vU32 he),Ent.mo .i64 mb (List.map Gr.me gs) cn,Ent.bsO 199 Gr.cells Gr.b gs,Ent.dp grD.list gs,Ent.dp (sltD 211).list sl]:=(((((((((Own.start w []).oldB hX).oldB hK).oldB hC).oldA hH).mpOld hM).bsOld hG).dpOld hS).dpOld hD)
 refine ws<|wo (op_alloc H0 Fa.I40 (fun b1 w1 H1=>(wa rfl<|wn<|ws<|wm rfl<|wo (op_callF Fa.C58 rfl ((xkern_ok x k sl _ (H1.cellsAtO (i:=0) rfl)).mono (fun e w2 hq=>?_))))))
 obtain ⟨rfl,hf2⟩:=hq
 refine ⟨_,rfl,?_⟩
 have H2:=H1.fr' hf2
 refine wo (op_callF Fa.C59 rfl ((kcaps_ok k pk hx c nv bv _ (H2.cellsAtO (i:=1) rfl)).mono (fun e w3 hq=>?_)))
 obtain ⟨rfl,hf3⟩:=hq
 refine ⟨_,rfl,?_⟩
 have H3:=H2.fr' hf3
 refine wm rfl<|wo (op_callF Fa.C131 rfl ((manifest_ok c pg hv he mb cn gs ((i:Nat):Int) l _ (H3.cellsAtO (i:=2) rfl) (H3.arrO (i:=3) rfl) (H3.mpO (i:=4) rfl) (H3.bsR (i:=5) rfl) (H3.dpO (i:=6) rfl) hR).mono (fun e w4 hq=>?_)))
 obtain ⟨v4,u4,rfl,hq4⟩:=hq
 refine ⟨_,rfl,?_⟩
 have H4:=H3.splice [] [] [.row v4 207 2 (obs l ((i:Nat):Int)).xs.length (List.flatMap xtc (obs l ((i:Nat):Int)).xs),.row u4 203 1 (obs l ((i:Nat):Int)).ps.length (List.map vU16 (obs l ((i:Nat):Int)).ps)] rfl rfl hq4 (Fits.solid True.intro (Fits.solid True.intro Fits.nil))
 exact we rfl rfl<|we rfl rfl<|wo (op_storeBW (i:=8) H4 rfl rfl rfl rfl (one_cons rfl (one_cons (Arr.one (H4.arrR (i:=9) rfl)) (one_cons (Arr.one (H4.arrR (i:=10) rfl)) (one_cons rfl one_nil)))) Fa.I40 (fun w5 H5=>(wa rfl<|wn<|WC.ret<|WQ.out (.cell rfl (run_loadVarS (vs:=[_,_,_,_]) (H5.cells (i:=8) rfl rfl) Tryz.underlying40 rfl Fa.I40 rfl) (.tmp rfl .nil)) (⟨_,_,rfl,H5.sel [9,10] rfl rfl⟩))))
theorem clev_ok  (w:World) :
  Calls Tryz.prog 130 #[(.slice none 0 0)] w (fun e w'=>e=.returned (.slice none 0 0)∧Fr [] w w'):=by
 refine enter (args:=[(.slice none 0 0)]) Tryz.func130 rfl rfl ?_
 have H0:Owl.Own [] w w []:=Own.start w []
 exact ws<|wa rfl<|wn<|WC.seq<|ws<|wm rfl<|wo (op_eqlSN Tryz.underlying144 rfl (Arr.nil _ 1) rfl<|wn<|WC.yes rfl rfl<|ws<|wa rfl<|wn<|WC.ret<|WQ.thenRet<|WQ.out (.tmp rfl .nil) (⟨rfl,H0.fr⟩))
theorem xtrace_ok (x k:Nat) (sl:List Slt) (w:World) (hX:cellsAt w x (xoC k sl)) (h9:sl.length=9) :
  Calls Tryz.prog 84 #[(ptr x 0)] w (fun e w'=>e=.returned (.slice none 0 0)∧Fr [] w w'):=by
 refine enter (args:=[(ptr x 0)]) Tryz.func84 rfl rfl ?_
 have H0:Owl.Own [] w w [Ent.bo x (xoC k sl)]:=((Own.start w []).oldB hX)
 refine ws<|wa rfl<|wn<|WC.seq<|ws<|wm rfl<|wo (op_eqlPN Fa.PT47 rfl rfl<|wn<|WC.no rfl rfl<|WC.skip<|WQ.next<|ws<|wm rfl<|wo (op_nilCheck rfl<|wo (op_fieldAddr rfl Fa.F146_2<|wo (op_load rfl (H0.cellO (i:=0) rfl (xo_trace h9)) Tryz.underlying144 rfl<|wo (op_callF Fa.C130 rfl ((clev_ok _).mono (fun e w1 hq=>?_)))))))
 obtain ⟨rfl,hf1⟩:=hq
 refine ⟨_,rfl,?_⟩
 have H1:=H0.fr' hf1
 exact wa rfl<|wn<|WC.ret<|WQ.out (.tmp rfl .nil) (⟨rfl,H1.fr⟩)
theorem admit_full (x k:Nat) (pk:UInt32) (hx nv bv:Value) (c:Nat) (pg:UInt32) (hv:Value) (he:List UInt32) (mb cn:Nat) (gs:List Gr) (sl:List Slt) (l:List Gr) (mp:UInt32) (ev pv:Value) (xs:List Xt) (ps:List UInt16) (con:Bool) (n:Nat) (T:List Nat) (w:World) (H:Owl.Own T w w [.blk x (xoC k sl) 146,Ent.bo k [(vU32 pk),hx,(ptr c 0),nv,bv,(vU32 0)],.blk c [(vU32 pg),hv,(.map (some mb))] 196,Ent.ar hv 1 he.length (List.map vU32 he),.obj mb (mP .i64 (List.map Gr.me gs) cn),Ent.bs 199 Gr.cells Gr.b gs,Ent.dp grD.list gs,Ent.dp (sltD 211).list sl,Ent.ar ev 2 xs.length (List.flatMap xtc xs),Ent.ar pv 1 ps.length (List.map vU16 ps)]) (hR:CapR gs cn l) (h9:sl.length=9) (hhe:he.length<2^32) (hn:xs.length<2^40) (hm:ps.length<2^40) (hn4:n≤4096) (hff:ffS sl=9) :
  Calls Tryz.prog 86 #[(ptr x 0),(.agg #[(vU32 mp),ev,pv,(.bool con)]),(vN n)] w (fun e w'=>e=.returned (.tuple #[vN 0,vN 4])∧Owl.Own T w w' [.blk x (xoC k sl) 146,Ent.bo k [(vU32 pk),hx,(ptr c 0),nv,bv,(vU32 0)],.blk c [(vU32 pg),hv,(.map (some mb))] 196,Ent.ar hv 1 he.length (List.map vU32 he),.obj mb (mP .i64 (List.map Gr.me gs) cn),Ent.bs 199 Gr.cells Gr.b gs,Ent.dp grD.list gs,Ent.dp (sltD 211).list sl,Ent.ar ev 2 xs.length (List.flatMap xtc xs),Ent.ar pv 1 ps.length (List.map vU16 ps)]):=by
 refine enter (args:=[(ptr x 0),(.agg #[(vU32 mp),ev,pv,(.bool con)]),(vN n)]) Tryz.func86 rfl rfl<|ws<|wo (op_box H rfl rfl (fun b1 w1 H1=>(wa rfl<|wa rfl<|wn<|WC.seq<|ws<|wm rfl<|wo (op_eqlPN Fa.PT47 rfl rfl<|wn<|WC.no rfl rfl<|WC.skip<|WQ.next<|ws<|wa rfl<|wn<|WC.cut (α:=Unit) (fun _=>[(0,(ptr x 0)),(2,(vN n)),(4,(ptr b1 0)),(8,(vN (ffS sl)))]) (fun _ w'=>Owl.Own T w w' [.blk x (xoC k sl) 146,Ent.bo k [(vU32 pk),hx,(ptr c 0),nv,bv,(vU32 0)],.blk c [(vU32 pg),hv,(.map (some mb))] 196,Ent.ar hv 1 he.length (List.map vU32 he),.obj mb (mP .i64 (List.map Gr.me gs) cn),Ent.bs 199 Gr.cells Gr.b gs,Ent.dp grD.list gs,Ent.dp (sltD 211).list sl,Ent.ar ev 2 xs.length (List.flatMap xtc xs),Ent.ar pv 1 ps.length (List.map vU16 ps),.blk b1 [(vU32 mp),ev,pv,(.bool con)] 40]) ?_ ?_))))
 ·
  refine WC.block<|WC.loop (α:=Nat) (fun j=>[(0,(ptr x 0)),(2,(vN n)),(4,(ptr b1 0)),(8,(vN j))]) (fun j w'=>(1≤j∧j≤9∧∀m,1≤m→m<j→(sl.getD m Slt.zero).is=true)∧Owl.Own T w w' [.blk x (xoC k sl) 146,Ent.bo k [(vU32 pk),hx,(ptr c 0),nv,bv,(vU32 0)],.blk c [(vU32 pg),hv,(.map (some mb))] 196,Ent.ar hv 1 he.length (List.map vU32 he),.obj mb (mP .i64 (List.map Gr.me gs) cn),Ent.bs 199 Gr.cells Gr.b gs,Ent.dp grD.list gs,Ent.dp (sltD 211).list sl,Ent.ar ev 2 xs.length (List.flatMap xtc xs),Ent.ar pv 1 ps.length (List.map vU16 ps),.blk b1 [(vU32 mp),ev,pv,(.bool con)] 40]) (fun j=>9-j) 1 ⟨⟨Nat.le_refl _,by decide,fun m h1 h2=>by omega⟩,H1⟩ ⟨rfl,rfl,rfl,rfl,trivial⟩ ?_
  rintro j w2 ⟨⟨hj1,hj9,hall⟩,H2⟩
  show WC _ _ _ _ _ [(0,(ptr x 0)),(2,(vN n)),(4,(ptr b1 0)),(8,(vN j))] _
  refine WC.seq<|ws<|wm rfl<|wo (op_lssN (b:=9) rfl rfl<|wm rfl (wV 14 (decide (j<9)) (fun hb3=>?_) (fun hb3=>?_)))
  ·
   have hc3:=dT hb3
   refine wY hb3 (op_move rfl<|wY hb3 (op_move rfl<|wY hb3 (op_nilCheck rfl<|wY hb3 (op_fieldAddr rfl Fa.F146_1<|wY hb3 (op_indexAddrA Tryz.underlying143 Fa.I142 rfl rfl (by omega)<|wY hb3 (op_fieldAddr rfl Fa.F142_0<|wY hb3 (op_load rfl (H2.cell (i:=0) rfl (xo_get h9 (dT hb3) (by decide) rfl)) Tryz.underlying4 rfl<|wo (op_pickT rfl hb3 rfl<|wn (wC (sl.getD j Slt.zero).is (fun hb4=>?_) (fun hb4=>?_))))))))))
   ·
    exact WC.skip<|WQ.next<|WC.block<|WC.region<|wm rfl<|wo (op_addN (b:=1) rfl rfl (by omega)<|wa rfl<|WL.nil<|WQ.inNormal<|WQ.round (j+1) ⟨⟨by omega,by omega,fun m h1 h2=>by rcases Nat.lt_or_ge m j with h3 | h3; exact hall m h1 h3; rw [show m=j by omega]; exact hb4⟩,H2⟩ ⟨rfl,rfl,rfl,rfl,trivial⟩ (by omega))
   ·
    exact WC.exit<|WQ.thenExit<|WQ.thenExit<|WQ.inHere<|WQ.here () H2 ⟨rfl,rfl,rfl,(by rw [ffS_of h9 hj1 hj9 hall (.inr hb4)]; rfl),trivial⟩
  ·
   have hc3:=dF hb3
   exact wN hb3<|wN hb3<|wN hb3<|wN hb3<|wN hb3<|wN hb3<|wN hb3<|wo (op_pickF rfl hb3 rfl<|wn<|WC.no rfl rfl<|WC.exit<|WQ.thenExit<|WQ.thenExit<|WQ.inHere<|WQ.here () H2 ⟨rfl,rfl,rfl,(by rw [ffS_of h9 hj1 hj9 hall (.inl (by omega))]; rfl),trivial⟩)
 ·
  rintro ⟨⟩ w5 H5
  show WC _ _ _ _ _ [(0,(ptr x 0)),(2,(vN n)),(4,(ptr b1 0)),(8,(vN (ffS sl)))] _
  exact WC.seq<|WC.block<|ws<|wm rfl<|wo (op_eqlN (b:=9) rfl rfl<|wa rfl<|wn<|WC.yes rfl (decide_eq_true hff)<|ws<|wa rfl<|wa rfl<|wn<|WC.ret<|WQ.inRet<|WQ.thenRet<|WQ.out (.tmp rfl (.tmp rfl .nil)) (⟨rfl,H5.sel [0,1,2,3,4,5,6,7,8,9] rfl rfl⟩))
theorem admit_no (x k:Nat) (pk:UInt32) (hx nv bv:Value) (c:Nat) (pg:UInt32) (hv:Value) (he:List UInt32) (mb cn:Nat) (gs:List Gr) (sl:List Slt) (l:List Gr) (mp:UInt32) (ev pv:Value) (xs:List Xt) (ps:List UInt16) (con:Bool) (n:Nat) (T:List Nat) (w:World) (H:Owl.Own T w w [.blk x (xoC k sl) 146,Ent.bo k [(vU32 pk),hx,(ptr c 0),nv,bv,(vU32 0)],.blk c [(vU32 pg),hv,(.map (some mb))] 196,Ent.ar hv 1 he.length (List.map vU32 he),.obj mb (mP .i64 (List.map Gr.me gs) cn),Ent.bs 199 Gr.cells Gr.b gs,Ent.dp grD.list gs,Ent.dp (sltD 211).list sl,Ent.ar ev 2 xs.length (List.flatMap xtc xs),Ent.ar pv 1 ps.length (List.map vU16 ps)]) (hR:CapR gs cn l) (h9:sl.length=9) (hhe:he.length<2^32) (hn:xs.length<2^40) (hm:ps.length<2^40) (hn4:n≤4096) (hff:ffS sl≠9) (hw:(grantE pg he l (((ffS sl):Nat):Int) mp xs ps (UInt32.ofNat n))≠0) :
  Calls Tryz.prog 86 #[(ptr x 0),(.agg #[(vU32 mp),ev,pv,(.bool con)]),(vN n)] w (fun e w'=> ∃cn' gs',e=.returned (.tuple #[vN 0,vN (grantE pg he l (((ffS sl):Nat):Int) mp xs ps (UInt32.ofNat n))])∧CapR gs' cn' (grantG pg he l (((ffS sl):Nat):Int) mp xs ps con (UInt32.ofNat n))∧DpTo w gs gs'∧Owl.Own T w w' [.blk x (xoC k sl) 146,Ent.bo k [(vU32 pk),hx,(ptr c 0),nv,bv,(vU32 0)],.blk c [(vU32 pg),hv,(.map (some mb))] 196,Ent.ar hv 1 he.length (List.map vU32 he),.obj mb (mP .i64 (List.map Gr.me gs') cn'),Ent.bs 199 Gr.cells Gr.b gs',Ent.dp grD.list gs',Ent.dp (sltD 211).list sl,Ent.ar ev 2 xs.length (List.flatMap xtc xs),Ent.ar pv 1 ps.length (List.map vU16 ps)]):=by
 refine enter (args:=[(ptr x 0),(.agg #[(vU32 mp),ev,pv,(.bool con)]),(vN n)]) Tryz.func86 rfl rfl<|ws<|wo (op_box H rfl rfl (fun b1 w1 H1=>(wa rfl<|wa rfl<|wn<|WC.seq<|ws<|wm rfl<|wo (op_eqlPN Fa.PT47 rfl rfl<|wn<|WC.no rfl rfl<|WC.skip<|WQ.next<|ws<|wa rfl<|wn<|WC.cut (α:=Unit) (fun _=>[(0,(ptr x 0)),(2,(vN n)),(4,(ptr b1 0)),(8,(vN (ffS sl)))]) (fun _ w'=>Owl.Own T w w' [.blk x (xoC k sl) 146,Ent.bo k [(vU32 pk),hx,(ptr c 0),nv,bv,(vU32 0)],.blk c [(vU32 pg),hv,(.map (some mb))] 196,Ent.ar hv 1 he.length (List.map vU32 he),.obj mb (mP .i64 (List.map Gr.me gs) cn),Ent.bs 199 Gr.cells Gr.b gs,Ent.dp grD.list gs,Ent.dp (sltD 211).list sl,Ent.ar ev 2 xs.length (List.flatMap xtc xs),Ent.ar pv 1 ps.length (List.map vU16 ps),.blk b1 [(vU32 mp),ev,pv,(.bool con)] 40]) ?_ ?_))))
 ·
  refine WC.block<|WC.loop (α:=Nat) (fun j=>[(0,(ptr x 0)),(2,(vN n)),(4,(ptr b1 0)),(8,(vN j))]) (fun j w'=>(1≤j∧j≤9∧∀m,1≤m→m<j→(sl.getD m Slt.zero).is=true)∧Owl.Own T w w' [.blk x (xoC k sl) 146,Ent.bo k [(vU32 pk),hx,(ptr c 0),nv,bv,(vU32 0)],.blk c [(vU32 pg),hv,(.map (some mb))] 196,Ent.ar hv 1 he.length (List.map vU32 he),.obj mb (mP .i64 (List.map Gr.me gs) cn),Ent.bs 199 Gr.cells Gr.b gs,Ent.dp grD.list gs,Ent.dp (sltD 211).list sl,Ent.ar ev 2 xs.length (List.flatMap xtc xs),Ent.ar pv 1 ps.length (List.map vU16 ps),.blk b1 [(vU32 mp),ev,pv,(.bool con)] 40]) (fun j=>9-j) 1 ⟨⟨Nat.le_refl _,by decide,fun m h1 h2=>by omega⟩,H1⟩ ⟨rfl,rfl,rfl,rfl,trivial⟩ ?_
  rintro j w2 ⟨⟨hj1,hj9,hall⟩,H2⟩
  show WC _ _ _ _ _ [(0,(ptr x 0)),(2,(vN n)),(4,(ptr b1 0)),(8,(vN j))] _
  refine WC.seq<|ws<|wm rfl<|wo (op_lssN (b:=9) rfl rfl<|wm rfl (wV 14 (decide (j<9)) (fun hb3=>?_) (fun hb3=>?_)))
  ·
   have hc3:=dT hb3
   refine wY hb3 (op_move rfl<|wY hb3 (op_move rfl<|wY hb3 (op_nilCheck rfl<|wY hb3 (op_fieldAddr rfl Fa.F146_1<|wY hb3 (op_indexAddrA Tryz.underlying143 Fa.I142 rfl rfl (by omega)<|wY hb3 (op_fieldAddr rfl Fa.F142_0<|wY hb3 (op_load rfl (H2.cell (i:=0) rfl (xo_get h9 (dT hb3) (by decide) rfl)) Tryz.underlying4 rfl<|wo (op_pickT rfl hb3 rfl<|wn (wC (sl.getD j Slt.zero).is (fun hb4=>?_) (fun hb4=>?_))))))))))
   ·
    exact WC.skip<|WQ.next<|WC.block<|WC.region<|wm rfl<|wo (op_addN (b:=1) rfl rfl (by omega)<|wa rfl<|WL.nil<|WQ.inNormal<|WQ.round (j+1) ⟨⟨by omega,by omega,fun m h1 h2=>by rcases Nat.lt_or_ge m j with h3 | h3; exact hall m h1 h3; rw [show m=j by omega]; exact hb4⟩,H2⟩ ⟨rfl,rfl,rfl,rfl,trivial⟩ (by omega))
   ·
    exact WC.exit<|WQ.thenExit<|WQ.thenExit<|WQ.inHere<|WQ.here () H2 ⟨rfl,rfl,rfl,(by rw [ffS_of h9 hj1 hj9 hall (.inr hb4)]; rfl),trivial⟩
  ·
   have hc3:=dF hb3
   exact wN hb3<|wN hb3<|wN hb3<|wN hb3<|wN hb3<|wN hb3<|wN hb3<|wo (op_pickF rfl hb3 rfl<|wn<|WC.no rfl rfl<|WC.exit<|WQ.thenExit<|WQ.thenExit<|WQ.inHere<|WQ.here () H2 ⟨rfl,rfl,rfl,(by rw [ffS_of h9 hj1 hj9 hall (.inl (by omega))]; rfl),trivial⟩)
 ·
  rintro ⟨⟩ w5 H5
  show WC _ _ _ _ _ [(0,(ptr x 0)),(2,(vN n)),(4,(ptr b1 0)),(8,(vN (ffS sl)))] _
  refine WC.seq<|WC.block<|ws<|wm rfl<|wo (op_eqlN (b:=9) rfl rfl<|wa rfl<|wn<|WC.no rfl (decide_eq_false hff)<|ws<|wm rfl<|wo (op_lssN (b:=0) rfl rfl<|wm rfl<|WL.yes rfl rfl rfl (decide_eq_false (by omega)) rfl (op_move rfl<|WL.yes rfl rfl rfl (decide_eq_false (by omega)) rfl (op_gtrN (b:=4096) rfl rfl<|wo (op_pickF rfl (decide_eq_false (by omega)) rfl<|wa rfl<|wn<|WC.no rfl (decide_eq_false (by omega))<|WC.skip<|WQ.inNormal<|WQ.next<|WC.seq<|WC.seq<|WC.draw 9 Fa.M H5 (mh rfl<|oh (fun w1 H1=>op_nilCheck rfl zr)<|oh (fun w1 H1=>op_fieldAddr rfl Fa.F146_0 zr)<|oh (fun w1 H1=>op_load rfl (H1.cell (i:=0) rfl rfl) Tryz.underlying111 rfl zr)<|oh (fun w1 H1=>op_callF Fa.C59 rfl ((kcaps_ok k pk hx c nv bv _ (H1.cellsAtO (i:=1) rfl)).mono (fun e w2 hq=>⟨_,hq.1,rfl,hq.2⟩)))<|mh rfl<|oh (fun w1 H1=>op_loadS (vs:=[_,_,_,_]) rfl (H1.cells (i:=10) rfl rfl) Tryz.underlying40 rfl Fa.I40 rfl zr)<|mh rfl<|oh (fun w1 H1=>op_convNU32 (hs:=Tryz.underlying3) (hd:=Tryz.underlying22) rfl zr)  HW.nil) (by kernel_rfl) ?_)))))
  intro β7 w7 H7
  refine wo (op_callF Fa.C132 rfl ((capG_ok c pg hv he mb cn gs (((ffS sl):Nat):Int) mp ev pv xs ps con (UInt32.ofNat n) l _ _ (H7.part [2,3,4,5,6,8,9] rfl rfl) hR capT7 hn hm hhe).mono (fun e w8 hq=>?_)))
  obtain ⟨cn8,gs8,rfl,hi8,hd8,hq8⟩:=hq
  refine ⟨_,rfl,?_⟩
  have H8:=H7.splice [2,3,4,5,6,8,9] [.blk c [(vU32 pg),hv,(.map (some mb))] 196,Ent.ar hv 1 he.length (List.map vU32 he),.obj mb (mP .i64 (List.map Gr.me gs8) cn8),Ent.bs 199 Gr.cells Gr.b gs8,Ent.dp grD.list gs8,Ent.ar ev 2 xs.length (List.flatMap xtc xs),Ent.ar pv 1 ps.length (List.map vU16 ps)] [] rfl rfl hq8 (Fits.solid True.intro (Fits.same (j:=1) rfl (Fits.solid True.intro (Fits.solid True.intro (Fits.dpTo 4 rfl hd8 (Fits.same (j:=5) rfl (Fits.same (j:=6) rfl Fits.nil)))))))
  have hd8:DpTo w gs gs8:=hd8.mono H7.fr.size
  exact wa rfl<|wn<|ws<|wm rfl<|wo (op_neqN (b:=0) rfl rfl<|wn<|WC.yes rfl (decide_eq_true hw)<|ws<|wm rfl<|wa rfl<|wa rfl<|wn<|WC.ret<|WQ.thenRet<|WQ.out (.tmp rfl (.tmp rfl .nil)) (⟨_,_,rfl,hi8,hd8,H8.sel [0,1,2,3,4,5,6,7,8,9] rfl rfl⟩))
theorem admit_yes (x k:Nat) (pk:UInt32) (hx nv bv:Value) (c:Nat) (pg:UInt32) (hv:Value) (he:List UInt32) (mb cn:Nat) (gs:List Gr) (sl:List Slt) (l:List Gr) (mp:UInt32) (ev pv:Value) (xs:List Xt) (ps:List UInt16) (con:Bool) (n:Nat) (T:List Nat) (w:World) (H:Owl.Own T w w [.blk x (xoC k sl) 146,Ent.bo k [(vU32 pk),hx,(ptr c 0),nv,bv,(vU32 0)],.blk c [(vU32 pg),hv,(.map (some mb))] 196,Ent.ar hv 1 he.length (List.map vU32 he),.obj mb (mP .i64 (List.map Gr.me gs) cn),Ent.bs 199 Gr.cells Gr.b gs,Ent.dp grD.list gs,Ent.dp (sltD 211).list sl,Ent.ar ev 2 xs.length (List.flatMap xtc xs),Ent.ar pv 1 ps.length (List.map vU16 ps)]) (hR:CapR gs cn l) (h9:sl.length=9) (hhe:he.length<2^32) (hn:xs.length<2^40) (hm:ps.length<2^40) (hn4:n≤4096) (hff:ffS sl≠9) (hw:(grantE pg he l (((ffS sl):Nat):Int) mp xs ps (UInt32.ofNat n))=0) :
  Calls Tryz.prog 86 #[(ptr x 0),(.agg #[(vU32 mp),ev,pv,(.bool con)]),(vN n)] w (fun e w'=> ∃cn' gs',e=.returned (.tuple #[vN (ffS sl),vN 0])∧CapR gs' cn' (grantG pg he l (((ffS sl):Nat):Int) mp xs ps con (UInt32.ofNat n))∧DpTo w gs gs'∧Owl.Own T w w' [.blk x (xoC k (sl.set (ffS sl) ⟨true,n,none⟩)) 146,Ent.bo k [(vU32 pk),hx,(ptr c 0),nv,bv,(vU32 0)],.blk c [(vU32 pg),hv,(.map (some mb))] 196,Ent.ar hv 1 he.length (List.map vU32 he),.obj mb (mP .i64 (List.map Gr.me gs') cn'),Ent.bs 199 Gr.cells Gr.b gs',Ent.dp grD.list gs',Ent.dp (sltD 211).list (sl.set (ffS sl) ⟨true,n,none⟩),Ent.ar ev 2 xs.length (List.flatMap xtc xs),Ent.ar pv 1 ps.length (List.map vU16 ps)]):=by
 refine enter (args:=[(ptr x 0),(.agg #[(vU32 mp),ev,pv,(.bool con)]),(vN n)]) Tryz.func86 rfl rfl ?_
 have hf9:ffS sl<9:=Nat.lt_of_le_of_ne (ffS_le h9) hff
 refine ws<|wo (op_box H rfl rfl (fun b1 w1 H1=>(wa rfl<|wa rfl<|wn<|WC.seq<|ws<|wm rfl<|wo (op_eqlPN Fa.PT47 rfl rfl<|wn<|WC.no rfl rfl<|WC.skip<|WQ.next<|ws<|wa rfl<|wn<|WC.cut (α:=Unit) (fun _=>[(0,(ptr x 0)),(2,(vN n)),(4,(ptr b1 0)),(8,(vN (ffS sl)))]) (fun _ w'=>Owl.Own T w w' [.blk x (xoC k sl) 146,Ent.bo k [(vU32 pk),hx,(ptr c 0),nv,bv,(vU32 0)],.blk c [(vU32 pg),hv,(.map (some mb))] 196,Ent.ar hv 1 he.length (List.map vU32 he),.obj mb (mP .i64 (List.map Gr.me gs) cn),Ent.bs 199 Gr.cells Gr.b gs,Ent.dp grD.list gs,Ent.dp (sltD 211).list sl,Ent.ar ev 2 xs.length (List.flatMap xtc xs),Ent.ar pv 1 ps.length (List.map vU16 ps),.blk b1 [(vU32 mp),ev,pv,(.bool con)] 40]) ?_ ?_))))
 ·
  refine WC.block<|WC.loop (α:=Nat) (fun j=>[(0,(ptr x 0)),(2,(vN n)),(4,(ptr b1 0)),(8,(vN j))]) (fun j w'=>(1≤j∧j≤9∧∀m,1≤m→m<j→(sl.getD m Slt.zero).is=true)∧Owl.Own T w w' [.blk x (xoC k sl) 146,Ent.bo k [(vU32 pk),hx,(ptr c 0),nv,bv,(vU32 0)],.blk c [(vU32 pg),hv,(.map (some mb))] 196,Ent.ar hv 1 he.length (List.map vU32 he),.obj mb (mP .i64 (List.map Gr.me gs) cn),Ent.bs 199 Gr.cells Gr.b gs,Ent.dp grD.list gs,Ent.dp (sltD 211).list sl,Ent.ar ev 2 xs.length (List.flatMap xtc xs),Ent.ar pv 1 ps.length (List.map vU16 ps),.blk b1 [(vU32 mp),ev,pv,(.bool con)] 40]) (fun j=>9-j) 1 ⟨⟨Nat.le_refl _,by decide,fun m h1 h2=>by omega⟩,H1⟩ ⟨rfl,rfl,rfl,rfl,trivial⟩ ?_
  rintro j w2 ⟨⟨hj1,hj9,hall⟩,H2⟩
  show WC _ _ _ _ _ [(0,(ptr x 0)),(2,(vN n)),(4,(ptr b1 0)),(8,(vN j))] _
  refine WC.seq<|ws<|wm rfl<|wo (op_lssN (b:=9) rfl rfl<|wm rfl (wV 14 (decide (j<9)) (fun hb3=>?_) (fun hb3=>?_)))
  ·
   have hc3:=dT hb3
   refine wY hb3 (op_move rfl<|wY hb3 (op_move rfl<|wY hb3 (op_nilCheck rfl<|wY hb3 (op_fieldAddr rfl Fa.F146_1<|wY hb3 (op_indexAddrA Tryz.underlying143 Fa.I142 rfl rfl (by omega)<|wY hb3 (op_fieldAddr rfl Fa.F142_0<|wY hb3 (op_load rfl (H2.cell (i:=0) rfl (xo_get h9 (dT hb3) (by decide) rfl)) Tryz.underlying4 rfl<|wo (op_pickT rfl hb3 rfl<|wn (wC (sl.getD j Slt.zero).is (fun hb4=>?_) (fun hb4=>?_))))))))))
   ·
    exact WC.skip<|WQ.next<|WC.block<|WC.region<|wm rfl<|wo (op_addN (b:=1) rfl rfl (by omega)<|wa rfl<|WL.nil<|WQ.inNormal<|WQ.round (j+1) ⟨⟨by omega,by omega,fun m h1 h2=>by rcases Nat.lt_or_ge m j with h3 | h3; exact hall m h1 h3; rw [show m=j by omega]; exact hb4⟩,H2⟩ ⟨rfl,rfl,rfl,rfl,trivial⟩ (by omega))
   ·
    exact WC.exit<|WQ.thenExit<|WQ.thenExit<|WQ.inHere<|WQ.here () H2 ⟨rfl,rfl,rfl,(by rw [ffS_of h9 hj1 hj9 hall (.inr hb4)]; rfl),trivial⟩
  ·
   have hc3:=dF hb3
   exact wN hb3<|wN hb3<|wN hb3<|wN hb3<|wN hb3<|wN hb3<|wN hb3<|wo (op_pickF rfl hb3 rfl<|wn<|WC.no rfl rfl<|WC.exit<|WQ.thenExit<|WQ.thenExit<|WQ.inHere<|WQ.here () H2 ⟨rfl,rfl,rfl,(by rw [ffS_of h9 hj1 hj9 hall (.inl (by omega))]; rfl),trivial⟩)
 ·
  rintro ⟨⟩ w5 H5
  show WC _ _ _ _ _ [(0,(ptr x 0)),(2,(vN n)),(4,(ptr b1 0)),(8,(vN (ffS sl)))] _
  refine WC.seq<|WC.block<|ws<|wm rfl<|wo (op_eqlN (b:=9) rfl rfl<|wa rfl<|wn<|WC.no rfl (decide_eq_false hff)<|ws<|wm rfl<|wo (op_lssN (b:=0) rfl rfl<|wm rfl<|WL.yes rfl rfl rfl (decide_eq_false (by omega)) rfl (op_move rfl<|WL.yes rfl rfl rfl (decide_eq_false (by omega)) rfl (op_gtrN (b:=4096) rfl rfl<|wo (op_pickF rfl (decide_eq_false (by omega)) rfl<|wa rfl<|wn<|WC.no rfl (decide_eq_false (by omega))<|WC.skip<|WQ.inNormal<|WQ.next<|WC.seq<|WC.seq<|WC.draw 9 Fa.M H5 (mh rfl<|oh (fun w1 H1=>op_nilCheck rfl zr)<|oh (fun w1 H1=>op_fieldAddr rfl Fa.F146_0 zr)<|oh (fun w1 H1=>op_load rfl (H1.cell (i:=0) rfl rfl) Tryz.underlying111 rfl zr)<|oh (fun w1 H1=>op_callF Fa.C59 rfl ((kcaps_ok k pk hx c nv bv _ (H1.cellsAtO (i:=1) rfl)).mono (fun e w2 hq=>⟨_,hq.1,rfl,hq.2⟩)))<|mh rfl<|oh (fun w1 H1=>op_loadS (vs:=[_,_,_,_]) rfl (H1.cells (i:=10) rfl rfl) Tryz.underlying40 rfl Fa.I40 rfl zr)<|mh rfl<|oh (fun w1 H1=>op_convNU32 (hs:=Tryz.underlying3) (hd:=Tryz.underlying22) rfl zr)  HW.nil) (by kernel_rfl) ?_)))))
  intro β7 w7 H7
  refine wo (op_callF Fa.C132 rfl ((capG_ok c pg hv he mb cn gs (((ffS sl):Nat):Int) mp ev pv xs ps con (UInt32.ofNat n) l _ _ (H7.part [2,3,4,5,6,8,9] rfl rfl) hR capT7 hn hm hhe).mono (fun e w8 hq=>?_)))
  obtain ⟨cn8,gs8,rfl,hi8,hd8,hq8⟩:=hq
  refine ⟨_,rfl,?_⟩
  have H8:=H7.splice [2,3,4,5,6,8,9] [.blk c [(vU32 pg),hv,(.map (some mb))] 196,Ent.ar hv 1 he.length (List.map vU32 he),.obj mb (mP .i64 (List.map Gr.me gs8) cn8),Ent.bs 199 Gr.cells Gr.b gs8,Ent.dp grD.list gs8,Ent.ar ev 2 xs.length (List.flatMap xtc xs),Ent.ar pv 1 ps.length (List.map vU16 ps)] [] rfl rfl hq8 (Fits.solid True.intro (Fits.same (j:=1) rfl (Fits.solid True.intro (Fits.solid True.intro (Fits.dpTo 4 rfl hd8 (Fits.same (j:=5) rfl (Fits.same (j:=6) rfl Fits.nil)))))))
  have hd8:DpTo w gs gs8:=hd8.mono H7.fr.size
  refine wa rfl<|wn<|ws<|wm rfl<|wo (op_neqN (b:=0) rfl rfl<|wn<|WC.no rfl (decide_eq_false (fun h=>h hw))<|WC.skip<|WQ.next<|ws<|wm rfl<|wm rfl<|wm rfl<|wo (op_build (cs:=[_,_,_]) Fa.I142 Fa.PL142 rfl rfl<|wo (op_nilCheck rfl<|wo (op_fieldAddr rfl Fa.F146_1<|wo (op_indexAddrA Tryz.underlying143 Fa.I142 rfl rfl hf9<|wo (op_storeXo (j:=0) (s:=(Slt.mk true n none)) H8 h9 hf9 rfl rfl rfl Fa.I142 (fun w9 H9=>(wn<|ws<|wm rfl<|wa rfl<|wa rfl<|wn<|WC.ret<|WQ.out (.tmp rfl (.tmp rfl .nil)) ?_))))))))
  have h3:=Owl.Own.dpOf (D:=sltD 211) (l:=sl) (l':=sl.set (ffS sl) ⟨true,n,none⟩) (i:=7) H9 rfl (fun w h=>slt_set_ok h True.intro) slt_set_ft
  exact ⟨_,_,rfl,hi8,hd8,h3.sel [0,1,2,3,4,5,6,11,8,9] rfl rfl⟩
theorem spagesN_ok (s mb c:Nat) (ps:List Pg) (w:World) (hS:cellsAt w s [(.map (some mb))]) (hM:w.heap[mb]?=some (mP .u32 (List.map Pg.me ps) c)) (hP:BsOK 211 Pg.cells Pg.b ps w) (hME:MEok (List.map Pg.me ps) c) (hgn:ps.length<2^40) :
  Calls Tryz.prog 44 #[(ptr s 0)] w (fun e w'=> ∃v ks,e=.returned v∧((ps.map Pg.a).Perm ks∧ks.Pairwise (fun x y=>ltU32 y x=false))∧Owl.Own [] w w' [.row v 22 1 ps.length (List.map vU32 ks)]) :=
 (spages_ok s mb c ps w hS hM hP hME hgn).mono (fun e w' ⟨v,ks,he,hk,hO⟩=>⟨v,ks,he,hk,by
  have h8:ks.length=ps.length:=by rw [←hk.1.length_eq,List.length_map]
  rw [h8] at hO; exact hO⟩)
theorem xmany_ok (x k:Nat) (sl:List Slt) (s mb c:Nat) (ps:List Pg) (i:Nat) (w:World) (hX:cellsAt w x (xoC k sl)) (hS:cellsAt w s [(.map (some mb))]) (hM:w.heap[mb]?=some (mP .u32 (List.map Pg.me ps) c)) (hP:BsOK 211 Pg.cells Pg.b ps w) (hME:MEok (List.map Pg.me ps) c) (hgn:ps.length<2^40) (h9:sl.length=9) (hi9:i<9) (hle:ps.length≤(sl.getD i Slt.zero).pg) :
  Calls Tryz.prog 133 #[(ptr x 0),(vN i),(ptr s 0)] w (fun e w'=>e=.returned (.bool false)∧Fr [] w w'):=by
 refine enter (args:=[(ptr x 0),(vN i),(ptr s 0)]) Tryz.func133 rfl rfl ?_
 have H0:Owl.Own [] w w [Ent.bo x (xoC k sl),Ent.bo s [(.map (some mb))],Ent.mo .u32 mb (List.map Pg.me ps) c,Ent.bsO 211 Pg.cells Pg.b ps]:=(((((Own.start w []).oldB hX).oldB hS).mpOld hM).bsOld hP)
 refine ws<|wa rfl<|wn<|WC.seq<|WC.seq<|WC.held 11 rfl Fa.M H0 (fun w'=> ∃L',Owl.Own [] w w' ([Ent.bo x (xoC k sl),Ent.bo s [(.map (some mb))],Ent.mo .u32 mb (List.map Pg.me ps) c,Ent.bsO 211 Pg.cells Pg.b ps]++L')) ?_
 intro w1 H1
 refine xt 0 rfl (ptr s 0) H1 (fun _ _ HX=>op_move rfl ⟨rfl,rfl⟩)<|xt 3 rfl (ptr x 0) H1 (fun _ _ HX=>op_move rfl ⟨rfl,rfl⟩)<|xt 4 rfl (vN i) H1 (fun _ _ HX=>op_move rfl ⟨rfl,rfl⟩)<|WH.named (fun W hW=>?_)
 let e1:List (Nat × Value)→List (Nat × Value):=fun r=>(0,(ptr x 0))::(1,(vN i))::(2,(ptr s 0))::(6,(.bool false))::r
 let a1_0:Ent:=Ent.bo x (xoC k sl)
 let a1_1:Ent:=Ent.bo s [(.map (some mb))]
 let a1_2:Ent:=Ent.mo .u32 mb (List.map Pg.me ps) c
 let a1_3:Ent:=Ent.bsO 211 Pg.cells Pg.b ps
 have st1_5: ∀(v12021:Value) (ks12021:List UInt32) (wS:World),Owl.Own [] w wS [a1_0,a1_1,a1_2,a1_3,.row v12021 22 1 ps.length (List.map vU32 ks12021)]→W 0 (bz 11 2047) (e1 [(17,(.bool (decide (ps.length>(sl.getD i Slt.zero).pg))))]) wS:=by
  intro v12021 ks12021 wS HS
  rw [hW]
  exact WH.done (by kernel_rfl)<|WQ.next<|WC.no rfl (decide_eq_false (by omega))<|WC.skip<|WQ.next<|ws<|wa rfl<|wn<|WC.ret<|WQ.out (.tmp rfl .nil) (⟨rfl,HS.fr⟩)
 have st1_4: ∀(v12021:Value) (ks12021:List UInt32) (wS:World),Owl.Own [] w wS [a1_0,a1_1,a1_2,a1_3,.row v12021 22 1 ps.length (List.map vU32 ks12021)]→W 2 (bz 11 1019) (e1 [(8,v12021),(16,(vN (sl.getD i Slt.zero).pg))]) wS:=by
  intro v12021 ks12021 wS HS
  rw [hW]
  refine wh1 2 ?_
  ·
   refine kH 2 rfl (op_lenA Tryz.underlying73 rfl (HS.arrR (i:=4) rfl) (⟨⟨_,HS⟩,?_⟩))
   exact xt 10 rfl (.bool (decide (ps.length>(sl.getD i Slt.zero).pg))) HS (fun _ _ HX=>op_gtrN rfl rfl ⟨rfl,rfl⟩)<|WH.cw hW (st1_5 v12021 ks12021 wS HS)
 have st1_2: ∀(wS:World),Owl.Own [] w wS [a1_0,a1_1,a1_2,a1_3]→W 3 (bz 11 1017) (e1 [(7,(ptr s 0)),(16,(vN (sl.getD i Slt.zero).pg))]) wS:=by
  intro wS HS
  rw [hW]
  refine wh1 1 ?_
  ·
   refine kH 1 rfl (op_callF Fa.C44 rfl ((spagesN_ok s mb c ps _ (HS.cellsAtO (i:=1) rfl) (HS.mpO (i:=2) rfl) (HS.bsR (i:=3) rfl) hME hgn).mono (fun e w12021 hq=>?_)))
   obtain ⟨v12021,ks12021,rfl,hk12021,hq12021⟩:=hq
   refine ⟨_,rfl,?_⟩
   have H12021:=HS.splice [] [] [.row v12021 22 1 ps.length (List.map vU32 ks12021)] rfl rfl hq12021 (Fits.solid True.intro Fits.nil)
   refine ⟨⟨_,H12021⟩,?_⟩
   exact WH.cw hW (st1_4 v12021 ks12021 w12021 H12021)
 have st1_3: ∀(v12021:Value) (ks12021:List UInt32) (wS:World),Owl.Own [] w wS [a1_0,a1_1,a1_2,a1_3,.row v12021 22 1 ps.length (List.map vU32 ks12021)]→W 6 (bz 11 31) (e1 [(9,(vN ps.length)),(10,(ptr x 0)),(11,(vN i))]) wS:=by
  intro v12021 ks12021 wS HS
  rw [hW]
  refine wh1 5 ?_
  ·
   refine kH 5 rfl (op_nilCheck rfl (⟨⟨_,HS⟩,?_⟩))
   exact xt 6 rfl (ptr x 1) HS (fun _ _ HX=>op_fieldAddr rfl Fa.F146_1 ⟨rfl,rfl⟩)<|xt 7 rfl (ptr x (1+i * 3)) HS (fun _ _ HX=>op_indexAddrA Tryz.underlying143 Fa.I142 rfl rfl hi9 ⟨rfl,rfl⟩)<|xt 8 rfl (ptr x ((1+i * 3)+1)) HS (fun _ _ HX=>op_fieldAddr rfl Fa.F142_1 ⟨rfl,rfl⟩)<|xt 9 rfl (vN (sl.getD i Slt.zero).pg) HS (fun _ _ HX=>op_load rfl (HX.cellO (i:=0) rfl (xo_get (j:=1) h9 hi9 (by decide) rfl)) Tryz.underlying3 rfl ⟨rfl,rfl⟩)<|xt 10 rfl (.bool (decide (ps.length>(sl.getD i Slt.zero).pg))) HS (fun _ _ HX=>op_gtrN rfl rfl ⟨rfl,rfl⟩)<|WH.cw hW (st1_5 v12021 ks12021 wS HS)
 have st1_1: ∀(v12021:Value) (ks12021:List UInt32) (wS:World),Owl.Own [] w wS [a1_0,a1_1,a1_2,a1_3,.row v12021 22 1 ps.length (List.map vU32 ks12021)]→W 7 (bz 11 27) (e1 [(8,v12021),(10,(ptr x 0)),(11,(vN i))]) wS:=by
  intro v12021 ks12021 wS HS
  rw [hW]
  refine wh2 2 5 ?_ ?_
  ·
   refine kH 2 rfl (op_lenA Tryz.underlying73 rfl (HS.arrR (i:=4) rfl) (⟨⟨_,HS⟩,?_⟩))
   exact WH.cw hW (st1_3 v12021 ks12021 wS HS)
  ·
   refine kH 5 rfl (op_nilCheck rfl (⟨⟨_,HS⟩,?_⟩))
   exact xt 6 rfl (ptr x 1) HS (fun _ _ HX=>op_fieldAddr rfl Fa.F146_1 ⟨rfl,rfl⟩)<|xt 7 rfl (ptr x (1+i * 3)) HS (fun _ _ HX=>op_indexAddrA Tryz.underlying143 Fa.I142 rfl rfl hi9 ⟨rfl,rfl⟩)<|xt 8 rfl (ptr x ((1+i * 3)+1)) HS (fun _ _ HX=>op_fieldAddr rfl Fa.F142_1 ⟨rfl,rfl⟩)<|xt 9 rfl (vN (sl.getD i Slt.zero).pg) HS (fun _ _ HX=>op_load rfl (HX.cellO (i:=0) rfl (xo_get (j:=1) h9 hi9 (by decide) rfl)) Tryz.underlying3 rfl ⟨rfl,rfl⟩)<|WH.cw hW (st1_4 v12021 ks12021 wS HS)
 have st1_0: ∀(wS:World),Owl.Own [] w wS [a1_0,a1_1,a1_2,a1_3]→W 8 (bz 11 25) (e1 [(7,(ptr s 0)),(10,(ptr x 0)),(11,(vN i))]) wS:=by
  intro wS HS
  rw [hW]
  refine wh2 1 5 ?_ ?_
  ·
   refine kH 1 rfl (op_callF Fa.C44 rfl ((spagesN_ok s mb c ps _ (HS.cellsAtO (i:=1) rfl) (HS.mpO (i:=2) rfl) (HS.bsR (i:=3) rfl) hME hgn).mono (fun e w12021 hq=>?_)))
   obtain ⟨v12021,ks12021,rfl,hk12021,hq12021⟩:=hq
   refine ⟨_,rfl,?_⟩
   have H12021:=HS.splice [] [] [.row v12021 22 1 ps.length (List.map vU32 ks12021)] rfl rfl hq12021 (Fits.solid True.intro Fits.nil)
   refine ⟨⟨_,H12021⟩,?_⟩
   exact WH.cw hW (st1_1 v12021 ks12021 w12021 H12021)
  ·
   refine kH 5 rfl (op_nilCheck rfl (⟨⟨_,HS⟩,?_⟩))
   exact xt 6 rfl (ptr x 1) HS (fun _ _ HX=>op_fieldAddr rfl Fa.F146_1 ⟨rfl,rfl⟩)<|xt 7 rfl (ptr x (1+i * 3)) HS (fun _ _ HX=>op_indexAddrA Tryz.underlying143 Fa.I142 rfl rfl hi9 ⟨rfl,rfl⟩)<|xt 8 rfl (ptr x ((1+i * 3)+1)) HS (fun _ _ HX=>op_fieldAddr rfl Fa.F142_1 ⟨rfl,rfl⟩)<|xt 9 rfl (vN (sl.getD i Slt.zero).pg) HS (fun _ _ HX=>op_load rfl (HX.cellO (i:=0) rfl (xo_get (j:=1) h9 hi9 (by decide) rfl)) Tryz.underlying3 rfl ⟨rfl,rfl⟩)<|WH.cw hW (st1_2 wS HS)
 have hq:=st1_0 w1 H1
 rw [hW] at hq ⊢
 exact WH.cv hq
theorem start_ok (x k:Nat) (pk:UInt32) (hx nv bv:Value) (c:Nat) (pg:UInt32) (hv:Value) (he:List UInt32) (mb cn:Nat) (gs:List Gr) (sl:List Slt) (s mb8 c8:Nat) (ps8:List Pg) (i:Nat) (pc:UInt32) (T:List Nat) (w:World) (H:Owl.Own T w w [.blk x (xoC k sl) 146,Ent.bo k [(vU32 pk),hx,(ptr c 0),nv,bv,(vU32 0)],.blk c [(vU32 pg),hv,(.map (some mb))] 196,Ent.ar hv 1 he.length (List.map vU32 he),.obj mb (mP .i64 (List.map Gr.me gs) cn),Ent.bs 199 Gr.cells Gr.b gs,Ent.dp grD.list gs,Ent.dp (sltD 211).list sl,Ent.bo s [(.map (some mb8))],Ent.mo .u32 mb8 (List.map Pg.me ps8) c8,Ent.bsO 211 Pg.cells Pg.b ps8]) (hME8:MEok (List.map Pg.me ps8) c8) (hlen8: ∀g∈ps8,g.bs.length=256) (hgn8:ps8.length<2^40) (h9:sl.length=9) (hs:hasS sl i=true) (hev:(sl.getD i Slt.zero).ev=none) (hle:ps8.length≤(sl.getD i Slt.zero).pg) :
  Calls Tryz.prog 89 #[(ptr x 0),(vN i),(ptr s 0),(vU32 pc)] w (fun e w'=> ∃a,e=.returned (vN 0)∧(MEok (List.map Pg.me a.ps) a.cn∧(a.ps.map Pg.bare).Perm (ps8.map Pg.bare)∧a.num=i∧a.pc=pc)∧SltTo 211 w sl (sl.set i { sl.getD i Slt.zero with ev:=some a })∧Owl.Own T w w' [.blk x (xoC k (sl.set i { sl.getD i Slt.zero with ev:=some a })) 146,Ent.bo k [(vU32 pk),hx,(ptr c 0),nv,bv,(vU32 0)],.blk c [(vU32 pg),hv,(.map (some mb))] 196,Ent.ar hv 1 he.length (List.map vU32 he),.obj mb (mP .i64 (List.map Gr.me gs) cn),Ent.bs 199 Gr.cells Gr.b gs,Ent.dp grD.list gs,Ent.dp (sltD 211).list (sl.set i { sl.getD i Slt.zero with ev:=some a }),Ent.bo s [(.map (some mb8))],Ent.mo .u32 mb8 (List.map Pg.me ps8) c8,Ent.bsO 211 Pg.cells Pg.b ps8]):=by
 refine enter (args:=[(ptr x 0),(vN i),(ptr s 0),(vU32 pc)]) Tryz.func89 rfl rfl ?_
 have hs9:=hasS_lt hs
 refine ws<|wa rfl<|wn<|WC.seq<|WC.block<|ws<|wm rfl<|wo (op_eqlPN Fa.PT47 rfl rfl<|wm rfl<|wY rfl (op_move rfl<|wY rfl (op_eqlPN Fa.PT68 rfl rfl<|wo (op_pickF rfl rfl rfl<|wa rfl<|wn<|WC.no rfl rfl<|ws<|wm rfl<|wm rfl<|wo (op_callF Fa.C104 rfl ((xhas_ok x k sl i _ (H.cellsAt (i:=0) rfl) h9).mono (fun e w1 hq=>?_)))))))
 obtain ⟨rfl,hf1⟩:=hq
 refine ⟨_,rfl,?_⟩
 have H1:=H.fr' hf1
 refine wo (op_not rfl<|wa rfl<|wn<|WC.no rfl (by rw [hs]; rfl)<|ws<|wm rfl<|wm rfl<|wo (op_nilCheck rfl<|wo (op_fieldAddr rfl Fa.F146_1<|wo (op_indexAddrA Tryz.underlying143 Fa.I142 rfl rfl hs9.2.1<|wo (op_fieldAddr rfl Fa.F142_2<|wo (op_load rfl (H1.cell (i:=0) rfl (xo_get (j:=2) h9 hs9.2.1 (by decide) (by rw [sltc,hev]; rfl))) Tryz.underlying140 rfl<|wo (op_neqPN Fa.PT140 rfl rfl<|wa rfl<|wn<|WC.no rfl rfl<|WC.skip<|WQ.inNormal<|WQ.next<|WC.seq<|ws<|wm rfl<|wm rfl<|wm rfl<|wo (op_callF Fa.C133 rfl ((xmany_ok x k sl s mb8 c8 ps8 i _ (H1.cellsAt (i:=0) rfl) (H1.cellsAtO (i:=8) rfl) (H1.mpO (i:=9) rfl) (H1.bsR (i:=10) rfl) hME8 hgn8 h9 hs9.2.1 hle).mono (fun e w2 hq=>?_))))))))))
 obtain ⟨rfl,hf2⟩:=hq
 refine ⟨_,rfl,?_⟩
 have H2:=H1.fr' hf2
 refine wn<|WC.no rfl rfl<|WC.skip<|WQ.next<|ws<|wm rfl<|wm rfl<|wm rfl ?_
 have hsz:w.heap.size≤w2.heap.size:=H2.fr.size
 refine wo (op_callF Fa.C134 rfl ((envNew_ok s mb8 c8 ps8 i pc _ (H2.cellsAtO (i:=8) rfl) (H2.mpO (i:=9) rfl) (H2.bsR (i:=10) rfl) hME8 hlen8 hs9.1 (by omega)).mono (fun e w3 hq=>?_)))
 obtain ⟨a3,rfl,hi3,hf3,hq3⟩:=hq
 refine ⟨_,rfl,?_⟩
 have H3:=H2.splice [] [] [Ent.dp (evD 211) a3] rfl rfl hq3 (Fits.fresh hf3 Fits.nil)
 refine wm rfl<|we rfl rfl<|we rfl rfl<|wa rfl<|wa rfl<|wn<|WC.seq<|ws<|wm rfl<|wo (op_eqlN (b:=0) rfl rfl<|wn<|WC.yes rfl (by decide)<|WC.region<|wm rfl<|wm rfl<|wm rfl<|wo (op_nilCheck rfl<|wo (op_fieldAddr rfl Fa.F146_1<|wo (op_indexAddrA Tryz.underlying143 Fa.I142 rfl rfl hs9.2.1<|wo (op_fieldAddr rfl Fa.F142_2<|wo (op_storeXe (j:=0) (a:=a3) H3 h9 hs9.2.1 rfl rfl rfl Fa.I140 (fun w4 H4=>(wn<|ws<|wm rfl<|wa rfl<|wn<|WC.ret<|WQ.out (.tmp rfl .nil) ?_))))))))
 have h3:=Owl.Own.dpWith (D:=sltD 211) (l:=sl) (l':=sl.set i { sl.getD i Slt.zero with ev:=some a3 }) (a:={ sl.getD i Slt.zero with ev:=some a3 }) (i:=7) (j:=11) H4 rfl rfl (fun w h h2=>slt_set_ok h h2) slt_set_ft2
 exact ⟨a3,rfl,hi3,SltTo.set (fun b hb=>Nat.le_trans hsz (hf3 b hb)),h3.sel [0,1,2,3,4,5,6,12,8,9,10] rfl rfl⟩
theorem callsNewL_ok (pg:UInt32) (lv:Value) (l:List UInt32) (w:World) (hA:Arr w lv 1 l.length (List.map vU32 l)) (hok0:hardE pg l=0) (hn:l.length<2^40) :
  Calls Tryz.prog 83 #[(.agg #[(vU32 pg),lv])] w (fun e w'=> ∃k hx nv bv c hv mb,e=.returned (.tuple #[ptr k 0,vN 0])∧w.heap.size≤k∧(∀b∈footA hv (List.map vU32 l),w.heap.size≤b)∧Owl.Own [] w w' [Ent.bo k [(vU32 pg),hx,(ptr c 0),nv,bv,(vU32 0)],.blk c [(vU32 pg),hv,(.map (some mb))] 196,Ent.ar hv 1 l.length (List.map vU32 l),.obj mb (mP .i64 (List.map Gr.me []) 0),Ent.bs 199 Gr.cells Gr.b [],Ent.dp grD.list []]):=by
 refine enter (args:=[(.agg #[(vU32 pg),lv])]) Tryz.func83 rfl rfl ?_
 have H0:Owl.Own [] w w []:=Own.start w []
 refine ws<|wo (op_box H0 rfl rfl (fun b1 w1 H1=>(wa rfl<|wa rfl<|wn<|ws<|wo (op_loadS (vs:=[_,_]) rfl (H1.cells (i:=0) rfl rfl) Tryz.underlying75 rfl Fa.I75 rfl<|wo (op_callF Fa.C126 rfl ((capsNew2_ok pg _ l _ (H1.arr hA) hn hok0).mono (fun e w2 hq=>?_)))))))
 obtain ⟨c2,v2,mb2,rfl,hv2,hq2⟩:=hq
 refine ⟨_,rfl,?_⟩
 have H2:=H1.splice [] [] [.blk c2 [(vU32 pg),v2,(.map (some mb2))] 196,Ent.ar v2 1 l.length (List.map vU32 l),.obj mb2 (mP .i64 (List.map Gr.me []) 0),Ent.bs 199 Gr.cells Gr.b [],Ent.dp grD.list []] rfl rfl hq2 (Fits.solid True.intro (Fits.fresh hv2 (Fits.solid True.intro (Fits.solid True.intro (Fits.fresh (fun b hb=>by cases hb) Fits.nil)))))
 refine wm rfl<|we rfl rfl<|we rfl rfl<|wa rfl<|wa rfl<|wn<|WC.seq<|ws<|wm rfl<|wo (op_neqN (b:=0) rfl rfl<|wn<|WC.no rfl (by decide)<|WC.skip<|WQ.next<|ws<|wo (op_fieldAddr rfl Fa.F75_1<|wo (op_load rfl (H2.cell (i:=0) rfl rfl) Tryz.underlying73 rfl<|wo (op_callF Fa.C127 rfl ((clone32_ok _ l _ (H2.arr hA) hn).mono (fun e w3 hq=>?_))))))
 obtain ⟨v3,rfl,hq3⟩:=hq
 refine ⟨_,rfl,?_⟩
 have H3:=H2.splice [] [] [.row v3 22 1 l.length (List.map vU32 l)] rfl rfl hq3 (Fits.solid True.intro Fits.nil)
 refine wo (op_fieldAddr rfl Fa.F75_1<|wo (op_storeB (i:=0) H3 rfl rfl rfl rfl (Arr.one (H3.arrR (i:=6) rfl)) Fa.I73 (fun w4 H4=>(wn<|WC.seq<|WC.held 6 rfl Fa.M H4 (fun w'=> ∃L',Owl.Own [] w w' ([.blk b1 [(vU32 pg),v3] 75,.blk c2 [(vU32 pg),v2,(.map (some mb2))] 196,Ent.ar v2 1 l.length (List.map vU32 l),.obj mb2 (mP .i64 (List.map Gr.me []) 0),Ent.bs 199 Gr.cells Gr.b [],Ent.dp grD.list [],.row v3 22 1 l.length (List.map vU32 l)]++L')) ?_))))
 intro w5 H5
 refine xt 0 rfl (.agg #[(vU32 pg),v3]) H5 (fun _ _ HX=>op_loadS (vs:=[_,_]) rfl (HX.cells (i:=0) rfl rfl) Tryz.underlying75 rfl Fa.I75 rfl ⟨rfl,rfl⟩)<|xt 1 rfl (ptr c2 0) H5 (fun _ _ HX=>op_move rfl ⟨rfl,rfl⟩)<|WH.named (fun W hW=>?_)
 let e5:List (Nat × Value)→List (Nat × Value):=fun r=>(0,(.agg #[(vU32 pg),lv]))::(1,(ptr b1 0))::(2,(.pointer none))::(3,(vN 0))::(4,(ptr c2 0))::(5,(vN 0))::(9,(.tuple #[(ptr c2 0),(vN 0)]))::(10,(.agg #[(vU32 pg),lv]))::(11,(.tuple #[(ptr c2 0),(vN 0)]))::(12,(ptr c2 0))::(13,(vN 0))::(14,(vN 0))::(15,(.bool (decide (0≠0))))::(17,(ptr b1 1))::(18,lv)::(19,v3)::(20,(ptr b1 1))::r
 let a5_0:Ent:=.blk b1 [(vU32 pg),v3] 75
 let a5_1:Ent:=.blk c2 [(vU32 pg),v2,(.map (some mb2))] 196
 let a5_2:Ent:=Ent.ar v2 1 l.length (List.map vU32 l)
 let a5_3:Ent:=.obj mb2 (mP .i64 (List.map Gr.me []) 0)
 let a5_4:Ent:=Ent.bs 199 Gr.cells Gr.b []
 let a5_5:Ent:=.row v3 22 1 l.length (List.map vU32 l)
 have st5_2: ∀(b16081:Nat) (q16041:Nat) (mb16041:Nat) (wS:World),Owl.Own [] w wS [a5_0,a5_1,a5_2,a5_3,a5_4,Ent.dp grD.list [],a5_5,.blk q16041 [(.map (some mb16041)),(.slice none 0 0),(vN 0)] 264,.obj mb16041 (mP .u16 [] 0),.blk b16081 [(vU32 pg),v3,(ptr c2 0),(ptr q16041 0),(.slice none 0 0),(vU32 0)] 193]→W 0 (bz 6 63) (e5 [(6,(ptr b16081 0))]) wS:=by
  intro b16081 q16041 mb16041 wS HS
  rw [hW]
  refine WH.done (by kernel_rfl)<|WQ.next<|WC.seq<|ws ?_
  have H7:=HS.nilRow 59 1
  refine wo (op_fieldAddr rfl Fa.F75_1<|wo (op_load rfl (H7.cell (i:=0) rfl rfl) Tryz.underlying73 rfl<|wo (op_lenA Tryz.underlying73 rfl (H7.arrR (i:=6) rfl)<|wm rfl<|wn<|WC.block<|WC.loop (α:=Nat × Value × List Value) (fun (i,bv,xs)=>[(1,(ptr b1 0)),(4,(ptr c2 0)),(6,(ptr b16081 0)),(27,v3),(28,(vN l.length)),(29,(vN i))]) (fun (i,bv,xs) w'=>(i≤l.length∧xs.length=i)∧Owl.Own [] w w' [.blk b1 [(vU32 pg),v3] 75,.blk c2 [(vU32 pg),v2,(.map (some mb2))] 196,Ent.ar v2 1 l.length (List.map vU32 l),.obj mb2 (mP .i64 (List.map Gr.me []) 0),Ent.bs 199 Gr.cells Gr.b [],Ent.dp grD.list [],.row v3 22 1 l.length (List.map vU32 l),.blk q16041 [(.map (some mb16041)),(.slice none 0 0),(vN 0)] 264,.obj mb16041 (mP .u16 [] 0),.blk b16081 [(vU32 pg),v3,(ptr c2 0),(ptr q16041 0),bv,(vU32 0)] 193,.row bv 59 1 i xs]) (fun (i,bv,xs)=>l.length-i) (0,.slice none 0 0,[]) ⟨⟨Nat.zero_le _,rfl⟩,H7⟩ ⟨rfl,rfl,rfl,rfl,rfl,rfl,trivial⟩ ?_)))
  rintro ⟨i,bv,xs⟩ w8 ⟨⟨hi1,hx⟩,H8⟩
  show WC _ _ _ _ _ [(1,(ptr b1 0)),(4,(ptr c2 0)),(6,(ptr b16081 0)),(27,v3),(28,(vN l.length)),(29,(vN i))] _
  refine ws<|wo (op_lssN rfl rfl<|wn<|WC.seq (wC (decide (i<l.length)) (fun hb9=>?_) (fun hb9=>?_)))
  ·
   have hc9:=dT hb9
   refine WC.skip<|WQ.next<|WC.seq<|WC.block<|ws<|wo (op_indexAddr1 Tryz.underlying73 Fa.I22 rfl (H8.arrR (i:=6) rfl) rfl (by omega)<|wo (op_load rfl ((H8.arrR (i:=6) rfl).at (get_map vU32 0 (Arr.ltM (H8.arrR (i:=6) rfl) (by omega)))) Tryz.underlying22 rfl<|wa rfl<|wn<|WC.held 16 rfl Fa.M H8 (fun w'=> ∃L',Owl.Own [] w w' ([.blk b1 [(vU32 pg),v3] 75,.blk c2 [(vU32 pg),v2,(.map (some mb2))] 196,Ent.ar v2 1 l.length (List.map vU32 l),.obj mb2 (mP .i64 (List.map Gr.me []) 0),Ent.bs 199 Gr.cells Gr.b [],Ent.dp grD.list [],.row v3 22 1 l.length (List.map vU32 l),.blk q16041 [(.map (some mb16041)),(.slice none 0 0),(vN 0)] 264,.obj mb16041 (mP .u16 [] 0)]++L')) ?_))
   intro w10 H10
   refine xt 0 rfl (ptr b16081 0) H10 (fun _ _ HX=>op_move rfl ⟨rfl,rfl⟩)<|xt 1 rfl (ptr b16081 0) H10 (fun _ _ HX=>op_move rfl ⟨rfl,rfl⟩)<|xt 8 rfl (vU32 (l.getD i 0)) H10 (fun _ _ HX=>op_move rfl ⟨rfl,rfl⟩)<|xt 9 rfl (vN (l.getD i 0).toNat) H10 (fun _ _ HX=>op_convU32N (hs:=Tryz.underlying22) (hd:=Tryz.underlying3) rfl ⟨rfl,rfl⟩)<|WH.named (fun W hW=>?_)
   let e9:List (Nat × Value)→List (Nat × Value):=fun r=>(1,(ptr b1 0))::(4,(ptr c2 0))::(6,(ptr b16081 0))::(8,(vU32 (l.getD i 0)))::(27,v3)::(28,(vN l.length))::(29,(vN i))::(30,(.bool (decide (i<l.length))))::(31,(.pointer (some (sp v3 i))))::(32,(vU32 (l.getD i 0)))::r
   let a9_0:Ent:=.blk b1 [(vU32 pg),v3] 75
   let a9_1:Ent:=.blk c2 [(vU32 pg),v2,(.map (some mb2))] 196
   let a9_2:Ent:=Ent.ar v2 1 l.length (List.map vU32 l)
   let a9_3:Ent:=.obj mb2 (mP .i64 (List.map Gr.me []) 0)
   let a9_4:Ent:=Ent.bs 199 Gr.cells Gr.b []
   let a9_5:Ent:=Ent.dp grD.list []
   let a9_6:Ent:=.row v3 22 1 l.length (List.map vU32 l)
   let a9_7:Ent:=.blk q16041 [(.map (some mb16041)),(.slice none 0 0),(vN 0)] 264
   let a9_8:Ent:=.obj mb16041 (mP .u16 [] 0)
   let a9_9:Ent:=.blk b16081 [(vU32 pg),v3,(ptr c2 0),(ptr q16041 0),bv,(vU32 0)] 193
   let a9_10:Ent:=.row bv 59 1 i xs
   have st9_20: ∀(v21241:Value) (v21201:Value) (b21101:Nat) (b21141:Nat) (b21221:Nat) (wS:World),Owl.Own [] w wS [a9_0,a9_1,a9_2,a9_3,a9_4,a9_5,a9_6,a9_7,a9_8,.blk b16081 [(vU32 pg),v3,(ptr c2 0),(ptr q16041 0),v21241,(vU32 0)] 193,.row v21241 59 1 (i+1) (xs++[v21201]),.row (.slice (some ⟨b21101,0,none⟩) 64 64) 5 1 64 (List.map vU8 (List.replicate 64 0)),.row (.slice (some ⟨b21141,0,none⟩) 1 1) 9 1 1 (List.map str [(List.replicate 64 0)]),.row v21201 9 1 ((l.getD i 0).toNat) (List.map str (List.replicate ((l.getD i 0).toNat) (List.replicate 64 0))),.row (.slice (some ⟨b21221,0,none⟩) 1 1) 59 1 1 [v21201]]→W 0 (bz 16 65535) (e9 []) wS:=by
    intro v21241 v21201 b21101 b21141 b21221 wS HS
    rw [hW]
    exact WH.done (by kernel_rfl)<|WQ.inNormal<|WQ.next<|WC.region<|wo (op_addN (b:=1) rfl rfl (by omega)<|wm rfl<|WL.nil<|WQ.round (i+1,v21241,(xs++[v21201])) ⟨⟨by omega,by rw [List.length_append,hx]; rfl⟩,(by have h:=(show Owl.Own [] w wS [.blk b1 [(vU32 pg),v3] 75,.blk c2 [(vU32 pg),v2,(.map (some mb2))] 196,Ent.ar v2 1 l.length (List.map vU32 l),.obj mb2 (mP .i64 (List.map Gr.me []) 0),Ent.bs 199 Gr.cells Gr.b [],Ent.dp grD.list [],.row v3 22 1 l.length (List.map vU32 l),.blk q16041 [(.map (some mb16041)),(.slice none 0 0),(vN 0)] 264,.obj mb16041 (mP .u16 [] 0),.blk b16081 [(vU32 pg),v3,(ptr c2 0),(ptr q16041 0),v21241,(vU32 0)] 193,.row v21241 59 1 (i+1) (xs++[v21201]),.row (.slice (some ⟨b21101,0,none⟩) 64 64) 5 1 64 (List.map vU8 (List.replicate 64 0)),.row (.slice (some ⟨b21141,0,none⟩) 1 1) 9 1 1 (List.map str [(List.replicate 64 0)]),.row v21201 9 1 ((l.getD i 0).toNat) (List.map str (List.replicate ((l.getD i 0).toNat) (List.replicate 64 0))),.row (.slice (some ⟨b21221,0,none⟩) 1 1) 59 1 1 [v21201]] from HS); exact h.take 11)⟩ ⟨rfl,rfl,rfl,rfl,rfl,rfl,trivial⟩ (by show l.length-(i+1)<l.length-i; omega))
   have st9_19: ∀(v21241:Value) (v21201:Value) (b21101:Nat) (b21141:Nat) (b21221:Nat) (wS:World),Owl.Own [] w wS [a9_0,a9_1,a9_2,a9_3,a9_4,a9_5,a9_6,a9_7,a9_8,a9_9,.row v21241 59 1 (i+1) (xs++[v21201]),.row (.slice (some ⟨b21101,0,none⟩) 64 64) 5 1 64 (List.map vU8 (List.replicate 64 0)),.row (.slice (some ⟨b21141,0,none⟩) 1 1) 9 1 1 (List.map str [(List.replicate 64 0)]),.row v21201 9 1 ((l.getD i 0).toNat) (List.map str (List.replicate ((l.getD i 0).toNat) (List.replicate 64 0))),.row (.slice (some ⟨b21221,0,none⟩) 1 1) 59 1 1 [v21201]]→W 1 (bz 16 32767) (e9 [(45,v21241),(47,(ptr b16081 4))]) wS:=by
    intro v21241 v21201 b21101 b21141 b21221 wS HS
    rw [hW]
    refine wh1 15 ?_
    ·
     refine kH 15 rfl (op_storeB (i:=9) HS rfl rfl rfl rfl (Arr.one (HS.arrR (i:=10) rfl)) Fa.I191 (fun w21301 H21301=>(⟨⟨_,H21301⟩,?_⟩)))
     exact WH.cw hW (st9_20 v21241 v21201 b21101 b21141 b21221 w21301 H21301)
   have st9_18: ∀(v21241:Value) (v21201:Value) (b21101:Nat) (b21141:Nat) (b21221:Nat) (wS:World),Owl.Own [] w wS [a9_0,a9_1,a9_2,a9_3,a9_4,a9_5,a9_6,a9_7,a9_8,a9_9,.row v21241 59 1 (i+1) (xs++[v21201]),.row (.slice (some ⟨b21101,0,none⟩) 64 64) 5 1 64 (List.map vU8 (List.replicate 64 0)),.row (.slice (some ⟨b21141,0,none⟩) 1 1) 9 1 1 (List.map str [(List.replicate 64 0)]),.row v21201 9 1 ((l.getD i 0).toNat) (List.map str (List.replicate ((l.getD i 0).toNat) (List.replicate 64 0))),.row (.slice (some ⟨b21221,0,none⟩) 1 1) 59 1 1 [v21201]]→W 3 (bz 16 8191) (e9 [(33,(ptr b16081 0)),(45,v21241)]) wS:=by
    intro v21241 v21201 b21101 b21141 b21221 wS HS
    rw [hW]
    refine wh1 13 ?_
    ·
     refine kH 13 rfl (op_nilCheck rfl (⟨⟨_,HS⟩,?_⟩))
     exact xt 14 rfl (ptr b16081 4) HS (fun _ _ HX=>op_fieldAddr rfl Fa.F193_3 ⟨rfl,rfl⟩)<|WH.cw hW (st9_19 v21241 v21201 b21101 b21141 b21221 wS HS)
   have st9_17: ∀(b21221:Nat) (b21101:Nat) (b21141:Nat) (v21201:Value) (wS:World),Owl.Own [] w wS [a9_0,a9_1,a9_2,a9_3,a9_4,a9_5,a9_6,a9_7,a9_8,a9_9,a9_10,.row (.slice (some ⟨b21101,0,none⟩) 64 64) 5 1 64 (List.map vU8 (List.replicate 64 0)),.row (.slice (some ⟨b21141,0,none⟩) 1 1) 9 1 1 (List.map str [(List.replicate 64 0)]),.row v21201 9 1 ((l.getD i 0).toNat) (List.map str (List.replicate ((l.getD i 0).toNat) (List.replicate 64 0))),.row (.slice (some ⟨b21221,0,none⟩) 1 1) 59 1 1 [v21201]]→W 4 (bz 16 4095) (e9 [(33,(ptr b16081 0)),(37,bv),(44,(.slice (some ⟨b21221,0,none⟩) 1 1))]) wS:=by
    intro b21221 b21101 b21141 v21201 wS HS
    rw [hW]
    refine wh1 12 ?_
    ·
     refine kH 12 rfl (op_append (i:=10) HS Tryz.underlying191 Fa.I59 rfl rfl rfl rfl (Src.ofArr Tryz.underlying191 (HS.arrR (i:=14) rfl)) (fun c hc=>by rw [List.mem_singleton.1 hc]; exact Arr.one (HS.arrR (i:=13) rfl)) (by omega) (by omega) (fun v21241 w21241 H21241=>?_))
     refine ⟨⟨_,H21241⟩,?_⟩
     exact WH.cw hW (st9_18 v21241 v21201 b21101 b21141 b21221 w21241 H21241)
   have st9_15: ∀(v21201:Value) (b21101:Nat) (b21141:Nat) (wS:World),Owl.Own [] w wS [a9_0,a9_1,a9_2,a9_3,a9_4,a9_5,a9_6,a9_7,a9_8,a9_9,a9_10,.row (.slice (some ⟨b21101,0,none⟩) 64 64) 5 1 64 (List.map vU8 (List.replicate 64 0)),.row (.slice (some ⟨b21141,0,none⟩) 1 1) 9 1 1 (List.map str [(List.replicate 64 0)]),.row v21201 9 1 ((l.getD i 0).toNat) (List.map str (List.replicate ((l.getD i 0).toNat) (List.replicate 64 0)))]→W 5 (bz 16 2047) (e9 [(33,(ptr b16081 0)),(37,bv),(43,v21201)]) wS:=by
    intro v21201 b21101 b21141 wS HS
    rw [hW]
    refine wh1 11 ?_
    ·
     refine kH 11 rfl (op_buildSlice (cs:=[v21201]) HS Tryz.underlying191 Fa.I59 rfl rfl (by obtain ⟨_,_,e0,_⟩:=(HS.arrR (i:=13) rfl).form; rw [e0]; rfl) rfl (by decide) (by decide) (fun b21221 w21221 H21221=>?_))
     refine ⟨⟨_,H21221⟩,?_⟩
     exact WH.cw hW (st9_17 b21221 b21101 b21141 v21201 w21221 H21221)
   have st9_16: ∀(b21221:Nat) (b21101:Nat) (b21141:Nat) (v21201:Value) (wS:World),Owl.Own [] w wS [a9_0,a9_1,a9_2,a9_3,a9_4,a9_5,a9_6,a9_7,a9_8,a9_9,a9_10,.row (.slice (some ⟨b21101,0,none⟩) 64 64) 5 1 64 (List.map vU8 (List.replicate 64 0)),.row (.slice (some ⟨b21141,0,none⟩) 1 1) 9 1 1 (List.map str [(List.replicate 64 0)]),.row v21201 9 1 ((l.getD i 0).toNat) (List.map str (List.replicate ((l.getD i 0).toNat) (List.replicate 64 0))),.row (.slice (some ⟨b21221,0,none⟩) 1 1) 59 1 1 [v21201]]→W 5 (bz 16 4079) (e9 [(33,(ptr b16081 0)),(36,(ptr b16081 4)),(44,(.slice (some ⟨b21221,0,none⟩) 1 1))]) wS:=by
    intro b21221 b21101 b21141 v21201 wS HS
    rw [hW]
    refine wh1 4 ?_
    ·
     refine kH 4 rfl (op_load rfl (HS.cell (i:=9) rfl rfl) Tryz.underlying191 rfl (⟨⟨_,HS⟩,?_⟩))
     exact WH.cw hW (st9_17 b21221 b21101 b21141 v21201 wS HS)
   have st9_12: ∀(b21141:Nat) (b21101:Nat) (wS:World),Owl.Own [] w wS [a9_0,a9_1,a9_2,a9_3,a9_4,a9_5,a9_6,a9_7,a9_8,a9_9,a9_10,.row (.slice (some ⟨b21101,0,none⟩) 64 64) 5 1 64 (List.map vU8 (List.replicate 64 0)),.row (.slice (some ⟨b21141,0,none⟩) 1 1) 9 1 1 (List.map str [(List.replicate 64 0)])]→W 6 (bz 16 1023) (e9 [(33,(ptr b16081 0)),(37,bv),(40,(.slice (some ⟨b21141,0,none⟩) 1 1)),(42,(vN (l.getD i 0).toNat))]) wS:=by
    intro b21141 b21101 wS HS
    rw [hW]
    refine wh1 10 ?_
    ·
     refine kH 10 rfl (op_callF Fa.C129 rfl ((repeatS_ok _ (List.replicate 64 0) ((l.getD i 0).toNat) _ (HS.arrR (i:=12) rfl) (UInt32.toNat_lt _)).mono (fun e w21201 hq=>?_)))
     obtain ⟨v21201,rfl,hq21201⟩:=hq
     refine ⟨_,rfl,?_⟩
     have H21201:=HS.splice [] [] [.row v21201 9 1 ((l.getD i 0).toNat) (List.map str (List.replicate ((l.getD i 0).toNat) (List.replicate 64 0)))] rfl rfl hq21201 (Fits.solid True.intro Fits.nil)
     refine ⟨⟨_,H21201⟩,?_⟩
     exact WH.cw hW (st9_15 v21201 b21101 b21141 w21201 H21201)
   have st9_13: ∀(v21201:Value) (b21101:Nat) (b21141:Nat) (wS:World),Owl.Own [] w wS [a9_0,a9_1,a9_2,a9_3,a9_4,a9_5,a9_6,a9_7,a9_8,a9_9,a9_10,.row (.slice (some ⟨b21101,0,none⟩) 64 64) 5 1 64 (List.map vU8 (List.replicate 64 0)),.row (.slice (some ⟨b21141,0,none⟩) 1 1) 9 1 1 (List.map str [(List.replicate 64 0)]),.row v21201 9 1 ((l.getD i 0).toNat) (List.map str (List.replicate ((l.getD i 0).toNat) (List.replicate 64 0)))]→W 6 (bz 16 2031) (e9 [(33,(ptr b16081 0)),(36,(ptr b16081 4)),(43,v21201)]) wS:=by
    intro v21201 b21101 b21141 wS HS
    rw [hW]
    refine wh2 4 11 ?_ ?_
    ·
     refine kH 4 rfl (op_load rfl (HS.cell (i:=9) rfl rfl) Tryz.underlying191 rfl (⟨⟨_,HS⟩,?_⟩))
     exact WH.cw hW (st9_15 v21201 b21101 b21141 wS HS)
    ·
     refine kH 11 rfl (op_buildSlice (cs:=[v21201]) HS Tryz.underlying191 Fa.I59 rfl rfl (by obtain ⟨_,_,e0,_⟩:=(HS.arrR (i:=13) rfl).form; rw [e0]; rfl) rfl (by decide) (by decide) (fun b21221 w21221 H21221=>?_))
     refine ⟨⟨_,H21221⟩,?_⟩
     exact WH.cw hW (st9_16 b21221 b21101 b21141 v21201 w21221 H21221)
   have st9_9: ∀(b21101:Nat) (wS:World),Owl.Own [] w wS [a9_0,a9_1,a9_2,a9_3,a9_4,a9_5,a9_6,a9_7,a9_8,a9_9,a9_10,.row (.slice (some ⟨b21101,0,none⟩) 64 64) 5 1 64 (List.map vU8 (List.replicate 64 0))]→W 7 (bz 16 895) (e9 [(33,(ptr b16081 0)),(37,bv),(39,(str (List.replicate 64 0))),(42,(vN (l.getD i 0).toNat))]) wS:=by
    intro b21101 wS HS
    rw [hW]
    refine wh1 7 ?_
    ·
     refine kH 7 rfl (op_buildSlice (cs:=[_]) HS Tryz.underlying59 Fa.I9 rfl rfl rfl rfl (by decide) (by decide) (fun b21141 w21141 H21141=>(⟨⟨_,H21141⟩,?_⟩)))
     exact WH.cw hW (st9_12 b21141 b21101 w21141 H21141)
   have st9_10: ∀(b21141:Nat) (b21101:Nat) (wS:World),Owl.Own [] w wS [a9_0,a9_1,a9_2,a9_3,a9_4,a9_5,a9_6,a9_7,a9_8,a9_9,a9_10,.row (.slice (some ⟨b21101,0,none⟩) 64 64) 5 1 64 (List.map vU8 (List.replicate 64 0)),.row (.slice (some ⟨b21141,0,none⟩) 1 1) 9 1 1 (List.map str [(List.replicate 64 0)])]→W 7 (bz 16 1007) (e9 [(33,(ptr b16081 0)),(36,(ptr b16081 4)),(40,(.slice (some ⟨b21141,0,none⟩) 1 1)),(42,(vN (l.getD i 0).toNat))]) wS:=by
    intro b21141 b21101 wS HS
    rw [hW]
    refine wh2 4 10 ?_ ?_
    ·
     refine kH 4 rfl (op_load rfl (HS.cell (i:=9) rfl rfl) Tryz.underlying191 rfl (⟨⟨_,HS⟩,?_⟩))
     exact WH.cw hW (st9_12 b21141 b21101 wS HS)
    ·
     refine kH 10 rfl (op_callF Fa.C129 rfl ((repeatS_ok _ (List.replicate 64 0) ((l.getD i 0).toNat) _ (HS.arrR (i:=12) rfl) (UInt32.toNat_lt _)).mono (fun e w21201 hq=>?_)))
     obtain ⟨v21201,rfl,hq21201⟩:=hq
     refine ⟨_,rfl,?_⟩
     have H21201:=HS.splice [] [] [.row v21201 9 1 ((l.getD i 0).toNat) (List.map str (List.replicate ((l.getD i 0).toNat) (List.replicate 64 0)))] rfl rfl hq21201 (Fits.solid True.intro Fits.nil)
     refine ⟨⟨_,H21201⟩,?_⟩
     exact WH.cw hW (st9_13 v21201 b21101 b21141 w21201 H21201)
   have st9_14: ∀(b21221:Nat) (b21101:Nat) (b21141:Nat) (v21201:Value) (wS:World),Owl.Own [] w wS [a9_0,a9_1,a9_2,a9_3,a9_4,a9_5,a9_6,a9_7,a9_8,a9_9,a9_10,.row (.slice (some ⟨b21101,0,none⟩) 64 64) 5 1 64 (List.map vU8 (List.replicate 64 0)),.row (.slice (some ⟨b21141,0,none⟩) 1 1) 9 1 1 (List.map str [(List.replicate 64 0)]),.row v21201 9 1 ((l.getD i 0).toNat) (List.map str (List.replicate ((l.getD i 0).toNat) (List.replicate 64 0))),.row (.slice (some ⟨b21221,0,none⟩) 1 1) 59 1 1 [v21201]]→W 7 (bz 16 4067) (e9 [(33,(ptr b16081 0)),(34,(ptr b16081 0)),(44,(.slice (some ⟨b21221,0,none⟩) 1 1))]) wS:=by
    intro b21221 b21101 b21141 v21201 wS HS
    rw [hW]
    refine wh1 2 ?_
    ·
     refine kH 2 rfl (op_nilCheck rfl (⟨⟨_,HS⟩,?_⟩))
     exact xt 3 rfl (ptr b16081 4) HS (fun _ _ HX=>op_fieldAddr rfl Fa.F193_3 ⟨rfl,rfl⟩)<|WH.cw hW (st9_16 b21221 b21101 b21141 v21201 wS HS)
   have st9_6: ∀(b21101:Nat) (wS:World),Owl.Own [] w wS [a9_0,a9_1,a9_2,a9_3,a9_4,a9_5,a9_6,a9_7,a9_8,a9_9,a9_10,.row (.slice (some ⟨b21101,0,none⟩) 64 64) 5 1 64 (List.map vU8 (List.replicate 64 0))]→W 8 (bz 16 831) (e9 [(33,(ptr b16081 0)),(37,bv),(38,(.slice (some ⟨b21101,0,none⟩) 64 64)),(42,(vN (l.getD i 0).toNat))]) wS:=by
    intro b21101 wS HS
    rw [hW]
    refine wh1 6 ?_
    ·
     refine kH 6 rfl (op_bytesStr (l:=(List.replicate 64 0)) Tryz.underlying114 Tryz.underlying5 Tryz.underlying9 rfl (HS.arrR (i:=11) rfl) rfl (⟨⟨_,HS⟩,?_⟩))
     exact WH.cw hW (st9_9 b21101 wS HS)
   have st9_7: ∀(b21101:Nat) (wS:World),Owl.Own [] w wS [a9_0,a9_1,a9_2,a9_3,a9_4,a9_5,a9_6,a9_7,a9_8,a9_9,a9_10,.row (.slice (some ⟨b21101,0,none⟩) 64 64) 5 1 64 (List.map vU8 (List.replicate 64 0))]→W 8 (bz 16 879) (e9 [(33,(ptr b16081 0)),(36,(ptr b16081 4)),(39,(str (List.replicate 64 0))),(42,(vN (l.getD i 0).toNat))]) wS:=by
    intro b21101 wS HS
    rw [hW]
    refine wh2 4 7 ?_ ?_
    ·
     refine kH 4 rfl (op_load rfl (HS.cell (i:=9) rfl rfl) Tryz.underlying191 rfl (⟨⟨_,HS⟩,?_⟩))
     exact WH.cw hW (st9_9 b21101 wS HS)
    ·
     refine kH 7 rfl (op_buildSlice (cs:=[_]) HS Tryz.underlying59 Fa.I9 rfl rfl rfl rfl (by decide) (by decide) (fun b21141 w21141 H21141=>(⟨⟨_,H21141⟩,?_⟩)))
     exact WH.cw hW (st9_10 b21141 b21101 w21141 H21141)
   have st9_11: ∀(v21201:Value) (b21101:Nat) (b21141:Nat) (wS:World),Owl.Own [] w wS [a9_0,a9_1,a9_2,a9_3,a9_4,a9_5,a9_6,a9_7,a9_8,a9_9,a9_10,.row (.slice (some ⟨b21101,0,none⟩) 64 64) 5 1 64 (List.map vU8 (List.replicate 64 0)),.row (.slice (some ⟨b21141,0,none⟩) 1 1) 9 1 1 (List.map str [(List.replicate 64 0)]),.row v21201 9 1 ((l.getD i 0).toNat) (List.map str (List.replicate ((l.getD i 0).toNat) (List.replicate 64 0)))]→W 8 (bz 16 2019) (e9 [(33,(ptr b16081 0)),(34,(ptr b16081 0)),(43,v21201)]) wS:=by
    intro v21201 b21101 b21141 wS HS
    rw [hW]
    refine wh2 2 11 ?_ ?_
    ·
     refine kH 2 rfl (op_nilCheck rfl (⟨⟨_,HS⟩,?_⟩))
     exact xt 3 rfl (ptr b16081 4) HS (fun _ _ HX=>op_fieldAddr rfl Fa.F193_3 ⟨rfl,rfl⟩)<|WH.cw hW (st9_13 v21201 b21101 b21141 wS HS)
    ·
     refine kH 11 rfl (op_buildSlice (cs:=[v21201]) HS Tryz.underlying191 Fa.I59 rfl rfl (by obtain ⟨_,_,e0,_⟩:=(HS.arrR (i:=13) rfl).form; rw [e0]; rfl) rfl (by decide) (by decide) (fun b21221 w21221 H21221=>?_))
     refine ⟨⟨_,H21221⟩,?_⟩
     exact WH.cw hW (st9_14 b21221 b21101 b21141 v21201 w21221 H21221)
   have st9_3: ∀(wS:World),Owl.Own [] w wS [a9_0,a9_1,a9_2,a9_3,a9_4,a9_5,a9_6,a9_7,a9_8,a9_9,a9_10]→W 9 (bz 16 799) (e9 [(33,(ptr b16081 0)),(37,bv),(42,(vN (l.getD i 0).toNat))]) wS:=by
    intro wS HS
    rw [hW]
    refine wh1 5 ?_
    ·
     refine kH 5 rfl (op_makeSliceM (f:=vU8) (c:=0) (m:=64) HS Tryz.underlying114 Fa.I5 rfl rfl (by omega) (by omega) (fun b21101 w21101 H21101=>(⟨⟨_,H21101⟩,?_⟩)))
     exact WH.cw hW (st9_6 b21101 w21101 H21101)
   have st9_4: ∀(b21101:Nat) (wS:World),Owl.Own [] w wS [a9_0,a9_1,a9_2,a9_3,a9_4,a9_5,a9_6,a9_7,a9_8,a9_9,a9_10,.row (.slice (some ⟨b21101,0,none⟩) 64 64) 5 1 64 (List.map vU8 (List.replicate 64 0))]→W 9 (bz 16 815) (e9 [(33,(ptr b16081 0)),(36,(ptr b16081 4)),(38,(.slice (some ⟨b21101,0,none⟩) 64 64)),(42,(vN (l.getD i 0).toNat))]) wS:=by
    intro b21101 wS HS
    rw [hW]
    refine wh2 4 6 ?_ ?_
    ·
     refine kH 4 rfl (op_load rfl (HS.cell (i:=9) rfl rfl) Tryz.underlying191 rfl (⟨⟨_,HS⟩,?_⟩))
     exact WH.cw hW (st9_6 b21101 wS HS)
    ·
     refine kH 6 rfl (op_bytesStr (l:=(List.replicate 64 0)) Tryz.underlying114 Tryz.underlying5 Tryz.underlying9 rfl (HS.arrR (i:=11) rfl) rfl (⟨⟨_,HS⟩,?_⟩))
     exact WH.cw hW (st9_7 b21101 wS HS)
   have st9_8: ∀(b21141:Nat) (b21101:Nat) (wS:World),Owl.Own [] w wS [a9_0,a9_1,a9_2,a9_3,a9_4,a9_5,a9_6,a9_7,a9_8,a9_9,a9_10,.row (.slice (some ⟨b21101,0,none⟩) 64 64) 5 1 64 (List.map vU8 (List.replicate 64 0)),.row (.slice (some ⟨b21141,0,none⟩) 1 1) 9 1 1 (List.map str [(List.replicate 64 0)])]→W 9 (bz 16 995) (e9 [(33,(ptr b16081 0)),(34,(ptr b16081 0)),(40,(.slice (some ⟨b21141,0,none⟩) 1 1)),(42,(vN (l.getD i 0).toNat))]) wS:=by
    intro b21141 b21101 wS HS
    rw [hW]
    refine wh2 2 10 ?_ ?_
    ·
     refine kH 2 rfl (op_nilCheck rfl (⟨⟨_,HS⟩,?_⟩))
     exact xt 3 rfl (ptr b16081 4) HS (fun _ _ HX=>op_fieldAddr rfl Fa.F193_3 ⟨rfl,rfl⟩)<|WH.cw hW (st9_10 b21141 b21101 wS HS)
    ·
     refine kH 10 rfl (op_callF Fa.C129 rfl ((repeatS_ok _ (List.replicate 64 0) ((l.getD i 0).toNat) _ (HS.arrR (i:=12) rfl) (UInt32.toNat_lt _)).mono (fun e w21201 hq=>?_)))
     obtain ⟨v21201,rfl,hq21201⟩:=hq
     refine ⟨_,rfl,?_⟩
     have H21201:=HS.splice [] [] [.row v21201 9 1 ((l.getD i 0).toNat) (List.map str (List.replicate ((l.getD i 0).toNat) (List.replicate 64 0)))] rfl rfl hq21201 (Fits.solid True.intro Fits.nil)
     refine ⟨⟨_,H21201⟩,?_⟩
     exact WH.cw hW (st9_11 v21201 b21101 b21141 w21201 H21201)
   have st9_1: ∀(wS:World),Owl.Own [] w wS [a9_0,a9_1,a9_2,a9_3,a9_4,a9_5,a9_6,a9_7,a9_8,a9_9,a9_10]→W 10 (bz 16 783) (e9 [(33,(ptr b16081 0)),(36,(ptr b16081 4)),(42,(vN (l.getD i 0).toNat))]) wS:=by
    intro wS HS
    rw [hW]
    refine wh2 4 5 ?_ ?_
    ·
     refine kH 4 rfl (op_load rfl (HS.cell (i:=9) rfl rfl) Tryz.underlying191 rfl (⟨⟨_,HS⟩,?_⟩))
     exact WH.cw hW (st9_3 wS HS)
    ·
     refine kH 5 rfl (op_makeSliceM (f:=vU8) (c:=0) (m:=64) HS Tryz.underlying114 Fa.I5 rfl rfl (by omega) (by omega) (fun b21101 w21101 H21101=>(⟨⟨_,H21101⟩,?_⟩)))
     exact WH.cw hW (st9_4 b21101 w21101 H21101)
   have st9_5: ∀(b21101:Nat) (wS:World),Owl.Own [] w wS [a9_0,a9_1,a9_2,a9_3,a9_4,a9_5,a9_6,a9_7,a9_8,a9_9,a9_10,.row (.slice (some ⟨b21101,0,none⟩) 64 64) 5 1 64 (List.map vU8 (List.replicate 64 0))]→W 10 (bz 16 867) (e9 [(33,(ptr b16081 0)),(34,(ptr b16081 0)),(39,(str (List.replicate 64 0))),(42,(vN (l.getD i 0).toNat))]) wS:=by
    intro b21101 wS HS
    rw [hW]
    refine wh2 2 7 ?_ ?_
    ·
     refine kH 2 rfl (op_nilCheck rfl (⟨⟨_,HS⟩,?_⟩))
     exact xt 3 rfl (ptr b16081 4) HS (fun _ _ HX=>op_fieldAddr rfl Fa.F193_3 ⟨rfl,rfl⟩)<|WH.cw hW (st9_7 b21101 wS HS)
    ·
     refine kH 7 rfl (op_buildSlice (cs:=[_]) HS Tryz.underlying59 Fa.I9 rfl rfl rfl rfl (by decide) (by decide) (fun b21141 w21141 H21141=>(⟨⟨_,H21141⟩,?_⟩)))
     exact WH.cw hW (st9_8 b21141 b21101 w21141 H21141)
   have st9_2: ∀(b21101:Nat) (wS:World),Owl.Own [] w wS [a9_0,a9_1,a9_2,a9_3,a9_4,a9_5,a9_6,a9_7,a9_8,a9_9,a9_10,.row (.slice (some ⟨b21101,0,none⟩) 64 64) 5 1 64 (List.map vU8 (List.replicate 64 0))]→W 11 (bz 16 803) (e9 [(33,(ptr b16081 0)),(34,(ptr b16081 0)),(38,(.slice (some ⟨b21101,0,none⟩) 64 64)),(42,(vN (l.getD i 0).toNat))]) wS:=by
    intro b21101 wS HS
    rw [hW]
    refine wh2 2 6 ?_ ?_
    ·
     refine kH 2 rfl (op_nilCheck rfl (⟨⟨_,HS⟩,?_⟩))
     exact xt 3 rfl (ptr b16081 4) HS (fun _ _ HX=>op_fieldAddr rfl Fa.F193_3 ⟨rfl,rfl⟩)<|WH.cw hW (st9_4 b21101 wS HS)
    ·
     refine kH 6 rfl (op_bytesStr (l:=(List.replicate 64 0)) Tryz.underlying114 Tryz.underlying5 Tryz.underlying9 rfl (HS.arrR (i:=11) rfl) rfl (⟨⟨_,HS⟩,?_⟩))
     exact WH.cw hW (st9_5 b21101 wS HS)
   have st9_0: ∀(wS:World),Owl.Own [] w wS [a9_0,a9_1,a9_2,a9_3,a9_4,a9_5,a9_6,a9_7,a9_8,a9_9,a9_10]→W 12 (bz 16 771) (e9 [(33,(ptr b16081 0)),(34,(ptr b16081 0)),(42,(vN (l.getD i 0).toNat))]) wS:=by
    intro wS HS
    rw [hW]
    refine wh2 2 5 ?_ ?_
    ·
     refine kH 2 rfl (op_nilCheck rfl (⟨⟨_,HS⟩,?_⟩))
     exact xt 3 rfl (ptr b16081 4) HS (fun _ _ HX=>op_fieldAddr rfl Fa.F193_3 ⟨rfl,rfl⟩)<|WH.cw hW (st9_1 wS HS)
    ·
     refine kH 5 rfl (op_makeSliceM (f:=vU8) (c:=0) (m:=64) HS Tryz.underlying114 Fa.I5 rfl rfl (by omega) (by omega) (fun b21101 w21101 H21101=>(⟨⟨_,H21101⟩,?_⟩)))
     exact WH.cw hW (st9_2 b21101 w21101 H21101)
   have hq:=st9_0 w10 H10
   rw [hW] at hq ⊢
   exact WH.cv hq
  ·
   have hc9:=dF hb9
   refine WC.exit<|WQ.thenExit<|WQ.thenExit<|WQ.inHere<|WQ.next<|ws<|wm rfl<|wa rfl<|wa rfl<|wn<|WC.ret<|WQ.out (.tmp rfl (.tmp rfl .nil)) ?_
   have h:=(show Owl.Own [] w w8 [.blk b1 [(vU32 pg),v3] 75,.blk c2 [(vU32 pg),v2,(.map (some mb2))] 196,Ent.ar v2 1 l.length (List.map vU32 l),.obj mb2 (mP .i64 (List.map Gr.me []) 0),Ent.bs 199 Gr.cells Gr.b [],Ent.dp grD.list [],.row v3 22 1 l.length (List.map vU32 l),.blk q16041 [(.map (some mb16041)),(.slice none 0 0),(vN 0)] 264,.obj mb16041 (mP .u16 [] 0),.blk b16081 [(vU32 pg),v3,(ptr c2 0),(ptr q16041 0),bv,(vU32 0)] 193,.row bv 59 1 i xs] from H8)
   exact ⟨b16081,v3,(ptr q16041 0),bv,c2,v2,mb2,rfl,h.fresh0 (i:=9) rfl rfl,up hv2 H1.fr.size,(h.toBo (i:=9) rfl 6 rfl).sel [9,1,2,3,4,5] rfl rfl⟩
 have st5_1: ∀(q16041:Nat) (mb16041:Nat) (wS:World),Owl.Own [] w wS [a5_0,a5_1,a5_2,a5_3,a5_4,Ent.dp grD.list [],a5_5,.blk q16041 [(.map (some mb16041)),(.slice none 0 0),(vN 0)] 264,.obj mb16041 (mP .u16 [] 0)]→W 2 (bz 6 15) (e5 [(24,(.agg #[(vU32 pg),v3,(ptr c2 0),(ptr q16041 0),(.slice none 0 0),(vU32 0)]))]) wS:=by
  intro q16041 mb16041 wS HS
  rw [hW]
  refine wh1 4 ?_
  ·
   refine kH 4 rfl (op_box HS rfl rfl (fun b16081 w16081 H16081=>(⟨⟨_,H16081⟩,?_⟩)))
   exact xt 5 rfl (ptr b16081 0) H16081 (fun _ _ HX=>op_assign rfl ⟨rfl,rfl⟩)<|WH.cw hW (st5_2 b16081 q16041 mb16041 w16081 H16081)
 have st5_0: ∀(wS:World),Owl.Own [] w wS [a5_0,a5_1,a5_2,a5_3,a5_4,Ent.dp grD.list [],a5_5]→W 4 (bz 6 3) (e5 [(21,(.agg #[(vU32 pg),v3])),(22,(ptr c2 0))]) wS:=by
  intro wS HS
  rw [hW]
  refine wh1 2 ?_
  ·
   refine kH 2 rfl (op_callF Fa.C128 rfl ((nicNew_ok _).mono (fun e w16041 hq=>?_)))
   obtain ⟨q16041,mb16041,rfl,hq16041⟩:=hq
   refine ⟨_,rfl,?_⟩
   have H16041:=HS.splice [] [] [.blk q16041 [(.map (some mb16041)),(.slice none 0 0),(vN 0)] 264,.obj mb16041 (mP .u16 [] 0)] rfl rfl hq16041 (Fits.solid True.intro (Fits.solid True.intro Fits.nil))
   refine ⟨⟨_,H16041⟩,?_⟩
   exact xt 3 rfl (.agg #[(vU32 pg),v3,(ptr c2 0),(ptr q16041 0),(.slice none 0 0),(vU32 0)]) H16041 (fun _ _ HX=>op_build (cs:=[_,_,_,_,_,_]) Fa.I193 Fa.PL193 rfl rfl ⟨rfl,rfl⟩)<|WH.cw hW (st5_1 q16041 mb16041 w16041 H16041)
 have hq:=st5_0 w5 H5
 rw [hW] at hq ⊢
 exact WH.cv hq
theorem exoNewL_ok (pg:UInt32) (lv:Value) (l:List UInt32) (w:World) (hA:Arr w lv 1 l.length (List.map vU32 l)) (hok0:hardE pg l=0) (hn:l.length<2^40) :
  Calls Tryz.prog 37 #[(.agg #[(vU32 pg),lv])] w (fun e w'=> ∃x k hx nv bv c hv mb,e=.returned (.tuple #[ptr x 0,vN 0])∧w.heap.size≤k∧(∀b∈footA hv (List.map vU32 l),w.heap.size≤b)∧Owl.Own [] w w' [.blk x (xoC k (List.replicate 9 Slt.zero)) 146,Ent.bo k [(vU32 pg),hx,(ptr c 0),nv,bv,(vU32 0)],.blk c [(vU32 pg),hv,(.map (some mb))] 196,Ent.ar hv 1 l.length (List.map vU32 l),.obj mb (mP .i64 (List.map Gr.me []) 0),Ent.bs 199 Gr.cells Gr.b [],Ent.dp grD.list [],Ent.dp (sltD 211).list (List.replicate 9 Slt.zero)]):=by
 refine enter (args:=[(.agg #[(vU32 pg),lv])]) Tryz.func37 rfl rfl ?_
 have H0:Owl.Own [] w w []:=Own.start w []
 refine ws<|wo (op_box H0 rfl rfl (fun b1 w1 H1=>(wa rfl<|wa rfl<|wn<|ws<|wo (op_loadS (vs:=[_,_]) rfl (H1.cells (i:=0) rfl rfl) Tryz.underlying75 rfl Fa.I75 rfl<|wo (op_callF Fa.C83 rfl ((callsNewL_ok pg _ l _ (H1.arr hA) hok0 hn).mono (fun e w2 hq=>?_)))))))
 obtain ⟨k2,hx2,nv2,bv2,c2,yv2,mb2,rfl,hk2,hv2,hq2⟩:=hq
 refine ⟨_,rfl,?_⟩
 have H2:=H1.splice [] [] [Ent.bo k2 [(vU32 pg),hx2,(ptr c2 0),nv2,bv2,(vU32 0)],.blk c2 [(vU32 pg),yv2,(.map (some mb2))] 196,Ent.ar yv2 1 l.length (List.map vU32 l),.obj mb2 (mP .i64 (List.map Gr.me []) 0),Ent.bs 199 Gr.cells Gr.b [],Ent.dp grD.list []] rfl rfl hq2 (Fits.fresh (fun b hb=>by cases List.mem_singleton.1 hb; exact hk2) (Fits.solid True.intro (Fits.fresh hv2 (Fits.solid True.intro (Fits.solid True.intro (Fits.fresh (fun b hb=>by cases hb) Fits.nil))))))
 refine wm rfl<|we rfl rfl<|we rfl rfl<|wa rfl<|wa rfl<|wn<|WC.seq<|ws<|wm rfl<|wo (op_neqN (b:=0) rfl rfl<|wn<|WC.no rfl (by decide)<|WC.skip<|WQ.next<|ws<|wm rfl<|wo (op_build (cs:=[_,_,_,_,_,_,_,_,_,_,_,_,_,_,_,_,_,_,_,_,_,_,_,_,_,_,_,_,_]) Fa.I146 Fa.PL146 rfl rfl<|wo (op_box H2 rfl rfl (fun b3 w3 H3=>(wa rfl<|wa rfl<|wn<|WC.ret<|WQ.out (.tmp rfl (.tmp rfl .nil)) ?_)))))
 have h:=(H3.dpNil (sltD 211)).dpOf (l:=[]) (l':=List.replicate 9 Slt.zero) (i:=8) rfl (fun w _=>slt_zero_ok) slt_zero_ft
 exact ⟨b3,k2,hx2,nv2,bv2,c2,yv2,mb2,rfl,Nat.le_trans H1.fr.size hk2,up hv2 H1.fr.size,h.sel [7,1,2,3,4,5,6,9] rfl rfl⟩
theorem callsNewX_ok (pg:UInt32) (lv:Value) (l:List UInt32) (w:World) (hA:Arr w lv 1 l.length (List.map vU32 l)) (hok0:hardE pg l≠0) (hn:l.length<2^40) :
  Calls Tryz.prog 83 #[(.agg #[(vU32 pg),lv])] w (fun e w'=>e=.returned (.tuple #[.pointer none,vN 2])∧Fr [] w w'):=by
 refine enter (args:=[(.agg #[(vU32 pg),lv])]) Tryz.func83 rfl rfl ?_
 have H0:Owl.Own [] w w []:=Own.start w []
 refine ws<|wo (op_box H0 rfl rfl (fun b1 w1 H1=>(wa rfl<|wa rfl<|wn<|ws<|wo (op_loadS (vs:=[_,_]) rfl (H1.cells (i:=0) rfl rfl) Tryz.underlying75 rfl Fa.I75 rfl<|wo (op_callF Fa.C126 rfl ((capsNewB_ok pg _ l _ (H1.arr hA) hn hok0).mono (fun e w2 hq=>?_)))))))
 obtain ⟨rfl,hf2⟩:=hq
 refine ⟨_,rfl,?_⟩
 have H2:=H1.fr' hf2
 exact wm rfl<|we rfl rfl<|we rfl rfl<|wa rfl<|wa rfl<|wn<|WC.seq<|ws<|wm rfl<|wo (op_neqN (b:=0) rfl rfl<|wn<|WC.yes rfl (by decide)<|ws<|wm rfl<|wa rfl<|wa rfl<|wn<|WC.ret<|WQ.thenRet<|WQ.out (.tmp rfl (.tmp rfl .nil)) (⟨rfl,H2.fr⟩))
theorem exoNewX_ok (pg:UInt32) (lv:Value) (l:List UInt32) (w:World) (hA:Arr w lv 1 l.length (List.map vU32 l)) (hok0:hardE pg l≠0) (hn:l.length<2^40) :
  Calls Tryz.prog 37 #[(.agg #[(vU32 pg),lv])] w (fun e w'=>e=.returned (.tuple #[.pointer none,vN 2])∧Fr [] w w'):=by
 refine enter (args:=[(.agg #[(vU32 pg),lv])]) Tryz.func37 rfl rfl ?_
 have H0:Owl.Own [] w w []:=Own.start w []
 refine ws<|wo (op_box H0 rfl rfl (fun b1 w1 H1=>(wa rfl<|wa rfl<|wn<|ws<|wo (op_loadS (vs:=[_,_]) rfl (H1.cells (i:=0) rfl rfl) Tryz.underlying75 rfl Fa.I75 rfl<|wo (op_callF Fa.C83 rfl ((callsNewX_ok pg _ l _ (H1.arr hA) hok0 hn).mono (fun e w2 hq=>?_)))))))
 obtain ⟨rfl,hf2⟩:=hq
 refine ⟨_,rfl,?_⟩
 have H2:=H1.fr' hf2
 exact wm rfl<|we rfl rfl<|we rfl rfl<|wa rfl<|wa rfl<|wn<|WC.seq<|ws<|wm rfl<|wo (op_neqN (b:=0) rfl rfl<|wn<|WC.yes rfl (by decide)<|ws<|wm rfl<|wa rfl<|wa rfl<|wn<|WC.ret<|WQ.thenRet<|WQ.out (.tmp rfl (.tmp rfl .nil)) (⟨rfl,H2.fr⟩))
theorem xrel_ok (x k:Nat) (pk:UInt32) (hx nv bv:Value) (c:Nat) (pg:UInt32) (hv:Value) (he:List UInt32) (mb cn:Nat) (gs:List Gr) (sl:List Slt) (l:List Gr) (i:Nat) (T:List Nat) (w:World) (H:Owl.Own T w w [.blk x (xoC k sl) 146,Ent.bo k [(vU32 pk),hx,(ptr c 0),nv,bv,(vU32 0)],.blk c [(vU32 pg),hv,(.map (some mb))] 196,Ent.ar hv 1 he.length (List.map vU32 he),.obj mb (mP .i64 (List.map Gr.me gs) cn),Ent.bs 199 Gr.cells Gr.b gs,Ent.dp grD.list gs,Ent.dp (sltD 211).list sl]) (hR:CapR gs cn l) (h9:sl.length=9) (hs:hasS sl i=true) :
  Calls Tryz.prog 46 #[(ptr x 0),(vN i)] w (fun e w'=> ∃gs',e=.returned (vN 0)∧CapR gs' cn (relG l ((i:Nat):Int))∧DpTo w gs gs'∧Owl.Own T w w' [.blk x (xoC k (sl.set i Slt.zero)) 146,Ent.bo k [(vU32 pk),hx,(ptr c 0),nv,bv,(vU32 0)],.blk c [(vU32 pg),hv,(.map (some mb))] 196,Ent.ar hv 1 he.length (List.map vU32 he),.obj mb (mP .i64 (List.map Gr.me gs') cn),Ent.bs 199 Gr.cells Gr.b gs',Ent.dp grD.list gs',Ent.dp (sltD 211).list (sl.set i Slt.zero)]):=by
 refine enter (args:=[(ptr x 0),(vN i)]) Tryz.func46 rfl rfl ?_
 have hs9:=hasS_lt hs
 refine ws<|wa rfl<|wn<|WC.seq<|WC.block<|ws<|wm rfl<|wo (op_eqlPN Fa.PT47 rfl rfl<|wa rfl<|wn<|WC.no rfl rfl<|ws<|wm rfl<|wm rfl<|wo (op_callF Fa.C104 rfl ((xhas_ok x k sl i _ (H.cellsAt (i:=0) rfl) h9).mono (fun e w1 hq=>?_))))
 obtain ⟨rfl,hf1⟩:=hq
 refine ⟨_,rfl,?_⟩
 have H1:=H.fr' hf1
 refine wo (op_not rfl<|wa rfl<|wn<|WC.no rfl (by rw [hs]; rfl)<|WC.skip<|WQ.inNormal<|WQ.next<|ws<|wm rfl<|wo (op_nilCheck rfl<|wo (op_fieldAddr rfl Fa.F146_0<|wo (op_load rfl (H1.cell (i:=0) rfl rfl) Tryz.underlying111 rfl<|wo (op_callF Fa.C59 rfl ((kcaps_ok k pk hx c nv bv _ (H1.cellsAtO (i:=1) rfl)).mono (fun e w2 hq=>?_)))))))
 obtain ⟨rfl,hf2⟩:=hq
 refine ⟨_,rfl,?_⟩
 have H2:=H1.fr' hf2
 refine wm rfl<|wo (op_callF Fa.C105 rfl ((capR_ok c pg hv he mb cn gs ((i:Nat):Int) l _ _ (H2.part [2,3,4,5,6] rfl rfl) hR).mono (fun e w3 hq=>?_)))
 obtain ⟨gs3,rfl,hi3,hd3,hq3⟩:=hq
 refine ⟨_,rfl,?_⟩
 have H3:=H2.splice [2,3,4,5,6] [.blk c [(vU32 pg),hv,(.map (some mb))] 196,Ent.ar hv 1 he.length (List.map vU32 he),.obj mb (mP .i64 (List.map Gr.me gs3) cn),Ent.bs 199 Gr.cells Gr.b gs3,Ent.dp grD.list gs3] [] rfl rfl hq3 (Fits.solid True.intro (Fits.same (j:=1) rfl (Fits.solid True.intro (Fits.solid True.intro (Fits.dpTo 4 rfl hd3 Fits.nil)))))
 have hd3:DpTo w gs gs3:=hd3.mono H2.fr.size
 refine wn<|ws<|wm rfl<|wm rfl<|wo (op_build (cs:=[_,_,_]) Fa.I142 Fa.PL142 rfl rfl<|wo (op_nilCheck rfl<|wo (op_fieldAddr rfl Fa.F146_1<|wo (op_indexAddrA Tryz.underlying143 Fa.I142 rfl rfl hs9.2.1<|wo (op_storeXo (j:=0) (s:=Slt.zero) H3 h9 hs9.2.1 rfl rfl rfl Fa.I142 (fun w4 H4=>(wn<|ws<|wa rfl<|wn<|WC.ret<|WQ.out (.tmp rfl .nil) ?_)))))))
 have h3:=Owl.Own.dpOf (D:=sltD 211) (l:=sl) (l':=sl.set i Slt.zero) (i:=7) H4 rfl (fun w h=>slt_set_ok h True.intro) slt_set_ft
 exact ⟨_,rfl,hi3,hd3,h3.sel [0,1,2,3,4,5,6,8] rfl rfl⟩
theorem look24_ok (x k:Nat) (pk:UInt32) (hx nv bv:Value) (c:Nat) (pg:UInt32) (hv:Value) (he:List UInt32) (mb cn:Nat) (gs:List Gr) (sl:List Slt) (l:List Gr) (w:World) (hX:cellsAt w x (xoC k sl)) (hK:cellsAt w k [(vU32 pk),hx,(ptr c 0),nv,bv,(vU32 0)]) (hC:cellsAt w c [(vU32 pg),hv,(.map (some mb))]) (hH:Arr w hv 1 he.length (List.map vU32 he)) (hM:w.heap[mb]?=some (mP .i64 (List.map Gr.me gs) cn)) (hG:BsOK 199 Gr.cells Gr.b gs w) (hS:grD.list.ok w gs) (hD:(sltD 211).list.ok w sl) (hR:CapR gs cn l) (h9:sl.length=9) :
  Calls Tryz.prog 38 #[(ptr x 0)] w (fun e w'=>e=.returned (.agg (gndC (freeS pg l) l 9).toArray)∧Fr [] w w'):=by
 refine enter (args:=[(ptr x 0)]) Tryz.func38 rfl rfl ?_
 have H0:Owl.Own [] w w [Ent.bo x (xoC k sl),Ent.bo k [(vU32 pk),hx,(ptr c 0),nv,bv,(vU32 0)],Ent.bo c [(vU32 pg),hv,(.map (some mb))],Ent.ar hv 1 he.length (List.map vU32 he),Ent.mo .i64 mb (List.map Gr.me gs) cn,Ent.bsO 199 Gr.cells Gr.b gs,Ent.dp grD.list gs,Ent.dp (sltD 211).list sl]:=(((((((((Own.start w []).oldB hX).oldB hK).oldB hC).oldA hH).mpOld hM).bsOld hG).dpOld hS).dpOld hD)
 refine ws<|wo (op_alloc H0 Fa.I81 (fun b1 w1 H1=>(wn<|ws<|wm rfl<|wo (op_callF Fa.C22 rfl ((xfree_ok x k pk hx nv bv c pg hv he mb cn gs sl l _ (H1.cellsAtO (i:=0) rfl) (H1.cellsAtO (i:=1) rfl) (H1.cellsAtO (i:=2) rfl) (H1.arrO (i:=3) rfl) (H1.mpO (i:=4) rfl) (H1.bsR (i:=5) rfl) (H1.dpO (i:=6) rfl) (H1.dpO (i:=7) rfl) hR).mono (fun e w2 hq=>?_))))))
 obtain ⟨rfl,hf2⟩:=hq
 refine ⟨_,rfl,?_⟩
 have H2:=H1.fr' hf2
 refine wm rfl<|wo (op_callF Fa.C84 rfl ((xtrace_ok x k sl _ (H2.cellsAtO (i:=0) rfl) h9).mono (fun e w3 hq=>?_)))
 obtain ⟨rfl,hf3⟩:=hq
 refine ⟨_,rfl,?_⟩
 have H3:=H2.fr' hf3
 refine wo (op_lenA Tryz.underlying144 rfl (Arr.nil _ 1)<|wo (op_build (cs:=[_,_,_,_,_,_,_,_,_,_,_]) Fa.I81 Fa.PL81 rfl rfl<|wo (op_alloc H3 Fa.I81 (fun b4 w4 H4=>(wo (op_storeBW (i:=9) H4 rfl rfl rfl rfl rfl Fa.I81 (fun w5 H5=>(wn<|WC.seq<|ws<|wa rfl<|wn<|WC.block<|WC.loop (α:=Nat) (fun i=>[(0,(ptr x 0)),(2,(ptr b1 0)),(3,(ptr b4 0)),(4,(vN i))]) (fun i w'=>(1≤i∧i≤9)∧Owl.Own [] w w' [Ent.bo x (xoC k sl),Ent.bo k [(vU32 pk),hx,(ptr c 0),nv,bv,(vU32 0)],Ent.bo c [(vU32 pg),hv,(.map (some mb))],Ent.ar hv 1 he.length (List.map vU32 he),Ent.mo .i64 mb (List.map Gr.me gs) cn,Ent.bsO 199 Gr.cells Gr.b gs,Ent.dp grD.list gs,Ent.dp (sltD 211).list sl,.blk b1 [(vU32 0),(.bool false),(.bool false),(.bool false),(.bool false),(.bool false),(.bool false),(.bool false),(.bool false),(.bool false),(vN 0)] 81,.blk b4 (gndC (freeS pg l) l i) 81]) (fun i=>9-i) 1 ⟨⟨Nat.le_refl _,by decide⟩,H5⟩ ⟨rfl,rfl,rfl,rfl,trivial⟩ ?_))))))))
 rintro i w6 ⟨⟨hi1,hi9⟩,H6⟩
 show WC _ _ _ _ _ [(0,(ptr x 0)),(2,(ptr b1 0)),(3,(ptr b4 0)),(4,(vN i))] _
 refine WC.seq<|ws<|wm rfl<|wo (op_leqN (b:=8) rfl rfl<|wn (wC (decide (i≤8)) (fun hb7=>?_) (fun hb7=>?_)))
 ·
  have hc7:=dT hb7
  refine WC.skip<|WQ.next<|WC.seq<|WC.block<|WC.region<|wm rfl<|wm rfl<|wm rfl<|wo (op_callF Fa.C85 rfl ((xbound_ok x k pk hx nv bv c pg hv he mb cn gs sl l i _ (H6.cellsAtO (i:=0) rfl) (H6.cellsAtO (i:=1) rfl) (H6.cellsAtO (i:=2) rfl) (H6.arrO (i:=3) rfl) (H6.mpO (i:=4) rfl) (H6.bsR (i:=5) rfl) (H6.dpO (i:=6) rfl) (H6.dpO (i:=7) rfl) hR).mono (fun e w8 hq=>?_)))
  obtain ⟨v8,u8,rfl,hq8⟩:=hq
  refine ⟨_,rfl,?_⟩
  have H8:=H6.splice [] [] [.row v8 207 2 (obs l ((i:Nat):Int)).xs.length (List.flatMap xtc (obs l ((i:Nat):Int)).xs),.row u8 203 1 (obs l ((i:Nat):Int)).ps.length (List.map vU16 (obs l ((i:Nat):Int)).ps)] rfl rfl hq8 (Fits.solid True.intro (Fits.solid True.intro Fits.nil))
  exact wm rfl<|we rfl rfl<|we rfl rfl<|wo (op_fieldAddr rfl Fa.F81_1<|wo (op_indexAddrA1 Tryz.underlying79 Fa.I4 rfl rfl (by omega)<|wo (op_storeB (i:=9) H8 rfl rfl rfl (by rw [Nat.blt_eq,gndC_len]; omega) rfl Fa.I4 (fun w9 H9=>(WL.nil<|WQ.inNormal<|WQ.next<|WC.region<|wm rfl<|wo (op_addN (b:=1) rfl rfl (by omega)<|wa rfl<|WL.nil<|WQ.round (i+1) ⟨⟨by omega,by omega⟩,(by have h:=(show Owl.Own [] w w9 [Ent.bo x (xoC k sl),Ent.bo k [(vU32 pk),hx,(ptr c 0),nv,bv,(vU32 0)],Ent.bo c [(vU32 pg),hv,(.map (some mb))],Ent.ar hv 1 he.length (List.map vU32 he),Ent.mo .i64 mb (List.map Gr.me gs) cn,Ent.bsO 199 Gr.cells Gr.b gs,Ent.dp grD.list gs,Ent.dp (sltD 211).list sl,.blk b1 [(vU32 0),(.bool false),(.bool false),(.bool false),(.bool false),(.bool false),(.bool false),(.bool false),(.bool false),(.bool false),(vN 0)] 81,.blk b4 ((gndC (freeS pg l) l i).set (1+i) (.bool (hasE l ((i:Nat):Int)))) 81,.row v8 207 2 (obs l ((i:Nat):Int)).xs.length (List.flatMap xtc (obs l ((i:Nat):Int)).xs),.row u8 203 1 (obs l ((i:Nat):Int)).ps.length (List.map vU16 (obs l ((i:Nat):Int)).ps)] from H9); rw [gndC_set hi1 (by omega)] at h; exact h.take 10)⟩ ⟨rfl,rfl,rfl,rfl,trivial⟩ (by omega)))))))
 ·
  have hc7:=dF hb7
  obtain rfl:i=9:=by omega
  exact WC.exit<|WQ.thenExit<|WQ.thenExit<|WQ.inHere<|WQ.next<|ws<|wo (op_loadS rfl (H6.cellsW (i:=9) rfl) Tryz.underlying81 rfl Fa.I81 (gndC_len _ _ _)<|wo (op_storeBV (i:=8) H6 rfl rfl rfl (by rfl) (gndC_one _ _ _) rfl Fa.I81 (fun w10 H10=>(wn<|WC.ret<|WQ.out (.cell rfl (run_loadVarS (H10.cellsW (i:=8) rfl) Tryz.underlying81 rfl Fa.I81 (gndC_len _ _ _)) .nil) (⟨rfl,H10.fr⟩)))))
theorem gnd_key (fr:UInt32) (l:List Gr) (i:Nat):(keyOf Tryz.prog 81 (.agg (gndC fr l i).toArray)).isSome=true :=
 keyOf_some Tryz.underlying81 (by kernel_rfl) (by kernel_rfl) (by kernel_rfl) rfl (key_u32 (v:=fr) (by kernel_rfl) Tryz.underlying22 (by kernel_rfl)) (by kernel_rfl) (by kernel_rfl)
theorem large24_ok (pg:UInt32) (hv:Value) (he:List UInt32) (key:List UInt8) (lv:Value) (L:List (List UInt8)) (w:World) (hH:Arr w hv 1 he.length (List.map vU32 he)) (hA:Arr w lv 1 L.length (List.map str L)) (hB: ∀x∈L,x.length≤140737488351232) (hk:key.length≤140737488351232) (hn:he.length<2^47) (hl:L.length<2^47) :
  Calls Tryz.prog 36 #[(.agg #[(vU32 pg),hv]),(str key),lv] w (fun e w'=>e=.returned (.bool (large24 he key L))∧Fr [] w w'):=by
 refine enter (args:=[(.agg #[(vU32 pg),hv]),(str key),lv]) Tryz.func36 rfl rfl ?_
 have H0:Owl.Own [] w w []:=Own.start w []
 refine ws<|wo (op_box H0 rfl rfl (fun b1 w1 H1=>(wa rfl<|wn<|ws<|wm rfl<|wo (op_lenStr Tryz.underlying9 rfl<|wa rfl<|wn<|WC.cut (α:=Unit) (fun _=>[(0,(.agg #[(vU32 pg),hv])),(1,(str key)),(2,lv),(3,(ptr b1 0)),(7,(vN (key.length+lenT L (min L.length 40))))]) (fun _ w'=>Owl.Own [] w w' [.blk b1 [(vU32 pg),hv] 75]) ?_ ?_))))
 ·
  refine ws<|wa rfl<|wn<|WC.block<|WC.loop (α:=Nat) (fun i=>[(0,(.agg #[(vU32 pg),hv])),(1,(str key)),(2,lv),(3,(ptr b1 0)),(7,(vN (key.length+lenT L i))),(8,(vN i))]) (fun i w'=>(i≤L.length∧i≤40)∧Owl.Own [] w w' [.blk b1 [(vU32 pg),hv] 75]) (fun i=>L.length-i) 0 ⟨⟨by omega,by omega⟩,H1⟩ ⟨rfl,rfl,rfl,rfl,rfl,rfl,trivial⟩ ?_
  rintro i w2 ⟨⟨hi1,hi2⟩,H2⟩
  show WC _ _ _ _ _ [(0,(.agg #[(vU32 pg),hv])),(1,(str key)),(2,lv),(3,(ptr b1 0)),(7,(vN (key.length+lenT L i))),(8,(vN i))] _
  have hs0:=lenT_le hB i
  have hg0:=getD_mem hB i
  refine WC.seq<|ws<|wm rfl<|wm rfl<|wo (op_lenA Tryz.underlying59 rfl (H2.arr hA)<|wo (op_lssN rfl rfl<|wm rfl (wV 15 (decide (i<L.length)) (fun hb3=>?_) (fun hb3=>?_))))
  ·
   have hc3:=dT hb3
   refine wY hb3 (op_move rfl<|wY hb3 (op_lssN (b:=40) rfl rfl<|wo (op_pickT rfl hb3 rfl<|wn (wC (decide (i<40)) (fun hb4=>?_) (fun hb4=>?_)))))
   ·
    have hc4:=dT hb4
    exact WC.skip<|WQ.next<|WC.seq<|WC.block<|WC.region<|wm rfl<|wm rfl<|wm rfl<|wo (op_indexAddr1 Tryz.underlying59 Fa.I9 rfl (H2.arr hA) rfl (by omega)<|wo (op_load rfl ((H2.arr hA).at (get_map str [] (Arr.ltM (H2.arr hA) (by omega)))) Tryz.underlying9 rfl<|wo (op_lenStr Tryz.underlying9 rfl<|wo (op_addN rfl rfl (by omega)<|wa rfl<|WL.nil<|WQ.inNormal<|WQ.next<|WC.region<|wm rfl<|wo (op_addN (b:=1) rfl rfl (by omega)<|wa rfl<|WL.nil<|WQ.round (i+1) ⟨⟨by omega,by omega⟩,H2⟩ ⟨rfl,rfl,rfl,rfl,(by rw [lenT,←Nat.add_assoc]; rfl),rfl,trivial⟩ (by omega))))))
   ·
    have hc4:=dF hb4
    exact WC.exit<|WQ.thenExit<|WQ.thenExit<|WQ.inHere<|WQ.here () H2 ⟨rfl,rfl,rfl,rfl,(by rw [show min L.length 40=i by omega]; rfl),trivial⟩
  ·
   have hc3:=dF hb3
   exact wN hb3<|wN hb3<|wo (op_pickF rfl hb3 rfl<|wn<|WC.no rfl rfl<|WC.exit<|WQ.thenExit<|WQ.thenExit<|WQ.inHere<|WQ.here () H2 ⟨rfl,rfl,rfl,rfl,(by rw [show min L.length 40=i by omega]; rfl),trivial⟩)
 ·
  rintro ⟨⟩ w5 H5
  show WC _ _ _ _ _ [(0,(.agg #[(vU32 pg),hv])),(1,(str key)),(2,lv),(3,(ptr b1 0)),(7,(vN (key.length+lenT L (min L.length 40))))] _
  refine ws<|wo (op_fieldAddr rfl Fa.F75_1<|wo (op_load rfl (H5.cell (i:=0) rfl rfl) Tryz.underlying73 rfl<|wo (op_lenA Tryz.underlying73 rfl (H5.arr hH)<|wo (op_gtrN (b:=40) rfl rfl<|wm rfl (wV 32 (decide (he.length>40)) (fun hb6=>?_) (fun hb6=>?_))))))
  ·
   have hc6:=dT hb6
   exact wN hb6<|wN hb6<|wN hb6<|wo (op_pickT rfl hb6 rfl<|wm rfl<|wN rfl<|wN rfl<|wo (op_pickT rfl rfl rfl<|wa rfl<|wn<|WC.ret<|WQ.out (.tmp rfl .nil) (⟨by rw [large24,hb6]; rfl,H5.fr⟩)))
  ·
   have hc6:=dF hb6
   refine wY hb6 (op_move rfl<|wY hb6 (op_lenA Tryz.underlying59 rfl (H5.arr hA)<|wY hb6 (op_gtrN (b:=12) rfl rfl<|wo (op_pickF rfl hb6 rfl<|wm rfl (wV 37 (decide (L.length>12)) (fun hb7=>?_) (fun hb7=>?_))))))
   ·
    have hc7:=dT hb7
    exact wN hb7<|wN hb7<|wo (op_pickT rfl hb7 rfl<|wa rfl<|wn<|WC.ret<|WQ.out (.tmp rfl .nil) (⟨by rw [large24,hb6,hb7]; rfl,H5.fr⟩))
   ·
    have hc7:=dF hb7
    exact wY hb7 (op_move rfl<|wY hb7 (op_gtrN (b:=131072) rfl rfl<|wo (op_pickF rfl hb7 rfl<|wa rfl<|wn<|WC.ret<|WQ.out (.tmp rfl .nil) (⟨by rw [large24,hb6,hb7]; rfl,H5.fr⟩))))
theorem limg1_ok (eb xb nb:Nat) (w:World) (hE:cellsAt w eb [(vN 0)]) :
  CallsD Tryz.prog 88 #[(ptr eb 0),(ptr xb 0),(ptr nb 0)] .returning w (fun e u' w'=>u'=.returning∧(∃v,e=.returned v)∧Fr [] w w'):=by
 refine deferred (args:=[(ptr eb 0),(ptr xb 0),(ptr nb 0)]) Tryz.func88 rfl rfl ?_
 have H0:Owl.Own [] w w [Ent.bo eb [(vN 0)]]:=((Own.start w []).oldB hE)
 exact ws<|wo (op_load rfl (H0.cellO (i:=0) rfl rfl) Tryz.underlying25 rfl<|wo (op_neqN (b:=0) rfl rfl<|wn<|WC.no rfl (by decide)<|WC.skip<|WQ.outEnd .nil (⟨⟨_,rfl⟩,H0.fr⟩)))
theorem limage_img (x k:Nat) (pk:UInt32) (hx nv bv:Value) (c:Nat) (pg:UInt32) (hv:Value) (he:List UInt32) (mb cn:Nat) (gs:List Gr) (sl:List Slt) (l:List Gr) (mp:UInt32) (ev pv sv:Value) (xs:List Xt) (ps:List UInt16) (con:Bool) (en:UInt32) (sg:List Sg) (T:List Nat) (w:World) (H:Owl.Own T w w [.blk x (xoC k sl) 146,Ent.bo k [(vU32 pk),hx,(ptr c 0),nv,bv,(vU32 0)],.blk c [(vU32 pg),hv,(.map (some mb))] 196,Ent.ar hv 1 he.length (List.map vU32 he),.obj mb (mP .i64 (List.map Gr.me gs) cn),Ent.bs 199 Gr.cells Gr.b gs,Ent.dp grD.list gs,Ent.dp (sltD 211).list sl,Ent.ar ev 2 xs.length (List.flatMap xtc xs),Ent.ar pv 1 ps.length (List.map vU16 ps),Ent.ar sv 3 sg.length (List.flatMap sgc sg)]) (hR:CapR gs cn l) (h9:sl.length=9) (hhe:he.length<2^32) (hn:xs.length<2^40) (hm:ps.length<2^40) (hk:sg.length<2^20) (hB: ∀x∈sg,x.b.length≤2^30) (h2:imE mp xs ps en sg=2) :
  Calls Tryz.prog 40 #[(ptr x 0),(.agg #[(vU32 mp),ev,pv,(.bool con),(vU32 en),sv])] w (fun e w'=>e=.returned (.tuple #[vN 0,vN 2])∧Owl.Own T w w' [.blk x (xoC k sl) 146,Ent.bo k [(vU32 pk),hx,(ptr c 0),nv,bv,(vU32 0)],.blk c [(vU32 pg),hv,(.map (some mb))] 196,Ent.ar hv 1 he.length (List.map vU32 he),.obj mb (mP .i64 (List.map Gr.me gs) cn),Ent.bs 199 Gr.cells Gr.b gs,Ent.dp grD.list gs,Ent.dp (sltD 211).list sl,Ent.ar ev 2 xs.length (List.flatMap xtc xs),Ent.ar pv 1 ps.length (List.map vU16 ps),Ent.ar sv 3 sg.length (List.flatMap sgc sg)]):=by
 refine enterD (args:=[(ptr x 0),(.agg #[(vU32 mp),ev,pv,(.bool con),(vU32 en),sv])]) Tryz.func40 rfl rfl ?_
 have hB47: ∀x∈sg,x.b.length≤2^47:=fun x hx=>Nat.le_trans (hB x hx) (by decide)
 refine ws<|wo (op_box H rfl rfl (fun b1 w1 H1=>(wo (op_box H1 rfl rfl (fun b2 w2 H2=>(wa rfl<|wo (op_alloc H2 Fa.I25 (fun b3 w3 H3=>(wn<|WC.seq<|ws<|wo (op_load rfl (H3.cell (i:=11) rfl rfl) Tryz.underlying47 rfl<|wo (op_eqlPN Fa.PT47 rfl rfl<|wn<|WC.no rfl rfl<|WC.skip<|WQ.next<|ws<|wo (op_loadS (vs:=[_,_,_,_,_,_]) rfl (H3.cells (i:=12) rfl rfl) Tryz.underlying43 rfl Fa.I43 rfl<|wo (op_callF Fa.C32 rfl ((lspace_no mp _ _ _ xs ps con en sg _ (H3.arrO (i:=8) rfl) (H3.arrO (i:=9) rfl) (H3.arrO (i:=10) rfl) (by omega) (by omega) (by omega) h2).mono (fun e w4 hq=>?_)))))))))))))))
 obtain ⟨rfl,hf4⟩:=hq
 refine ⟨_,rfl,?_⟩
 have H4:=H3.fr' hf4
 refine wm rfl<|we rfl rfl<|we rfl rfl<|wa rfl<|wo (op_storeB (i:=13) H4 rfl rfl rfl rfl rfl Fa.I25 (fun w5 H5=>(wn<|WC.seq<|ws<|wo (op_load rfl (H5.cell (i:=13) rfl rfl) Tryz.underlying25 rfl<|wo (op_neqN (b:=0) rfl rfl<|wn<|WC.yes rfl (by decide)<|WC.seq<|WC.draw 2 Fa.M H5 (oh (fun w1 H1=>op_load rfl (H1.cell (i:=13) rfl rfl) Tryz.underlying25 rfl zr)<|ah rfl  HW.nil) (by kernel_rfl) ?_)))))
 intro β6 w6 H6
 exact wo (op_storeB (i:=13) H6 rfl rfl rfl rfl rfl Fa.I25 (fun w7 H7=>(wn<|WC.ret<|WQ.thenRet<|WQ.outD0 (.tmp rfl (.cell rfl (run_loadVar1 (H7.cell (i:=13) rfl rfl) Tryz.underlying25 rfl) .nil)) (⟨rfl,H7.sel [0,1,2,3,4,5,6,7,8,9,10] rfl rfl⟩))))
theorem limage_full (x k:Nat) (pk:UInt32) (hx nv bv:Value) (c:Nat) (pg:UInt32) (hv:Value) (he:List UInt32) (mb cn:Nat) (gs:List Gr) (sl:List Slt) (l:List Gr) (mp:UInt32) (ev pv sv:Value) (xs:List Xt) (ps:List UInt16) (con:Bool) (en:UInt32) (sg:List Sg) (T:List Nat) (w:World) (H:Owl.Own T w w [.blk x (xoC k sl) 146,Ent.bo k [(vU32 pk),hx,(ptr c 0),nv,bv,(vU32 0)],.blk c [(vU32 pg),hv,(.map (some mb))] 196,Ent.ar hv 1 he.length (List.map vU32 he),.obj mb (mP .i64 (List.map Gr.me gs) cn),Ent.bs 199 Gr.cells Gr.b gs,Ent.dp grD.list gs,Ent.dp (sltD 211).list sl,Ent.ar ev 2 xs.length (List.flatMap xtc xs),Ent.ar pv 1 ps.length (List.map vU16 ps),Ent.ar sv 3 sg.length (List.flatMap sgc sg)]) (hR:CapR gs cn l) (h9:sl.length=9) (hhe:he.length<2^32) (hn:xs.length<2^40) (hm:ps.length<2^40) (hk:sg.length<2^20) (hB: ∀x∈sg,x.b.length≤2^30) (h0:imE mp xs ps en sg=0) (hff:ffS sl=9) :
  Calls Tryz.prog 40 #[(ptr x 0),(.agg #[(vU32 mp),ev,pv,(.bool con),(vU32 en),sv])] w (fun e w'=>e=.returned (.tuple #[vN 0,vN 4])∧Owl.Own T w w' [.blk x (xoC k sl) 146,Ent.bo k [(vU32 pk),hx,(ptr c 0),nv,bv,(vU32 0)],.blk c [(vU32 pg),hv,(.map (some mb))] 196,Ent.ar hv 1 he.length (List.map vU32 he),.obj mb (mP .i64 (List.map Gr.me gs) cn),Ent.bs 199 Gr.cells Gr.b gs,Ent.dp grD.list gs,Ent.dp (sltD 211).list sl,Ent.ar ev 2 xs.length (List.flatMap xtc xs),Ent.ar pv 1 ps.length (List.map vU16 ps),Ent.ar sv 3 sg.length (List.flatMap sgc sg)]):=by
 refine enterD (args:=[(ptr x 0),(.agg #[(vU32 mp),ev,pv,(.bool con),(vU32 en),sv])]) Tryz.func40 rfl rfl ?_
 have hB47: ∀x∈sg,x.b.length≤2^47:=fun x hx=>Nat.le_trans (hB x hx) (by decide)
 refine ws<|wo (op_box H rfl rfl (fun b1 w1 H1=>(wo (op_box H1 rfl rfl (fun b2 w2 H2=>(wa rfl<|wo (op_alloc H2 Fa.I25 (fun b3 w3 H3=>(wn<|WC.seq<|ws<|wo (op_load rfl (H3.cell (i:=11) rfl rfl) Tryz.underlying47 rfl<|wo (op_eqlPN Fa.PT47 rfl rfl<|wn<|WC.no rfl rfl<|WC.skip<|WQ.next<|ws<|wo (op_loadS (vs:=[_,_,_,_,_,_]) rfl (H3.cells (i:=12) rfl rfl) Tryz.underlying43 rfl Fa.I43 rfl<|wo (op_callF Fa.C32 rfl ((lspace_yes mp _ _ _ xs ps con en sg _ (H3.arrO (i:=8) rfl) (H3.arrO (i:=9) rfl) (H3.arrO (i:=10) rfl) (by omega) (by omega) (by omega) hB47 h0).mono (fun e w4 hq=>?_)))))))))))))))
 obtain ⟨s4,mb4,c4,qs4,rfl,hr4,hq4⟩:=hq
 refine ⟨_,rfl,?_⟩
 have H4:=H3.splice [] [] [.blk s4 [(.map (some mb4))] 165,.obj mb4 (mP .u32 (List.map Pg.me qs4) c4),Ent.bs 211 Pg.cells Pg.b qs4] rfl rfl hq4 (Fits.solid True.intro (Fits.solid True.intro (Fits.solid True.intro Fits.nil)))
 refine wm rfl<|we rfl rfl<|we rfl rfl<|wa rfl<|wo (op_storeB (i:=13) H4 rfl rfl rfl rfl rfl Fa.I25 (fun w5 H5=>(wn<|WC.seq<|ws<|wo (op_load rfl (H5.cell (i:=13) rfl rfl) Tryz.underlying25 rfl ?_))))
 have H6:=H5.sel [8,9,10,11,12,14,15,16,13,0,1,2,3,4,5,6,7] rfl rfl
 refine wo (op_neqN (b:=0) rfl rfl<|wn<|WC.no rfl (by decide)<|WC.skip<|WQ.next<|WC.seq<|WC.held 13 rfl Fa.M H6 (fun w'=> ∃L',Owl.Own T w w' ([Ent.ar ev 2 xs.length (List.flatMap xtc xs),Ent.ar pv 1 ps.length (List.map vU16 ps),Ent.ar sv 3 sg.length (List.flatMap sgc sg),.blk b1 [(ptr x 0)] 47,.blk b2 [(vU32 mp),ev,pv,(.bool con),(vU32 en),sv] 43,.blk s4 [(.map (some mb4))] 165,.obj mb4 (mP .u32 (List.map Pg.me qs4) c4),Ent.bs 211 Pg.cells Pg.b qs4]++L')) ?_)
 intro w7 H7
 refine xt 0 rfl (ptr x 0) H7 (fun _ _ HX=>op_load rfl (HX.cell (i:=3) rfl rfl) Tryz.underlying47 rfl ⟨rfl,rfl⟩)<|xt 1 rfl (ptr b2 0) H7 (fun _ _ HX=>op_fieldAddr rfl Fa.F43_0 ⟨rfl,rfl⟩)<|xt 2 rfl (.agg #[(vU32 mp),ev,pv,(.bool con)]) H7 (fun _ _ HX=>op_loadS (vs:=[_,_,_,_]) rfl (HX.cells (i:=4) rfl rfl) Tryz.underlying40 rfl Fa.I40 rfl ⟨rfl,rfl⟩)<|xt 3 rfl (.agg #[(vU32 mp),ev,pv,(.bool con),(vU32 en),sv]) H7 (fun _ _ HX=>op_loadS (vs:=[_,_,_,_,_,_]) rfl (HX.cells (i:=4) rfl rfl) Tryz.underlying43 rfl Fa.I43 rfl ⟨rfl,rfl⟩)<|WH.named (fun W hW=>?_)
 let e6:List (Nat × Value)→List (Nat × Value):=fun r=>(0,(ptr x 0))::(1,(.agg #[(vU32 mp),ev,pv,(.bool con),(vU32 en),sv]))::(2,(ptr b1 0))::(3,(ptr b2 0))::(4,(vN 0))::(5,(ptr b3 0))::(6,(ptr s4 0))::(9,(ptr x 0))::(10,(.bool false))::(11,(.tuple #[(ptr s4 0),(vN 0)]))::(12,(.agg #[(vU32 mp),ev,pv,(.bool con),(vU32 en),sv]))::(13,(.tuple #[(ptr s4 0),(vN 0)]))::(14,(ptr s4 0))::(15,(vN 0))::(16,(vN 0))::(17,(.bool (decide (0≠0))))::r
 let a6_0:Ent:=Ent.ar ev 2 xs.length (List.flatMap xtc xs)
 let a6_1:Ent:=Ent.ar pv 1 ps.length (List.map vU16 ps)
 let a6_2:Ent:=Ent.ar sv 3 sg.length (List.flatMap sgc sg)
 let a6_3:Ent:=.blk b1 [(ptr x 0)] 47
 let a6_4:Ent:=.blk b2 [(vU32 mp),ev,pv,(.bool con),(vU32 en),sv] 43
 let a6_5:Ent:=.blk s4 [(.map (some mb4))] 165
 let a6_6:Ent:=.obj mb4 (mP .u32 (List.map Pg.me qs4) c4)
 let a6_7:Ent:=Ent.bs 211 Pg.cells Pg.b qs4
 let a6_8:Ent:=.blk b3 [(vN 0)] 25
 let a6_9:Ent:=.blk x (xoC k sl) 146
 let a6_10:Ent:=Ent.bo k [(vU32 pk),hx,(ptr c 0),nv,bv,(vU32 0)]
 let a6_11:Ent:=.blk c [(vU32 pg),hv,(.map (some mb))] 196
 let a6_12:Ent:=Ent.ar hv 1 he.length (List.map vU32 he)
 let a6_13:Ent:=.obj mb (mP .i64 (List.map Gr.me gs) cn)
 let a6_14:Ent:=Ent.bs 199 Gr.cells Gr.b gs
 let a6_15:Ent:=Ent.dp grD.list gs
 let a6_16:Ent:=Ent.dp (sltD 211).list sl
 have st6_9: ∀(b18201:Nat) (v18081:Value) (wS:World),Owl.Own T w wS [a6_0,a6_1,a6_2,a6_3,a6_4,a6_5,a6_6,a6_7,.blk b3 [(vN 4)] 25,a6_9,a6_10,a6_11,a6_12,a6_13,a6_14,a6_15,a6_16,.row v18081 22 1 (if imE mp xs ps en sg=0 then pagesTo sg sg.length else []).length (List.map vU32 (if imE mp xs ps en sg=0 then pagesTo sg sg.length else [])),.blk b18201 [(vN 0)] 3]→W 0 (bz 13 8191) (e6 [(7,(ptr b18201 0))]) wS:=by
  intro b18201 v18081 wS HS
  rw [hW]
  refine WH.done (by kernel_rfl)<|WQ.next<|WC.seq<|ws<|wo (op_load rfl (HS.cell (i:=8) rfl rfl) Tryz.underlying25 rfl<|wo (op_neqN (b:=0) rfl rfl<|wn<|WC.yes rfl (by decide)<|WC.seq<|WC.draw 2 Fa.M HS (oh (fun w1 H1=>op_load rfl (H1.cell (i:=8) rfl rfl) Tryz.underlying25 rfl zr)<|ah rfl  HW.nil) (by kernel_rfl) ?_))
  intro β9 w9 H9
  exact wo (op_storeB (i:=8) H9 rfl rfl rfl rfl rfl Fa.I25 (fun w10 H10=>(wn<|WC.ret<|WQ.thenRet<|WQ.outD0 (.tmp rfl (.cell rfl (run_loadVar1 (H10.cell (i:=8) rfl rfl) Tryz.underlying25 rfl) .nil)) (⟨rfl,H10.sel [9,10,11,12,13,14,15,16,0,1,2] rfl rfl⟩))))
 have st6_8: ∀(b18201:Nat) (v18081:Value) (wS:World),Owl.Own T w wS [a6_0,a6_1,a6_2,a6_3,a6_4,a6_5,a6_6,a6_7,a6_8,a6_9,a6_10,a6_11,a6_12,a6_13,a6_14,a6_15,a6_16,.row v18081 22 1 (if imE mp xs ps en sg=0 then pagesTo sg sg.length else []).length (List.map vU32 (if imE mp xs ps en sg=0 then pagesTo sg sg.length else [])),.blk b18201 [(vN 0)] 3]→W 1 (bz 13 4095) (e6 [(7,(ptr b18201 0)),(28,(vN 4))]) wS:=by
  intro b18201 v18081 wS HS
  rw [hW]
  refine wh1 12 ?_
  ·
   refine kH 12 rfl (op_storeB (i:=8) HS rfl rfl rfl rfl rfl Fa.I25 (fun w18241 H18241=>(⟨⟨_,H18241⟩,?_⟩)))
   exact WH.cw hW (st6_9 b18201 v18081 w18241 H18241)
 have st6_7: ∀(b18201:Nat) (v18081:Value) (wS:World),Owl.Own T w wS [a6_0,a6_1,a6_2,a6_3,a6_4,a6_5,a6_6,a6_7,a6_8,a6_9,a6_10,a6_11,a6_12,a6_13,a6_14,a6_15,a6_16,.row v18081 22 1 (if imE mp xs ps en sg=0 then pagesTo sg sg.length else []).length (List.map vU32 (if imE mp xs ps en sg=0 then pagesTo sg sg.length else [])),.blk b18201 [(vN 0)] 3]→W 2 (bz 13 2047) (e6 [(7,(ptr b18201 0)),(27,(vN 0)),(28,(vN 4))]) wS:=by
  intro b18201 v18081 wS HS
  rw [hW]
  refine wh1 11 ?_
  ·
   refine kH 11 rfl (op_storeB (i:=18) HS rfl rfl rfl rfl rfl Fa.I3 (fun w18221 H18221=>(⟨⟨_,H18221⟩,?_⟩)))
   exact WH.cw hW (st6_8 b18201 v18081 w18221 H18221)
 have st6_5: ∀(v18081:Value) (wS:World),Owl.Own T w wS [a6_0,a6_1,a6_2,a6_3,a6_4,a6_5,a6_6,a6_7,a6_8,a6_9,a6_10,a6_11,a6_12,a6_13,a6_14,a6_15,a6_16,.row v18081 22 1 (if imE mp xs ps en sg=0 then pagesTo sg sg.length else []).length (List.map vU32 (if imE mp xs ps en sg=0 then pagesTo sg sg.length else []))]→W 3 (bz 13 1023) (e6 [(27,(vN 0)),(28,(vN 4))]) wS:=by
  intro v18081 wS HS
  rw [hW]
  refine wh1 10 ?_
  ·
   refine kH 10 rfl (op_alloc HS Fa.I3 (fun b18201 w18201 H18201=>(⟨⟨_,H18201⟩,?_⟩)))
   exact WH.cw hW (st6_7 b18201 v18081 w18201 H18201)
 have st6_6: ∀(b18201:Nat) (v18081:Value) (wS:World),Owl.Own T w wS [a6_0,a6_1,a6_2,a6_3,a6_4,a6_5,a6_6,a6_7,a6_8,a6_9,a6_10,a6_11,a6_12,a6_13,a6_14,a6_15,a6_16,.row v18081 22 1 (if imE mp xs ps en sg=0 then pagesTo sg sg.length else []).length (List.map vU32 (if imE mp xs ps en sg=0 then pagesTo sg sg.length else [])),.blk b18201 [(vN 0)] 3]→W 6 (bz 13 1087) (e6 [(7,(ptr b18201 0)),(20,(ptr x 0)),(22,(.agg #[(vU32 mp),ev,pv,(.bool con)])),(25,(vN (if imE mp xs ps en sg=0 then pagesTo sg sg.length else []).length))]) wS:=by
  intro b18201 v18081 wS HS
  rw [hW]
  refine wh1 6 ?_
  ·
   refine kH 6 rfl (op_callF Fa.C86 rfl ((admit_full x k pk hx nv bv c pg hv he mb cn gs sl l mp ev pv xs ps con ((if imE mp xs ps en sg=0 then pagesTo sg sg.length else []).length) _ _ (HS.part [9,10,11,12,13,14,15,16,0,1] rfl rfl) hR h9 hhe hn hm (img_N h0 hB47) hff).mono (fun e w18121 hq=>?_)))
   obtain ⟨rfl,hq18121⟩:=hq
   refine ⟨_,rfl,?_⟩
   have H18121:=HS.splice [9,10,11,12,13,14,15,16,0,1] [.blk x (xoC k sl) 146,Ent.bo k [(vU32 pk),hx,(ptr c 0),nv,bv,(vU32 0)],.blk c [(vU32 pg),hv,(.map (some mb))] 196,Ent.ar hv 1 he.length (List.map vU32 he),.obj mb (mP .i64 (List.map Gr.me gs) cn),Ent.bs 199 Gr.cells Gr.b gs,Ent.dp grD.list gs,Ent.dp (sltD 211).list sl,Ent.ar ev 2 xs.length (List.flatMap xtc xs),Ent.ar pv 1 ps.length (List.map vU16 ps)] [] rfl rfl hq18121 (Fits.solid True.intro (Fits.same (j:=1) rfl (Fits.solid True.intro (Fits.same (j:=3) rfl (Fits.solid True.intro (Fits.solid True.intro (Fits.same (j:=6) rfl (Fits.same (j:=7) rfl (Fits.same (j:=8) rfl (Fits.same (j:=9) rfl Fits.nil))))))))))
   refine ⟨⟨_,H18121⟩,?_⟩
   exact xt 7 rfl (.tuple #[(vN 0),(vN 4)]) H18121 (fun _ _ HX=>op_move rfl ⟨rfl,rfl⟩)<|xt 8 rfl (vN 0) H18121 (fun _ _ HX=>op_extract rfl rfl ⟨rfl,rfl⟩)<|xt 9 rfl (vN 4) H18121 (fun _ _ HX=>op_extract rfl rfl ⟨rfl,rfl⟩)<|WH.cw hW (st6_7 b18201 v18081 w18121 H18121)
 have st6_3: ∀(v18081:Value) (wS:World),Owl.Own T w wS [a6_0,a6_1,a6_2,a6_3,a6_4,a6_5,a6_6,a6_7,a6_8,a6_9,a6_10,a6_11,a6_12,a6_13,a6_14,a6_15,a6_16,.row v18081 22 1 (if imE mp xs ps en sg=0 then pagesTo sg sg.length else []).length (List.map vU32 (if imE mp xs ps en sg=0 then pagesTo sg sg.length else []))]→W 7 (bz 13 63) (e6 [(20,(ptr x 0)),(22,(.agg #[(vU32 mp),ev,pv,(.bool con)])),(25,(vN (if imE mp xs ps en sg=0 then pagesTo sg sg.length else []).length))]) wS:=by
  intro v18081 wS HS
  rw [hW]
  refine wh2 6 10 ?_ ?_
  ·
   refine kH 6 rfl (op_callF Fa.C86 rfl ((admit_full x k pk hx nv bv c pg hv he mb cn gs sl l mp ev pv xs ps con ((if imE mp xs ps en sg=0 then pagesTo sg sg.length else []).length) _ _ (HS.part [9,10,11,12,13,14,15,16,0,1] rfl rfl) hR h9 hhe hn hm (img_N h0 hB47) hff).mono (fun e w18121 hq=>?_)))
   obtain ⟨rfl,hq18121⟩:=hq
   refine ⟨_,rfl,?_⟩
   have H18121:=HS.splice [9,10,11,12,13,14,15,16,0,1] [.blk x (xoC k sl) 146,Ent.bo k [(vU32 pk),hx,(ptr c 0),nv,bv,(vU32 0)],.blk c [(vU32 pg),hv,(.map (some mb))] 196,Ent.ar hv 1 he.length (List.map vU32 he),.obj mb (mP .i64 (List.map Gr.me gs) cn),Ent.bs 199 Gr.cells Gr.b gs,Ent.dp grD.list gs,Ent.dp (sltD 211).list sl,Ent.ar ev 2 xs.length (List.flatMap xtc xs),Ent.ar pv 1 ps.length (List.map vU16 ps)] [] rfl rfl hq18121 (Fits.solid True.intro (Fits.same (j:=1) rfl (Fits.solid True.intro (Fits.same (j:=3) rfl (Fits.solid True.intro (Fits.solid True.intro (Fits.same (j:=6) rfl (Fits.same (j:=7) rfl (Fits.same (j:=8) rfl (Fits.same (j:=9) rfl Fits.nil))))))))))
   refine ⟨⟨_,H18121⟩,?_⟩
   exact xt 7 rfl (.tuple #[(vN 0),(vN 4)]) H18121 (fun _ _ HX=>op_move rfl ⟨rfl,rfl⟩)<|xt 8 rfl (vN 0) H18121 (fun _ _ HX=>op_extract rfl rfl ⟨rfl,rfl⟩)<|xt 9 rfl (vN 4) H18121 (fun _ _ HX=>op_extract rfl rfl ⟨rfl,rfl⟩)<|WH.cw hW (st6_5 v18081 w18121 H18121)
  ·
   refine kH 10 rfl (op_alloc HS Fa.I3 (fun b18201 w18201 H18201=>(⟨⟨_,H18201⟩,?_⟩)))
   exact WH.cw hW (st6_6 b18201 v18081 w18201 H18201)
 have st6_4: ∀(b18201:Nat) (v18081:Value) (wS:World),Owl.Own T w wS [a6_0,a6_1,a6_2,a6_3,a6_4,a6_5,a6_6,a6_7,a6_8,a6_9,a6_10,a6_11,a6_12,a6_13,a6_14,a6_15,a6_16,.row v18081 22 1 (if imE mp xs ps en sg=0 then pagesTo sg sg.length else []).length (List.map vU32 (if imE mp xs ps en sg=0 then pagesTo sg sg.length else [])),.blk b18201 [(vN 0)] 3]→W 7 (bz 13 1055) (e6 [(7,(ptr b18201 0)),(20,(ptr x 0)),(22,(.agg #[(vU32 mp),ev,pv,(.bool con)])),(24,v18081)]) wS:=by
  intro b18201 v18081 wS HS
  rw [hW]
  refine wh1 5 ?_
  ·
   refine kH 5 rfl (op_lenA Tryz.underlying73 rfl (HS.arrR (i:=17) rfl) (⟨⟨_,HS⟩,?_⟩))
   exact WH.cw hW (st6_6 b18201 v18081 wS HS)
 have st6_1: ∀(v18081:Value) (wS:World),Owl.Own T w wS [a6_0,a6_1,a6_2,a6_3,a6_4,a6_5,a6_6,a6_7,a6_8,a6_9,a6_10,a6_11,a6_12,a6_13,a6_14,a6_15,a6_16,.row v18081 22 1 (if imE mp xs ps en sg=0 then pagesTo sg sg.length else []).length (List.map vU32 (if imE mp xs ps en sg=0 then pagesTo sg sg.length else []))]→W 8 (bz 13 31) (e6 [(20,(ptr x 0)),(22,(.agg #[(vU32 mp),ev,pv,(.bool con)])),(24,v18081)]) wS:=by
  intro v18081 wS HS
  rw [hW]
  refine wh2 5 10 ?_ ?_
  ·
   refine kH 5 rfl (op_lenA Tryz.underlying73 rfl (HS.arrR (i:=17) rfl) (⟨⟨_,HS⟩,?_⟩))
   exact WH.cw hW (st6_3 v18081 wS HS)
  ·
   refine kH 10 rfl (op_alloc HS Fa.I3 (fun b18201 w18201 H18201=>(⟨⟨_,H18201⟩,?_⟩)))
   exact WH.cw hW (st6_4 b18201 v18081 w18201 H18201)
 have st6_2: ∀(b18201:Nat) (wS:World),Owl.Own T w wS [a6_0,a6_1,a6_2,a6_3,a6_4,a6_5,a6_6,a6_7,a6_8,a6_9,a6_10,a6_11,a6_12,a6_13,a6_14,a6_15,a6_16,.blk b18201 [(vN 0)] 3]→W 8 (bz 13 1039) (e6 [(7,(ptr b18201 0)),(20,(ptr x 0)),(22,(.agg #[(vU32 mp),ev,pv,(.bool con)])),(23,(.agg #[(vU32 mp),ev,pv,(.bool con),(vU32 en),sv]))]) wS:=by
  intro b18201 wS HS
  rw [hW]
  refine wh1 4 ?_
  ·
   refine kH 4 rfl (op_callF Fa.C87 rfl ((ipgs_ok mp _ _ _ xs ps con en sg _ (HS.arrO (i:=0) rfl) (HS.arrO (i:=1) rfl) (HS.arrO (i:=2) rfl) (by omega) (by omega) (by omega) hB (by omega)).mono (fun e w18081 hq=>?_)))
   obtain ⟨v18081,rfl,hq18081⟩:=hq
   refine ⟨_,rfl,?_⟩
   have H18081:=HS.splice [] [] [.row v18081 22 1 (if imE mp xs ps en sg=0 then pagesTo sg sg.length else []).length (List.map vU32 (if imE mp xs ps en sg=0 then pagesTo sg sg.length else []))] rfl rfl hq18081 (Fits.solid True.intro Fits.nil)
   refine ⟨⟨_,H18081⟩,?_⟩
   exact WH.cw hW (st6_4 b18201 v18081 w18081 (H18081.sel [0,1,2,3,4,5,6,7,8,9,10,11,12,13,14,15,16,18,17] rfl rfl))
 have st6_0: ∀(wS:World),Owl.Own T w wS [a6_0,a6_1,a6_2,a6_3,a6_4,a6_5,a6_6,a6_7,a6_8,a6_9,a6_10,a6_11,a6_12,a6_13,a6_14,a6_15,a6_16]→W 9 (bz 13 15) (e6 [(20,(ptr x 0)),(22,(.agg #[(vU32 mp),ev,pv,(.bool con)])),(23,(.agg #[(vU32 mp),ev,pv,(.bool con),(vU32 en),sv]))]) wS:=by
  intro wS HS
  rw [hW]
  refine wh2 4 10 ?_ ?_
  ·
   refine kH 4 rfl (op_callF Fa.C87 rfl ((ipgs_ok mp _ _ _ xs ps con en sg _ (HS.arrO (i:=0) rfl) (HS.arrO (i:=1) rfl) (HS.arrO (i:=2) rfl) (by omega) (by omega) (by omega) hB (by omega)).mono (fun e w18081 hq=>?_)))
   obtain ⟨v18081,rfl,hq18081⟩:=hq
   refine ⟨_,rfl,?_⟩
   have H18081:=HS.splice [] [] [.row v18081 22 1 (if imE mp xs ps en sg=0 then pagesTo sg sg.length else []).length (List.map vU32 (if imE mp xs ps en sg=0 then pagesTo sg sg.length else []))] rfl rfl hq18081 (Fits.solid True.intro Fits.nil)
   refine ⟨⟨_,H18081⟩,?_⟩
   exact WH.cw hW (st6_1 v18081 w18081 H18081)
  ·
   refine kH 10 rfl (op_alloc HS Fa.I3 (fun b18201 w18201 H18201=>(⟨⟨_,H18201⟩,?_⟩)))
   exact WH.cw hW (st6_2 b18201 w18201 H18201)
 have hq:=st6_0 w7 H7
 rw [hW] at hq ⊢
 exact WH.cv hq
theorem limage_no (x k:Nat) (pk:UInt32) (hx nv bv:Value) (c:Nat) (pg:UInt32) (hv:Value) (he:List UInt32) (mb cn:Nat) (gs:List Gr) (sl:List Slt) (l:List Gr) (mp:UInt32) (ev pv sv:Value) (xs:List Xt) (ps:List UInt16) (con:Bool) (en:UInt32) (sg:List Sg) (T:List Nat) (w:World) (H:Owl.Own T w w [.blk x (xoC k sl) 146,Ent.bo k [(vU32 pk),hx,(ptr c 0),nv,bv,(vU32 0)],.blk c [(vU32 pg),hv,(.map (some mb))] 196,Ent.ar hv 1 he.length (List.map vU32 he),.obj mb (mP .i64 (List.map Gr.me gs) cn),Ent.bs 199 Gr.cells Gr.b gs,Ent.dp grD.list gs,Ent.dp (sltD 211).list sl,Ent.ar ev 2 xs.length (List.flatMap xtc xs),Ent.ar pv 1 ps.length (List.map vU16 ps),Ent.ar sv 3 sg.length (List.flatMap sgc sg)]) (hR:CapR gs cn l) (h9:sl.length=9) (hhe:he.length<2^32) (hn:xs.length<2^40) (hm:ps.length<2^40) (hk:sg.length<2^20) (hB: ∀x∈sg,x.b.length≤2^30) (h0:imE mp xs ps en sg=0) (hff:ffS sl≠9) (hw:(grantE pg he l ((ffS sl:Nat):Int) mp xs ps (UInt32.ofNat (if imE mp xs ps en sg=0 then pagesTo sg sg.length else []).length))≠0) :
  Calls Tryz.prog 40 #[(ptr x 0),(.agg #[(vU32 mp),ev,pv,(.bool con),(vU32 en),sv])] w (fun e w'=> ∃cn' gs',e=.returned (.tuple #[vN 0,vN (grantE pg he l ((ffS sl:Nat):Int) mp xs ps (UInt32.ofNat (if imE mp xs ps en sg=0 then pagesTo sg sg.length else []).length))])∧CapR gs' cn' (grantG pg he l ((ffS sl:Nat):Int) mp xs ps con (UInt32.ofNat (if imE mp xs ps en sg=0 then pagesTo sg sg.length else []).length))∧DpTo w gs gs'∧Owl.Own T w w' [.blk x (xoC k sl) 146,Ent.bo k [(vU32 pk),hx,(ptr c 0),nv,bv,(vU32 0)],.blk c [(vU32 pg),hv,(.map (some mb))] 196,Ent.ar hv 1 he.length (List.map vU32 he),.obj mb (mP .i64 (List.map Gr.me gs') cn'),Ent.bs 199 Gr.cells Gr.b gs',Ent.dp grD.list gs',Ent.dp (sltD 211).list sl,Ent.ar ev 2 xs.length (List.flatMap xtc xs),Ent.ar pv 1 ps.length (List.map vU16 ps),Ent.ar sv 3 sg.length (List.flatMap sgc sg)]):=by
 refine enterD (args:=[(ptr x 0),(.agg #[(vU32 mp),ev,pv,(.bool con),(vU32 en),sv])]) Tryz.func40 rfl rfl ?_
 have hB47: ∀x∈sg,x.b.length≤2^47:=fun x hx=>Nat.le_trans (hB x hx) (by decide)
 refine ws<|wo (op_box H rfl rfl (fun b1 w1 H1=>(wo (op_box H1 rfl rfl (fun b2 w2 H2=>(wa rfl<|wo (op_alloc H2 Fa.I25 (fun b3 w3 H3=>(wn<|WC.seq<|ws<|wo (op_load rfl (H3.cell (i:=11) rfl rfl) Tryz.underlying47 rfl<|wo (op_eqlPN Fa.PT47 rfl rfl<|wn<|WC.no rfl rfl<|WC.skip<|WQ.next<|ws<|wo (op_loadS (vs:=[_,_,_,_,_,_]) rfl (H3.cells (i:=12) rfl rfl) Tryz.underlying43 rfl Fa.I43 rfl<|wo (op_callF Fa.C32 rfl ((lspace_yes mp _ _ _ xs ps con en sg _ (H3.arrO (i:=8) rfl) (H3.arrO (i:=9) rfl) (H3.arrO (i:=10) rfl) (by omega) (by omega) (by omega) hB47 h0).mono (fun e w4 hq=>?_)))))))))))))))
 obtain ⟨s4,mb4,c4,qs4,rfl,hr4,hq4⟩:=hq
 refine ⟨_,rfl,?_⟩
 have H4:=H3.splice [] [] [.blk s4 [(.map (some mb4))] 165,.obj mb4 (mP .u32 (List.map Pg.me qs4) c4),Ent.bs 211 Pg.cells Pg.b qs4] rfl rfl hq4 (Fits.solid True.intro (Fits.solid True.intro (Fits.solid True.intro Fits.nil)))
 refine wm rfl<|we rfl rfl<|we rfl rfl<|wa rfl<|wo (op_storeB (i:=13) H4 rfl rfl rfl rfl rfl Fa.I25 (fun w5 H5=>(wn<|WC.seq<|ws<|wo (op_load rfl (H5.cell (i:=13) rfl rfl) Tryz.underlying25 rfl ?_))))
 have H6:=H5.sel [8,9,10,11,12,14,15,16,13,0,1,2,3,4,5,6,7] rfl rfl
 refine wo (op_neqN (b:=0) rfl rfl<|wn<|WC.no rfl (by decide)<|WC.skip<|WQ.next<|WC.seq<|WC.held 13 rfl Fa.M H6 (fun w'=> ∃L',Owl.Own T w w' ([Ent.ar ev 2 xs.length (List.flatMap xtc xs),Ent.ar pv 1 ps.length (List.map vU16 ps),Ent.ar sv 3 sg.length (List.flatMap sgc sg),.blk b1 [(ptr x 0)] 47,.blk b2 [(vU32 mp),ev,pv,(.bool con),(vU32 en),sv] 43,.blk s4 [(.map (some mb4))] 165,.obj mb4 (mP .u32 (List.map Pg.me qs4) c4),Ent.bs 211 Pg.cells Pg.b qs4]++L')) ?_)
 intro w7 H7
 refine xt 0 rfl (ptr x 0) H7 (fun _ _ HX=>op_load rfl (HX.cell (i:=3) rfl rfl) Tryz.underlying47 rfl ⟨rfl,rfl⟩)<|xt 1 rfl (ptr b2 0) H7 (fun _ _ HX=>op_fieldAddr rfl Fa.F43_0 ⟨rfl,rfl⟩)<|xt 2 rfl (.agg #[(vU32 mp),ev,pv,(.bool con)]) H7 (fun _ _ HX=>op_loadS (vs:=[_,_,_,_]) rfl (HX.cells (i:=4) rfl rfl) Tryz.underlying40 rfl Fa.I40 rfl ⟨rfl,rfl⟩)<|xt 3 rfl (.agg #[(vU32 mp),ev,pv,(.bool con),(vU32 en),sv]) H7 (fun _ _ HX=>op_loadS (vs:=[_,_,_,_,_,_]) rfl (HX.cells (i:=4) rfl rfl) Tryz.underlying43 rfl Fa.I43 rfl ⟨rfl,rfl⟩)<|WH.named (fun W hW=>?_)
 let e6:List (Nat × Value)→List (Nat × Value):=fun r=>(0,(ptr x 0))::(1,(.agg #[(vU32 mp),ev,pv,(.bool con),(vU32 en),sv]))::(2,(ptr b1 0))::(3,(ptr b2 0))::(4,(vN 0))::(5,(ptr b3 0))::(6,(ptr s4 0))::(9,(ptr x 0))::(10,(.bool false))::(11,(.tuple #[(ptr s4 0),(vN 0)]))::(12,(.agg #[(vU32 mp),ev,pv,(.bool con),(vU32 en),sv]))::(13,(.tuple #[(ptr s4 0),(vN 0)]))::(14,(ptr s4 0))::(15,(vN 0))::(16,(vN 0))::(17,(.bool (decide (0≠0))))::r
 let a6_0:Ent:=Ent.ar ev 2 xs.length (List.flatMap xtc xs)
 let a6_1:Ent:=Ent.ar pv 1 ps.length (List.map vU16 ps)
 let a6_2:Ent:=Ent.ar sv 3 sg.length (List.flatMap sgc sg)
 let a6_3:Ent:=.blk b1 [(ptr x 0)] 47
 let a6_4:Ent:=.blk b2 [(vU32 mp),ev,pv,(.bool con),(vU32 en),sv] 43
 let a6_5:Ent:=.blk s4 [(.map (some mb4))] 165
 let a6_6:Ent:=.obj mb4 (mP .u32 (List.map Pg.me qs4) c4)
 let a6_7:Ent:=Ent.bs 211 Pg.cells Pg.b qs4
 let a6_8:Ent:=.blk b3 [(vN 0)] 25
 let a6_9:Ent:=.blk x (xoC k sl) 146
 let a6_10:Ent:=Ent.bo k [(vU32 pk),hx,(ptr c 0),nv,bv,(vU32 0)]
 let a6_11:Ent:=.blk c [(vU32 pg),hv,(.map (some mb))] 196
 let a6_12:Ent:=Ent.ar hv 1 he.length (List.map vU32 he)
 let a6_13:Ent:=.obj mb (mP .i64 (List.map Gr.me gs) cn)
 let a6_14:Ent:=Ent.bs 199 Gr.cells Gr.b gs
 let a6_15:Ent:=Ent.dp grD.list gs
 let a6_16:Ent:=Ent.dp (sltD 211).list sl
 have st6_9: ∀(b18201:Nat) (gs18121:List Gr) (cn18121:Nat) (v18081:Value) (wS:World),Owl.Own T w wS [a6_0,a6_1,a6_2,a6_3,a6_4,a6_5,a6_6,a6_7,.blk b3 [(vN (grantE pg he l ((ffS sl:Nat):Int) mp xs ps (UInt32.ofNat (if imE mp xs ps en sg=0 then pagesTo sg sg.length else []).length)))] 25,a6_9,a6_10,a6_11,a6_12,.obj mb (mP .i64 (List.map Gr.me gs18121) cn18121),Ent.bs 199 Gr.cells Gr.b gs18121,Ent.dp grD.list gs18121,a6_16,.row v18081 22 1 (if imE mp xs ps en sg=0 then pagesTo sg sg.length else []).length (List.map vU32 (if imE mp xs ps en sg=0 then pagesTo sg sg.length else [])),Ent.fact (CapR gs18121 cn18121 (grantG pg he l ((ffS sl:Nat):Int) mp xs ps con (UInt32.ofNat (if imE mp xs ps en sg=0 then pagesTo sg sg.length else []).length))∧DpTo w gs gs18121),.blk b18201 [(vN 0)] 3]→W 0 (bz 13 8191) (e6 [(7,(ptr b18201 0))]) wS:=by
  intro b18201 gs18121 cn18121 v18081 wS HS
  rw [hW]
  refine WH.done (by kernel_rfl)<|WQ.next<|WC.seq<|ws ?_
  have hiF:=HS.fact (i:=18) rfl
  refine wo (op_load rfl (HS.cell (i:=8) rfl rfl) Tryz.underlying25 rfl<|wo (op_neqN (b:=0) rfl rfl<|wn<|WC.yes rfl (decide_eq_true hw)<|WC.seq<|WC.draw 2 Fa.M HS (oh (fun w1 H1=>op_load rfl (H1.cell (i:=8) rfl rfl) Tryz.underlying25 rfl zr)<|ah rfl  HW.nil) (by kernel_rfl) ?_))
  intro β9 w9 H9
  exact wo (op_storeB (i:=8) H9 rfl rfl rfl rfl rfl Fa.I25 (fun w10 H10=>(wn<|WC.ret<|WQ.thenRet<|WQ.outD0 (.tmp rfl (.cell rfl (run_loadVar1 (H10.cell (i:=8) rfl rfl) Tryz.underlying25 rfl) .nil)) (⟨_,_,rfl,hiF.1,hiF.2,H10.sel [9,10,11,12,13,14,15,16,0,1,2] rfl rfl⟩))))
 have st6_8: ∀(b18201:Nat) (gs18121:List Gr) (cn18121:Nat) (v18081:Value) (wS:World),Owl.Own T w wS [a6_0,a6_1,a6_2,a6_3,a6_4,a6_5,a6_6,a6_7,a6_8,a6_9,a6_10,a6_11,a6_12,.obj mb (mP .i64 (List.map Gr.me gs18121) cn18121),Ent.bs 199 Gr.cells Gr.b gs18121,Ent.dp grD.list gs18121,a6_16,.row v18081 22 1 (if imE mp xs ps en sg=0 then pagesTo sg sg.length else []).length (List.map vU32 (if imE mp xs ps en sg=0 then pagesTo sg sg.length else [])),Ent.fact (CapR gs18121 cn18121 (grantG pg he l ((ffS sl:Nat):Int) mp xs ps con (UInt32.ofNat (if imE mp xs ps en sg=0 then pagesTo sg sg.length else []).length))∧DpTo w gs gs18121),.blk b18201 [(vN 0)] 3]→W 1 (bz 13 4095) (e6 [(7,(ptr b18201 0)),(28,(vN (grantE pg he l ((ffS sl:Nat):Int) mp xs ps (UInt32.ofNat (if imE mp xs ps en sg=0 then pagesTo sg sg.length else []).length))))]) wS:=by
  intro b18201 gs18121 cn18121 v18081 wS HS
  rw [hW]
  refine wh1 12 ?_
  ·
   refine kH 12 rfl (op_storeB (i:=8) HS rfl rfl rfl rfl rfl Fa.I25 (fun w18241 H18241=>(⟨⟨_,H18241⟩,?_⟩)))
   exact WH.cw hW (st6_9 b18201 gs18121 cn18121 v18081 w18241 H18241)
 have st6_7: ∀(b18201:Nat) (gs18121:List Gr) (cn18121:Nat) (v18081:Value) (wS:World),Owl.Own T w wS [a6_0,a6_1,a6_2,a6_3,a6_4,a6_5,a6_6,a6_7,a6_8,a6_9,a6_10,a6_11,a6_12,.obj mb (mP .i64 (List.map Gr.me gs18121) cn18121),Ent.bs 199 Gr.cells Gr.b gs18121,Ent.dp grD.list gs18121,a6_16,.row v18081 22 1 (if imE mp xs ps en sg=0 then pagesTo sg sg.length else []).length (List.map vU32 (if imE mp xs ps en sg=0 then pagesTo sg sg.length else [])),Ent.fact (CapR gs18121 cn18121 (grantG pg he l ((ffS sl:Nat):Int) mp xs ps con (UInt32.ofNat (if imE mp xs ps en sg=0 then pagesTo sg sg.length else []).length))∧DpTo w gs gs18121),.blk b18201 [(vN 0)] 3]→W 2 (bz 13 2047) (e6 [(7,(ptr b18201 0)),(27,(vN 0)),(28,(vN (grantE pg he l ((ffS sl:Nat):Int) mp xs ps (UInt32.ofNat (if imE mp xs ps en sg=0 then pagesTo sg sg.length else []).length))))]) wS:=by
  intro b18201 gs18121 cn18121 v18081 wS HS
  rw [hW]
  refine wh1 11 ?_
  ·
   refine kH 11 rfl (op_storeB (i:=19) HS rfl rfl rfl rfl rfl Fa.I3 (fun w18221 H18221=>(⟨⟨_,H18221⟩,?_⟩)))
   exact WH.cw hW (st6_8 b18201 gs18121 cn18121 v18081 w18221 H18221)
 have st6_5: ∀(gs18121:List Gr) (cn18121:Nat) (v18081:Value) (wS:World),Owl.Own T w wS [a6_0,a6_1,a6_2,a6_3,a6_4,a6_5,a6_6,a6_7,a6_8,a6_9,a6_10,a6_11,a6_12,.obj mb (mP .i64 (List.map Gr.me gs18121) cn18121),Ent.bs 199 Gr.cells Gr.b gs18121,Ent.dp grD.list gs18121,a6_16,.row v18081 22 1 (if imE mp xs ps en sg=0 then pagesTo sg sg.length else []).length (List.map vU32 (if imE mp xs ps en sg=0 then pagesTo sg sg.length else [])),Ent.fact (CapR gs18121 cn18121 (grantG pg he l ((ffS sl:Nat):Int) mp xs ps con (UInt32.ofNat (if imE mp xs ps en sg=0 then pagesTo sg sg.length else []).length))∧DpTo w gs gs18121)]→W 3 (bz 13 1023) (e6 [(27,(vN 0)),(28,(vN (grantE pg he l ((ffS sl:Nat):Int) mp xs ps (UInt32.ofNat (if imE mp xs ps en sg=0 then pagesTo sg sg.length else []).length))))]) wS:=by
  intro gs18121 cn18121 v18081 wS HS
  rw [hW]
  refine wh1 10 ?_
  ·
   refine kH 10 rfl (op_alloc HS Fa.I3 (fun b18201 w18201 H18201=>(⟨⟨_,H18201⟩,?_⟩)))
   exact WH.cw hW (st6_7 b18201 gs18121 cn18121 v18081 w18201 H18201)
 have st6_6: ∀(b18201:Nat) (v18081:Value) (wS:World),Owl.Own T w wS [a6_0,a6_1,a6_2,a6_3,a6_4,a6_5,a6_6,a6_7,a6_8,a6_9,a6_10,a6_11,a6_12,a6_13,a6_14,a6_15,a6_16,.row v18081 22 1 (if imE mp xs ps en sg=0 then pagesTo sg sg.length else []).length (List.map vU32 (if imE mp xs ps en sg=0 then pagesTo sg sg.length else [])),.blk b18201 [(vN 0)] 3]→W 6 (bz 13 1087) (e6 [(7,(ptr b18201 0)),(20,(ptr x 0)),(22,(.agg #[(vU32 mp),ev,pv,(.bool con)])),(25,(vN (if imE mp xs ps en sg=0 then pagesTo sg sg.length else []).length))]) wS:=by
  intro b18201 v18081 wS HS
  rw [hW]
  refine wh1 6 ?_
  ·
   refine kH 6 rfl (op_callF Fa.C86 rfl ((admit_no x k pk hx nv bv c pg hv he mb cn gs sl l mp ev pv xs ps con ((if imE mp xs ps en sg=0 then pagesTo sg sg.length else []).length) _ _ (HS.part [9,10,11,12,13,14,15,16,0,1] rfl rfl) hR h9 hhe hn hm (img_N h0 hB47) hff hw).mono (fun e w18121 hq=>?_)))
   obtain ⟨cn18121,gs18121,rfl,hi18121,hd18121,hq18121⟩:=hq
   refine ⟨_,rfl,?_⟩
   have H18121:=HS.splice [9,10,11,12,13,14,15,16,0,1] [.blk x (xoC k sl) 146,Ent.bo k [(vU32 pk),hx,(ptr c 0),nv,bv,(vU32 0)],.blk c [(vU32 pg),hv,(.map (some mb))] 196,Ent.ar hv 1 he.length (List.map vU32 he),.obj mb (mP .i64 (List.map Gr.me gs18121) cn18121),Ent.bs 199 Gr.cells Gr.b gs18121,Ent.dp grD.list gs18121,Ent.dp (sltD 211).list sl,Ent.ar ev 2 xs.length (List.flatMap xtc xs),Ent.ar pv 1 ps.length (List.map vU16 ps)] [] rfl rfl hq18121 (Fits.solid True.intro (Fits.same (j:=1) rfl (Fits.solid True.intro (Fits.same (j:=3) rfl (Fits.solid True.intro (Fits.solid True.intro (Fits.dpTo 6 rfl hd18121 (Fits.same (j:=7) rfl (Fits.same (j:=8) rfl (Fits.same (j:=9) rfl Fits.nil))))))))))
   have H18121f:=H18121.addFact (p:=CapR gs18121 cn18121 (grantG pg he l ((ffS sl:Nat):Int) mp xs ps con (UInt32.ofNat (if imE mp xs ps en sg=0 then pagesTo sg sg.length else []).length))∧DpTo w gs gs18121) ⟨hi18121,hd18121.mono HS.fr.size⟩
   refine ⟨⟨_,H18121f⟩,?_⟩
   exact xt 7 rfl (.tuple #[(vN 0),(vN (grantE pg he l ((ffS sl:Nat):Int) mp xs ps (UInt32.ofNat (if imE mp xs ps en sg=0 then pagesTo sg sg.length else []).length)))]) H18121f (fun _ _ HX=>op_move rfl ⟨rfl,rfl⟩)<|xt 8 rfl (vN 0) H18121f (fun _ _ HX=>op_extract rfl rfl ⟨rfl,rfl⟩)<|xt 9 rfl (vN (grantE pg he l ((ffS sl:Nat):Int) mp xs ps (UInt32.ofNat (if imE mp xs ps en sg=0 then pagesTo sg sg.length else []).length))) H18121f (fun _ _ HX=>op_extract rfl rfl ⟨rfl,rfl⟩)<|WH.cw hW (st6_7 b18201 gs18121 cn18121 v18081 w18121 (H18121f.sel [0,1,2,3,4,5,6,7,8,9,10,11,12,13,14,15,16,17,19,18] rfl rfl))
 have st6_3: ∀(v18081:Value) (wS:World),Owl.Own T w wS [a6_0,a6_1,a6_2,a6_3,a6_4,a6_5,a6_6,a6_7,a6_8,a6_9,a6_10,a6_11,a6_12,a6_13,a6_14,a6_15,a6_16,.row v18081 22 1 (if imE mp xs ps en sg=0 then pagesTo sg sg.length else []).length (List.map vU32 (if imE mp xs ps en sg=0 then pagesTo sg sg.length else []))]→W 7 (bz 13 63) (e6 [(20,(ptr x 0)),(22,(.agg #[(vU32 mp),ev,pv,(.bool con)])),(25,(vN (if imE mp xs ps en sg=0 then pagesTo sg sg.length else []).length))]) wS:=by
  intro v18081 wS HS
  rw [hW]
  refine wh2 6 10 ?_ ?_
  ·
   refine kH 6 rfl (op_callF Fa.C86 rfl ((admit_no x k pk hx nv bv c pg hv he mb cn gs sl l mp ev pv xs ps con ((if imE mp xs ps en sg=0 then pagesTo sg sg.length else []).length) _ _ (HS.part [9,10,11,12,13,14,15,16,0,1] rfl rfl) hR h9 hhe hn hm (img_N h0 hB47) hff hw).mono (fun e w18121 hq=>?_)))
   obtain ⟨cn18121,gs18121,rfl,hi18121,hd18121,hq18121⟩:=hq
   refine ⟨_,rfl,?_⟩
   have H18121:=HS.splice [9,10,11,12,13,14,15,16,0,1] [.blk x (xoC k sl) 146,Ent.bo k [(vU32 pk),hx,(ptr c 0),nv,bv,(vU32 0)],.blk c [(vU32 pg),hv,(.map (some mb))] 196,Ent.ar hv 1 he.length (List.map vU32 he),.obj mb (mP .i64 (List.map Gr.me gs18121) cn18121),Ent.bs 199 Gr.cells Gr.b gs18121,Ent.dp grD.list gs18121,Ent.dp (sltD 211).list sl,Ent.ar ev 2 xs.length (List.flatMap xtc xs),Ent.ar pv 1 ps.length (List.map vU16 ps)] [] rfl rfl hq18121 (Fits.solid True.intro (Fits.same (j:=1) rfl (Fits.solid True.intro (Fits.same (j:=3) rfl (Fits.solid True.intro (Fits.solid True.intro (Fits.dpTo 6 rfl hd18121 (Fits.same (j:=7) rfl (Fits.same (j:=8) rfl (Fits.same (j:=9) rfl Fits.nil))))))))))
   have H18121f:=H18121.addFact (p:=CapR gs18121 cn18121 (grantG pg he l ((ffS sl:Nat):Int) mp xs ps con (UInt32.ofNat (if imE mp xs ps en sg=0 then pagesTo sg sg.length else []).length))∧DpTo w gs gs18121) ⟨hi18121,hd18121.mono HS.fr.size⟩
   refine ⟨⟨_,H18121f⟩,?_⟩
   exact xt 7 rfl (.tuple #[(vN 0),(vN (grantE pg he l ((ffS sl:Nat):Int) mp xs ps (UInt32.ofNat (if imE mp xs ps en sg=0 then pagesTo sg sg.length else []).length)))]) H18121f (fun _ _ HX=>op_move rfl ⟨rfl,rfl⟩)<|xt 8 rfl (vN 0) H18121f (fun _ _ HX=>op_extract rfl rfl ⟨rfl,rfl⟩)<|xt 9 rfl (vN (grantE pg he l ((ffS sl:Nat):Int) mp xs ps (UInt32.ofNat (if imE mp xs ps en sg=0 then pagesTo sg sg.length else []).length))) H18121f (fun _ _ HX=>op_extract rfl rfl ⟨rfl,rfl⟩)<|WH.cw hW (st6_5 gs18121 cn18121 v18081 w18121 H18121f)
  ·
   refine kH 10 rfl (op_alloc HS Fa.I3 (fun b18201 w18201 H18201=>(⟨⟨_,H18201⟩,?_⟩)))
   exact WH.cw hW (st6_6 b18201 v18081 w18201 H18201)
 have st6_4: ∀(b18201:Nat) (v18081:Value) (wS:World),Owl.Own T w wS [a6_0,a6_1,a6_2,a6_3,a6_4,a6_5,a6_6,a6_7,a6_8,a6_9,a6_10,a6_11,a6_12,a6_13,a6_14,a6_15,a6_16,.row v18081 22 1 (if imE mp xs ps en sg=0 then pagesTo sg sg.length else []).length (List.map vU32 (if imE mp xs ps en sg=0 then pagesTo sg sg.length else [])),.blk b18201 [(vN 0)] 3]→W 7 (bz 13 1055) (e6 [(7,(ptr b18201 0)),(20,(ptr x 0)),(22,(.agg #[(vU32 mp),ev,pv,(.bool con)])),(24,v18081)]) wS:=by
  intro b18201 v18081 wS HS
  rw [hW]
  refine wh1 5 ?_
  ·
   refine kH 5 rfl (op_lenA Tryz.underlying73 rfl (HS.arrR (i:=17) rfl) (⟨⟨_,HS⟩,?_⟩))
   exact WH.cw hW (st6_6 b18201 v18081 wS HS)
 have st6_1: ∀(v18081:Value) (wS:World),Owl.Own T w wS [a6_0,a6_1,a6_2,a6_3,a6_4,a6_5,a6_6,a6_7,a6_8,a6_9,a6_10,a6_11,a6_12,a6_13,a6_14,a6_15,a6_16,.row v18081 22 1 (if imE mp xs ps en sg=0 then pagesTo sg sg.length else []).length (List.map vU32 (if imE mp xs ps en sg=0 then pagesTo sg sg.length else []))]→W 8 (bz 13 31) (e6 [(20,(ptr x 0)),(22,(.agg #[(vU32 mp),ev,pv,(.bool con)])),(24,v18081)]) wS:=by
  intro v18081 wS HS
  rw [hW]
  refine wh2 5 10 ?_ ?_
  ·
   refine kH 5 rfl (op_lenA Tryz.underlying73 rfl (HS.arrR (i:=17) rfl) (⟨⟨_,HS⟩,?_⟩))
   exact WH.cw hW (st6_3 v18081 wS HS)
  ·
   refine kH 10 rfl (op_alloc HS Fa.I3 (fun b18201 w18201 H18201=>(⟨⟨_,H18201⟩,?_⟩)))
   exact WH.cw hW (st6_4 b18201 v18081 w18201 H18201)
 have st6_2: ∀(b18201:Nat) (wS:World),Owl.Own T w wS [a6_0,a6_1,a6_2,a6_3,a6_4,a6_5,a6_6,a6_7,a6_8,a6_9,a6_10,a6_11,a6_12,a6_13,a6_14,a6_15,a6_16,.blk b18201 [(vN 0)] 3]→W 8 (bz 13 1039) (e6 [(7,(ptr b18201 0)),(20,(ptr x 0)),(22,(.agg #[(vU32 mp),ev,pv,(.bool con)])),(23,(.agg #[(vU32 mp),ev,pv,(.bool con),(vU32 en),sv]))]) wS:=by
  intro b18201 wS HS
  rw [hW]
  refine wh1 4 ?_
  ·
   refine kH 4 rfl (op_callF Fa.C87 rfl ((ipgs_ok mp _ _ _ xs ps con en sg _ (HS.arrO (i:=0) rfl) (HS.arrO (i:=1) rfl) (HS.arrO (i:=2) rfl) (by omega) (by omega) (by omega) hB (by omega)).mono (fun e w18081 hq=>?_)))
   obtain ⟨v18081,rfl,hq18081⟩:=hq
   refine ⟨_,rfl,?_⟩
   have H18081:=HS.splice [] [] [.row v18081 22 1 (if imE mp xs ps en sg=0 then pagesTo sg sg.length else []).length (List.map vU32 (if imE mp xs ps en sg=0 then pagesTo sg sg.length else []))] rfl rfl hq18081 (Fits.solid True.intro Fits.nil)
   refine ⟨⟨_,H18081⟩,?_⟩
   exact WH.cw hW (st6_4 b18201 v18081 w18081 (H18081.sel [0,1,2,3,4,5,6,7,8,9,10,11,12,13,14,15,16,18,17] rfl rfl))
 have st6_0: ∀(wS:World),Owl.Own T w wS [a6_0,a6_1,a6_2,a6_3,a6_4,a6_5,a6_6,a6_7,a6_8,a6_9,a6_10,a6_11,a6_12,a6_13,a6_14,a6_15,a6_16]→W 9 (bz 13 15) (e6 [(20,(ptr x 0)),(22,(.agg #[(vU32 mp),ev,pv,(.bool con)])),(23,(.agg #[(vU32 mp),ev,pv,(.bool con),(vU32 en),sv]))]) wS:=by
  intro wS HS
  rw [hW]
  refine wh2 4 10 ?_ ?_
  ·
   refine kH 4 rfl (op_callF Fa.C87 rfl ((ipgs_ok mp _ _ _ xs ps con en sg _ (HS.arrO (i:=0) rfl) (HS.arrO (i:=1) rfl) (HS.arrO (i:=2) rfl) (by omega) (by omega) (by omega) hB (by omega)).mono (fun e w18081 hq=>?_)))
   obtain ⟨v18081,rfl,hq18081⟩:=hq
   refine ⟨_,rfl,?_⟩
   have H18081:=HS.splice [] [] [.row v18081 22 1 (if imE mp xs ps en sg=0 then pagesTo sg sg.length else []).length (List.map vU32 (if imE mp xs ps en sg=0 then pagesTo sg sg.length else []))] rfl rfl hq18081 (Fits.solid True.intro Fits.nil)
   refine ⟨⟨_,H18081⟩,?_⟩
   exact WH.cw hW (st6_1 v18081 w18081 H18081)
  ·
   refine kH 10 rfl (op_alloc HS Fa.I3 (fun b18201 w18201 H18201=>(⟨⟨_,H18201⟩,?_⟩)))
   exact WH.cw hW (st6_2 b18201 w18201 H18201)
 have hq:=st6_0 w7 H7
 rw [hW] at hq ⊢
 exact WH.cv hq
theorem limage_yes (x k:Nat) (pk:UInt32) (hx nv bv:Value) (c:Nat) (pg:UInt32) (hv:Value) (he:List UInt32) (mb cn:Nat) (gs:List Gr) (sl:List Slt) (l:List Gr) (mp:UInt32) (ev pv sv:Value) (xs:List Xt) (ps:List UInt16) (con:Bool) (en:UInt32) (sg:List Sg) (T:List Nat) (w:World) (H:Owl.Own T w w [.blk x (xoC k sl) 146,Ent.bo k [(vU32 pk),hx,(ptr c 0),nv,bv,(vU32 0)],.blk c [(vU32 pg),hv,(.map (some mb))] 196,Ent.ar hv 1 he.length (List.map vU32 he),.obj mb (mP .i64 (List.map Gr.me gs) cn),Ent.bs 199 Gr.cells Gr.b gs,Ent.dp grD.list gs,Ent.dp (sltD 211).list sl,Ent.ar ev 2 xs.length (List.flatMap xtc xs),Ent.ar pv 1 ps.length (List.map vU16 ps),Ent.ar sv 3 sg.length (List.flatMap sgc sg)]) (hR:CapR gs cn l) (h9:sl.length=9) (hhe:he.length<2^32) (hn:xs.length<2^40) (hm:ps.length<2^40) (hk:sg.length<2^20) (hB: ∀x∈sg,x.b.length≤2^30) (h0:imE mp xs ps en sg=0) (hff:ffS sl≠9) (hw:(grantE pg he l ((ffS sl:Nat):Int) mp xs ps (UInt32.ofNat (if imE mp xs ps en sg=0 then pagesTo sg sg.length else []).length))=0) :
  Calls Tryz.prog 40 #[(ptr x 0),(.agg #[(vU32 mp),ev,pv,(.bool con),(vU32 en),sv])] w (fun e w'=> ∃cn' gs' a,e=.returned (.tuple #[vN (ffS sl),vN 0])∧CapR gs' cn' (grantG pg he l ((ffS sl:Nat):Int) mp xs ps con (UInt32.ofNat (if imE mp xs ps en sg=0 then pagesTo sg sg.length else []).length))∧(MEok (List.map Pg.me a.ps) a.cn∧(a.ps.map Pg.bare).Perm (imgP sg sg.length)∧a.num=(ffS sl)∧a.pc=en)∧DpTo w gs gs'∧SltTo 211 w sl (sl.set (ffS sl) ⟨true,(if imE mp xs ps en sg=0 then pagesTo sg sg.length else []).length,some a⟩)∧Owl.Own T w w' [.blk x (xoC k (sl.set (ffS sl) ⟨true,(if imE mp xs ps en sg=0 then pagesTo sg sg.length else []).length,some a⟩)) 146,Ent.bo k [(vU32 pk),hx,(ptr c 0),nv,bv,(vU32 0)],.blk c [(vU32 pg),hv,(.map (some mb))] 196,Ent.ar hv 1 he.length (List.map vU32 he),.obj mb (mP .i64 (List.map Gr.me gs') cn'),Ent.bs 199 Gr.cells Gr.b gs',Ent.dp grD.list gs',Ent.dp (sltD 211).list (sl.set (ffS sl) ⟨true,(if imE mp xs ps en sg=0 then pagesTo sg sg.length else []).length,some a⟩),Ent.ar ev 2 xs.length (List.flatMap xtc xs),Ent.ar pv 1 ps.length (List.map vU16 ps),Ent.ar sv 3 sg.length (List.flatMap sgc sg)]):=by
 refine enterD (args:=[(ptr x 0),(.agg #[(vU32 mp),ev,pv,(.bool con),(vU32 en),sv])]) Tryz.func40 rfl rfl ?_
 have hB47: ∀x∈sg,x.b.length≤2^47:=fun x hx=>Nat.le_trans (hB x hx) (by decide)
 have hf9:ffS sl<9:=Nat.lt_of_le_of_ne (ffS_le h9) hff
 refine ws<|wo (op_box H rfl rfl (fun b1 w1 H1=>(wo (op_box H1 rfl rfl (fun b2 w2 H2=>(wa rfl<|wo (op_alloc H2 Fa.I25 (fun b3 w3 H3=>(wn<|WC.seq<|ws<|wo (op_load rfl (H3.cell (i:=11) rfl rfl) Tryz.underlying47 rfl<|wo (op_eqlPN Fa.PT47 rfl rfl<|wn<|WC.no rfl rfl<|WC.skip<|WQ.next<|ws<|wo (op_loadS (vs:=[_,_,_,_,_,_]) rfl (H3.cells (i:=12) rfl rfl) Tryz.underlying43 rfl Fa.I43 rfl<|wo (op_callF Fa.C32 rfl ((lspace_yes mp _ _ _ xs ps con en sg _ (H3.arrO (i:=8) rfl) (H3.arrO (i:=9) rfl) (H3.arrO (i:=10) rfl) (by omega) (by omega) (by omega) hB47 h0).mono (fun e w4 hq=>?_)))))))))))))))
 obtain ⟨s4,mb4,c4,qs4,rfl,hr4,hq4⟩:=hq
 refine ⟨_,rfl,?_⟩
 have H4:Owl.Own T w w4 [.blk x (xoC k sl) 146,Ent.bo k [(vU32 pk),hx,(ptr c 0),nv,bv,(vU32 0)],.blk c [(vU32 pg),hv,(.map (some mb))] 196,Ent.ar hv 1 he.length (List.map vU32 he),.obj mb (mP .i64 (List.map Gr.me gs) cn),Ent.bs 199 Gr.cells Gr.b gs,Ent.dp grD.list gs,Ent.dp (sltD 211).list sl,Ent.ar ev 2 xs.length (List.flatMap xtc xs),Ent.ar pv 1 ps.length (List.map vU16 ps),Ent.ar sv 3 sg.length (List.flatMap sgc sg),.blk b1 [(ptr x 0)] 47,.blk b2 [(vU32 mp),ev,pv,(.bool con),(vU32 en),sv] 43,.blk b3 [(vN 0)] 25,.blk s4 [(.map (some mb4))] 165,.obj mb4 (mP .u32 (List.map Pg.me qs4) c4),Ent.bs 211 Pg.cells Pg.b qs4]:=H3.splice [] [] [.blk s4 [(.map (some mb4))] 165,.obj mb4 (mP .u32 (List.map Pg.me qs4) c4),Ent.bs 211 Pg.cells Pg.b qs4] rfl rfl hq4 (Fits.solid True.intro (Fits.solid True.intro (Fits.solid True.intro Fits.nil)))
 refine wm rfl<|we rfl rfl<|we rfl rfl<|wa rfl<|wo (op_storeB (i:=13) H4 rfl rfl rfl rfl rfl Fa.I25 (fun w5 H5=>(wn<|WC.seq<|ws<|wo (op_load rfl (H5.cell (i:=13) rfl rfl) Tryz.underlying25 rfl ?_))))
 have H6:Owl.Own T w w5 [Ent.ar ev 2 xs.length (List.flatMap xtc xs),Ent.ar pv 1 ps.length (List.map vU16 ps),Ent.ar sv 3 sg.length (List.flatMap sgc sg),.blk b1 [(ptr x 0)] 47,.blk b2 [(vU32 mp),ev,pv,(.bool con),(vU32 en),sv] 43,.blk s4 [(.map (some mb4))] 165,.obj mb4 (mP .u32 (List.map Pg.me qs4) c4),Ent.bs 211 Pg.cells Pg.b qs4,.blk b3 [(vN 0)] 25,.blk x (xoC k sl) 146,Ent.bo k [(vU32 pk),hx,(ptr c 0),nv,bv,(vU32 0)],.blk c [(vU32 pg),hv,(.map (some mb))] 196,Ent.ar hv 1 he.length (List.map vU32 he),.obj mb (mP .i64 (List.map Gr.me gs) cn),Ent.bs 199 Gr.cells Gr.b gs,Ent.dp grD.list gs,Ent.dp (sltD 211).list sl]:=H5.sel [8,9,10,11,12,14,15,16,13,0,1,2,3,4,5,6,7] rfl rfl
 refine wo (op_neqN (b:=0) rfl rfl<|wn<|WC.no rfl (by decide)<|WC.skip<|WQ.next<|WC.seq<|WC.held 13 rfl Fa.M H6 (fun w'=> ∃L',Owl.Own T w w' ([Ent.ar ev 2 xs.length (List.flatMap xtc xs),Ent.ar pv 1 ps.length (List.map vU16 ps),Ent.ar sv 3 sg.length (List.flatMap sgc sg),.blk b1 [(ptr x 0)] 47,.blk b2 [(vU32 mp),ev,pv,(.bool con),(vU32 en),sv] 43,.blk s4 [(.map (some mb4))] 165,.obj mb4 (mP .u32 (List.map Pg.me qs4) c4),Ent.bs 211 Pg.cells Pg.b qs4]++L')) ?_)
 intro w7 H7
 refine xt 0 rfl (ptr x 0) H7 (fun _ _ HX=>op_load rfl (HX.cell (i:=3) rfl rfl) Tryz.underlying47 rfl ⟨rfl,rfl⟩)<|xt 1 rfl (ptr b2 0) H7 (fun _ _ HX=>op_fieldAddr rfl Fa.F43_0 ⟨rfl,rfl⟩)<|xt 2 rfl (.agg #[(vU32 mp),ev,pv,(.bool con)]) H7 (fun _ _ HX=>op_loadS (vs:=[_,_,_,_]) rfl (HX.cells (i:=4) rfl rfl) Tryz.underlying40 rfl Fa.I40 rfl ⟨rfl,rfl⟩)<|xt 3 rfl (.agg #[(vU32 mp),ev,pv,(.bool con),(vU32 en),sv]) H7 (fun _ _ HX=>op_loadS (vs:=[_,_,_,_,_,_]) rfl (HX.cells (i:=4) rfl rfl) Tryz.underlying43 rfl Fa.I43 rfl ⟨rfl,rfl⟩)<|WH.named (fun W hW=>?_)
 let e6:List (Nat × Value)→List (Nat × Value):=fun r=>(0,(ptr x 0))::(1,(.agg #[(vU32 mp),ev,pv,(.bool con),(vU32 en),sv]))::(2,(ptr b1 0))::(3,(ptr b2 0))::(4,(vN 0))::(5,(ptr b3 0))::(6,(ptr s4 0))::(9,(ptr x 0))::(10,(.bool false))::(11,(.tuple #[(ptr s4 0),(vN 0)]))::(12,(.agg #[(vU32 mp),ev,pv,(.bool con),(vU32 en),sv]))::(13,(.tuple #[(ptr s4 0),(vN 0)]))::(14,(ptr s4 0))::(15,(vN 0))::(16,(vN 0))::(17,(.bool (decide (0≠0))))::r
 let a6_0:Ent:=Ent.ar ev 2 xs.length (List.flatMap xtc xs)
 let a6_1:Ent:=Ent.ar pv 1 ps.length (List.map vU16 ps)
 let a6_2:Ent:=Ent.ar sv 3 sg.length (List.flatMap sgc sg)
 let a6_3:Ent:=.blk b1 [(ptr x 0)] 47
 let a6_4:Ent:=.blk b2 [(vU32 mp),ev,pv,(.bool con),(vU32 en),sv] 43
 let a6_5:Ent:=.blk s4 [(.map (some mb4))] 165
 let a6_6:Ent:=.obj mb4 (mP .u32 (List.map Pg.me qs4) c4)
 let a6_7:Ent:=Ent.bs 211 Pg.cells Pg.b qs4
 let a6_8:Ent:=.blk b3 [(vN 0)] 25
 let a6_9:Ent:=.blk x (xoC k sl) 146
 let a6_10:Ent:=Ent.bo k [(vU32 pk),hx,(ptr c 0),nv,bv,(vU32 0)]
 let a6_11:Ent:=.blk c [(vU32 pg),hv,(.map (some mb))] 196
 let a6_12:Ent:=Ent.ar hv 1 he.length (List.map vU32 he)
 let a6_13:Ent:=.obj mb (mP .i64 (List.map Gr.me gs) cn)
 let a6_14:Ent:=Ent.bs 199 Gr.cells Gr.b gs
 let a6_15:Ent:=Ent.dp grD.list gs
 let a6_16:Ent:=Ent.dp (sltD 211).list sl
 let a6_17:Ent:=.blk x (xoC k (sl.set (ffS sl) (Slt.mk true ((if imE mp xs ps en sg=0 then pagesTo sg sg.length else []).length) none))) 146
 let a6_18:Ent:=Ent.dp (sltD 211).list (sl.set (ffS sl) (Slt.mk true ((if imE mp xs ps en sg=0 then pagesTo sg sg.length else []).length) none))
 have st6_9: ∀(b18201:Nat) (gs18121:List Gr) (cn18121:Nat) (v18081:Value) (wS:World),Owl.Own T w wS [a6_0,a6_1,a6_2,a6_3,a6_4,a6_5,a6_6,a6_7,a6_8,a6_17,a6_10,a6_11,a6_12,.obj mb (mP .i64 (List.map Gr.me gs18121) cn18121),Ent.bs 199 Gr.cells Gr.b gs18121,Ent.dp grD.list gs18121,a6_18,.row v18081 22 1 (if imE mp xs ps en sg=0 then pagesTo sg sg.length else []).length (List.map vU32 (if imE mp xs ps en sg=0 then pagesTo sg sg.length else [])),Ent.fact (CapR gs18121 cn18121 (grantG pg he l ((ffS sl:Nat):Int) mp xs ps con (UInt32.ofNat (if imE mp xs ps en sg=0 then pagesTo sg sg.length else []).length))∧DpTo w gs gs18121),.blk b18201 [(vN (ffS sl))] 3]→W 0 (bz 13 8191) (e6 [(7,(ptr b18201 0))]) wS:=by
  intro b18201 gs18121 cn18121 v18081 wS HS
  rw [hW]
  refine WH.done (by kernel_rfl)<|WQ.next<|WC.seq<|ws ?_
  have hiF:=HS.fact (i:=18) rfl
  refine wo (op_load rfl (HS.cell (i:=8) rfl rfl) Tryz.underlying25 rfl<|wo (op_neqN (b:=0) rfl rfl<|wn<|WC.no rfl (by decide)<|WC.skip<|WQ.next<|ws<|wo (op_makeFunc rfl rfl<|WL.defer (fi:=[]) (vs:=[]) (ca:=[(ptr b3 0),(ptr b1 0),(ptr b18201 0)]) rfl rfl<|wn<|WC.seq<|ws ?_)))
  have H9:Owl.Own T w wS [Ent.ar ev 2 xs.length (List.flatMap xtc xs),Ent.ar pv 1 ps.length (List.map vU16 ps),Ent.ar sv 3 sg.length (List.flatMap sgc sg),.blk b1 [(ptr x 0)] 47,.blk b2 [(vU32 mp),ev,pv,(.bool con),(vU32 en),sv] 43,Ent.bo s4 [(.map (some mb4))],Ent.mo .u32 mb4 (List.map Pg.me qs4) c4,Ent.bsO 211 Pg.cells Pg.b qs4,.blk b3 [(vN 0)] 25,.blk x (xoC k (sl.set (ffS sl) (Slt.mk true ((if imE mp xs ps en sg=0 then pagesTo sg sg.length else []).length) none))) 146,Ent.bo k [(vU32 pk),hx,(ptr c 0),nv,bv,(vU32 0)],.blk c [(vU32 pg),hv,(.map (some mb))] 196,Ent.ar hv 1 he.length (List.map vU32 he),.obj mb (mP .i64 (List.map Gr.me gs18121) cn18121),Ent.bs 199 Gr.cells Gr.b gs18121,Ent.dp grD.list gs18121,Ent.dp (sltD 211).list (sl.set (ffS sl) (Slt.mk true ((if imE mp xs ps en sg=0 then pagesTo sg sg.length else []).length) none)),.row v18081 22 1 (if imE mp xs ps en sg=0 then pagesTo sg sg.length else []).length (List.map vU32 (if imE mp xs ps en sg=0 then pagesTo sg sg.length else [])),Ent.fact (CapR gs18121 cn18121 (grantG pg he l ((ffS sl:Nat):Int) mp xs ps con (UInt32.ofNat (if imE mp xs ps en sg=0 then pagesTo sg sg.length else []).length))∧DpTo w gs gs18121),.blk b18201 [(vN (ffS sl))] 3]:=((HS.toBo (i:=5) rfl 1 rfl).mpFreeze (i:=6) rfl).bsFreeze (i:=7) rfl
  refine wo (op_load rfl (H9.cell (i:=3) rfl rfl) Tryz.underlying47 rfl<|wo (op_load rfl (H9.cell (i:=19) rfl rfl) Tryz.underlying3 rfl<|wm rfl<|wo (op_fieldAddr rfl Fa.F43_1<|wo (op_load rfl (H9.cell (i:=4) rfl rfl) Tryz.underlying22 rfl<|wo (op_callF Fa.C89 rfl ((start_ok x k pk hx nv bv c pg hv he mb cn18121 gs18121 (sl.set (ffS sl) (Slt.mk true ((if imE mp xs ps en sg=0 then pagesTo sg sg.length else []).length) none)) s4 mb4 c4 qs4 (ffS sl) en _ _ (H9.part [9,10,11,12,13,14,15,16,5,6,7] rfl rfl) hr4.me (fun g hg=>(img_low h0 hB47 sg.length (Nat.le_refl _) _ (bare_all hr4.bare (fun p hp=>hp) g hg)).2.2) (by rw [img_qn h0 hr4]; exact Nat.lt_of_le_of_lt (img_N h0 hB47) (by decide)) (by rw [List.length_set]; exact h9) (slt_hs h9 (ffS_pos sl) hf9) (by rw [slt_get_set (by omega)]) (by rw [slt_get_set (by omega)]; exact Nat.le_of_eq (img_qn h0 hr4))).mono (fun e w10 hq=>?_)))))))
  obtain ⟨a10,rfl,hi10,hd10,hq10⟩:=hq
  refine ⟨_,rfl,?_⟩
  have H10:Owl.Own T w w10 [Ent.ar ev 2 xs.length (List.flatMap xtc xs),Ent.ar pv 1 ps.length (List.map vU16 ps),Ent.ar sv 3 sg.length (List.flatMap sgc sg),.blk b1 [(ptr x 0)] 47,.blk b2 [(vU32 mp),ev,pv,(.bool con),(vU32 en),sv] 43,Ent.bo s4 [(.map (some mb4))],Ent.mo .u32 mb4 (List.map Pg.me qs4) c4,Ent.bsO 211 Pg.cells Pg.b qs4,.blk b3 [(vN 0)] 25,.blk x (xoC k ((sl.set (ffS sl) (Slt.mk true ((if imE mp xs ps en sg=0 then pagesTo sg sg.length else []).length) none)).set (ffS sl) { (sl.set (ffS sl) (Slt.mk true ((if imE mp xs ps en sg=0 then pagesTo sg sg.length else []).length) none)).getD (ffS sl) Slt.zero with ev:=some a10 })) 146,Ent.bo k [(vU32 pk),hx,(ptr c 0),nv,bv,(vU32 0)],.blk c [(vU32 pg),hv,(.map (some mb))] 196,Ent.ar hv 1 he.length (List.map vU32 he),.obj mb (mP .i64 (List.map Gr.me gs18121) cn18121),Ent.bs 199 Gr.cells Gr.b gs18121,Ent.dp grD.list gs18121,Ent.dp (sltD 211).list ((sl.set (ffS sl) (Slt.mk true ((if imE mp xs ps en sg=0 then pagesTo sg sg.length else []).length) none)).set (ffS sl) { (sl.set (ffS sl) (Slt.mk true ((if imE mp xs ps en sg=0 then pagesTo sg sg.length else []).length) none)).getD (ffS sl) Slt.zero with ev:=some a10 }),.row v18081 22 1 (if imE mp xs ps en sg=0 then pagesTo sg sg.length else []).length (List.map vU32 (if imE mp xs ps en sg=0 then pagesTo sg sg.length else [])),Ent.fact (CapR gs18121 cn18121 (grantG pg he l ((ffS sl:Nat):Int) mp xs ps con (UInt32.ofNat (if imE mp xs ps en sg=0 then pagesTo sg sg.length else []).length))∧DpTo w gs gs18121),.blk b18201 [(vN (ffS sl))] 3]:=H9.splice [9,10,11,12,13,14,15,16,5,6,7] [.blk x (xoC k ((sl.set (ffS sl) (Slt.mk true ((if imE mp xs ps en sg=0 then pagesTo sg sg.length else []).length) none)).set (ffS sl) { (sl.set (ffS sl) (Slt.mk true ((if imE mp xs ps en sg=0 then pagesTo sg sg.length else []).length) none)).getD (ffS sl) Slt.zero with ev:=some a10 })) 146,Ent.bo k [(vU32 pk),hx,(ptr c 0),nv,bv,(vU32 0)],.blk c [(vU32 pg),hv,(.map (some mb))] 196,Ent.ar hv 1 he.length (List.map vU32 he),.obj mb (mP .i64 (List.map Gr.me gs18121) cn18121),Ent.bs 199 Gr.cells Gr.b gs18121,Ent.dp grD.list gs18121,Ent.dp (sltD 211).list ((sl.set (ffS sl) (Slt.mk true ((if imE mp xs ps en sg=0 then pagesTo sg sg.length else []).length) none)).set (ffS sl) { (sl.set (ffS sl) (Slt.mk true ((if imE mp xs ps en sg=0 then pagesTo sg sg.length else []).length) none)).getD (ffS sl) Slt.zero with ev:=some a10 }),Ent.bo s4 [(.map (some mb4))],Ent.mo .u32 mb4 (List.map Pg.me qs4) c4,Ent.bsO 211 Pg.cells Pg.b qs4] [] rfl rfl hq10 (Fits.solid True.intro (Fits.same (j:=1) rfl (Fits.solid True.intro (Fits.same (j:=3) rfl (Fits.solid True.intro (Fits.solid True.intro (Fits.same (j:=6) rfl (Fits.dpTo 7 rfl hd10 (Fits.same (j:=8) rfl (Fits.same (j:=9) rfl (Fits.same (j:=10) rfl Fits.nil)))))))))))
  refine wa rfl<|wn<|ws<|wm rfl<|wo (op_neqN (b:=0) rfl rfl<|wn<|WC.no rfl (by decide)<|WC.skip<|WQ.next<|ws<|wo (op_load rfl (H10.cell (i:=19) rfl rfl) Tryz.underlying3 rfl<|wa rfl<|wo (op_storeB (i:=8) H10 rfl rfl rfl rfl rfl Fa.I25 (fun w11 H11=>(wn<|WC.ret<|WQ.outD1 (dargs:=[]) (ca:=[(ptr b3 0),(ptr b1 0),(ptr b18201 0)]) (R':=fun w'=>Fr [] w11 w') Fa.C88 ((limg1_ok b3 b1 b18201 w11 (H11.cellsAt (i:=8) rfl)).mono (fun e u' w' h=>h)) (fun w' hf=>⟨[vN (ffS sl),vN 0],.tmp rfl (.cell rfl (run_loadVar1 ((H11.fr' hf).cell (i:=8) rfl rfl) Tryz.underlying25 rfl) .nil),?_⟩))))))
  have h7:=H11.fr' hf
  rw [slt_set3 (by omega)] at h7
  have h6:SltTo 211 w sl (sl.set (ffS sl) ⟨true,(if imE mp xs ps en sg=0 then pagesTo sg sg.length else []).length,some a10⟩):=fun b hb=>by
   rw [←slt_set3 (show ffS sl<sl.length by omega)] at hb
   exact (hd10 b hb).elim (fun h=>.inl (Nat.le_trans H9.fr.size h)) (fun h=>.inr (slt_set_ft b h))
  exact ⟨_,_,a10,rfl,hiF.1,⟨hi10.1,by rw [←hr4.bare]; exact hi10.2.1,hi10.2.2⟩,hiF.2,h6,h7.sel [9,10,11,12,13,14,15,16,0,1,2] rfl rfl⟩
 have st6_8: ∀(b18201:Nat) (gs18121:List Gr) (cn18121:Nat) (v18081:Value) (wS:World),Owl.Own T w wS [a6_0,a6_1,a6_2,a6_3,a6_4,a6_5,a6_6,a6_7,a6_8,a6_17,a6_10,a6_11,a6_12,.obj mb (mP .i64 (List.map Gr.me gs18121) cn18121),Ent.bs 199 Gr.cells Gr.b gs18121,Ent.dp grD.list gs18121,a6_18,.row v18081 22 1 (if imE mp xs ps en sg=0 then pagesTo sg sg.length else []).length (List.map vU32 (if imE mp xs ps en sg=0 then pagesTo sg sg.length else [])),Ent.fact (CapR gs18121 cn18121 (grantG pg he l ((ffS sl:Nat):Int) mp xs ps con (UInt32.ofNat (if imE mp xs ps en sg=0 then pagesTo sg sg.length else []).length))∧DpTo w gs gs18121),.blk b18201 [(vN (ffS sl))] 3]→W 1 (bz 13 4095) (e6 [(7,(ptr b18201 0)),(28,(vN 0))]) wS:=by
  intro b18201 gs18121 cn18121 v18081 wS HS
  rw [hW]
  refine wh1 12 ?_
  ·
   refine kH 12 rfl (op_storeB (i:=8) HS rfl rfl rfl rfl rfl Fa.I25 (fun w18241 H18241=>(⟨⟨_,H18241⟩,?_⟩)))
   exact WH.cw hW (st6_9 b18201 gs18121 cn18121 v18081 w18241 H18241)
 have st6_7: ∀(b18201:Nat) (gs18121:List Gr) (cn18121:Nat) (v18081:Value) (wS:World),Owl.Own T w wS [a6_0,a6_1,a6_2,a6_3,a6_4,a6_5,a6_6,a6_7,a6_8,a6_17,a6_10,a6_11,a6_12,.obj mb (mP .i64 (List.map Gr.me gs18121) cn18121),Ent.bs 199 Gr.cells Gr.b gs18121,Ent.dp grD.list gs18121,a6_18,.row v18081 22 1 (if imE mp xs ps en sg=0 then pagesTo sg sg.length else []).length (List.map vU32 (if imE mp xs ps en sg=0 then pagesTo sg sg.length else [])),Ent.fact (CapR gs18121 cn18121 (grantG pg he l ((ffS sl:Nat):Int) mp xs ps con (UInt32.ofNat (if imE mp xs ps en sg=0 then pagesTo sg sg.length else []).length))∧DpTo w gs gs18121),.blk b18201 [(vN 0)] 3]→W 2 (bz 13 2047) (e6 [(7,(ptr b18201 0)),(27,(vN (ffS sl))),(28,(vN 0))]) wS:=by
  intro b18201 gs18121 cn18121 v18081 wS HS
  rw [hW]
  refine wh1 11 ?_
  ·
   refine kH 11 rfl (op_storeB (i:=19) HS rfl rfl rfl rfl rfl Fa.I3 (fun w18221 H18221=>(⟨⟨_,H18221⟩,?_⟩)))
   exact WH.cw hW (st6_8 b18201 gs18121 cn18121 v18081 w18221 H18221)
 have st6_5: ∀(gs18121:List Gr) (cn18121:Nat) (v18081:Value) (wS:World),Owl.Own T w wS [a6_0,a6_1,a6_2,a6_3,a6_4,a6_5,a6_6,a6_7,a6_8,a6_17,a6_10,a6_11,a6_12,.obj mb (mP .i64 (List.map Gr.me gs18121) cn18121),Ent.bs 199 Gr.cells Gr.b gs18121,Ent.dp grD.list gs18121,a6_18,.row v18081 22 1 (if imE mp xs ps en sg=0 then pagesTo sg sg.length else []).length (List.map vU32 (if imE mp xs ps en sg=0 then pagesTo sg sg.length else [])),Ent.fact (CapR gs18121 cn18121 (grantG pg he l ((ffS sl:Nat):Int) mp xs ps con (UInt32.ofNat (if imE mp xs ps en sg=0 then pagesTo sg sg.length else []).length))∧DpTo w gs gs18121)]→W 3 (bz 13 1023) (e6 [(27,(vN (ffS sl))),(28,(vN 0))]) wS:=by
  intro gs18121 cn18121 v18081 wS HS
  rw [hW]
  refine wh1 10 ?_
  ·
   refine kH 10 rfl (op_alloc HS Fa.I3 (fun b18201 w18201 H18201=>(⟨⟨_,H18201⟩,?_⟩)))
   exact WH.cw hW (st6_7 b18201 gs18121 cn18121 v18081 w18201 H18201)
 have st6_6: ∀(b18201:Nat) (v18081:Value) (wS:World),Owl.Own T w wS [a6_0,a6_1,a6_2,a6_3,a6_4,a6_5,a6_6,a6_7,a6_8,a6_9,a6_10,a6_11,a6_12,a6_13,a6_14,a6_15,a6_16,.row v18081 22 1 (if imE mp xs ps en sg=0 then pagesTo sg sg.length else []).length (List.map vU32 (if imE mp xs ps en sg=0 then pagesTo sg sg.length else [])),.blk b18201 [(vN 0)] 3]→W 6 (bz 13 1087) (e6 [(7,(ptr b18201 0)),(20,(ptr x 0)),(22,(.agg #[(vU32 mp),ev,pv,(.bool con)])),(25,(vN (if imE mp xs ps en sg=0 then pagesTo sg sg.length else []).length))]) wS:=by
  intro b18201 v18081 wS HS
  rw [hW]
  refine wh1 6 ?_
  ·
   refine kH 6 rfl (op_callF Fa.C86 rfl ((admit_yes x k pk hx nv bv c pg hv he mb cn gs sl l mp ev pv xs ps con ((if imE mp xs ps en sg=0 then pagesTo sg sg.length else []).length) _ _ (HS.part [9,10,11,12,13,14,15,16,0,1] rfl rfl) hR h9 hhe hn hm (img_N h0 hB47) hff hw).mono (fun e w18121 hq=>?_)))
   obtain ⟨cn18121,gs18121,rfl,hi18121,hd18121,hq18121⟩:=hq
   refine ⟨_,rfl,?_⟩
   have H18121:Owl.Own T w w18121 [Ent.ar ev 2 xs.length (List.flatMap xtc xs),Ent.ar pv 1 ps.length (List.map vU16 ps),Ent.ar sv 3 sg.length (List.flatMap sgc sg),.blk b1 [(ptr x 0)] 47,.blk b2 [(vU32 mp),ev,pv,(.bool con),(vU32 en),sv] 43,.blk s4 [(.map (some mb4))] 165,.obj mb4 (mP .u32 (List.map Pg.me qs4) c4),Ent.bs 211 Pg.cells Pg.b qs4,.blk b3 [(vN 0)] 25,.blk x (xoC k (sl.set (ffS sl) (Slt.mk true ((if imE mp xs ps en sg=0 then pagesTo sg sg.length else []).length) none))) 146,Ent.bo k [(vU32 pk),hx,(ptr c 0),nv,bv,(vU32 0)],.blk c [(vU32 pg),hv,(.map (some mb))] 196,Ent.ar hv 1 he.length (List.map vU32 he),.obj mb (mP .i64 (List.map Gr.me gs18121) cn18121),Ent.bs 199 Gr.cells Gr.b gs18121,Ent.dp grD.list gs18121,Ent.dp (sltD 211).list (sl.set (ffS sl) (Slt.mk true ((if imE mp xs ps en sg=0 then pagesTo sg sg.length else []).length) none)),.row v18081 22 1 (if imE mp xs ps en sg=0 then pagesTo sg sg.length else []).length (List.map vU32 (if imE mp xs ps en sg=0 then pagesTo sg sg.length else [])),.blk b18201 [(vN 0)] 3]:=HS.splice [9,10,11,12,13,14,15,16,0,1] [.blk x (xoC k (sl.set (ffS sl) (Slt.mk true ((if imE mp xs ps en sg=0 then pagesTo sg sg.length else []).length) none))) 146,Ent.bo k [(vU32 pk),hx,(ptr c 0),nv,bv,(vU32 0)],.blk c [(vU32 pg),hv,(.map (some mb))] 196,Ent.ar hv 1 he.length (List.map vU32 he),.obj mb (mP .i64 (List.map Gr.me gs18121) cn18121),Ent.bs 199 Gr.cells Gr.b gs18121,Ent.dp grD.list gs18121,Ent.dp (sltD 211).list (sl.set (ffS sl) (Slt.mk true ((if imE mp xs ps en sg=0 then pagesTo sg sg.length else []).length) none)),Ent.ar ev 2 xs.length (List.flatMap xtc xs),Ent.ar pv 1 ps.length (List.map vU16 ps)] [] rfl rfl hq18121 (Fits.solid True.intro (Fits.same (j:=1) rfl (Fits.solid True.intro (Fits.same (j:=3) rfl (Fits.solid True.intro (Fits.solid True.intro (Fits.dpTo 6 rfl hd18121 (Fits.dpTo 7 rfl (fun b hb=>.inr (slt_set_ft b hb)) (Fits.same (j:=8) rfl (Fits.same (j:=9) rfl Fits.nil))))))))))
   have H18121f:=H18121.addFact (p:=CapR gs18121 cn18121 (grantG pg he l ((ffS sl:Nat):Int) mp xs ps con (UInt32.ofNat (if imE mp xs ps en sg=0 then pagesTo sg sg.length else []).length))∧DpTo w gs gs18121) ⟨hi18121,hd18121.mono HS.fr.size⟩
   refine ⟨⟨_,H18121f⟩,?_⟩
   exact xt 7 rfl (.tuple #[(vN (ffS sl)),(vN 0)]) H18121f (fun _ _ HX=>op_move rfl ⟨rfl,rfl⟩)<|xt 8 rfl (vN (ffS sl)) H18121f (fun _ _ HX=>op_extract rfl rfl ⟨rfl,rfl⟩)<|xt 9 rfl (vN 0) H18121f (fun _ _ HX=>op_extract rfl rfl ⟨rfl,rfl⟩)<|WH.cw hW (st6_7 b18201 gs18121 cn18121 v18081 w18121 (H18121f.sel [0,1,2,3,4,5,6,7,8,9,10,11,12,13,14,15,16,17,19,18] rfl rfl))
 have st6_3: ∀(v18081:Value) (wS:World),Owl.Own T w wS [a6_0,a6_1,a6_2,a6_3,a6_4,a6_5,a6_6,a6_7,a6_8,a6_9,a6_10,a6_11,a6_12,a6_13,a6_14,a6_15,a6_16,.row v18081 22 1 (if imE mp xs ps en sg=0 then pagesTo sg sg.length else []).length (List.map vU32 (if imE mp xs ps en sg=0 then pagesTo sg sg.length else []))]→W 7 (bz 13 63) (e6 [(20,(ptr x 0)),(22,(.agg #[(vU32 mp),ev,pv,(.bool con)])),(25,(vN (if imE mp xs ps en sg=0 then pagesTo sg sg.length else []).length))]) wS:=by
  intro v18081 wS HS
  rw [hW]
  refine wh2 6 10 ?_ ?_
  ·
   refine kH 6 rfl (op_callF Fa.C86 rfl ((admit_yes x k pk hx nv bv c pg hv he mb cn gs sl l mp ev pv xs ps con ((if imE mp xs ps en sg=0 then pagesTo sg sg.length else []).length) _ _ (HS.part [9,10,11,12,13,14,15,16,0,1] rfl rfl) hR h9 hhe hn hm (img_N h0 hB47) hff hw).mono (fun e w18121 hq=>?_)))
   obtain ⟨cn18121,gs18121,rfl,hi18121,hd18121,hq18121⟩:=hq
   refine ⟨_,rfl,?_⟩
   have H18121:Owl.Own T w w18121 [Ent.ar ev 2 xs.length (List.flatMap xtc xs),Ent.ar pv 1 ps.length (List.map vU16 ps),Ent.ar sv 3 sg.length (List.flatMap sgc sg),.blk b1 [(ptr x 0)] 47,.blk b2 [(vU32 mp),ev,pv,(.bool con),(vU32 en),sv] 43,.blk s4 [(.map (some mb4))] 165,.obj mb4 (mP .u32 (List.map Pg.me qs4) c4),Ent.bs 211 Pg.cells Pg.b qs4,.blk b3 [(vN 0)] 25,.blk x (xoC k (sl.set (ffS sl) (Slt.mk true ((if imE mp xs ps en sg=0 then pagesTo sg sg.length else []).length) none))) 146,Ent.bo k [(vU32 pk),hx,(ptr c 0),nv,bv,(vU32 0)],.blk c [(vU32 pg),hv,(.map (some mb))] 196,Ent.ar hv 1 he.length (List.map vU32 he),.obj mb (mP .i64 (List.map Gr.me gs18121) cn18121),Ent.bs 199 Gr.cells Gr.b gs18121,Ent.dp grD.list gs18121,Ent.dp (sltD 211).list (sl.set (ffS sl) (Slt.mk true ((if imE mp xs ps en sg=0 then pagesTo sg sg.length else []).length) none)),.row v18081 22 1 (if imE mp xs ps en sg=0 then pagesTo sg sg.length else []).length (List.map vU32 (if imE mp xs ps en sg=0 then pagesTo sg sg.length else []))]:=HS.splice [9,10,11,12,13,14,15,16,0,1] [.blk x (xoC k (sl.set (ffS sl) (Slt.mk true ((if imE mp xs ps en sg=0 then pagesTo sg sg.length else []).length) none))) 146,Ent.bo k [(vU32 pk),hx,(ptr c 0),nv,bv,(vU32 0)],.blk c [(vU32 pg),hv,(.map (some mb))] 196,Ent.ar hv 1 he.length (List.map vU32 he),.obj mb (mP .i64 (List.map Gr.me gs18121) cn18121),Ent.bs 199 Gr.cells Gr.b gs18121,Ent.dp grD.list gs18121,Ent.dp (sltD 211).list (sl.set (ffS sl) (Slt.mk true ((if imE mp xs ps en sg=0 then pagesTo sg sg.length else []).length) none)),Ent.ar ev 2 xs.length (List.flatMap xtc xs),Ent.ar pv 1 ps.length (List.map vU16 ps)] [] rfl rfl hq18121 (Fits.solid True.intro (Fits.same (j:=1) rfl (Fits.solid True.intro (Fits.same (j:=3) rfl (Fits.solid True.intro (Fits.solid True.intro (Fits.dpTo 6 rfl hd18121 (Fits.dpTo 7 rfl (fun b hb=>.inr (slt_set_ft b hb)) (Fits.same (j:=8) rfl (Fits.same (j:=9) rfl Fits.nil))))))))))
   have H18121f:=H18121.addFact (p:=CapR gs18121 cn18121 (grantG pg he l ((ffS sl:Nat):Int) mp xs ps con (UInt32.ofNat (if imE mp xs ps en sg=0 then pagesTo sg sg.length else []).length))∧DpTo w gs gs18121) ⟨hi18121,hd18121.mono HS.fr.size⟩
   refine ⟨⟨_,H18121f⟩,?_⟩
   exact xt 7 rfl (.tuple #[(vN (ffS sl)),(vN 0)]) H18121f (fun _ _ HX=>op_move rfl ⟨rfl,rfl⟩)<|xt 8 rfl (vN (ffS sl)) H18121f (fun _ _ HX=>op_extract rfl rfl ⟨rfl,rfl⟩)<|xt 9 rfl (vN 0) H18121f (fun _ _ HX=>op_extract rfl rfl ⟨rfl,rfl⟩)<|WH.cw hW (st6_5 gs18121 cn18121 v18081 w18121 H18121f)
  ·
   refine kH 10 rfl (op_alloc HS Fa.I3 (fun b18201 w18201 H18201=>(⟨⟨_,H18201⟩,?_⟩)))
   exact WH.cw hW (st6_6 b18201 v18081 w18201 H18201)
 have st6_4: ∀(b18201:Nat) (v18081:Value) (wS:World),Owl.Own T w wS [a6_0,a6_1,a6_2,a6_3,a6_4,a6_5,a6_6,a6_7,a6_8,a6_9,a6_10,a6_11,a6_12,a6_13,a6_14,a6_15,a6_16,.row v18081 22 1 (if imE mp xs ps en sg=0 then pagesTo sg sg.length else []).length (List.map vU32 (if imE mp xs ps en sg=0 then pagesTo sg sg.length else [])),.blk b18201 [(vN 0)] 3]→W 7 (bz 13 1055) (e6 [(7,(ptr b18201 0)),(20,(ptr x 0)),(22,(.agg #[(vU32 mp),ev,pv,(.bool con)])),(24,v18081)]) wS:=by
  intro b18201 v18081 wS HS
  rw [hW]
  refine wh1 5 ?_
  ·
   refine kH 5 rfl (op_lenA Tryz.underlying73 rfl (HS.arrR (i:=17) rfl) (⟨⟨_,HS⟩,?_⟩))
   exact WH.cw hW (st6_6 b18201 v18081 wS HS)
 have st6_1: ∀(v18081:Value) (wS:World),Owl.Own T w wS [a6_0,a6_1,a6_2,a6_3,a6_4,a6_5,a6_6,a6_7,a6_8,a6_9,a6_10,a6_11,a6_12,a6_13,a6_14,a6_15,a6_16,.row v18081 22 1 (if imE mp xs ps en sg=0 then pagesTo sg sg.length else []).length (List.map vU32 (if imE mp xs ps en sg=0 then pagesTo sg sg.length else []))]→W 8 (bz 13 31) (e6 [(20,(ptr x 0)),(22,(.agg #[(vU32 mp),ev,pv,(.bool con)])),(24,v18081)]) wS:=by
  intro v18081 wS HS
  rw [hW]
  refine wh2 5 10 ?_ ?_
  ·
   refine kH 5 rfl (op_lenA Tryz.underlying73 rfl (HS.arrR (i:=17) rfl) (⟨⟨_,HS⟩,?_⟩))
   exact WH.cw hW (st6_3 v18081 wS HS)
  ·
   refine kH 10 rfl (op_alloc HS Fa.I3 (fun b18201 w18201 H18201=>(⟨⟨_,H18201⟩,?_⟩)))
   exact WH.cw hW (st6_4 b18201 v18081 w18201 H18201)
 have st6_2: ∀(b18201:Nat) (wS:World),Owl.Own T w wS [a6_0,a6_1,a6_2,a6_3,a6_4,a6_5,a6_6,a6_7,a6_8,a6_9,a6_10,a6_11,a6_12,a6_13,a6_14,a6_15,a6_16,.blk b18201 [(vN 0)] 3]→W 8 (bz 13 1039) (e6 [(7,(ptr b18201 0)),(20,(ptr x 0)),(22,(.agg #[(vU32 mp),ev,pv,(.bool con)])),(23,(.agg #[(vU32 mp),ev,pv,(.bool con),(vU32 en),sv]))]) wS:=by
  intro b18201 wS HS
  rw [hW]
  refine wh1 4 ?_
  ·
   refine kH 4 rfl (op_callF Fa.C87 rfl ((ipgs_ok mp _ _ _ xs ps con en sg _ (HS.arrO (i:=0) rfl) (HS.arrO (i:=1) rfl) (HS.arrO (i:=2) rfl) (by omega) (by omega) (by omega) hB (by omega)).mono (fun e w18081 hq=>?_)))
   obtain ⟨v18081,rfl,hq18081⟩:=hq
   refine ⟨_,rfl,?_⟩
   have H18081:Owl.Own T w w18081 [Ent.ar ev 2 xs.length (List.flatMap xtc xs),Ent.ar pv 1 ps.length (List.map vU16 ps),Ent.ar sv 3 sg.length (List.flatMap sgc sg),.blk b1 [(ptr x 0)] 47,.blk b2 [(vU32 mp),ev,pv,(.bool con),(vU32 en),sv] 43,.blk s4 [(.map (some mb4))] 165,.obj mb4 (mP .u32 (List.map Pg.me qs4) c4),Ent.bs 211 Pg.cells Pg.b qs4,.blk b3 [(vN 0)] 25,.blk x (xoC k sl) 146,Ent.bo k [(vU32 pk),hx,(ptr c 0),nv,bv,(vU32 0)],.blk c [(vU32 pg),hv,(.map (some mb))] 196,Ent.ar hv 1 he.length (List.map vU32 he),.obj mb (mP .i64 (List.map Gr.me gs) cn),Ent.bs 199 Gr.cells Gr.b gs,Ent.dp grD.list gs,Ent.dp (sltD 211).list sl,.blk b18201 [(vN 0)] 3,.row v18081 22 1 (if imE mp xs ps en sg=0 then pagesTo sg sg.length else []).length (List.map vU32 (if imE mp xs ps en sg=0 then pagesTo sg sg.length else []))]:=HS.splice [] [] [.row v18081 22 1 (if imE mp xs ps en sg=0 then pagesTo sg sg.length else []).length (List.map vU32 (if imE mp xs ps en sg=0 then pagesTo sg sg.length else []))] rfl rfl hq18081 (Fits.solid True.intro Fits.nil)
   refine ⟨⟨_,H18081⟩,?_⟩
   exact WH.cw hW (st6_4 b18201 v18081 w18081 (H18081.sel [0,1,2,3,4,5,6,7,8,9,10,11,12,13,14,15,16,18,17] rfl rfl))
 have st6_0: ∀(wS:World),Owl.Own T w wS [a6_0,a6_1,a6_2,a6_3,a6_4,a6_5,a6_6,a6_7,a6_8,a6_9,a6_10,a6_11,a6_12,a6_13,a6_14,a6_15,a6_16]→W 9 (bz 13 15) (e6 [(20,(ptr x 0)),(22,(.agg #[(vU32 mp),ev,pv,(.bool con)])),(23,(.agg #[(vU32 mp),ev,pv,(.bool con),(vU32 en),sv]))]) wS:=by
  intro wS HS
  rw [hW]
  refine wh2 4 10 ?_ ?_
  ·
   refine kH 4 rfl (op_callF Fa.C87 rfl ((ipgs_ok mp _ _ _ xs ps con en sg _ (HS.arrO (i:=0) rfl) (HS.arrO (i:=1) rfl) (HS.arrO (i:=2) rfl) (by omega) (by omega) (by omega) hB (by omega)).mono (fun e w18081 hq=>?_)))
   obtain ⟨v18081,rfl,hq18081⟩:=hq
   refine ⟨_,rfl,?_⟩
   have H18081:Owl.Own T w w18081 [Ent.ar ev 2 xs.length (List.flatMap xtc xs),Ent.ar pv 1 ps.length (List.map vU16 ps),Ent.ar sv 3 sg.length (List.flatMap sgc sg),.blk b1 [(ptr x 0)] 47,.blk b2 [(vU32 mp),ev,pv,(.bool con),(vU32 en),sv] 43,.blk s4 [(.map (some mb4))] 165,.obj mb4 (mP .u32 (List.map Pg.me qs4) c4),Ent.bs 211 Pg.cells Pg.b qs4,.blk b3 [(vN 0)] 25,.blk x (xoC k sl) 146,Ent.bo k [(vU32 pk),hx,(ptr c 0),nv,bv,(vU32 0)],.blk c [(vU32 pg),hv,(.map (some mb))] 196,Ent.ar hv 1 he.length (List.map vU32 he),.obj mb (mP .i64 (List.map Gr.me gs) cn),Ent.bs 199 Gr.cells Gr.b gs,Ent.dp grD.list gs,Ent.dp (sltD 211).list sl,.row v18081 22 1 (if imE mp xs ps en sg=0 then pagesTo sg sg.length else []).length (List.map vU32 (if imE mp xs ps en sg=0 then pagesTo sg sg.length else []))]:=HS.splice [] [] [.row v18081 22 1 (if imE mp xs ps en sg=0 then pagesTo sg sg.length else []).length (List.map vU32 (if imE mp xs ps en sg=0 then pagesTo sg sg.length else []))] rfl rfl hq18081 (Fits.solid True.intro Fits.nil)
   refine ⟨⟨_,H18081⟩,?_⟩
   exact WH.cw hW (st6_1 v18081 w18081 H18081)
  ·
   refine kH 10 rfl (op_alloc HS Fa.I3 (fun b18201 w18201 H18201=>(⟨⟨_,H18201⟩,?_⟩)))
   exact WH.cw hW (st6_2 b18201 w18201 H18201)
 have hq:=st6_0 w7 H7
 rw [hW] at hq ⊢
 exact WH.cv hq
theorem lload_nil (key s:List UInt8) (w:World) :
  Calls Tryz.prog 21 #[(.pointer none),(str key),(str s)] w (fun e w'=>e=.returned (.tuple #[vN 0,vN 1])∧Fr [] w w'):=by
 refine enter (args:=[(.pointer none),(str key),(str s)]) Tryz.func21 rfl rfl ?_
 have H0:Owl.Own [] w w []:=Own.start w []
 exact ws<|wa rfl<|wa rfl<|wn<|WC.seq<|ws<|wm rfl<|wo (op_eqlPN Fa.PT47 rfl rfl<|wn<|WC.yes rfl rfl<|ws<|wa rfl<|wa rfl<|wn<|WC.ret<|WQ.thenRet<|WQ.out (.tmp rfl (.tmp rfl .nil)) (⟨rfl,H0.fr⟩))
theorem lload_bad (x k:Nat) (pk:UInt32) (hx nv bv:Value) (c:Nat) (pg:UInt32) (hv:Value) (he:List UInt32) (mb cn:Nat) (gs:List Gr) (sl:List Slt) (l:List Gr) (key s:List UInt8) (T:List Nat) (w:World) (H:Owl.Own T w w [.blk x (xoC k sl) 146,Ent.bo k [(vU32 pk),hx,(ptr c 0),nv,bv,(vU32 0)],.blk c [(vU32 pg),hv,(.map (some mb))] 196,Ent.ar hv 1 he.length (List.map vU32 he),.obj mb (mP .i64 (List.map Gr.me gs) cn),Ent.bs 199 Gr.cells Gr.b gs,Ent.dp grD.list gs,Ent.dp (sltD 211).list sl]) (hR:CapR gs cn l) (h9:sl.length=9) (hhe:he.length<2^32) (hkl:key.length<2^40) (hsl:s.length<2^37) (hO:opC key s≠0) :
  Calls Tryz.prog 21 #[(ptr x 0),(str key),(str s)] w (fun e w'=>e=.returned (.tuple #[vN 0,vN (opC key s)])∧Owl.Own T w w' [.blk x (xoC k sl) 146,Ent.bo k [(vU32 pk),hx,(ptr c 0),nv,bv,(vU32 0)],.blk c [(vU32 pg),hv,(.map (some mb))] 196,Ent.ar hv 1 he.length (List.map vU32 he),.obj mb (mP .i64 (List.map Gr.me gs) cn),Ent.bs 199 Gr.cells Gr.b gs,Ent.dp grD.list gs,Ent.dp (sltD 211).list sl]):=by
 refine enter (args:=[(ptr x 0),(str key),(str s)]) Tryz.func21 rfl rfl<|ws<|wa rfl<|wa rfl<|wn<|WC.seq<|ws<|wm rfl<|wo (op_eqlPN Fa.PT47 rfl rfl<|wn<|WC.no rfl rfl<|WC.skip<|WQ.next<|ws<|wm rfl<|wm rfl<|wo (op_callF Fa.C57 rfl ((sopen_ok key s _ hkl (by omega)).mono (fun e w1 hq=>?_))))
 obtain ⟨v1,u1,q1,rfl,hq1⟩:=hq
 refine ⟨_,rfl,?_⟩
 have H1:Owl.Own T w w1 [.blk x (xoC k sl) 146,Ent.bo k [(vU32 pk),hx,(ptr c 0),nv,bv,(vU32 0)],.blk c [(vU32 pg),hv,(.map (some mb))] 196,Ent.ar hv 1 he.length (List.map vU32 he),.obj mb (mP .i64 (List.map Gr.me gs) cn),Ent.bs 199 Gr.cells Gr.b gs,Ent.dp grD.list gs,Ent.dp (sltD 211).list sl,.row v1 207 2 (opI key s).xs.length (List.flatMap xtc (opI key s).xs),.row u1 203 1 (opI key s).ps.length (List.map vU16 (opI key s).ps),.row q1 116 3 (opI key s).sg.length (List.flatMap sgc (opI key s).sg)]:=H.splice [] [] [.row v1 207 2 (opI key s).xs.length (List.flatMap xtc (opI key s).xs),.row u1 203 1 (opI key s).ps.length (List.map vU16 (opI key s).ps),.row q1 116 3 (opI key s).sg.length (List.flatMap sgc (opI key s).sg)] rfl rfl hq1 (Fits.solid True.intro (Fits.solid True.intro (Fits.solid True.intro Fits.nil)))
 exact wm rfl<|we rfl rfl<|we rfl rfl<|wo (op_alloc H1 Fa.I43 (fun b2 w2 H2=>(wo (op_storeBW (i:=11) H2 rfl rfl rfl rfl (one_cons rfl (one_cons (Arr.one (H2.arrR (i:=8) rfl)) (one_cons (Arr.one (H2.arrR (i:=9) rfl)) (one_cons rfl (one_cons rfl (one_cons (Arr.one (H2.arrR (i:=10) rfl)) one_nil)))))) Fa.I43 (fun w3 H3=>(wa rfl<|wn<|WC.seq<|ws<|wm rfl<|wo (op_neqN (b:=0) rfl rfl<|wn<|WC.yes rfl (decide_eq_true hO)<|ws<|wm rfl<|wa rfl<|wa rfl<|wn<|WC.ret<|WQ.thenRet<|WQ.out (.tmp rfl (.tmp rfl .nil)) (⟨rfl,H3.sel [0,1,2,3,4,5,6,7] rfl rfl⟩))))))))
theorem lload_full (x k:Nat) (pk:UInt32) (hx nv bv:Value) (c:Nat) (pg:UInt32) (hv:Value) (he:List UInt32) (mb cn:Nat) (gs:List Gr) (sl:List Slt) (l:List Gr) (key s:List UInt8) (T:List Nat) (w:World) (H:Owl.Own T w w [.blk x (xoC k sl) 146,Ent.bo k [(vU32 pk),hx,(ptr c 0),nv,bv,(vU32 0)],.blk c [(vU32 pg),hv,(.map (some mb))] 196,Ent.ar hv 1 he.length (List.map vU32 he),.obj mb (mP .i64 (List.map Gr.me gs) cn),Ent.bs 199 Gr.cells Gr.b gs,Ent.dp grD.list gs,Ent.dp (sltD 211).list sl]) (hR:CapR gs cn l) (h9:sl.length=9) (hhe:he.length<2^32) (hkl:key.length<2^40) (hsl:s.length<2^37) (hO:opC key s=0) (hff:ffS sl=9) :
  Calls Tryz.prog 21 #[(ptr x 0),(str key),(str s)] w (fun e w'=>e=.returned (.tuple #[vN 0,vN 4])∧Owl.Own T w w' [.blk x (xoC k sl) 146,Ent.bo k [(vU32 pk),hx,(ptr c 0),nv,bv,(vU32 0)],.blk c [(vU32 pg),hv,(.map (some mb))] 196,Ent.ar hv 1 he.length (List.map vU32 he),.obj mb (mP .i64 (List.map Gr.me gs) cn),Ent.bs 199 Gr.cells Gr.b gs,Ent.dp grD.list gs,Ent.dp (sltD 211).list sl]):=by
 refine enter (args:=[(ptr x 0),(str key),(str s)]) Tryz.func21 rfl rfl ?_
 obtain ⟨hn,hm,hk,hB,_⟩:=op_bounds hO hsl
 have h0:=(open_seal hO).1
 refine ws<|wa rfl<|wa rfl<|wn<|WC.seq<|ws<|wm rfl<|wo (op_eqlPN Fa.PT47 rfl rfl<|wn<|WC.no rfl rfl<|WC.skip<|WQ.next<|ws<|wm rfl<|wm rfl<|wo (op_callF Fa.C57 rfl ((sopen_ok key s _ hkl (by omega)).mono (fun e w1 hq=>?_))))
 obtain ⟨v1,u1,q1,rfl,hq1⟩:=hq
 refine ⟨_,rfl,?_⟩
 have H1:Owl.Own T w w1 [.blk x (xoC k sl) 146,Ent.bo k [(vU32 pk),hx,(ptr c 0),nv,bv,(vU32 0)],.blk c [(vU32 pg),hv,(.map (some mb))] 196,Ent.ar hv 1 he.length (List.map vU32 he),.obj mb (mP .i64 (List.map Gr.me gs) cn),Ent.bs 199 Gr.cells Gr.b gs,Ent.dp grD.list gs,Ent.dp (sltD 211).list sl,.row v1 207 2 (opI key s).xs.length (List.flatMap xtc (opI key s).xs),.row u1 203 1 (opI key s).ps.length (List.map vU16 (opI key s).ps),.row q1 116 3 (opI key s).sg.length (List.flatMap sgc (opI key s).sg)]:=H.splice [] [] [.row v1 207 2 (opI key s).xs.length (List.flatMap xtc (opI key s).xs),.row u1 203 1 (opI key s).ps.length (List.map vU16 (opI key s).ps),.row q1 116 3 (opI key s).sg.length (List.flatMap sgc (opI key s).sg)] rfl rfl hq1 (Fits.solid True.intro (Fits.solid True.intro (Fits.solid True.intro Fits.nil)))
 refine wm rfl<|we rfl rfl<|we rfl rfl<|wo (op_alloc H1 Fa.I43 (fun b2 w2 H2=>(wo (op_storeBW (i:=11) H2 rfl rfl rfl rfl (one_cons rfl (one_cons (Arr.one (H2.arrR (i:=8) rfl)) (one_cons (Arr.one (H2.arrR (i:=9) rfl)) (one_cons rfl (one_cons rfl (one_cons (Arr.one (H2.arrR (i:=10) rfl)) one_nil)))))) Fa.I43 (fun w3 H3=>(wa rfl<|wn<|WC.seq<|ws<|wm rfl<|wo (op_neqN (b:=0) rfl rfl<|wn<|WC.no rfl (decide_eq_false (fun h=>h hO))<|WC.skip<|WQ.next<|ws ?_)))))))
 have H4:Owl.Own T w w3 [.blk x (xoC k sl) 146,Ent.bo k [(vU32 pk),hx,(ptr c 0),nv,bv,(vU32 0)],.blk c [(vU32 pg),hv,(.map (some mb))] 196,Ent.ar hv 1 he.length (List.map vU32 he),.obj mb (mP .i64 (List.map Gr.me gs) cn),Ent.bs 199 Gr.cells Gr.b gs,Ent.dp grD.list gs,Ent.dp (sltD 211).list sl,Ent.ar v1 2 (opI key s).xs.length (List.flatMap xtc (opI key s).xs),.row u1 203 1 (opI key s).ps.length (List.map vU16 (opI key s).ps),.row q1 116 3 (opI key s).sg.length (List.flatMap sgc (opI key s).sg),.blk b2 [(vU32 (opI key s).pg),v1,u1,(.bool (opI key s).c),(vU32 (opI key s).en),q1] 43]:=H3.freeze (i:=8) rfl
 have H5:Owl.Own T w w3 [.blk x (xoC k sl) 146,Ent.bo k [(vU32 pk),hx,(ptr c 0),nv,bv,(vU32 0)],.blk c [(vU32 pg),hv,(.map (some mb))] 196,Ent.ar hv 1 he.length (List.map vU32 he),.obj mb (mP .i64 (List.map Gr.me gs) cn),Ent.bs 199 Gr.cells Gr.b gs,Ent.dp grD.list gs,Ent.dp (sltD 211).list sl,Ent.ar v1 2 (opI key s).xs.length (List.flatMap xtc (opI key s).xs),Ent.ar u1 1 (opI key s).ps.length (List.map vU16 (opI key s).ps),.row q1 116 3 (opI key s).sg.length (List.flatMap sgc (opI key s).sg),.blk b2 [(vU32 (opI key s).pg),v1,u1,(.bool (opI key s).c),(vU32 (opI key s).en),q1] 43]:=H4.freeze (i:=9) rfl
 have H6:Owl.Own T w w3 [.blk x (xoC k sl) 146,Ent.bo k [(vU32 pk),hx,(ptr c 0),nv,bv,(vU32 0)],.blk c [(vU32 pg),hv,(.map (some mb))] 196,Ent.ar hv 1 he.length (List.map vU32 he),.obj mb (mP .i64 (List.map Gr.me gs) cn),Ent.bs 199 Gr.cells Gr.b gs,Ent.dp grD.list gs,Ent.dp (sltD 211).list sl,Ent.ar v1 2 (opI key s).xs.length (List.flatMap xtc (opI key s).xs),Ent.ar u1 1 (opI key s).ps.length (List.map vU16 (opI key s).ps),Ent.ar q1 3 (opI key s).sg.length (List.flatMap sgc (opI key s).sg),.blk b2 [(vU32 (opI key s).pg),v1,u1,(.bool (opI key s).c),(vU32 (opI key s).en),q1] 43]:=H5.freeze (i:=10) rfl
 refine wm rfl<|wo (op_loadS (vs:=[_,_,_,_,_,_]) rfl (H6.cells (i:=11) rfl rfl) Tryz.underlying43 rfl Fa.I43 rfl<|wo (op_callF Fa.C40 rfl ((limage_full x k pk hx nv bv c pg hv he mb cn gs sl l ((opI key s).pg) v1 u1 q1 ((opI key s).xs) ((opI key s).ps) ((opI key s).c) ((opI key s).en) ((opI key s).sg) _ _ (H6.part [0,1,2,3,4,5,6,7,8,9,10] rfl rfl) hR h9 hhe (by omega) (by omega) (by omega) hB h0 hff).mono (fun e w7 hq=>?_))))
 obtain ⟨rfl,hq7⟩:=hq
 refine ⟨_,rfl,?_⟩
 have H7:Owl.Own T w w7 [.blk x (xoC k sl) 146,Ent.bo k [(vU32 pk),hx,(ptr c 0),nv,bv,(vU32 0)],.blk c [(vU32 pg),hv,(.map (some mb))] 196,Ent.ar hv 1 he.length (List.map vU32 he),.obj mb (mP .i64 (List.map Gr.me gs) cn),Ent.bs 199 Gr.cells Gr.b gs,Ent.dp grD.list gs,Ent.dp (sltD 211).list sl,Ent.ar v1 2 (opI key s).xs.length (List.flatMap xtc (opI key s).xs),Ent.ar u1 1 (opI key s).ps.length (List.map vU16 (opI key s).ps),Ent.ar q1 3 (opI key s).sg.length (List.flatMap sgc (opI key s).sg),.blk b2 [(vU32 (opI key s).pg),v1,u1,(.bool (opI key s).c),(vU32 (opI key s).en),q1] 43]:=H6.splice [0,1,2,3,4,5,6,7,8,9,10] [.blk x (xoC k sl) 146,Ent.bo k [(vU32 pk),hx,(ptr c 0),nv,bv,(vU32 0)],.blk c [(vU32 pg),hv,(.map (some mb))] 196,Ent.ar hv 1 he.length (List.map vU32 he),.obj mb (mP .i64 (List.map Gr.me gs) cn),Ent.bs 199 Gr.cells Gr.b gs,Ent.dp grD.list gs,Ent.dp (sltD 211).list sl,Ent.ar v1 2 (opI key s).xs.length (List.flatMap xtc (opI key s).xs),Ent.ar u1 1 (opI key s).ps.length (List.map vU16 (opI key s).ps),Ent.ar q1 3 (opI key s).sg.length (List.flatMap sgc (opI key s).sg)] [] rfl rfl hq7 (Fits.solid True.intro (Fits.same (j:=1) rfl (Fits.solid True.intro (Fits.same (j:=3) rfl (Fits.solid True.intro (Fits.solid True.intro (Fits.same (j:=6) rfl (Fits.same (j:=7) rfl (Fits.same (j:=8) rfl (Fits.same (j:=9) rfl (Fits.same (j:=10) rfl Fits.nil)))))))))))
 exact we rfl rfl<|we rfl rfl<|wa rfl<|wa rfl<|wn<|WC.ret<|WQ.out (.tmp rfl (.tmp rfl .nil)) (⟨rfl,H7.sel [0,1,2,3,4,5,6,7] rfl rfl⟩)
theorem lload_no (x k:Nat) (pk:UInt32) (hx nv bv:Value) (c:Nat) (pg:UInt32) (hv:Value) (he:List UInt32) (mb cn:Nat) (gs:List Gr) (sl:List Slt) (l:List Gr) (key s:List UInt8) (T:List Nat) (w:World) (H:Owl.Own T w w [.blk x (xoC k sl) 146,Ent.bo k [(vU32 pk),hx,(ptr c 0),nv,bv,(vU32 0)],.blk c [(vU32 pg),hv,(.map (some mb))] 196,Ent.ar hv 1 he.length (List.map vU32 he),.obj mb (mP .i64 (List.map Gr.me gs) cn),Ent.bs 199 Gr.cells Gr.b gs,Ent.dp grD.list gs,Ent.dp (sltD 211).list sl]) (hR:CapR gs cn l) (h9:sl.length=9) (hhe:he.length<2^32) (hkl:key.length<2^40) (hsl:s.length<2^37) (hO:opC key s=0) (hff:ffS sl≠9) (hw:(loadE pg he l sl (opI key s))≠0) :
  Calls Tryz.prog 21 #[(ptr x 0),(str key),(str s)] w (fun e w'=> ∃cn' gs',e=.returned (.tuple #[vN 0,vN (loadE pg he l sl (opI key s))])∧CapR gs' cn' (loadG pg he l sl (opI key s))∧DpTo w gs gs'∧Owl.Own T w w' [.blk x (xoC k sl) 146,Ent.bo k [(vU32 pk),hx,(ptr c 0),nv,bv,(vU32 0)],.blk c [(vU32 pg),hv,(.map (some mb))] 196,Ent.ar hv 1 he.length (List.map vU32 he),.obj mb (mP .i64 (List.map Gr.me gs') cn'),Ent.bs 199 Gr.cells Gr.b gs',Ent.dp grD.list gs',Ent.dp (sltD 211).list sl]):=by
 refine enter (args:=[(ptr x 0),(str key),(str s)]) Tryz.func21 rfl rfl ?_
 obtain ⟨hn,hm,hk,hB,_⟩:=op_bounds hO hsl
 have h0:=(open_seal hO).1
 refine ws<|wa rfl<|wa rfl<|wn<|WC.seq<|ws<|wm rfl<|wo (op_eqlPN Fa.PT47 rfl rfl<|wn<|WC.no rfl rfl<|WC.skip<|WQ.next<|ws<|wm rfl<|wm rfl<|wo (op_callF Fa.C57 rfl ((sopen_ok key s _ hkl (by omega)).mono (fun e w1 hq=>?_))))
 obtain ⟨v1,u1,q1,rfl,hq1⟩:=hq
 refine ⟨_,rfl,?_⟩
 have H1:Owl.Own T w w1 [.blk x (xoC k sl) 146,Ent.bo k [(vU32 pk),hx,(ptr c 0),nv,bv,(vU32 0)],.blk c [(vU32 pg),hv,(.map (some mb))] 196,Ent.ar hv 1 he.length (List.map vU32 he),.obj mb (mP .i64 (List.map Gr.me gs) cn),Ent.bs 199 Gr.cells Gr.b gs,Ent.dp grD.list gs,Ent.dp (sltD 211).list sl,.row v1 207 2 (opI key s).xs.length (List.flatMap xtc (opI key s).xs),.row u1 203 1 (opI key s).ps.length (List.map vU16 (opI key s).ps),.row q1 116 3 (opI key s).sg.length (List.flatMap sgc (opI key s).sg)]:=H.splice [] [] [.row v1 207 2 (opI key s).xs.length (List.flatMap xtc (opI key s).xs),.row u1 203 1 (opI key s).ps.length (List.map vU16 (opI key s).ps),.row q1 116 3 (opI key s).sg.length (List.flatMap sgc (opI key s).sg)] rfl rfl hq1 (Fits.solid True.intro (Fits.solid True.intro (Fits.solid True.intro Fits.nil)))
 refine wm rfl<|we rfl rfl<|we rfl rfl<|wo (op_alloc H1 Fa.I43 (fun b2 w2 H2=>(wo (op_storeBW (i:=11) H2 rfl rfl rfl rfl (one_cons rfl (one_cons (Arr.one (H2.arrR (i:=8) rfl)) (one_cons (Arr.one (H2.arrR (i:=9) rfl)) (one_cons rfl (one_cons rfl (one_cons (Arr.one (H2.arrR (i:=10) rfl)) one_nil)))))) Fa.I43 (fun w3 H3=>(wa rfl<|wn<|WC.seq<|ws<|wm rfl<|wo (op_neqN (b:=0) rfl rfl<|wn<|WC.no rfl (decide_eq_false (fun h=>h hO))<|WC.skip<|WQ.next<|ws ?_)))))))
 have H4:Owl.Own T w w3 [.blk x (xoC k sl) 146,Ent.bo k [(vU32 pk),hx,(ptr c 0),nv,bv,(vU32 0)],.blk c [(vU32 pg),hv,(.map (some mb))] 196,Ent.ar hv 1 he.length (List.map vU32 he),.obj mb (mP .i64 (List.map Gr.me gs) cn),Ent.bs 199 Gr.cells Gr.b gs,Ent.dp grD.list gs,Ent.dp (sltD 211).list sl,Ent.ar v1 2 (opI key s).xs.length (List.flatMap xtc (opI key s).xs),.row u1 203 1 (opI key s).ps.length (List.map vU16 (opI key s).ps),.row q1 116 3 (opI key s).sg.length (List.flatMap sgc (opI key s).sg),.blk b2 [(vU32 (opI key s).pg),v1,u1,(.bool (opI key s).c),(vU32 (opI key s).en),q1] 43]:=H3.freeze (i:=8) rfl
 have H5:Owl.Own T w w3 [.blk x (xoC k sl) 146,Ent.bo k [(vU32 pk),hx,(ptr c 0),nv,bv,(vU32 0)],.blk c [(vU32 pg),hv,(.map (some mb))] 196,Ent.ar hv 1 he.length (List.map vU32 he),.obj mb (mP .i64 (List.map Gr.me gs) cn),Ent.bs 199 Gr.cells Gr.b gs,Ent.dp grD.list gs,Ent.dp (sltD 211).list sl,Ent.ar v1 2 (opI key s).xs.length (List.flatMap xtc (opI key s).xs),Ent.ar u1 1 (opI key s).ps.length (List.map vU16 (opI key s).ps),.row q1 116 3 (opI key s).sg.length (List.flatMap sgc (opI key s).sg),.blk b2 [(vU32 (opI key s).pg),v1,u1,(.bool (opI key s).c),(vU32 (opI key s).en),q1] 43]:=H4.freeze (i:=9) rfl
 have H6:Owl.Own T w w3 [.blk x (xoC k sl) 146,Ent.bo k [(vU32 pk),hx,(ptr c 0),nv,bv,(vU32 0)],.blk c [(vU32 pg),hv,(.map (some mb))] 196,Ent.ar hv 1 he.length (List.map vU32 he),.obj mb (mP .i64 (List.map Gr.me gs) cn),Ent.bs 199 Gr.cells Gr.b gs,Ent.dp grD.list gs,Ent.dp (sltD 211).list sl,Ent.ar v1 2 (opI key s).xs.length (List.flatMap xtc (opI key s).xs),Ent.ar u1 1 (opI key s).ps.length (List.map vU16 (opI key s).ps),Ent.ar q1 3 (opI key s).sg.length (List.flatMap sgc (opI key s).sg),.blk b2 [(vU32 (opI key s).pg),v1,u1,(.bool (opI key s).c),(vU32 (opI key s).en),q1] 43]:=H5.freeze (i:=10) rfl
 refine wm rfl<|wo (op_loadS (vs:=[_,_,_,_,_,_]) rfl (H6.cells (i:=11) rfl rfl) Tryz.underlying43 rfl Fa.I43 rfl<|wo (op_callF Fa.C40 rfl ((limage_no x k pk hx nv bv c pg hv he mb cn gs sl l ((opI key s).pg) v1 u1 q1 ((opI key s).xs) ((opI key s).ps) ((opI key s).c) ((opI key s).en) ((opI key s).sg) _ _ (H6.part [0,1,2,3,4,5,6,7,8,9,10] rfl rfl) hR h9 hhe (by omega) (by omega) (by omega) hB h0 hff hw).mono (fun e w7 hq=>?_))))
 obtain ⟨cn7,gs7,rfl,hi7,hd7,hq7⟩:=hq
 refine ⟨_,rfl,?_⟩
 have H7:Owl.Own T w w7 [.blk x (xoC k sl) 146,Ent.bo k [(vU32 pk),hx,(ptr c 0),nv,bv,(vU32 0)],.blk c [(vU32 pg),hv,(.map (some mb))] 196,Ent.ar hv 1 he.length (List.map vU32 he),.obj mb (mP .i64 (List.map Gr.me gs7) cn7),Ent.bs 199 Gr.cells Gr.b gs7,Ent.dp grD.list gs7,Ent.dp (sltD 211).list sl,Ent.ar v1 2 (opI key s).xs.length (List.flatMap xtc (opI key s).xs),Ent.ar u1 1 (opI key s).ps.length (List.map vU16 (opI key s).ps),Ent.ar q1 3 (opI key s).sg.length (List.flatMap sgc (opI key s).sg),.blk b2 [(vU32 (opI key s).pg),v1,u1,(.bool (opI key s).c),(vU32 (opI key s).en),q1] 43]:=H6.splice [0,1,2,3,4,5,6,7,8,9,10] [.blk x (xoC k sl) 146,Ent.bo k [(vU32 pk),hx,(ptr c 0),nv,bv,(vU32 0)],.blk c [(vU32 pg),hv,(.map (some mb))] 196,Ent.ar hv 1 he.length (List.map vU32 he),.obj mb (mP .i64 (List.map Gr.me gs7) cn7),Ent.bs 199 Gr.cells Gr.b gs7,Ent.dp grD.list gs7,Ent.dp (sltD 211).list sl,Ent.ar v1 2 (opI key s).xs.length (List.flatMap xtc (opI key s).xs),Ent.ar u1 1 (opI key s).ps.length (List.map vU16 (opI key s).ps),Ent.ar q1 3 (opI key s).sg.length (List.flatMap sgc (opI key s).sg)] [] rfl rfl hq7 (Fits.solid True.intro (Fits.same (j:=1) rfl (Fits.solid True.intro (Fits.same (j:=3) rfl (Fits.solid True.intro (Fits.solid True.intro (Fits.dpTo 6 rfl hd7 (Fits.same (j:=7) rfl (Fits.same (j:=8) rfl (Fits.same (j:=9) rfl (Fits.same (j:=10) rfl Fits.nil)))))))))))
 exact we rfl rfl<|we rfl rfl<|wa rfl<|wa rfl<|wn<|WC.ret<|WQ.out (.tmp rfl (.tmp rfl .nil)) (⟨_,_,rfl,hi7,hd7.mono H6.fr.size,H7.sel [0,1,2,3,4,5,6,7] rfl rfl⟩)
theorem lload_yes (x k:Nat) (pk:UInt32) (hx nv bv:Value) (c:Nat) (pg:UInt32) (hv:Value) (he:List UInt32) (mb cn:Nat) (gs:List Gr) (sl:List Slt) (l:List Gr) (key s:List UInt8) (T:List Nat) (w:World) (H:Owl.Own T w w [.blk x (xoC k sl) 146,Ent.bo k [(vU32 pk),hx,(ptr c 0),nv,bv,(vU32 0)],.blk c [(vU32 pg),hv,(.map (some mb))] 196,Ent.ar hv 1 he.length (List.map vU32 he),.obj mb (mP .i64 (List.map Gr.me gs) cn),Ent.bs 199 Gr.cells Gr.b gs,Ent.dp grD.list gs,Ent.dp (sltD 211).list sl]) (hR:CapR gs cn l) (h9:sl.length=9) (hhe:he.length<2^32) (hkl:key.length<2^40) (hsl:s.length<2^37) (hO:opC key s=0) (hff:ffS sl≠9) (hw:(loadE pg he l sl (opI key s))=0) :
  Calls Tryz.prog 21 #[(ptr x 0),(str key),(str s)] w (fun e w'=> ∃cn' gs' a,e=.returned (.tuple #[vN (ffS sl),vN 0])∧CapR gs' cn' (loadG pg he l sl (opI key s))∧(MEok (List.map Pg.me a.ps) a.cn∧(a.ps.map Pg.bare).Perm (imgP (opI key s).sg (opI key s).sg.length)∧a.num=ffS sl∧a.pc=(opI key s).en)∧DpTo w gs gs'∧SltTo 211 w sl (loadS sl (opI key s) a)∧Owl.Own T w w' [.blk x (xoC k (loadS sl (opI key s) a)) 146,Ent.bo k [(vU32 pk),hx,(ptr c 0),nv,bv,(vU32 0)],.blk c [(vU32 pg),hv,(.map (some mb))] 196,Ent.ar hv 1 he.length (List.map vU32 he),.obj mb (mP .i64 (List.map Gr.me gs') cn'),Ent.bs 199 Gr.cells Gr.b gs',Ent.dp grD.list gs',Ent.dp (sltD 211).list (loadS sl (opI key s) a)]):=by
 refine enter (args:=[(ptr x 0),(str key),(str s)]) Tryz.func21 rfl rfl ?_
 obtain ⟨hn,hm,hk,hB,_⟩:=op_bounds hO hsl
 have h0:=(open_seal hO).1
 refine ws<|wa rfl<|wa rfl<|wn<|WC.seq<|ws<|wm rfl<|wo (op_eqlPN Fa.PT47 rfl rfl<|wn<|WC.no rfl rfl<|WC.skip<|WQ.next<|ws<|wm rfl<|wm rfl<|wo (op_callF Fa.C57 rfl ((sopen_ok key s _ hkl (by omega)).mono (fun e w1 hq=>?_))))
 obtain ⟨v1,u1,q1,rfl,hq1⟩:=hq
 refine ⟨_,rfl,?_⟩
 have H1:Owl.Own T w w1 [.blk x (xoC k sl) 146,Ent.bo k [(vU32 pk),hx,(ptr c 0),nv,bv,(vU32 0)],.blk c [(vU32 pg),hv,(.map (some mb))] 196,Ent.ar hv 1 he.length (List.map vU32 he),.obj mb (mP .i64 (List.map Gr.me gs) cn),Ent.bs 199 Gr.cells Gr.b gs,Ent.dp grD.list gs,Ent.dp (sltD 211).list sl,.row v1 207 2 (opI key s).xs.length (List.flatMap xtc (opI key s).xs),.row u1 203 1 (opI key s).ps.length (List.map vU16 (opI key s).ps),.row q1 116 3 (opI key s).sg.length (List.flatMap sgc (opI key s).sg)]:=H.splice [] [] [.row v1 207 2 (opI key s).xs.length (List.flatMap xtc (opI key s).xs),.row u1 203 1 (opI key s).ps.length (List.map vU16 (opI key s).ps),.row q1 116 3 (opI key s).sg.length (List.flatMap sgc (opI key s).sg)] rfl rfl hq1 (Fits.solid True.intro (Fits.solid True.intro (Fits.solid True.intro Fits.nil)))
 refine wm rfl<|we rfl rfl<|we rfl rfl<|wo (op_alloc H1 Fa.I43 (fun b2 w2 H2=>(wo (op_storeBW (i:=11) H2 rfl rfl rfl rfl (one_cons rfl (one_cons (Arr.one (H2.arrR (i:=8) rfl)) (one_cons (Arr.one (H2.arrR (i:=9) rfl)) (one_cons rfl (one_cons rfl (one_cons (Arr.one (H2.arrR (i:=10) rfl)) one_nil)))))) Fa.I43 (fun w3 H3=>(wa rfl<|wn<|WC.seq<|ws<|wm rfl<|wo (op_neqN (b:=0) rfl rfl<|wn<|WC.no rfl (decide_eq_false (fun h=>h hO))<|WC.skip<|WQ.next<|ws ?_)))))))
 have H4:Owl.Own T w w3 [.blk x (xoC k sl) 146,Ent.bo k [(vU32 pk),hx,(ptr c 0),nv,bv,(vU32 0)],.blk c [(vU32 pg),hv,(.map (some mb))] 196,Ent.ar hv 1 he.length (List.map vU32 he),.obj mb (mP .i64 (List.map Gr.me gs) cn),Ent.bs 199 Gr.cells Gr.b gs,Ent.dp grD.list gs,Ent.dp (sltD 211).list sl,Ent.ar v1 2 (opI key s).xs.length (List.flatMap xtc (opI key s).xs),.row u1 203 1 (opI key s).ps.length (List.map vU16 (opI key s).ps),.row q1 116 3 (opI key s).sg.length (List.flatMap sgc (opI key s).sg),.blk b2 [(vU32 (opI key s).pg),v1,u1,(.bool (opI key s).c),(vU32 (opI key s).en),q1] 43]:=H3.freeze (i:=8) rfl
 have H5:Owl.Own T w w3 [.blk x (xoC k sl) 146,Ent.bo k [(vU32 pk),hx,(ptr c 0),nv,bv,(vU32 0)],.blk c [(vU32 pg),hv,(.map (some mb))] 196,Ent.ar hv 1 he.length (List.map vU32 he),.obj mb (mP .i64 (List.map Gr.me gs) cn),Ent.bs 199 Gr.cells Gr.b gs,Ent.dp grD.list gs,Ent.dp (sltD 211).list sl,Ent.ar v1 2 (opI key s).xs.length (List.flatMap xtc (opI key s).xs),Ent.ar u1 1 (opI key s).ps.length (List.map vU16 (opI key s).ps),.row q1 116 3 (opI key s).sg.length (List.flatMap sgc (opI key s).sg),.blk b2 [(vU32 (opI key s).pg),v1,u1,(.bool (opI key s).c),(vU32 (opI key s).en),q1] 43]:=H4.freeze (i:=9) rfl
 have H6:Owl.Own T w w3 [.blk x (xoC k sl) 146,Ent.bo k [(vU32 pk),hx,(ptr c 0),nv,bv,(vU32 0)],.blk c [(vU32 pg),hv,(.map (some mb))] 196,Ent.ar hv 1 he.length (List.map vU32 he),.obj mb (mP .i64 (List.map Gr.me gs) cn),Ent.bs 199 Gr.cells Gr.b gs,Ent.dp grD.list gs,Ent.dp (sltD 211).list sl,Ent.ar v1 2 (opI key s).xs.length (List.flatMap xtc (opI key s).xs),Ent.ar u1 1 (opI key s).ps.length (List.map vU16 (opI key s).ps),Ent.ar q1 3 (opI key s).sg.length (List.flatMap sgc (opI key s).sg),.blk b2 [(vU32 (opI key s).pg),v1,u1,(.bool (opI key s).c),(vU32 (opI key s).en),q1] 43]:=H5.freeze (i:=10) rfl
 refine wm rfl<|wo (op_loadS (vs:=[_,_,_,_,_,_]) rfl (H6.cells (i:=11) rfl rfl) Tryz.underlying43 rfl Fa.I43 rfl<|wo (op_callF Fa.C40 rfl ((limage_yes x k pk hx nv bv c pg hv he mb cn gs sl l ((opI key s).pg) v1 u1 q1 ((opI key s).xs) ((opI key s).ps) ((opI key s).c) ((opI key s).en) ((opI key s).sg) _ _ (H6.part [0,1,2,3,4,5,6,7,8,9,10] rfl rfl) hR h9 hhe (by omega) (by omega) (by omega) hB h0 hff hw).mono (fun e w7 hq=>?_))))
 obtain ⟨cn7,gs7,a7,rfl,hi7,ha7,hd7,hs7,hq7⟩:=hq
 refine ⟨_,rfl,?_⟩
 have H7:Owl.Own T w w7 [.blk x (xoC k (loadS sl (opI key s) a7)) 146,Ent.bo k [(vU32 pk),hx,(ptr c 0),nv,bv,(vU32 0)],.blk c [(vU32 pg),hv,(.map (some mb))] 196,Ent.ar hv 1 he.length (List.map vU32 he),.obj mb (mP .i64 (List.map Gr.me gs7) cn7),Ent.bs 199 Gr.cells Gr.b gs7,Ent.dp grD.list gs7,Ent.dp (sltD 211).list (loadS sl (opI key s) a7),Ent.ar v1 2 (opI key s).xs.length (List.flatMap xtc (opI key s).xs),Ent.ar u1 1 (opI key s).ps.length (List.map vU16 (opI key s).ps),Ent.ar q1 3 (opI key s).sg.length (List.flatMap sgc (opI key s).sg),.blk b2 [(vU32 (opI key s).pg),v1,u1,(.bool (opI key s).c),(vU32 (opI key s).en),q1] 43]:=H6.splice [0,1,2,3,4,5,6,7,8,9,10] [.blk x (xoC k (loadS sl (opI key s) a7)) 146,Ent.bo k [(vU32 pk),hx,(ptr c 0),nv,bv,(vU32 0)],.blk c [(vU32 pg),hv,(.map (some mb))] 196,Ent.ar hv 1 he.length (List.map vU32 he),.obj mb (mP .i64 (List.map Gr.me gs7) cn7),Ent.bs 199 Gr.cells Gr.b gs7,Ent.dp grD.list gs7,Ent.dp (sltD 211).list (loadS sl (opI key s) a7),Ent.ar v1 2 (opI key s).xs.length (List.flatMap xtc (opI key s).xs),Ent.ar u1 1 (opI key s).ps.length (List.map vU16 (opI key s).ps),Ent.ar q1 3 (opI key s).sg.length (List.flatMap sgc (opI key s).sg)] [] rfl rfl hq7 (Fits.solid True.intro (Fits.same (j:=1) rfl (Fits.solid True.intro (Fits.same (j:=3) rfl (Fits.solid True.intro (Fits.solid True.intro (Fits.dpTo 6 rfl hd7 (Fits.dpTo 7 rfl hs7 (Fits.same (j:=8) rfl (Fits.same (j:=9) rfl (Fits.same (j:=10) rfl Fits.nil)))))))))))
 exact we rfl rfl<|we rfl rfl<|wa rfl<|wa rfl<|wn<|WC.ret<|WQ.out (.tmp rfl (.tmp rfl .nil)) (⟨_,_,a7,rfl,hi7,ha7,hd7.mono H6.fr.size,(fun b hb=>(hs7 b hb).imp (Nat.le_trans H6.fr.size) id),H7.sel [0,1,2,3,4,5,6,7] rfl rfl⟩)
end Go.Proofs.YtbjhccnffacbcaaGreat
