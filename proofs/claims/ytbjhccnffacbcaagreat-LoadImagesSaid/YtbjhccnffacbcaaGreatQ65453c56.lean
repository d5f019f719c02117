/- General lemmas and walks: WLoad4. No condition but what each theorem names. -/
import Derived.Test.YtbjhccnffacbcaaGreatQ9230fe84
import Derived.Test.YtbjhccnffacbcaaGreatQ7826d55e
import Derived.Test.YtbjhccnffacbcaaGreatQcb9860f8
set_option maxRecDepth 100000
set_option maxHeartbeats 8000000
namespace Go.Proofs.YtbjhccnffacbcaaGreat
open Go.Owl Go.Spec
abbrev zSl:List UInt8:=slS [107] 0 [] [7] false 256 [Sg.mk 256 5 [49,50,51,52,53,54,55,56]]
theorem one24_ok  (w:World) :
  Calls Tryz.prog 71 #[] w (fun e w'=> ∃p q,e=.returned (.agg #[vU32 0,.slice none 0 0,p,.bool false,vU32 256,q])∧Owl.Own [] w w' [.row p 203 1 [(7:UInt16)].length (List.map vU16 [7]),.row q 116 3 [Sg.mk 256 5 [49,50,51,52,53,54,55,56]].length (List.flatMap sgc [Sg.mk 256 5 [49,50,51,52,53,54,55,56]])]):=by
 refine enter (args:=[]) Tryz.func71 rfl rfl ?_
 have H0:Owl.Own [] w w []:=Own.start w []
 exact ws<|wo (op_alloc H0 Fa.I43 (fun b1 w1 H1=>(wn<|ws<|wo (op_buildSlice (cs:=[_]) H1 Tryz.underlying38 Fa.I203 rfl rfl rfl rfl (by decide) (by decide) (fun b2 w2 H2=>(wo (op_build (cs:=[_,_,_,_]) Fa.I40 Fa.PL40 rfl rfl<|wo (op_build (cs:=[_,_,_]) Fa.I116 Fa.PL116 rfl rfl<|wo (op_buildSlice (cs:=[_,_,_]) H2 Tryz.underlying41 Fa.I116 rfl rfl rfl rfl (by decide) (by decide) (fun b3 w3 H3=>(wo (op_build (cs:=[_,_,_,_,_,_]) Fa.I43 Fa.PL43 rfl rfl<|wo (op_storeBW (i:=0) H3 rfl rfl rfl rfl (one_cons rfl (one_cons rfl (one_cons (Arr.one (H3.arrR (i:=1) rfl)) (one_cons rfl (one_cons rfl (one_cons (Arr.one (H3.arrR (i:=2) rfl)) one_nil)))))) Fa.I43 (fun w4 H4=>(wn<|WC.ret<|WQ.out (.cell rfl (run_loadVarS (vs:=[_,_,_,_,_,_]) (H4.cells (i:=0) rfl rfl) Tryz.underlying43 rfl Fa.I43 rfl) .nil) (⟨_,_,rfl,H4.sel [1,2] rfl rfl⟩))))))))))))))))
theorem alive24_ok  (w:World) :
  Calls Tryz.prog 31 #[] w (fun e w'=>e=.returned (.bool true)∧Fr [] w w'):=by
 refine enter (args:=[]) Tryz.func31 rfl rfl ?_
 have H0:Owl.Own [] w w []:=Own.start w []
 have hso:=seal_open (key:=[107]) (pg:=0) (xs:=[]) (ps:=[7]) (c:=false) (en:=256) (sg:=[Sg.mk 256 5 [49,50,51,52,53,54,55,56]]) (by decide +kernel) (by decide)
 have hO0:opC [107] zSl=0:=hso.1
 have hI:opI [107] zSl=_:=hso.2
 refine ws<|wa rfl<|wn<|ws<|wo (op_build (cs:=[_,_]) Fa.I75 Fa.PL75 rfl rfl<|wo (op_callF Fa.C37 rfl ((exoNewL_ok 9 _ ([]:List UInt32) _ (Arr.nil _ _) rfl (by simp)).mono (fun e w1 hq=>?_))))
 obtain ⟨x1,k1,hx1,nv1,bv1,c1,yv1,mb1,rfl,hk1,hv1,hq1⟩:=hq
 refine ⟨_,rfl,?_⟩
 have H1:Owl.Own [] w w1 [.blk x1 (xoC k1 (List.replicate 9 Slt.zero)) 146,Ent.bo k1 [(vU32 9),hx1,(ptr c1 0),nv1,bv1,(vU32 0)],.blk c1 [(vU32 9),yv1,(.map (some mb1))] 196,Ent.ar yv1 1 ([]:List UInt32).length (List.map vU32 ([]:List UInt32)),.obj mb1 (mP .i64 (List.map Gr.me []) 0),Ent.bs 199 Gr.cells Gr.b [],Ent.dp grD.list [],Ent.dp (sltD 211).list (List.replicate 9 Slt.zero)]:=H0.splice [] [] [.blk x1 (xoC k1 (List.replicate 9 Slt.zero)) 146,Ent.bo k1 [(vU32 9),hx1,(ptr c1 0),nv1,bv1,(vU32 0)],.blk c1 [(vU32 9),yv1,(.map (some mb1))] 196,Ent.ar yv1 1 ([]:List UInt32).length (List.map vU32 ([]:List UInt32)),.obj mb1 (mP .i64 (List.map Gr.me []) 0),Ent.bs 199 Gr.cells Gr.b [],Ent.dp grD.list [],Ent.dp (sltD 211).list (List.replicate 9 Slt.zero)] rfl rfl hq1 (Fits.solid True.intro (Fits.fresh (fun b hb=>by cases List.mem_singleton.1 hb; exact hk1) (Fits.solid True.intro (Fits.fresh hv1 (Fits.solid True.intro (Fits.solid True.intro (Fits.fresh (fun b hb=>by cases hb) (Fits.fresh (fun b hb=>by cases slt_zero_ft b hb) Fits.nil))))))))
 refine wm rfl<|we rfl rfl<|we rfl rfl<|wa rfl<|wa rfl<|wn<|ws<|wo (op_callF Fa.C71 rfl ((one24_ok _).mono (fun e w2 hq=>?_)))
 obtain ⟨p2,q2,rfl,hq2⟩:=hq
 refine ⟨_,rfl,?_⟩
 have H2:Owl.Own [] w w2 [.blk x1 (xoC k1 (List.replicate 9 Slt.zero)) 146,Ent.bo k1 [(vU32 9),hx1,(ptr c1 0),nv1,bv1,(vU32 0)],.blk c1 [(vU32 9),yv1,(.map (some mb1))] 196,Ent.ar yv1 1 ([]:List UInt32).length (List.map vU32 ([]:List UInt32)),.obj mb1 (mP .i64 (List.map Gr.me []) 0),Ent.bs 199 Gr.cells Gr.b [],Ent.dp grD.list [],Ent.dp (sltD 211).list (List.replicate 9 Slt.zero),.row p2 203 1 [7].length (List.map vU16 [7]),.row q2 116 3 [Sg.mk 256 5 [49,50,51,52,53,54,55,56]].length (List.flatMap sgc [Sg.mk 256 5 [49,50,51,52,53,54,55,56]])]:=H1.splice [] [] [.row p2 203 1 [7].length (List.map vU16 [7]),.row q2 116 3 [Sg.mk 256 5 [49,50,51,52,53,54,55,56]].length (List.flatMap sgc [Sg.mk 256 5 [49,50,51,52,53,54,55,56]])] rfl rfl hq2 (Fits.solid True.intro (Fits.solid True.intro Fits.nil))
 refine wo (op_callF Fa.C18 rfl ((seal_ok ([107]) 0 _ _ _ [] ([7]) false 256 ([Sg.mk 256 5 [49,50,51,52,53,54,55,56]]) _ (Arr.nil _ _) (H2.arrR (i:=8) rfl) (H2.arrR (i:=9) rfl) (by decide +kernel) (by decide +kernel) (by decide +kernel) (by decide +kernel) (by decide +kernel) (by decide +kernel)).mono (fun e w3 hq=>?_)))
 obtain ⟨rfl,hf3⟩:=hq
 refine ⟨_,rfl,?_⟩
 have H3:=H2.fr' hf3
 refine wm rfl<|we rfl rfl<|we rfl rfl<|wa rfl<|wa rfl<|wn<|WC.seq<|ws<|wm rfl<|wo (op_neqN (b:=0) rfl rfl<|wm rfl<|WL.yes rfl rfl rfl (by first | rfl | kernel_rfl | (rw [hI]; kernel_rfl)) rfl (op_move rfl ?_))
 refine WL.yes rfl rfl rfl (by first | rfl | kernel_rfl | (rw [hI]; kernel_rfl)) rfl (op_neqN (b:=0) rfl rfl ?_)
 refine wo (op_pickF rfl (by first | rfl | kernel_rfl | (rw [hI]; kernel_rfl)) rfl ?_)
 refine wm rfl<|WL.yes rfl rfl rfl (by first | rfl | kernel_rfl | (rw [hI]; kernel_rfl)) rfl (op_move rfl ?_)
 refine WL.yes rfl rfl rfl (by first | rfl | kernel_rfl | (rw [hI]; kernel_rfl)) rfl (op_eqlPN Fa.PT47 rfl rfl ?_)
 refine wo (op_pickF rfl (by first | rfl | kernel_rfl | (rw [hI]; kernel_rfl)) rfl ?_)
 refine wm rfl<|wY rfl (op_move rfl<|wY rfl (op_lenStr Tryz.underlying9 rfl<|wY rfl (op_lssN (b:=1) rfl rfl<|wo (op_pickF rfl rfl rfl<|wn<|WC.no rfl (by kernel_rfl)<|WC.skip<|WQ.next<|ws<|wm rfl<|wm rfl<|wo (op_callF Fa.C21 rfl ((lload_yes x1 k1 9 hx1 nv1 bv1 c1 9 yv1 ([]:List UInt32) mb1 0 ([]) (List.replicate 9 Slt.zero) ([]) ([107]) zSl _ _ (H3.part [0,1,2,3,4,5,6,7] rfl rfl) (CapR.nil 0) (by rfl) (by decide +kernel) (by decide +kernel) (by decide +kernel) hO0 (by decide) (by rw [hI]; kernel_rfl)).mono (fun e w4 hq=>?_)))))))
 obtain ⟨cn4,gs4,a4,rfl,hi4,ha4,hd4,hs4,hq4⟩:=hq
 refine ⟨_,rfl,?_⟩
 have H4:Owl.Own [] w w4 [.blk x1 (xoC k1 (loadS (List.replicate 9 Slt.zero) (opI ([107]) zSl) a4)) 146,Ent.bo k1 [(vU32 9),hx1,(ptr c1 0),nv1,bv1,(vU32 0)],.blk c1 [(vU32 9),yv1,(.map (some mb1))] 196,Ent.ar yv1 1 ([]:List UInt32).length (List.map vU32 ([]:List UInt32)),.obj mb1 (mP .i64 (List.map Gr.me gs4) cn4),Ent.bs 199 Gr.cells Gr.b gs4,Ent.dp grD.list gs4,Ent.dp (sltD 211).list (loadS (List.replicate 9 Slt.zero) (opI ([107]) zSl) a4),.row p2 203 1 [7].length (List.map vU16 [7]),.row q2 116 3 [Sg.mk 256 5 [49,50,51,52,53,54,55,56]].length (List.flatMap sgc [Sg.mk 256 5 [49,50,51,52,53,54,55,56]])]:=H3.splice [0,1,2,3,4,5,6,7] [.blk x1 (xoC k1 (loadS (List.replicate 9 Slt.zero) (opI ([107]) zSl) a4)) 146,Ent.bo k1 [(vU32 9),hx1,(ptr c1 0),nv1,bv1,(vU32 0)],.blk c1 [(vU32 9),yv1,(.map (some mb1))] 196,Ent.ar yv1 1 ([]:List UInt32).length (List.map vU32 ([]:List UInt32)),.obj mb1 (mP .i64 (List.map Gr.me gs4) cn4),Ent.bs 199 Gr.cells Gr.b gs4,Ent.dp grD.list gs4,Ent.dp (sltD 211).list (loadS (List.replicate 9 Slt.zero) (opI ([107]) zSl) a4)] [] rfl rfl hq4 (Fits.solid True.intro (Fits.same (j:=1) rfl (Fits.solid True.intro (Fits.same (j:=3) rfl (Fits.solid True.intro (Fits.solid True.intro (Fits.dpTo 6 rfl hd4 (Fits.dpTo 7 rfl hs4 Fits.nil))))))))
 refine wm rfl<|we rfl rfl<|we rfl rfl<|wa rfl<|wa rfl<|wn<|ws<|wm rfl<|wm rfl<|wo (op_callF Fa.C21 rfl ((lload_no x1 k1 9 hx1 nv1 bv1 c1 9 yv1 ([]:List UInt32) mb1 cn4 gs4 (loadS (List.replicate 9 Slt.zero) (opI ([107]) zSl) a4) (loadG 9 ([]:List UInt32) ([]) (List.replicate 9 Slt.zero) (opI ([107]) zSl)) ([107]) zSl _ _ (H4.part [0,1,2,3,4,5,6,7] rfl rfl) hi4 (loadS_len rfl) (by decide +kernel) (by decide +kernel) (by decide +kernel) hO0 (fun h=>by rw [hI,show ffS _=2 from by kernel_rfl] at h; cases h) (fun h=>by rw [hI,show loadE _ _ _ _ _=190 from by kernel_rfl] at h; cases h)).mono (fun e w5 hq=>?_)))
 obtain ⟨cn5,gs5,rfl,hi5,hd5,hq5⟩:=hq
 refine ⟨_,rfl,?_⟩
 have H5:Owl.Own [] w w5 [.blk x1 (xoC k1 (loadS (List.replicate 9 Slt.zero) (opI ([107]) zSl) a4)) 146,Ent.bo k1 [(vU32 9),hx1,(ptr c1 0),nv1,bv1,(vU32 0)],.blk c1 [(vU32 9),yv1,(.map (some mb1))] 196,Ent.ar yv1 1 ([]:List UInt32).length (List.map vU32 ([]:List UInt32)),.obj mb1 (mP .i64 (List.map Gr.me gs5) cn5),Ent.bs 199 Gr.cells Gr.b gs5,Ent.dp grD.list gs5,Ent.dp (sltD 211).list (loadS (List.replicate 9 Slt.zero) (opI ([107]) zSl) a4),.row p2 203 1 [7].length (List.map vU16 [7]),.row q2 116 3 [Sg.mk 256 5 [49,50,51,52,53,54,55,56]].length (List.flatMap sgc [Sg.mk 256 5 [49,50,51,52,53,54,55,56]])]:=H4.splice [0,1,2,3,4,5,6,7] [.blk x1 (xoC k1 (loadS (List.replicate 9 Slt.zero) (opI ([107]) zSl) a4)) 146,Ent.bo k1 [(vU32 9),hx1,(ptr c1 0),nv1,bv1,(vU32 0)],.blk c1 [(vU32 9),yv1,(.map (some mb1))] 196,Ent.ar yv1 1 ([]:List UInt32).length (List.map vU32 ([]:List UInt32)),.obj mb1 (mP .i64 (List.map Gr.me gs5) cn5),Ent.bs 199 Gr.cells Gr.b gs5,Ent.dp grD.list gs5,Ent.dp (sltD 211).list (loadS (List.replicate 9 Slt.zero) (opI ([107]) zSl) a4)] [] rfl rfl hq5 (Fits.solid True.intro (Fits.same (j:=1) rfl (Fits.solid True.intro (Fits.same (j:=3) rfl (Fits.solid True.intro (Fits.solid True.intro (Fits.dpTo 6 rfl hd5 (Fits.same (j:=7) rfl Fits.nil))))))))
 refine wm rfl<|we rfl rfl<|we rfl rfl<|wa rfl<|wa rfl<|wn<|WC.seq<|WC.drawn 21 rfl Fa.M H5 ?_
 intro w6 H6
 refine WD.early (i:=0) rfl rfl rfl rfl rfl (by kernel_rfl)<|WD.early (i:=1) rfl rfl rfl rfl rfl (by kernel_rfl)<|WD.early (i:=2) rfl rfl rfl rfl rfl (by kernel_rfl)<|WD.early (i:=6) rfl rfl rfl rfl rfl (by kernel_rfl)<|WD.early (i:=7) rfl rfl rfl rfl rfl (by kernel_rfl)<|WD.named (fun W hW=>?_)
 let e7:List (Nat × Value)→List (Nat × Value):=fun r=>(0,(.bool false))::(1,(ptr x1 0))::(2,(vN 0))::(3,(str zSl))::(4,(vN (imE 0 [] ([7]) 256 ([Sg.mk 256 5 [49,50,51,52,53,54,55,56]]))))::(5,(vN (ffS (List.replicate 9 Slt.zero))))::(6,(vN 0))::(7,(vN 0))::(8,(vN (loadE 9 ([]:List UInt32) (loadG 9 ([]:List UInt32) ([]) (List.replicate 9 Slt.zero) (opI ([107]) zSl)) (loadS (List.replicate 9 Slt.zero) (opI ([107]) zSl) a4) (opI ([107]) zSl))))::(13,(.tuple #[(ptr x1 0),(vN 0)]))::(14,(.agg #[(vU32 9),(.slice none 0 0)]))::(15,(.tuple #[(ptr x1 0),(vN 0)]))::(16,(ptr x1 0))::(17,(vN 0))::(18,(.tuple #[(str zSl),(vN (imE 0 [] ([7]) 256 ([Sg.mk 256 5 [49,50,51,52,53,54,55,56]])))]))::(19,(.agg #[(vU32 0),(.slice none 0 0),p2,(.bool false),(vU32 256),q2]))::(20,(.tuple #[(str zSl),(vN (imE 0 [] ([7]) 256 ([Sg.mk 256 5 [49,50,51,52,53,54,55,56]])))]))::(21,(str zSl))::(22,(vN (imE 0 [] ([7]) 256 ([Sg.mk 256 5 [49,50,51,52,53,54,55,56]]))))::(23,(vN 0))::(24,(.bool (decide (0≠0))))::(25,(.bool (decide (0≠0))))::(26,(vN (imE 0 [] ([7]) 256 ([Sg.mk 256 5 [49,50,51,52,53,54,55,56]]))))::(27,(.bool (decide ((imE 0 [] ([7]) 256 ([Sg.mk 256 5 [49,50,51,52,53,54,55,56]]))≠0))))::(28,(.bool (decide ((imE 0 [] ([7]) 256 ([Sg.mk 256 5 [49,50,51,52,53,54,55,56]]))≠0))))::(29,(.bool (decide ((imE 0 [] ([7]) 256 ([Sg.mk 256 5 [49,50,51,52,53,54,55,56]]))≠0))))::(30,(ptr x1 0))::(31,(.bool false))::(32,(.bool false))::(33,(.bool false))::(34,(str zSl))::(35,(vN zSl.length))::(36,(.bool (decide (zSl.length<1))))::(37,(.bool (decide (zSl.length<1))))::(38,(.tuple #[(vN (ffS (List.replicate 9 Slt.zero))),(vN 0)]))::(39,(ptr x1 0))::(40,(str zSl))::(41,(.tuple #[(vN (ffS (List.replicate 9 Slt.zero))),(vN 0)]))::(42,(vN (ffS (List.replicate 9 Slt.zero))))::(43,(vN 0))::(44,(.tuple #[(vN 0),(vN (loadE 9 ([]:List UInt32) (loadG 9 ([]:List UInt32) ([]) (List.replicate 9 Slt.zero) (opI ([107]) zSl)) (loadS (List.replicate 9 Slt.zero) (opI ([107]) zSl) a4) (opI ([107]) zSl)))]))::(45,(ptr x1 0))::(46,(str zSl))::(47,(.tuple #[(vN 0),(vN (loadE 9 ([]:List UInt32) (loadG 9 ([]:List UInt32) ([]) (List.replicate 9 Slt.zero) (opI ([107]) zSl)) (loadS (List.replicate 9 Slt.zero) (opI ([107]) zSl) a4) (opI ([107]) zSl)))]))::(48,(vN 0))::(49,(vN (loadE 9 ([]:List UInt32) (loadG 9 ([]:List UInt32) ([]) (List.replicate 9 Slt.zero) (opI ([107]) zSl)) (loadS (List.replicate 9 Slt.zero) (opI ([107]) zSl) a4) (opI ([107]) zSl))))::r
 let a7_0:Ent:=.blk x1 (xoC k1 (loadS (List.replicate 9 Slt.zero) (opI ([107]) zSl) a4)) 146
 let a7_1:Ent:=Ent.bo k1 [(vU32 9),hx1,(ptr c1 0),nv1,bv1,(vU32 0)]
 let a7_2:Ent:=.blk c1 [(vU32 9),yv1,(.map (some mb1))] 196
 let a7_3:Ent:=Ent.ar yv1 1 ([]:List UInt32).length (List.map vU32 ([]:List UInt32))
 let a7_4:Ent:=.obj mb1 (mP .i64 (List.map Gr.me gs5) cn5)
 let a7_5:Ent:=Ent.bs 199 Gr.cells Gr.b gs5
 let a7_6:Ent:=Ent.dp grD.list gs5
 let a7_7:Ent:=Ent.dp (sltD 211).list (loadS (List.replicate 9 Slt.zero) (opI ([107]) zSl) a4)
 let a7_8:Ent:=.row p2 203 1 [7].length (List.map vU16 [7])
 let a7_9:Ent:=.row q2 116 3 [Sg.mk 256 5 [49,50,51,52,53,54,55,56]].length (List.flatMap sgc [Sg.mk 256 5 [49,50,51,52,53,54,55,56]])
 have st7_36: ∀(b17241:_) (wS:World),Owl.Own [] w wS [a7_0,a7_1,a7_2,a7_3,a7_4,a7_5,a7_6,a7_7,a7_8,a7_9,.row (.slice (some ⟨b17241,0,none⟩) 1 1) 5 1 1 (List.map vU8 [((zSl.getD (zSl.length-1) 0) ^^^ (1:UInt8))])]→W 0 (bz 21 2097151) (e7 [(10,(vN (opC ([107]) ((zSl.take (zSl.length-1))++[((zSl.getD (zSl.length-1) 0) ^^^ (1:UInt8))]))))]) wS:=by
  intro b17241 wS HS
  rw [hW]
  refine WD.done (by kernel_rfl)<|WQ.next<|ws<|wm rfl<|wo (op_callF Fa.C21 rfl ((lload_nil ([107]) zSl _).mono (fun e w8 hq=>?_)))
  obtain ⟨rfl,hf8⟩:=hq
  refine ⟨_,rfl,?_⟩
  have H8:=HS.fr' hf8
  refine wm rfl<|we rfl rfl<|we rfl rfl<|wa rfl<|wa rfl<|wn<|ws<|wm rfl<|wo (op_eqlN (b:=1) rfl rfl<|wm rfl<|WL.yes rfl rfl rfl (by first | rfl | kernel_rfl | (rw [hI]; kernel_rfl)) rfl (op_move rfl ?_))
  refine WL.yes rfl rfl rfl (by first | rfl | kernel_rfl | (rw [hI]; kernel_rfl)) rfl (op_eqlN (b:=0) rfl rfl ?_)
  refine wo (op_pickT rfl (by first | rfl | kernel_rfl | (rw [hI]; kernel_rfl)) rfl ?_)
  refine wm rfl<|WL.yes rfl rfl rfl (by decide) rfl (op_move rfl<|WL.yes rfl rfl rfl (by decide) rfl (op_eqlN (b:=190) rfl rfl<|wo (op_pickT rfl (by decide) rfl<|wm rfl<|WL.yes rfl rfl rfl (by first | rfl | kernel_rfl | (rw [hI]; kernel_rfl)) rfl (op_move rfl ?_))))
  refine WL.yes rfl rfl rfl (by first | rfl | kernel_rfl | (rw [hI]; kernel_rfl)) rfl (op_eqlN (b:=170) rfl rfl ?_)
  refine wo (op_pickT rfl (by first | rfl | kernel_rfl | (rw [hI]; kernel_rfl)) rfl ?_)
  refine wm rfl<|WL.yes rfl rfl rfl (by first | rfl | kernel_rfl | (rw [hI]; kernel_rfl)) rfl (op_move rfl ?_)
  refine WL.yes rfl rfl rfl (by first | rfl | kernel_rfl | (rw [hI]; kernel_rfl)) rfl (op_eqlN (b:=1) rfl rfl ?_)
  refine wo (op_pickT rfl (by first | rfl | kernel_rfl | (rw [hI]; kernel_rfl)) rfl ?_)
  refine wm rfl<|WL.yes rfl rfl rfl (by decide) rfl (op_move rfl<|WL.yes rfl rfl rfl (by decide) rfl (op_callF Fa.C22 rfl ((xfree_ok x1 k1 9 hx1 nv1 bv1 c1 9 yv1 ([]:List UInt32) mb1 cn5 gs5 (loadS (List.replicate 9 Slt.zero) (opI ([107]) zSl) a4) (loadG 9 ([]:List UInt32) (loadG 9 ([]:List UInt32) ([]) (List.replicate 9 Slt.zero) (opI ([107]) zSl)) (loadS (List.replicate 9 Slt.zero) (opI ([107]) zSl) a4) (opI ([107]) zSl)) _ (H8.cellsAt (i:=0) rfl) (H8.cellsAtO (i:=1) rfl) (H8.cellsAt (i:=2) rfl) (H8.arrO (i:=3) rfl) (H8.mp (i:=4) rfl) (H8.bsG (i:=5) rfl) (H8.dpO (i:=6) rfl) (H8.dpO (i:=7) rfl) hi5).mono (fun e w9 hq=>?_))))
  obtain ⟨rfl,hf9⟩:=hq
  refine ⟨_,rfl,?_⟩
  have H9:=H8.fr' hf9
  refine WL.yes rfl rfl rfl (by decide) rfl (op_eqlU32 (b:=8) rfl rfl<|wo (op_pickT rfl (by decide) rfl<|wm rfl<|WL.yes rfl rfl rfl (by first | rfl | kernel_rfl | (rw [hI]; kernel_rfl)) rfl (op_move rfl ?_)))
  refine WL.yes rfl rfl rfl (by first | rfl | kernel_rfl | (rw [hI]; kernel_rfl)) rfl (op_callF Fa.C72 rfl ((xstate_ok x1 k1 (loadS (List.replicate 9 Slt.zero) (opI ([107]) zSl) a4) 1 a4 _ (H9.cellsAt (i:=0) rfl) (slt_ev (i:=1) (H9.dpO (i:=7) rfl) (by rw [hI]; rfl)).1 (loadS_len rfl) (by rw [hI]; kernel_rfl) (by rw [hI]; rfl)).mono (fun e w10 hq=>?_)))
  obtain ⟨rfl,hf10⟩:=hq
  refine ⟨_,rfl,?_⟩
  have H10:=H9.fr' hf10
  refine WL.yes rfl rfl rfl (by first | rfl | kernel_rfl | (rw [hI]; kernel_rfl)) rfl (op_field1 rfl Fa.F120_0 rfl ?_)
  refine WL.yes rfl rfl rfl (by first | rfl | kernel_rfl | (rw [hI]; kernel_rfl)) rfl (op_eqlU8 (a:=2) (b:=2) rfl rfl ?_)
  refine wo (op_pickT rfl (by first | rfl | kernel_rfl | (rw [hI]; kernel_rfl)) rfl ?_)
  exact wa rfl<|wn<|WC.ret<|WQ.out (.tmp rfl .nil) (⟨rfl,H10.fr⟩)
 have st7_35: ∀(b17241:_) (wS:World),Owl.Own [] w wS [a7_0,a7_1,a7_2,a7_3,a7_4,a7_5,a7_6,a7_7,a7_8,a7_9,.row (.slice (some ⟨b17241,0,none⟩) 1 1) 5 1 1 (List.map vU8 [((zSl.getD (zSl.length-1) 0) ^^^ (1:UInt8))])]→W 1 (bz 21 1048575) (e7 [(68,(vN (opC ([107]) ((zSl.take (zSl.length-1))++[((zSl.getD (zSl.length-1) 0) ^^^ (1:UInt8))]))))]) wS:=by
  intro b17241 wS HS
  rw [hW]
  refine wd1 20 ?_
  ·
   exact kS 20 rfl (op_assign rfl<|WD.cw hW (st7_36 b17241 wS HS))
 have st7_33: ∀(b17241:_) (wS:World),Owl.Own [] w wS [a7_0,a7_1,a7_2,a7_3,a7_4,a7_5,a7_6,a7_7,a7_8,a7_9,.row (.slice (some ⟨b17241,0,none⟩) 1 1) 5 1 1 (List.map vU8 [((zSl.getD (zSl.length-1) 0) ^^^ (1:UInt8))])]→W 2 (bz 21 524287) (e7 [(67,(vN 0)),(68,(vN (opC ([107]) ((zSl.take (zSl.length-1))++[((zSl.getD (zSl.length-1) 0) ^^^ (1:UInt8))]))))]) wS:=by
  intro b17241 wS HS
  rw [hW]
  refine wd1 19 ?_
  ·
   exact kS 19 rfl (op_assign rfl<|WD.cw hW (st7_35 b17241 wS HS))
 have st7_34: ∀(b17241:_) (wS:World),Owl.Own [] w wS [a7_0,a7_1,a7_2,a7_3,a7_4,a7_5,a7_6,a7_7,a7_8,a7_9,.row (.slice (some ⟨b17241,0,none⟩) 1 1) 5 1 1 (List.map vU8 [((zSl.getD (zSl.length-1) 0) ^^^ (1:UInt8))])]→W 2 (bz 21 786431) (e7 [(50,(.tuple #[(vN 0),(vN (opC ([107]) ((zSl.take (zSl.length-1))++[((zSl.getD (zSl.length-1) 0) ^^^ (1:UInt8))])))]))]) wS:=by
  intro b17241 wS HS
  rw [hW]
  refine wd1 18 ?_
  ·
   exact kS 18 rfl (op_extract rfl rfl<|WD.cw hW (st7_35 b17241 wS HS))
 have st7_31: ∀(b17241:_) (wS:World),Owl.Own [] w wS [a7_0,a7_1,a7_2,a7_3,a7_4,a7_5,a7_6,a7_7,a7_8,a7_9,.row (.slice (some ⟨b17241,0,none⟩) 1 1) 5 1 1 (List.map vU8 [((zSl.getD (zSl.length-1) 0) ^^^ (1:UInt8))])]→W 3 (bz 21 262143) (e7 [(50,(.tuple #[(vN 0),(vN (opC ([107]) ((zSl.take (zSl.length-1))++[((zSl.getD (zSl.length-1) 0) ^^^ (1:UInt8))])))])),(67,(vN 0))]) wS:=by
  intro b17241 wS HS
  rw [hW]
  refine wd2 18 19 ?_ ?_
  ·
   exact kS 18 rfl (op_extract rfl rfl<|WD.cw hW (st7_33 b17241 wS HS))
  ·
   exact kS 19 rfl (op_assign rfl<|WD.cw hW (st7_34 b17241 wS HS))
 have st7_32: ∀(b17241:_) (wS:World),Owl.Own [] w wS [a7_0,a7_1,a7_2,a7_3,a7_4,a7_5,a7_6,a7_7,a7_8,a7_9,.row (.slice (some ⟨b17241,0,none⟩) 1 1) 5 1 1 (List.map vU8 [((zSl.getD (zSl.length-1) 0) ^^^ (1:UInt8))])]→W 3 (bz 21 393215) (e7 [(50,(.tuple #[(vN 0),(vN (opC ([107]) ((zSl.take (zSl.length-1))++[((zSl.getD (zSl.length-1) 0) ^^^ (1:UInt8))])))])),(68,(vN (opC ([107]) ((zSl.take (zSl.length-1))++[((zSl.getD (zSl.length-1) 0) ^^^ (1:UInt8))]))))]) wS:=by
  intro b17241 wS HS
  rw [hW]
  refine wd1 17 ?_
  ·
   exact kS 17 rfl (op_extract rfl rfl<|WD.cw hW (st7_33 b17241 wS HS))
 have st7_30: ∀(b17241:_) (wS:World),Owl.Own [] w wS [a7_0,a7_1,a7_2,a7_3,a7_4,a7_5,a7_6,a7_7,a7_8,a7_9,.row (.slice (some ⟨b17241,0,none⟩) 1 1) 5 1 1 (List.map vU8 [((zSl.getD (zSl.length-1) 0) ^^^ (1:UInt8))])]→W 4 (bz 21 131071) (e7 [(50,(.tuple #[(vN 0),(vN (opC ([107]) ((zSl.take (zSl.length-1))++[((zSl.getD (zSl.length-1) 0) ^^^ (1:UInt8))])))]))]) wS:=by
  intro b17241 wS HS
  rw [hW]
  refine wd2 17 18 ?_ ?_
  ·
   exact kS 17 rfl (op_extract rfl rfl<|WD.cw hW (st7_31 b17241 wS HS))
  ·
   exact kS 18 rfl (op_extract rfl rfl<|WD.cw hW (st7_32 b17241 wS HS))
 have st7_29: ∀(b17241:_) (wS:World),Owl.Own [] w wS [a7_0,a7_1,a7_2,a7_3,a7_4,a7_5,a7_6,a7_7,a7_8,a7_9,.row (.slice (some ⟨b17241,0,none⟩) 1 1) 5 1 1 (List.map vU8 [((zSl.getD (zSl.length-1) 0) ^^^ (1:UInt8))])]→W 5 (bz 21 65535) (e7 [(66,(.tuple #[(vN 0),(vN (opC ([107]) ((zSl.take (zSl.length-1))++[((zSl.getD (zSl.length-1) 0) ^^^ (1:UInt8))])))]))]) wS:=by
  intro b17241 wS HS
  rw [hW]
  refine wd1 16 ?_
  ·
   exact kS 16 rfl (op_move rfl<|WD.cw hW (st7_30 b17241 wS HS))
 have st7_28: ∀(b17241:_) (wS:World),Owl.Own [] w wS [a7_0,a7_1,a7_2,a7_3,a7_4,a7_5,a7_6,a7_7,a7_8,a7_9,.row (.slice (some ⟨b17241,0,none⟩) 1 1) 5 1 1 (List.map vU8 [((zSl.getD (zSl.length-1) 0) ^^^ (1:UInt8))])]→W 6 (bz 21 32767) (e7 [(51,(ptr x1 0)),(65,(str ((zSl.take (zSl.length-1))++[((zSl.getD (zSl.length-1) 0) ^^^ (1:UInt8))])))]) wS:=by
  intro b17241 wS HS
  rw [hW]
  refine wd1 15 ?_
  ·
   refine kS 15 rfl (op_callF Fa.C21 rfl ((lload_bad x1 k1 9 hx1 nv1 bv1 c1 9 yv1 ([]:List UInt32) mb1 cn5 gs5 (loadS (List.replicate 9 Slt.zero) (opI ([107]) zSl) a4) (loadG 9 ([]:List UInt32) (loadG 9 ([]:List UInt32) ([]) (List.replicate 9 Slt.zero) (opI ([107]) zSl)) (loadS (List.replicate 9 Slt.zero) (opI ([107]) zSl) a4) (opI ([107]) zSl)) ([107]) ((zSl.take (zSl.length-1))++[((zSl.getD (zSl.length-1) 0) ^^^ (1:UInt8))]) _ _ (HS.part [0,1,2,3,4,5,6,7] rfl rfl) hi5 (loadS_len rfl) (by decide +kernel) (by decide +kernel) (by decide +kernel) (by decide +kernel)).mono (fun e w17301 hq=>?_)))
   obtain ⟨rfl,hq17301⟩:=hq
   refine ⟨_,rfl,?_⟩
   have H17301:Owl.Own [] w w17301 [.blk x1 (xoC k1 (loadS (List.replicate 9 Slt.zero) (opI ([107]) zSl) a4)) 146,Ent.bo k1 [(vU32 9),hx1,(ptr c1 0),nv1,bv1,(vU32 0)],.blk c1 [(vU32 9),yv1,(.map (some mb1))] 196,Ent.ar yv1 1 ([]:List UInt32).length (List.map vU32 ([]:List UInt32)),.obj mb1 (mP .i64 (List.map Gr.me gs5) cn5),Ent.bs 199 Gr.cells Gr.b gs5,Ent.dp grD.list gs5,Ent.dp (sltD 211).list (loadS (List.replicate 9 Slt.zero) (opI ([107]) zSl) a4),.row p2 203 1 [7].length (List.map vU16 [7]),.row q2 116 3 [Sg.mk 256 5 [49,50,51,52,53,54,55,56]].length (List.flatMap sgc [Sg.mk 256 5 [49,50,51,52,53,54,55,56]]),.row (.slice (some ⟨b17241,0,none⟩) 1 1) 5 1 1 (List.map vU8 [((zSl.getD (zSl.length-1) 0) ^^^ (1:UInt8))])]:=HS.splice [0,1,2,3,4,5,6,7] [.blk x1 (xoC k1 (loadS (List.replicate 9 Slt.zero) (opI ([107]) zSl) a4)) 146,Ent.bo k1 [(vU32 9),hx1,(ptr c1 0),nv1,bv1,(vU32 0)],.blk c1 [(vU32 9),yv1,(.map (some mb1))] 196,Ent.ar yv1 1 ([]:List UInt32).length (List.map vU32 ([]:List UInt32)),.obj mb1 (mP .i64 (List.map Gr.me gs5) cn5),Ent.bs 199 Gr.cells Gr.b gs5,Ent.dp grD.list gs5,Ent.dp (sltD 211).list (loadS (List.replicate 9 Slt.zero) (opI ([107]) zSl) a4)] [] rfl rfl hq17301 (Fits.solid True.intro (Fits.same (j:=1) rfl (Fits.solid True.intro (Fits.same (j:=3) rfl (Fits.solid True.intro (Fits.solid True.intro (Fits.same (j:=6) rfl (Fits.same (j:=7) rfl Fits.nil))))))))
   exact WD.cw hW (st7_29 b17241 w17301 H17301)
 have st7_27: ∀(b17241:_) (wS:World),Owl.Own [] w wS [a7_0,a7_1,a7_2,a7_3,a7_4,a7_5,a7_6,a7_7,a7_8,a7_9,.row (.slice (some ⟨b17241,0,none⟩) 1 1) 5 1 1 (List.map vU8 [((zSl.getD (zSl.length-1) 0) ^^^ (1:UInt8))])]→W 7 (bz 21 16383) (e7 [(51,(ptr x1 0)),(56,(str (zSl.take (zSl.length-1)))),(64,(str [((zSl.getD (zSl.length-1) 0) ^^^ (1:UInt8))]))]) wS:=by
  intro b17241 wS HS
  rw [hW]
  refine wd1 14 ?_
  ·
   exact kS 14 rfl (op_addStr rfl rfl (by decide +kernel)<|WD.cw hW (st7_28 b17241 wS HS))
 have st7_25: ∀(b17241:_) (wS:World),Owl.Own [] w wS [a7_0,a7_1,a7_2,a7_3,a7_4,a7_5,a7_6,a7_7,a7_8,a7_9,.row (.slice (some ⟨b17241,0,none⟩) 1 1) 5 1 1 (List.map vU8 [((zSl.getD (zSl.length-1) 0) ^^^ (1:UInt8))])]→W 8 (bz 21 8191) (e7 [(51,(ptr x1 0)),(56,(str (zSl.take (zSl.length-1)))),(63,(.slice (some ⟨b17241,0,none⟩) 1 1))]) wS:=by
  intro b17241 wS HS
  rw [hW]
  refine wd1 13 ?_
  ·
   exact kS 13 rfl (op_bytesStr (l:=[((zSl.getD (zSl.length-1) 0) ^^^ (1:UInt8))]) Tryz.underlying114 Tryz.underlying5 Tryz.underlying9 rfl (HS.arrR (i:=10) rfl) rfl<|WD.cw hW (st7_27 b17241 wS HS))
 have st7_26: ∀(b17241:_) (wS:World),Owl.Own [] w wS [a7_0,a7_1,a7_2,a7_3,a7_4,a7_5,a7_6,a7_7,a7_8,a7_9,.row (.slice (some ⟨b17241,0,none⟩) 1 1) 5 1 1 (List.map vU8 [((zSl.getD (zSl.length-1) 0) ^^^ (1:UInt8))])]→W 8 (bz 21 16351) (e7 [(51,(ptr x1 0)),(52,(str zSl)),(55,(vN (zSl.length-1))),(64,(str [((zSl.getD (zSl.length-1) 0) ^^^ (1:UInt8))]))]) wS:=by
  intro b17241 wS HS
  rw [hW]
  refine wd1 5 ?_
  ·
   exact kS 5 rfl (op_sliceStrHi Tryz.underlying9 rfl rfl (by decide +kernel)<|WD.cw hW (st7_27 b17241 wS HS))
 have st7_22: ∀(wS:World),Owl.Own [] w wS [a7_0,a7_1,a7_2,a7_3,a7_4,a7_5,a7_6,a7_7,a7_8,a7_9]→W 9 (bz 21 4095) (e7 [(51,(ptr x1 0)),(56,(str (zSl.take (zSl.length-1)))),(62,(vU8 ((zSl.getD (zSl.length-1) 0) ^^^ (1:UInt8))))]) wS:=by
  intro wS HS
  rw [hW]
  refine wd1 12 ?_
  ·
   exact kS 12 rfl (op_buildSlice (cs:=[_]) HS Tryz.underlying114 Fa.I5 rfl rfl rfl rfl (by decide) (by decide) (fun b17241 w17241 H17241=>(WD.cw hW (st7_25 b17241 w17241 H17241))))
 have st7_23: ∀(b17241:_) (wS:World),Owl.Own [] w wS [a7_0,a7_1,a7_2,a7_3,a7_4,a7_5,a7_6,a7_7,a7_8,a7_9,.row (.slice (some ⟨b17241,0,none⟩) 1 1) 5 1 1 (List.map vU8 [((zSl.getD (zSl.length-1) 0) ^^^ (1:UInt8))])]→W 9 (bz 21 8159) (e7 [(51,(ptr x1 0)),(52,(str zSl)),(55,(vN (zSl.length-1))),(63,(.slice (some ⟨b17241,0,none⟩) 1 1))]) wS:=by
  intro b17241 wS HS
  rw [hW]
  refine wd2 5 13 ?_ ?_
  ·
   exact kS 5 rfl (op_sliceStrHi Tryz.underlying9 rfl rfl (by decide +kernel)<|WD.cw hW (st7_25 b17241 wS HS))
  ·
   exact kS 13 rfl (op_bytesStr (l:=[((zSl.getD (zSl.length-1) 0) ^^^ (1:UInt8))]) Tryz.underlying114 Tryz.underlying5 Tryz.underlying9 rfl (HS.arrR (i:=10) rfl) rfl<|WD.cw hW (st7_26 b17241 wS HS))
 have st7_24: ∀(b17241:_) (wS:World),Owl.Own [] w wS [a7_0,a7_1,a7_2,a7_3,a7_4,a7_5,a7_6,a7_7,a7_8,a7_9,.row (.slice (some ⟨b17241,0,none⟩) 1 1) 5 1 1 (List.map vU8 [((zSl.getD (zSl.length-1) 0) ^^^ (1:UInt8))])]→W 9 (bz 21 16335) (e7 [(51,(ptr x1 0)),(52,(str zSl)),(54,(vN zSl.length)),(64,(str [((zSl.getD (zSl.length-1) 0) ^^^ (1:UInt8))]))]) wS:=by
  intro b17241 wS HS
  rw [hW]
  refine wd1 4 ?_
  ·
   exact kS 4 rfl (op_subN (b:=1) rfl rfl (by decide +kernel) (by decide +kernel)<|WD.cw hW (st7_26 b17241 wS HS))
 have st7_18: ∀(wS:World),Owl.Own [] w wS [a7_0,a7_1,a7_2,a7_3,a7_4,a7_5,a7_6,a7_7,a7_8,a7_9]→W 10 (bz 21 2047) (e7 [(51,(ptr x1 0)),(56,(str (zSl.take (zSl.length-1)))),(61,(vU8 (zSl.getD (zSl.length-1) 0)))]) wS:=by
  intro wS HS
  rw [hW]
  refine wd1 11 ?_
  ·
   exact kS 11 rfl (op_xorU8 (b:=1) rfl rfl<|WD.cw hW (st7_22 wS HS))
 have st7_19: ∀(wS:World),Owl.Own [] w wS [a7_0,a7_1,a7_2,a7_3,a7_4,a7_5,a7_6,a7_7,a7_8,a7_9]→W 10 (bz 21 4063) (e7 [(51,(ptr x1 0)),(52,(str zSl)),(55,(vN (zSl.length-1))),(62,(vU8 ((zSl.getD (zSl.length-1) 0) ^^^ (1:UInt8))))]) wS:=by
  intro wS HS
  rw [hW]
  refine wd2 5 12 ?_ ?_
  ·
   exact kS 5 rfl (op_sliceStrHi Tryz.underlying9 rfl rfl (by decide +kernel)<|WD.cw hW (st7_22 wS HS))
  ·
   exact kS 12 rfl (op_buildSlice (cs:=[_]) HS Tryz.underlying114 Fa.I5 rfl rfl rfl rfl (by decide) (by decide) (fun b17241 w17241 H17241=>(WD.cw hW (st7_23 b17241 w17241 H17241))))
 have st7_20: ∀(b17241:_) (wS:World),Owl.Own [] w wS [a7_0,a7_1,a7_2,a7_3,a7_4,a7_5,a7_6,a7_7,a7_8,a7_9,.row (.slice (some ⟨b17241,0,none⟩) 1 1) 5 1 1 (List.map vU8 [((zSl.getD (zSl.length-1) 0) ^^^ (1:UInt8))])]→W 10 (bz 21 8143) (e7 [(51,(ptr x1 0)),(52,(str zSl)),(54,(vN zSl.length)),(63,(.slice (some ⟨b17241,0,none⟩) 1 1))]) wS:=by
  intro b17241 wS HS
  rw [hW]
  refine wd2 4 13 ?_ ?_
  ·
   exact kS 4 rfl (op_subN (b:=1) rfl rfl (by decide +kernel) (by decide +kernel)<|WD.cw hW (st7_23 b17241 wS HS))
  ·
   exact kS 13 rfl (op_bytesStr (l:=[((zSl.getD (zSl.length-1) 0) ^^^ (1:UInt8))]) Tryz.underlying114 Tryz.underlying5 Tryz.underlying9 rfl (HS.arrR (i:=10) rfl) rfl<|WD.cw hW (st7_24 b17241 wS HS))
 have st7_21: ∀(b17241:_) (wS:World),Owl.Own [] w wS [a7_0,a7_1,a7_2,a7_3,a7_4,a7_5,a7_6,a7_7,a7_8,a7_9,.row (.slice (some ⟨b17241,0,none⟩) 1 1) 5 1 1 (List.map vU8 [((zSl.getD (zSl.length-1) 0) ^^^ (1:UInt8))])]→W 10 (bz 21 16327) (e7 [(51,(ptr x1 0)),(52,(str zSl)),(53,(str zSl)),(64,(str [((zSl.getD (zSl.length-1) 0) ^^^ (1:UInt8))]))]) wS:=by
  intro b17241 wS HS
  rw [hW]
  refine wd1 3 ?_
  ·
   exact kS 3 rfl (op_lenStr Tryz.underlying9 rfl<|WD.cw hW (st7_24 b17241 wS HS))
 have st7_14: ∀(wS:World),Owl.Own [] w wS [a7_0,a7_1,a7_2,a7_3,a7_4,a7_5,a7_6,a7_7,a7_8,a7_9]→W 11 (bz 21 1023) (e7 [(51,(ptr x1 0)),(56,(str (zSl.take (zSl.length-1)))),(57,(str zSl)),(60,(vN (zSl.length-1)))]) wS:=by
  intro wS HS
  rw [hW]
  refine wd1 10 ?_
  ·
   exact kS 10 rfl (op_indexStrD Tryz.underlying9 rfl rfl (by decide +kernel)<|WD.cw hW (st7_18 wS HS))
 have st7_15: ∀(wS:World),Owl.Own [] w wS [a7_0,a7_1,a7_2,a7_3,a7_4,a7_5,a7_6,a7_7,a7_8,a7_9]→W 11 (bz 21 2015) (e7 [(51,(ptr x1 0)),(52,(str zSl)),(55,(vN (zSl.length-1))),(61,(vU8 (zSl.getD (zSl.length-1) 0)))]) wS:=by
  intro wS HS
  rw [hW]
  refine wd2 5 11 ?_ ?_
  ·
   exact kS 5 rfl (op_sliceStrHi Tryz.underlying9 rfl rfl (by decide +kernel)<|WD.cw hW (st7_18 wS HS))
  ·
   exact kS 11 rfl (op_xorU8 (b:=1) rfl rfl<|WD.cw hW (st7_19 wS HS))
 have st7_16: ∀(wS:World),Owl.Own [] w wS [a7_0,a7_1,a7_2,a7_3,a7_4,a7_5,a7_6,a7_7,a7_8,a7_9]→W 11 (bz 21 4047) (e7 [(51,(ptr x1 0)),(52,(str zSl)),(54,(vN zSl.length)),(62,(vU8 ((zSl.getD (zSl.length-1) 0) ^^^ (1:UInt8))))]) wS:=by
  intro wS HS
  rw [hW]
  refine wd2 4 12 ?_ ?_
  ·
   exact kS 4 rfl (op_subN (b:=1) rfl rfl (by decide +kernel) (by decide +kernel)<|WD.cw hW (st7_19 wS HS))
  ·
   exact kS 12 rfl (op_buildSlice (cs:=[_]) HS Tryz.underlying114 Fa.I5 rfl rfl rfl rfl (by decide) (by decide) (fun b17241 w17241 H17241=>(WD.cw hW (st7_20 b17241 w17241 H17241))))
 have st7_17: ∀(b17241:_) (wS:World),Owl.Own [] w wS [a7_0,a7_1,a7_2,a7_3,a7_4,a7_5,a7_6,a7_7,a7_8,a7_9,.row (.slice (some ⟨b17241,0,none⟩) 1 1) 5 1 1 (List.map vU8 [((zSl.getD (zSl.length-1) 0) ^^^ (1:UInt8))])]→W 11 (bz 21 8135) (e7 [(51,(ptr x1 0)),(52,(str zSl)),(53,(str zSl)),(63,(.slice (some ⟨b17241,0,none⟩) 1 1))]) wS:=by
  intro b17241 wS HS
  rw [hW]
  refine wd2 3 13 ?_ ?_
  ·
   exact kS 3 rfl (op_lenStr Tryz.underlying9 rfl<|WD.cw hW (st7_20 b17241 wS HS))
  ·
   exact kS 13 rfl (op_bytesStr (l:=[((zSl.getD (zSl.length-1) 0) ^^^ (1:UInt8))]) Tryz.underlying114 Tryz.underlying5 Tryz.underlying9 rfl (HS.arrR (i:=10) rfl) rfl<|WD.cw hW (st7_21 b17241 wS HS))
 have st7_10: ∀(wS:World),Owl.Own [] w wS [a7_0,a7_1,a7_2,a7_3,a7_4,a7_5,a7_6,a7_7,a7_8,a7_9]→W 12 (bz 21 511) (e7 [(51,(ptr x1 0)),(56,(str (zSl.take (zSl.length-1)))),(57,(str zSl)),(59,(vN zSl.length))]) wS:=by
  intro wS HS
  rw [hW]
  refine wd1 9 ?_
  ·
   exact kS 9 rfl (op_subN (b:=1) rfl rfl (by decide +kernel) (by decide +kernel)<|WD.cw hW (st7_14 wS HS))
 have st7_11: ∀(wS:World),Owl.Own [] w wS [a7_0,a7_1,a7_2,a7_3,a7_4,a7_5,a7_6,a7_7,a7_8,a7_9]→W 12 (bz 21 991) (e7 [(51,(ptr x1 0)),(52,(str zSl)),(55,(vN (zSl.length-1))),(57,(str zSl)),(60,(vN (zSl.length-1)))]) wS:=by
  intro wS HS
  rw [hW]
  refine wd2 5 10 ?_ ?_
  ·
   exact kS 5 rfl (op_sliceStrHi Tryz.underlying9 rfl rfl (by decide +kernel)<|WD.cw hW (st7_14 wS HS))
  ·
   exact kS 10 rfl (op_indexStrD Tryz.underlying9 rfl rfl (by decide +kernel)<|WD.cw hW (st7_15 wS HS))
 have st7_12: ∀(wS:World),Owl.Own [] w wS [a7_0,a7_1,a7_2,a7_3,a7_4,a7_5,a7_6,a7_7,a7_8,a7_9]→W 12 (bz 21 1999) (e7 [(51,(ptr x1 0)),(52,(str zSl)),(54,(vN zSl.length)),(61,(vU8 (zSl.getD (zSl.length-1) 0)))]) wS:=by
  intro wS HS
  rw [hW]
  refine wd2 4 11 ?_ ?_
  ·
   exact kS 4 rfl (op_subN (b:=1) rfl rfl (by decide +kernel) (by decide +kernel)<|WD.cw hW (st7_15 wS HS))
  ·
   exact kS 11 rfl (op_xorU8 (b:=1) rfl rfl<|WD.cw hW (st7_16 wS HS))
 have st7_13: ∀(wS:World),Owl.Own [] w wS [a7_0,a7_1,a7_2,a7_3,a7_4,a7_5,a7_6,a7_7,a7_8,a7_9]→W 12 (bz 21 4039) (e7 [(51,(ptr x1 0)),(52,(str zSl)),(53,(str zSl)),(62,(vU8 ((zSl.getD (zSl.length-1) 0) ^^^ (1:UInt8))))]) wS:=by
  intro wS HS
  rw [hW]
  refine wd2 3 12 ?_ ?_
  ·
   exact kS 3 rfl (op_lenStr Tryz.underlying9 rfl<|WD.cw hW (st7_16 wS HS))
  ·
   exact kS 12 rfl (op_buildSlice (cs:=[_]) HS Tryz.underlying114 Fa.I5 rfl rfl rfl rfl (by decide) (by decide) (fun b17241 w17241 H17241=>(WD.cw hW (st7_17 b17241 w17241 H17241))))
 have st7_6: ∀(wS:World),Owl.Own [] w wS [a7_0,a7_1,a7_2,a7_3,a7_4,a7_5,a7_6,a7_7,a7_8,a7_9]→W 13 (bz 21 255) (e7 [(51,(ptr x1 0)),(56,(str (zSl.take (zSl.length-1)))),(57,(str zSl)),(58,(str zSl))]) wS:=by
  intro wS HS
  rw [hW]
  refine wd1 8 ?_
  ·
   exact kS 8 rfl (op_lenStr Tryz.underlying9 rfl<|WD.cw hW (st7_10 wS HS))
 have st7_7: ∀(wS:World),Owl.Own [] w wS [a7_0,a7_1,a7_2,a7_3,a7_4,a7_5,a7_6,a7_7,a7_8,a7_9]→W 13 (bz 21 479) (e7 [(51,(ptr x1 0)),(52,(str zSl)),(55,(vN (zSl.length-1))),(57,(str zSl)),(59,(vN zSl.length))]) wS:=by
  intro wS HS
  rw [hW]
  refine wd2 5 9 ?_ ?_
  ·
   exact kS 5 rfl (op_sliceStrHi Tryz.underlying9 rfl rfl (by decide +kernel)<|WD.cw hW (st7_10 wS HS))
  ·
   exact kS 9 rfl (op_subN (b:=1) rfl rfl (by decide +kernel) (by decide +kernel)<|WD.cw hW (st7_11 wS HS))
 have st7_8: ∀(wS:World),Owl.Own [] w wS [a7_0,a7_1,a7_2,a7_3,a7_4,a7_5,a7_6,a7_7,a7_8,a7_9]→W 13 (bz 21 975) (e7 [(51,(ptr x1 0)),(52,(str zSl)),(54,(vN zSl.length)),(57,(str zSl)),(60,(vN (zSl.length-1)))]) wS:=by
  intro wS HS
  rw [hW]
  refine wd2 4 10 ?_ ?_
  ·
   exact kS 4 rfl (op_subN (b:=1) rfl rfl (by decide +kernel) (by decide +kernel)<|WD.cw hW (st7_11 wS HS))
  ·
   exact kS 10 rfl (op_indexStrD Tryz.underlying9 rfl rfl (by decide +kernel)<|WD.cw hW (st7_12 wS HS))
 have st7_9: ∀(wS:World),Owl.Own [] w wS [a7_0,a7_1,a7_2,a7_3,a7_4,a7_5,a7_6,a7_7,a7_8,a7_9]→W 13 (bz 21 1991) (e7 [(51,(ptr x1 0)),(52,(str zSl)),(53,(str zSl)),(61,(vU8 (zSl.getD (zSl.length-1) 0)))]) wS:=by
  intro wS HS
  rw [hW]
  refine wd2 3 11 ?_ ?_
  ·
   exact kS 3 rfl (op_lenStr Tryz.underlying9 rfl<|WD.cw hW (st7_12 wS HS))
  ·
   exact kS 11 rfl (op_xorU8 (b:=1) rfl rfl<|WD.cw hW (st7_13 wS HS))
 have st7_3: ∀(wS:World),Owl.Own [] w wS [a7_0,a7_1,a7_2,a7_3,a7_4,a7_5,a7_6,a7_7,a7_8,a7_9]→W 14 (bz 21 223) (e7 [(51,(ptr x1 0)),(52,(str zSl)),(55,(vN (zSl.length-1))),(57,(str zSl)),(58,(str zSl))]) wS:=by
  intro wS HS
  rw [hW]
  refine wd2 5 8 ?_ ?_
  ·
   exact kS 5 rfl (op_sliceStrHi Tryz.underlying9 rfl rfl (by decide +kernel)<|WD.cw hW (st7_6 wS HS))
  ·
   exact kS 8 rfl (op_lenStr Tryz.underlying9 rfl<|WD.cw hW (st7_7 wS HS))
 have st7_4: ∀(wS:World),Owl.Own [] w wS [a7_0,a7_1,a7_2,a7_3,a7_4,a7_5,a7_6,a7_7,a7_8,a7_9]→W 14 (bz 21 463) (e7 [(51,(ptr x1 0)),(52,(str zSl)),(54,(vN zSl.length)),(57,(str zSl)),(59,(vN zSl.length))]) wS:=by
  intro wS HS
  rw [hW]
  refine wd2 4 9 ?_ ?_
  ·
   exact kS 4 rfl (op_subN (b:=1) rfl rfl (by decide +kernel) (by decide +kernel)<|WD.cw hW (st7_7 wS HS))
  ·
   exact kS 9 rfl (op_subN (b:=1) rfl rfl (by decide +kernel) (by decide +kernel)<|WD.cw hW (st7_8 wS HS))
 have st7_5: ∀(wS:World),Owl.Own [] w wS [a7_0,a7_1,a7_2,a7_3,a7_4,a7_5,a7_6,a7_7,a7_8,a7_9]→W 14 (bz 21 967) (e7 [(51,(ptr x1 0)),(52,(str zSl)),(53,(str zSl)),(57,(str zSl)),(60,(vN (zSl.length-1)))]) wS:=by
  intro wS HS
  rw [hW]
  refine wd2 3 10 ?_ ?_
  ·
   exact kS 3 rfl (op_lenStr Tryz.underlying9 rfl<|WD.cw hW (st7_8 wS HS))
  ·
   exact kS 10 rfl (op_indexStrD Tryz.underlying9 rfl rfl (by decide +kernel)<|WD.cw hW (st7_9 wS HS))
 have st7_1: ∀(wS:World),Owl.Own [] w wS [a7_0,a7_1,a7_2,a7_3,a7_4,a7_5,a7_6,a7_7,a7_8,a7_9]→W 15 (bz 21 207) (e7 [(51,(ptr x1 0)),(52,(str zSl)),(54,(vN zSl.length)),(57,(str zSl)),(58,(str zSl))]) wS:=by
  intro wS HS
  rw [hW]
  refine wd2 4 8 ?_ ?_
  ·
   exact kS 4 rfl (op_subN (b:=1) rfl rfl (by decide +kernel) (by decide +kernel)<|WD.cw hW (st7_3 wS HS))
  ·
   exact kS 8 rfl (op_lenStr Tryz.underlying9 rfl<|WD.cw hW (st7_4 wS HS))
 have st7_2: ∀(wS:World),Owl.Own [] w wS [a7_0,a7_1,a7_2,a7_3,a7_4,a7_5,a7_6,a7_7,a7_8,a7_9]→W 15 (bz 21 455) (e7 [(51,(ptr x1 0)),(52,(str zSl)),(53,(str zSl)),(57,(str zSl)),(59,(vN zSl.length))]) wS:=by
  intro wS HS
  rw [hW]
  refine wd2 3 9 ?_ ?_
  ·
   exact kS 3 rfl (op_lenStr Tryz.underlying9 rfl<|WD.cw hW (st7_4 wS HS))
  ·
   exact kS 9 rfl (op_subN (b:=1) rfl rfl (by decide +kernel) (by decide +kernel)<|WD.cw hW (st7_5 wS HS))
 have st7_0: ∀(wS:World),Owl.Own [] w wS [a7_0,a7_1,a7_2,a7_3,a7_4,a7_5,a7_6,a7_7,a7_8,a7_9]→W 16 (bz 21 199) (e7 [(51,(ptr x1 0)),(52,(str zSl)),(53,(str zSl)),(57,(str zSl)),(58,(str zSl))]) wS:=by
  intro wS HS
  rw [hW]
  refine wd2 3 8 ?_ ?_
  ·
   exact kS 3 rfl (op_lenStr Tryz.underlying9 rfl<|WD.cw hW (st7_1 wS HS))
  ·
   exact kS 8 rfl (op_lenStr Tryz.underlying9 rfl<|WD.cw hW (st7_2 wS HS))
 have hq:=st7_0 w6 H6
 rw [hW] at hq ⊢
 refine WD.cov ?_ hq
 exact by repeat (first | exact trivial | refine ⟨rfl,?_⟩)
end Go.Proofs.YtbjhccnffacbcaaGreat
