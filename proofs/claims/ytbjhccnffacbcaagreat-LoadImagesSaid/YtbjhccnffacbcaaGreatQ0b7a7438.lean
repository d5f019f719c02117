/- General lemmas and walks: FWLda6, FWLda7, WLda6, WLda7. No condition but what each theorem names. -/
import Derived.Test.YtbjhccnffacbcaaGreatQ9230fe84
import Derived.Test.YtbjhccnffacbcaaGreatChecked
import Derived.Test.YtbjhccnffacbcaaGreatQ7826d55e
import Derived.Test.YtbjhccnffacbcaaGreatQ65453c56
import Derived.Test.YtbjhccnffacbcaaGreatQcb9860f8
import Derived.Test.YtbjhccnffacbcaaGreatQ01de7f07
set_option maxRecDepth 100000
set_option maxHeartbeats 8000000
namespace Go.Proofs.YtbjhccnffacbcaaGreat
open Go.Owl
namespace Fa
theorem C42:callB Tryz.prog 42=true:=by kernel_rfl
theorem C43:callB Tryz.prog 43=true:=by kernel_rfl
end Fa
end Go.Proofs.YtbjhccnffacbcaaGreat
namespace Go.Proofs.YtbjhccnffacbcaaGreat
open Go.Owl Go.Spec
theorem limage_nil (mp:UInt32) (ev pv sv:Value) (xs:List Xt) (ps:List UInt16) (con:Bool) (en:UInt32) (sg:List Sg) (T:List Nat) (w:World) (H:Owl.Own T w w []) (hE:Arr w ev 2 xs.length (List.flatMap xtc xs)) (hP:Arr w pv 1 ps.length (List.map vU16 ps)) (hS:Arr w sv 3 sg.length (List.flatMap sgc sg)) :
  Calls Tryz.prog 40 #[(.pointer none),(.agg #[(vU32 mp),ev,pv,(.bool con),(vU32 en),sv])] w (fun e w'=>e=.returned (.tuple #[vN 0,vN 1])∧Owl.Own T w w' []):=by
 exact enterD (args:=[(.pointer none),(.agg #[(vU32 mp),ev,pv,(.bool con),(vU32 en),sv])]) Tryz.func40 rfl rfl<|ws<|wo (op_box H rfl rfl (fun b1 w1 H1=>(wo (op_box H1 rfl rfl (fun b2 w2 H2=>(wa rfl<|wo (op_alloc H2 Fa.I25 (fun b3 w3 H3=>(wn<|WC.seq<|ws<|wo (op_load rfl (H3.cell (i:=0) rfl rfl) Tryz.underlying47 rfl<|wo (op_eqlPN Fa.PT47 rfl rfl<|wn<|WC.yes rfl rfl<|ws<|wa rfl<|wo (op_storeB (i:=2) H3 rfl rfl rfl rfl rfl Fa.I25 (fun w4 H4=>(wn<|WC.ret<|WQ.thenRet<|WQ.outD0 (.tmp rfl (.cell rfl (run_loadVar1 (H4.cell (i:=2) rfl rfl) Tryz.underlying25 rfl) .nil)) (⟨rfl,H4.sel [] rfl rfl⟩)))))))))))))))
theorem all_nil (key:List UInt8) (lv:Value) (w:World) :
  Calls Tryz.prog 39 #[(.pointer none),(str key),lv] w (fun e w'=>e=.returned (.tuple #[.slice none 0 0,vN 0,vN 1])∧Fr [] w w'):=by
 refine enter (args:=[(.pointer none),(str key),lv]) Tryz.func39 rfl rfl ?_
 have H0:Owl.Own [] w w []:=Own.start w []
 exact ws<|wa rfl<|wa rfl<|wa rfl<|wn<|WC.seq<|ws<|wm rfl<|wo (op_eqlPN Fa.PT47 rfl rfl<|wn<|WC.yes rfl rfl<|ws<|wa rfl<|wa rfl<|wa rfl<|wn<|WC.ret<|WQ.thenRet<|WQ.out (.tmp rfl (.tmp rfl (.tmp rfl .nil))) (⟨rfl,H0.fr⟩))
theorem loadImages_ok (pg:UInt32) (hv:Value) (he:List UInt32) (mp:UInt32) (ev pv sv:Value) (xs:List Xt) (ps:List UInt16) (con:Bool) (en:UInt32) (sg:List Sg) (w:World) (hH:Arr w hv 1 he.length (List.map vU32 he)) (hhn:he.length<2^47) (hE:Arr w ev 2 xs.length (List.flatMap xtc xs)) (hP:Arr w pv 1 ps.length (List.map vU16 ps)) (hS:Arr w sv 3 sg.length (List.flatMap sgc sg)) (hn:xs.length<2^47) (hm:ps.length<2^47) (hk:sg.length<2^47) (hB: ∀x∈sg,x.b.length≤140737488351232) :
  Calls Tryz.prog 8 #[(.agg #[(vU32 pg),hv]),(.agg #[(vU32 mp),ev,pv,(.bool con),(vU32 en),sv])] w (fun e w'=>e=.returned (.bool true)∧Fr [] w w'):=by
 refine enter (args:=[(.agg #[(vU32 pg),hv]),(.agg #[(vU32 mp),ev,pv,(.bool con),(vU32 en),sv])]) Tryz.func8 rfl rfl ?_
 have H0:Owl.Own [] w w []:=Own.start w []
 refine ws<|wo (op_box H0 rfl rfl (fun b1 w1 H1=>(wo (op_box H1 rfl rfl (fun b2 w2 H2=>(wa rfl<|wn<|WC.seq<|ws<|wo (op_loadS (vs:=[_,_]) rfl (H2.cells (i:=0) rfl rfl) Tryz.underlying75 rfl Fa.I75 rfl<|wo (op_callF Fa.C36 rfl ((large24_ok pg _ he ([]) _ [] _ (H2.arr hH) (Arr.nil _ 1) (fun x hx=>by cases hx) (by decide) hhn (by decide)).mono (fun e w3 hq=>?_))))))))))
 obtain ⟨rfl,hf3⟩:=hq
 refine ⟨_,rfl,?_⟩
 have H3:=H2.fr' hf3
 refine wm rfl (wV 22 (large24 he ([]) []) (fun hb4=>?_) (fun hb4=>?_))
 ·
  refine wN hb4<|wN hb4<|wo (op_pickT rfl hb4 rfl<|wn<|WC.yes rfl rfl<|ws<|wo (op_callF Fa.C31 rfl ((alive24_ok _).mono (fun e w5 hq=>?_))))
  obtain ⟨rfl,hf5⟩:=hq
  refine ⟨_,rfl,?_⟩
  have H5:=H3.fr' hf5
  exact wa rfl<|wn<|WC.ret<|WQ.thenRet<|WQ.out (.tmp rfl .nil) (⟨rfl,H5.fr⟩)
 ·
  refine wY hb4 (op_loadS (vs:=[_,_,_,_,_,_]) rfl (H3.cells (i:=1) rfl rfl) Tryz.underlying43 rfl Fa.I43 rfl<|wY hb4 (op_callF Fa.C30 rfl ((large16_ok mp _ _ _ xs ps con en sg _ (H3.arr hE) (H3.arr hP) (H3.arr hS) hn hm hk hB).mono (fun e w6 hq=>?_))))
  obtain ⟨rfl,hf6⟩:=hq
  refine ⟨_,rfl,?_⟩
  have H6:=H3.fr' hf6
  refine wo (op_pickF rfl hb4 rfl<|wn (wC (large16 xs ps sg) (fun hb7=>?_) (fun hb7=>?_)))
  ·
   refine ws<|wo (op_callF Fa.C31 rfl ((alive24_ok _).mono (fun e w8 hq=>?_)))
   obtain ⟨rfl,hf8⟩:=hq
   refine ⟨_,rfl,?_⟩
   have H8:=H6.fr' hf8
   exact wa rfl<|wn<|WC.ret<|WQ.thenRet<|WQ.out (.tmp rfl .nil) (⟨rfl,H8.fr⟩)
  ·
   obtain ⟨hh40,_,_,_⟩:=large24_no hb4
   have hl1:=large16_no hb7
   have hB30: ∀x∈sg,x.b.length≤2^30:=fun x hx=>Nat.le_trans (hl1.2.2.2 x hx) (by decide)
   have hB47: ∀x∈sg,x.b.length≤2^47:=fun x hx=>Nat.le_trans (hl1.2.2.2 x hx) (by decide)
   refine WC.skip<|WQ.next<|ws (wB (decide (hardE pg he=0)) (fun hb9=>?_) (fun hb9=>?_))
   ·
    refine wo (op_loadS (vs:=[_,_]) rfl (H6.cells (i:=0) rfl rfl) Tryz.underlying75 rfl Fa.I75 rfl<|wo (op_callF Fa.C37 rfl ((exoNewL_ok pg _ he _ (H6.arr hH) (dT hb9) (by omega)).mono (fun e w10 hq=>?_))))
    obtain ⟨x10,k10,hx10,nv10,bv10,c10,yv10,mb10,rfl,hk10,hv10,hq10⟩:=hq
    refine ⟨_,rfl,?_⟩
    have H10:=H6.splice [] [] [.blk x10 (xoC k10 (List.replicate 9 Slt.zero)) 146,Ent.bo k10 [(vU32 pg),hx10,(ptr c10 0),nv10,bv10,(vU32 0)],.blk c10 [(vU32 pg),yv10,(.map (some mb10))] 196,Ent.ar yv10 1 he.length (List.map vU32 he),.obj mb10 (mP .i64 (List.map Gr.me []) 0),Ent.bs 199 Gr.cells Gr.b [],Ent.dp grD.list [],Ent.dp (sltD 211).list (List.replicate 9 Slt.zero)] rfl rfl hq10 (Fits.solid True.intro (Fits.fresh (fun b hb=>by cases List.mem_singleton.1 hb; exact hk10) (Fits.solid True.intro (Fits.fresh hv10 (Fits.solid True.intro (Fits.solid True.intro (Fits.fresh (fun b hb=>by cases hb) (Fits.fresh (fun b hb=>by cases slt_zero_ft b hb) Fits.nil))))))))
    refine wm rfl<|we rfl rfl<|we rfl rfl<|wa rfl<|wa rfl<|wn<|ws<|wo (op_loadS (vs:=[_,_]) rfl (H10.cells (i:=0) rfl rfl) Tryz.underlying75 rfl Fa.I75 rfl<|wo (op_callF Fa.C37 rfl ((exoNewL_ok pg _ he _ (H10.arr hH) (dT hb9) (by omega)).mono (fun e w11 hq=>?_))))
    obtain ⟨x11,k11,hx11,nv11,bv11,c11,yv11,mb11,rfl,hk11,hv11,hq11⟩:=hq
    refine ⟨_,rfl,?_⟩
    have H11:Owl.Own [] w w11 [.blk b1 [(vU32 pg),hv] 75,.blk b2 [(vU32 mp),ev,pv,(.bool con),(vU32 en),sv] 43,.blk x10 (xoC k10 (List.replicate 9 Slt.zero)) 146,Ent.bo k10 [(vU32 pg),hx10,(ptr c10 0),nv10,bv10,(vU32 0)],.blk c10 [(vU32 pg),yv10,(.map (some mb10))] 196,Ent.ar yv10 1 he.length (List.map vU32 he),.obj mb10 (mP .i64 (List.map Gr.me []) 0),Ent.bs 199 Gr.cells Gr.b [],Ent.dp grD.list [],Ent.dp (sltD 211).list (List.replicate 9 Slt.zero),.blk x11 (xoC k11 (List.replicate 9 Slt.zero)) 146,Ent.bo k11 [(vU32 pg),hx11,(ptr c11 0),nv11,bv11,(vU32 0)],.blk c11 [(vU32 pg),yv11,(.map (some mb11))] 196,Ent.ar yv11 1 he.length (List.map vU32 he),.obj mb11 (mP .i64 (List.map Gr.me []) 0),Ent.bs 199 Gr.cells Gr.b [],Ent.dp grD.list [],Ent.dp (sltD 211).list (List.replicate 9 Slt.zero)]:=H10.splice [] [] [.blk x11 (xoC k11 (List.replicate 9 Slt.zero)) 146,Ent.bo k11 [(vU32 pg),hx11,(ptr c11 0),nv11,bv11,(vU32 0)],.blk c11 [(vU32 pg),yv11,(.map (some mb11))] 196,Ent.ar yv11 1 he.length (List.map vU32 he),.obj mb11 (mP .i64 (List.map Gr.me []) 0),Ent.bs 199 Gr.cells Gr.b [],Ent.dp grD.list [],Ent.dp (sltD 211).list (List.replicate 9 Slt.zero)] rfl rfl hq11 (Fits.solid True.intro (Fits.fresh (fun b hb=>by cases List.mem_singleton.1 hb; exact hk11) (Fits.solid True.intro (Fits.fresh hv11 (Fits.solid True.intro (Fits.solid True.intro (Fits.fresh (fun b hb=>by cases hb) (Fits.fresh (fun b hb=>by cases slt_zero_ft b hb) Fits.nil))))))))
    refine wm rfl<|we rfl rfl<|we rfl rfl<|wa rfl<|wa rfl<|wn<|ws<|wo (op_loadS (vs:=[_,_,_,_,_,_]) rfl (H11.cells (i:=1) rfl rfl) Tryz.underlying43 rfl Fa.I43 rfl<|wo (op_callF Fa.C40 rfl ((limage_nil mp _ _ _ xs ps con en sg [] _ (Own.start _ []) (H11.arr hE) (H11.arr hP) (H11.arr hS)).mono (fun e w12 hq=>?_))))
    obtain ⟨rfl,hq12⟩:=hq
    refine ⟨_,rfl,?_⟩
    have H12:=H11.splice [] [] [] rfl rfl hq12 Fits.nil
    refine wm rfl<|we rfl rfl<|we rfl rfl<|wa rfl<|wa rfl<|wn<|ws<|wo (op_buildSlice (cs:=[_]) H12 Tryz.underlying59 Fa.I9 rfl rfl rfl rfl (by decide) (by decide) (fun b13 w13 H13=>(wo (op_callF Fa.C39 rfl ((all_nil [107] _ _).mono (fun e w14 hq=>?_))))))
    obtain ⟨rfl,hf14⟩:=hq
    refine ⟨_,rfl,?_⟩
    have H14:=H13.fr' hf14
    refine wm rfl<|we rfl rfl<|we rfl rfl<|we rfl rfl<|wa rfl<|wa rfl<|wa rfl<|wn<|WC.seq<|ws<|wm rfl<|wo (op_neqN (b:=1) rfl rfl<|wm rfl<|WL.yes rfl rfl rfl (by decide) rfl (op_move rfl<|WL.yes rfl rfl rfl (by decide) rfl (op_lenA Tryz.underlying83 rfl (Arr.nil _ 1)<|WL.yes rfl rfl rfl (by decide) rfl (op_neqN (b:=0) rfl rfl<|wo (op_pickF rfl (by decide) rfl<|wm rfl<|WL.yes rfl rfl rfl (by decide) rfl (op_move rfl<|WL.yes rfl rfl rfl (by decide) rfl (op_neqN (b:=0) rfl rfl<|wo (op_pickF rfl (by decide) rfl<|wm rfl<|WL.yes rfl rfl rfl (by decide) rfl (op_move rfl<|WL.yes rfl rfl rfl (by decide) rfl (op_neqN (b:=1) rfl rfl<|wo (op_pickF rfl (by decide) rfl<|wn<|WC.no rfl (by decide)<|WC.skip<|WQ.next<|WC.seq<|ws<|wm rfl<|wo (op_neqN (b:=0) rfl rfl<|wm rfl<|WL.yes rfl rfl rfl (by decide) rfl (op_move rfl<|WL.yes rfl rfl rfl (by decide) rfl (op_eqlPN Fa.PT47 rfl rfl<|wo (op_pickF rfl (by decide) rfl<|wm rfl<|wY rfl (op_move rfl<|wY rfl (op_eqlPN Fa.PT47 rfl rfl<|wo (op_pickF rfl rfl rfl<|wn<|WC.no rfl rfl<|WC.skip<|WQ.next<|ws (wB (rMay mp xs ps en sg) (fun hb15=>?_) (fun hb15=>?_))))))))))))))))))))
    ·
     refine wm rfl (wB (decide (loadE pg he [] (List.replicate 9 Slt.zero) (Im.mk mp xs ps con en sg)=0)) (fun hb16=>?_) (fun hb16=>?_))
     ·
      refine wo (op_loadS (vs:=[_,_,_,_,_,_]) rfl (H14.cells (i:=1) rfl rfl) Tryz.underlying43 rfl Fa.I43 rfl<|wo (op_callF Fa.C19 rfl ((copy16_ok mp _ _ _ xs ps con en sg _ (H14.arr hE) (H14.arr hP) (H14.arr hS) (by omega) (by omega) (by omega)).mono (fun e w17 hq=>?_))))
      obtain ⟨v17,u17,q17,rfl,hq17⟩:=hq
      refine ⟨_,rfl,?_⟩
      have H17:Owl.Own [] w w17 [.blk b1 [(vU32 pg),hv] 75,.blk b2 [(vU32 mp),ev,pv,(.bool con),(vU32 en),sv] 43,.blk x10 (xoC k10 (List.replicate 9 Slt.zero)) 146,Ent.bo k10 [(vU32 pg),hx10,(ptr c10 0),nv10,bv10,(vU32 0)],.blk c10 [(vU32 pg),yv10,(.map (some mb10))] 196,Ent.ar yv10 1 he.length (List.map vU32 he),.obj mb10 (mP .i64 (List.map Gr.me []) 0),Ent.bs 199 Gr.cells Gr.b [],Ent.dp grD.list [],Ent.dp (sltD 211).list (List.replicate 9 Slt.zero),.blk x11 (xoC k11 (List.replicate 9 Slt.zero)) 146,Ent.bo k11 [(vU32 pg),hx11,(ptr c11 0),nv11,bv11,(vU32 0)],.blk c11 [(vU32 pg),yv11,(.map (some mb11))] 196,Ent.ar yv11 1 he.length (List.map vU32 he),.obj mb11 (mP .i64 (List.map Gr.me []) 0),Ent.bs 199 Gr.cells Gr.b [],Ent.dp grD.list [],Ent.dp (sltD 211).list (List.replicate 9 Slt.zero),.row (.slice (some ⟨b13,0,none⟩) 1 1) 9 1 1 (List.map str [[120]]),.row v17 207 2 xs.length (List.flatMap xtc xs),.row u17 203 1 ps.length (List.map vU16 ps),.row q17 116 3 sg.length (List.flatMap sgc sg)]:=H14.splice [] [] [.row v17 207 2 xs.length (List.flatMap xtc xs),.row u17 203 1 ps.length (List.map vU16 ps),.row q17 116 3 sg.length (List.flatMap sgc sg)] rfl rfl hq17 (Fits.solid True.intro (Fits.solid True.intro (Fits.solid True.intro Fits.nil)))
      have H18:=H17.freeze (i:=19) rfl
      have H19:Owl.Own [] w w17 [.blk b1 [(vU32 pg),hv] 75,.blk b2 [(vU32 mp),ev,pv,(.bool con),(vU32 en),sv] 43,.blk x10 (xoC k10 (List.replicate 9 Slt.zero)) 146,Ent.bo k10 [(vU32 pg),hx10,(ptr c10 0),nv10,bv10,(vU32 0)],.blk c10 [(vU32 pg),yv10,(.map (some mb10))] 196,Ent.ar yv10 1 he.length (List.map vU32 he),.obj mb10 (mP .i64 (List.map Gr.me []) 0),Ent.bs 199 Gr.cells Gr.b [],Ent.dp grD.list [],Ent.dp (sltD 211).list (List.replicate 9 Slt.zero),.blk x11 (xoC k11 (List.replicate 9 Slt.zero)) 146,Ent.bo k11 [(vU32 pg),hx11,(ptr c11 0),nv11,bv11,(vU32 0)],.blk c11 [(vU32 pg),yv11,(.map (some mb11))] 196,Ent.ar yv11 1 he.length (List.map vU32 he),.obj mb11 (mP .i64 (List.map Gr.me []) 0),Ent.bs 199 Gr.cells Gr.b [],Ent.dp grD.list [],Ent.dp (sltD 211).list (List.replicate 9 Slt.zero),.row (.slice (some ⟨b13,0,none⟩) 1 1) 9 1 1 (List.map str [[120]]),Ent.ar v17 2 xs.length (List.flatMap xtc xs),Ent.ar u17 1 ps.length (List.map vU16 ps),.row q17 116 3 sg.length (List.flatMap sgc sg)]:=H18.freeze (i:=20) rfl
      have H20:=H19.freeze (i:=21) rfl
      refine wo (op_callF Fa.C40 rfl ((limage_yes x10 k10 pg hx10 nv10 bv10 c10 pg yv10 he mb10 0 ([]) (List.replicate 9 Slt.zero) ([]) mp v17 u17 q17 xs ps con en sg _ _ (H20.part [2,3,4,5,6,7,8,9,19,20,21] rfl rfl) capRnil rfl (by omega) (by omega) (by omega) (by omega) hB30 (may_yes hl1.2.2.2 hb15) (by decide) (dT hb16)).mono (fun e w21 hq=>?_)))
      obtain ⟨cn21,gs21,a21,rfl,hi21,ha21,hd21,hs21,hq21⟩:=hq
      refine ⟨_,rfl,?_⟩
      have H21:Owl.Own [] w w21 [.blk b1 [(vU32 pg),hv] 75,.blk b2 [(vU32 mp),ev,pv,(.bool con),(vU32 en),sv] 43,.blk x10 (xoC k10 (loadS (List.replicate 9 Slt.zero) (Im.mk mp xs ps con en sg) a21)) 146,Ent.bo k10 [(vU32 pg),hx10,(ptr c10 0),nv10,bv10,(vU32 0)],.blk c10 [(vU32 pg),yv10,(.map (some mb10))] 196,Ent.ar yv10 1 he.length (List.map vU32 he),.obj mb10 (mP .i64 (List.map Gr.me gs21) cn21),Ent.bs 199 Gr.cells Gr.b gs21,Ent.dp grD.list gs21,Ent.dp (sltD 211).list (loadS (List.replicate 9 Slt.zero) (Im.mk mp xs ps con en sg) a21),.blk x11 (xoC k11 (List.replicate 9 Slt.zero)) 146,Ent.bo k11 [(vU32 pg),hx11,(ptr c11 0),nv11,bv11,(vU32 0)],.blk c11 [(vU32 pg),yv11,(.map (some mb11))] 196,Ent.ar yv11 1 he.length (List.map vU32 he),.obj mb11 (mP .i64 (List.map Gr.me []) 0),Ent.bs 199 Gr.cells Gr.b [],Ent.dp grD.list [],Ent.dp (sltD 211).list (List.replicate 9 Slt.zero),.row (.slice (some ⟨b13,0,none⟩) 1 1) 9 1 1 (List.map str [[120]]),Ent.ar v17 2 xs.length (List.flatMap xtc xs),Ent.ar u17 1 ps.length (List.map vU16 ps),Ent.ar q17 3 sg.length (List.flatMap sgc sg)]:=H20.splice [2,3,4,5,6,7,8,9,19,20,21] [.blk x10 (xoC k10 (loadS (List.replicate 9 Slt.zero) (Im.mk mp xs ps con en sg) a21)) 146,Ent.bo k10 [(vU32 pg),hx10,(ptr c10 0),nv10,bv10,(vU32 0)],.blk c10 [(vU32 pg),yv10,(.map (some mb10))] 196,Ent.ar yv10 1 he.length (List.map vU32 he),.obj mb10 (mP .i64 (List.map Gr.me gs21) cn21),Ent.bs 199 Gr.cells Gr.b gs21,Ent.dp grD.list gs21,Ent.dp (sltD 211).list (loadS (List.replicate 9 Slt.zero) (Im.mk mp xs ps con en sg) a21),Ent.ar v17 2 xs.length (List.flatMap xtc xs),Ent.ar u17 1 ps.length (List.map vU16 ps),Ent.ar q17 3 sg.length (List.flatMap sgc sg)] [] rfl rfl hq21 (Fits.solid True.intro (Fits.same (j:=1) rfl (Fits.solid True.intro (Fits.same (j:=3) rfl (Fits.solid True.intro (Fits.solid True.intro (Fits.dpTo 6 rfl hd21 (Fits.dpTo 7 rfl hs21 (Fits.same (j:=8) rfl (Fits.same (j:=9) rfl (Fits.same (j:=10) rfl Fits.nil)))))))))))
      refine wm rfl<|we rfl rfl<|we rfl rfl<|wa rfl<|wa rfl<|wn<|ws<|wo (op_loadS (vs:=[_,_,_,_,_,_]) rfl (H21.cells (i:=1) rfl rfl) Tryz.underlying43 rfl Fa.I43 rfl<|wo (op_callF Fa.C18 rfl ((seal_ok ([107]) mp _ _ _ xs ps con en sg _ (H21.arr hE) (H21.arr hP) (H21.arr hS) (by decide) (by omega) (by omega) (by omega) hB30 (Nat.lt_trans (imB_38 hl1) (by decide))).mono (fun e w22 hq=>?_))))
      obtain ⟨rfl,hf22⟩:=hq
      refine ⟨_,rfl,?_⟩
      have H22:=H21.fr' hf22
      refine wm rfl<|we rfl rfl<|we rfl rfl<|wa rfl<|wa rfl<|wn<|WC.seq<|ws ?_
      have hso:=seal_open (key:=[107]) (pg:=mp) (xs:=xs) (ps:=ps) (c:=con) (en:=en) (sg:=sg) (may_yes hl1.2.2.2 hb15) hl1.2.2.2
      refine wm rfl<|wo (op_neqN (b:=0) rfl rfl<|wn<|WC.no rfl (decide_eq_false (fun h=>h (may_yes hl1.2.2.2 hb15)))<|WC.skip<|WQ.next<|ws<|wm rfl<|wm rfl<|wo (op_callF Fa.C21 rfl ((lload_yes x11 k11 pg hx11 nv11 bv11 c11 pg yv11 he mb11 0 ([]) (List.replicate 9 Slt.zero) ([]) ([107]) (slS ([107]) mp xs ps con en sg) _ _ (H22.part [10,11,12,13,14,15,16,17] rfl rfl) capRnil rfl (by omega) (by decide) (slS_37 hl1) hso.1 (by decide) (by rw [hso.2]; exact dT hb16)).mono (fun e w23 hq=>?_))))
      obtain ⟨cn23,gs23,a23,rfl,hi23,ha23,hd23,hs23,hq23⟩:=hq
      refine ⟨_,rfl,?_⟩
      have H23:=H22.splice [10,11,12,13,14,15,16,17] [.blk x11 (xoC k11 (loadS (List.replicate 9 Slt.zero) (opI ([107]) (slS ([107]) mp xs ps con en sg)) a23)) 146,Ent.bo k11 [(vU32 pg),hx11,(ptr c11 0),nv11,bv11,(vU32 0)],.blk c11 [(vU32 pg),yv11,(.map (some mb11))] 196,Ent.ar yv11 1 he.length (List.map vU32 he),.obj mb11 (mP .i64 (List.map Gr.me gs23) cn23),Ent.bs 199 Gr.cells Gr.b gs23,Ent.dp grD.list gs23,Ent.dp (sltD 211).list (loadS (List.replicate 9 Slt.zero) (opI ([107]) (slS ([107]) mp xs ps con en sg)) a23)] [] rfl rfl hq23 (Fits.solid True.intro (Fits.same (j:=1) rfl (Fits.solid True.intro (Fits.same (j:=3) rfl (Fits.solid True.intro (Fits.solid True.intro (Fits.dpTo 6 rfl hd23 (Fits.dpTo 7 rfl hs23 Fits.nil))))))))
      refine wm rfl<|we rfl rfl<|we rfl rfl<|wa rfl<|wa rfl<|wn<|WC.seq<|ws<|wm rfl<|wm rfl<|wo (op_neqN rfl rfl<|wm rfl<|WL.yes rfl rfl rfl (decide_eq_false (fun h=>h (by first | (rw [hso.2]<;>rfl) | rfl))) rfl (op_move rfl ?_))
      refine WL.yes rfl rfl rfl (decide_eq_false (fun h=>h (by first | (rw [hso.2]<;>rfl) | rfl))) rfl (op_move rfl ?_)
      refine WL.yes rfl rfl rfl (decide_eq_false (fun h=>h (by first | (rw [hso.2]<;>rfl) | rfl))) rfl (op_neqN rfl rfl ?_)
      refine wo (op_pickF rfl (decide_eq_false (fun h=>h (by first | (rw [hso.2]<;>rfl) | rfl))) rfl ?_)
      refine wm rfl<|WL.yes rfl rfl rfl (decide_eq_false (fun h=>h (by first | (rw [hso.2]<;>rfl) | rfl))) rfl (op_move rfl ?_)
      refine WL.yes rfl rfl rfl (decide_eq_false (fun h=>h (by first | (rw [hso.2]<;>rfl) | rfl))) rfl (op_callF Fa.C38 rfl ((look24_ok x10 k10 pg hx10 nv10 bv10 c10 pg yv10 he mb10 cn21 gs21 (loadS (List.replicate 9 Slt.zero) (Im.mk mp xs ps con en sg) a21) (loadG pg he [] (List.replicate 9 Slt.zero) (Im.mk mp xs ps con en sg)) _ (H23.cellsAt (i:=2) rfl) (H23.cellsAtO (i:=3) rfl) (H23.cellsAt (i:=4) rfl) (H23.arrO (i:=5) rfl) (H23.mp (i:=6) rfl) (H23.bsG (i:=7) rfl) (H23.dpO (i:=8) rfl) (H23.dpO (i:=9) rfl) hi21 (loadS_len rfl)).mono (fun e w24 hq=>?_)))
      obtain ⟨rfl,hf24⟩:=hq
      refine ⟨_,rfl,?_⟩
      have H24:=H23.fr' hf24
      refine WL.yes rfl rfl rfl (decide_eq_false (fun h=>h (by first | (rw [hso.2]<;>rfl) | rfl))) rfl (op_move rfl ?_)
      refine WL.yes rfl rfl rfl (decide_eq_false (fun h=>h (by first | (rw [hso.2]<;>rfl) | rfl))) rfl (op_callF Fa.C38 rfl ((look24_ok x11 k11 pg hx11 nv11 bv11 c11 pg yv11 he mb11 cn23 gs23 (loadS (List.replicate 9 Slt.zero) (opI ([107]) (slS ([107]) mp xs ps con en sg)) a23) (loadG pg he ([]) (List.replicate 9 Slt.zero) (opI ([107]) (slS ([107]) mp xs ps con en sg))) _ (H24.cellsAt (i:=10) rfl) (H24.cellsAtO (i:=11) rfl) (H24.cellsAt (i:=12) rfl) (H24.arrO (i:=13) rfl) (H24.mp (i:=14) rfl) (H24.bsG (i:=15) rfl) (H24.dpO (i:=16) rfl) (H24.dpO (i:=17) rfl) hi23 (loadS_len rfl)).mono (fun e w25 hq=>?_)))
      obtain ⟨rfl,hf25⟩:=hq
      refine ⟨_,rfl,?_⟩
      have H25:=H24.fr' hf25
      refine WL.yes rfl rfl rfl (decide_eq_false (fun h=>h (by first | (rw [hso.2]<;>rfl) | rfl))) rfl (op_neqSame (by kernel_rfl) (gnd_key _ _ _) (by first | (rw [hso.2]<;>rfl) | rfl) rfl rfl ?_)
      refine wo (op_pickF rfl (decide_eq_false (fun h=>h (by first | (rw [hso.2]<;>rfl) | rfl))) rfl ?_)
      refine wn<|WC.no rfl rfl<|WC.skip<|WQ.next<|WC.seq<|ws<|wm rfl<|wo (op_neqN (b:=0) rfl rfl<|wn<|WC.no rfl (by decide)<|WC.skip<|WQ.next<|ws ?_)
      have h0:=may_yes hl1.2.2.2 hb15
      have himg:(imgP sg sg.length).length<2^40:=by have h1:=img_N h0 hB47; rw [if_pos h0,←imgP_len] at h1; omega
      have pgn: ∀(qs:List Pg) (J:Im),J=(Im.mk mp xs ps con en sg)→(qs.map Pg.bare).Perm (imgP J.sg J.sg.length)→qs.length<2^40:=fun qs J e h=>by subst e; have h2:=h.length_eq; rw [List.length_map] at h2; have h3:qs.length=(imgP sg sg.length).length:=h2; omega
      refine wm rfl<|wm rfl<|wo (op_callF Fa.C42 rfl ((xspace_ok x10 k10 (loadS (List.replicate 9 Slt.zero) (Im.mk mp xs ps con en sg) a21) (ffS (List.replicate 9 Slt.zero)) a21 _ (H25.cellsAt (i:=2) rfl) (slt_ev (i:=(ffS (List.replicate 9 Slt.zero))) (H25.dpO (i:=9) rfl) (by first | rfl | kernel_rfl)).1 (loadS_len rfl) (by kernel_rfl) (by first | rfl | kernel_rfl)).mono (fun e w26 hq=>?_)))
      obtain ⟨rfl,hf26⟩:=hq
      refine ⟨_,rfl,?_⟩
      have H26:=H25.fr' hf26
      refine wo (op_neqPN Fa.PT68 rfl rfl<|wm rfl<|wY rfl (op_move rfl<|wY rfl (op_move rfl<|wY rfl (op_callF Fa.C42 rfl ((xspace_ok x11 k11 (loadS (List.replicate 9 Slt.zero) (opI ([107]) (slS ([107]) mp xs ps con en sg)) a23) (ffS (List.replicate 9 Slt.zero)) a23 _ (H26.cellsAt (i:=10) rfl) (slt_ev (i:=(ffS (List.replicate 9 Slt.zero))) (H26.dpO (i:=17) rfl) (by first | rfl | kernel_rfl)).1 (loadS_len rfl) (by kernel_rfl) (by first | rfl | kernel_rfl)).mono (fun e w27 hq=>?_))))))
      obtain ⟨rfl,hf27⟩:=hq
      refine ⟨_,rfl,?_⟩
      have H27:=H26.fr' hf27
      refine wY rfl (op_neqPN Fa.PT68 rfl rfl<|wo (op_pickT rfl rfl rfl<|wm rfl<|wY rfl (op_move rfl<|wY rfl (op_move rfl<|wY rfl (op_callF Fa.C42 rfl ((xspace_ok x10 k10 (loadS (List.replicate 9 Slt.zero) (Im.mk mp xs ps con en sg) a21) (ffS (List.replicate 9 Slt.zero)) a21 _ (H27.cellsAt (i:=2) rfl) (slt_ev (i:=(ffS (List.replicate 9 Slt.zero))) (H27.dpO (i:=9) rfl) (by first | rfl | kernel_rfl)).1 (loadS_len rfl) (by kernel_rfl) (by first | rfl | kernel_rfl)).mono (fun e w28 hq=>?_)))))))
      obtain ⟨rfl,hf28⟩:=hq
      refine ⟨_,rfl,?_⟩
      have H28:=H27.fr' hf28
      refine wY rfl (op_callF Fa.C44 rfl ((spages_ok a21.s a21.mb a21.cn a21.ps _ (slt_ev (i:=(ffS (List.replicate 9 Slt.zero))) (H28.dpO (i:=9) rfl) (by first | rfl | kernel_rfl)).2.1 (slt_ev (i:=(ffS (List.replicate 9 Slt.zero))) (H28.dpO (i:=9) rfl) (by first | rfl | kernel_rfl)).2.2.1 (slt_ev (i:=(ffS (List.replicate 9 Slt.zero))) (H28.dpO (i:=9) rfl) (by first | rfl | kernel_rfl)).2.2.2.1 ha21.1 (pgn _ (Im.mk mp xs ps con en sg) rfl ha21.2.1)).mono (fun e w29 hq=>?_)))
      obtain ⟨v29,ks29,rfl,hk29,hq29⟩:=hq
      refine ⟨_,rfl,?_⟩
      have H29:Owl.Own [] w w29 [.blk b1 [(vU32 pg),hv] 75,.blk b2 [(vU32 mp),ev,pv,(.bool con),(vU32 en),sv] 43,.blk x10 (xoC k10 (loadS (List.replicate 9 Slt.zero) (Im.mk mp xs ps con en sg) a21)) 146,Ent.bo k10 [(vU32 pg),hx10,(ptr c10 0),nv10,bv10,(vU32 0)],.blk c10 [(vU32 pg),yv10,(.map (some mb10))] 196,Ent.ar yv10 1 he.length (List.map vU32 he),.obj mb10 (mP .i64 (List.map Gr.me gs21) cn21),Ent.bs 199 Gr.cells Gr.b gs21,Ent.dp grD.list gs21,Ent.dp (sltD 211).list (loadS (List.replicate 9 Slt.zero) (Im.mk mp xs ps con en sg) a21),.blk x11 (xoC k11 (loadS (List.replicate 9 Slt.zero) (opI ([107]) (slS ([107]) mp xs ps con en sg)) a23)) 146,Ent.bo k11 [(vU32 pg),hx11,(ptr c11 0),nv11,bv11,(vU32 0)],.blk c11 [(vU32 pg),yv11,(.map (some mb11))] 196,Ent.ar yv11 1 he.length (List.map vU32 he),.obj mb11 (mP .i64 (List.map Gr.me gs23) cn23),Ent.bs 199 Gr.cells Gr.b gs23,Ent.dp grD.list gs23,Ent.dp (sltD 211).list (loadS (List.replicate 9 Slt.zero) (opI ([107]) (slS ([107]) mp xs ps con en sg)) a23),.row (.slice (some ⟨b13,0,none⟩) 1 1) 9 1 1 (List.map str [[120]]),Ent.ar v17 2 xs.length (List.flatMap xtc xs),Ent.ar u17 1 ps.length (List.map vU16 ps),Ent.ar q17 3 sg.length (List.flatMap sgc sg),.row v29 22 1 ks29.length (List.map vU32 ks29)]:=H28.splice [] [] [.row v29 22 1 ks29.length (List.map vU32 ks29)] rfl rfl hq29 (Fits.solid True.intro Fits.nil)
      refine wY rfl (op_move rfl<|wY rfl (op_move rfl<|wY rfl (op_callF Fa.C42 rfl ((xspace_ok x11 k11 (loadS (List.replicate 9 Slt.zero) (opI ([107]) (slS ([107]) mp xs ps con en sg)) a23) (ffS (List.replicate 9 Slt.zero)) a23 _ (H29.cellsAt (i:=10) rfl) (slt_ev (i:=(ffS (List.replicate 9 Slt.zero))) (H29.dpO (i:=17) rfl) (by first | rfl | kernel_rfl)).1 (loadS_len rfl) (by kernel_rfl) (by first | rfl | kernel_rfl)).mono (fun e w30 hq=>?_)))))
      obtain ⟨rfl,hf30⟩:=hq
      refine ⟨_,rfl,?_⟩
      have H30:=H29.fr' hf30
      refine wY rfl (op_callF Fa.C44 rfl ((spages_ok a23.s a23.mb a23.cn a23.ps _ (slt_ev (i:=(ffS (List.replicate 9 Slt.zero))) (H30.dpO (i:=17) rfl) (by first | rfl | kernel_rfl)).2.1 (slt_ev (i:=(ffS (List.replicate 9 Slt.zero))) (H30.dpO (i:=17) rfl) (by first | rfl | kernel_rfl)).2.2.1 (slt_ev (i:=(ffS (List.replicate 9 Slt.zero))) (H30.dpO (i:=17) rfl) (by first | rfl | kernel_rfl)).2.2.2.1 ha23.1 (pgn _ (opI ([107]) (slS ([107]) mp xs ps con en sg)) hso.2 ha23.2.1)).mono (fun e w31 hq=>?_)))
      obtain ⟨v31,ks31,rfl,hk31,hq31⟩:=hq
      refine ⟨_,rfl,?_⟩
      have H31:=H30.splice [] [] [.row v31 22 1 ks31.length (List.map vU32 ks31)] rfl rfl hq31 (Fits.solid True.intro Fits.nil)
      have hks1:=pg_sorted h0 hB47 ha21.2.1 hk29
      have hks2:=pg_sorted h0 hB47 (by have h:=ha23.2.1; rw [hso.2] at h; exact h) hk31
      refine wY rfl (op_callF Fa.C43 rfl ((same15_ok _ _ ks29 ks31 _ (H31.arrR (i:=22) rfl) (H31.arrR (i:=23) rfl) (by rw [hks1,List.length_map]; exact Nat.lt_trans himg (by decide))).mono (fun e w32 hq=>?_)))
      obtain ⟨rfl,hf32⟩:=hq
      refine ⟨_,rfl,?_⟩
      have H32:=H31.fr' hf32
      refine wo (op_pickT rfl rfl rfl<|wm rfl<|WL.yes rfl rfl rfl (decide_eq_true (hks1.trans hks2.symm)) rfl (op_callF Fa.C31 rfl ((alive24_ok _).mono (fun e w33 hq=>?_))))
      obtain ⟨rfl,hf33⟩:=hq
      refine ⟨_,rfl,?_⟩
      have H33:=H32.fr' hf33
      exact wo (op_pickT rfl (decide_eq_true (hks1.trans hks2.symm)) rfl<|wa rfl<|wn<|WC.ret<|WQ.out (.tmp rfl .nil) (⟨rfl,H33.fr⟩))
     ·
      refine wo (op_loadS (vs:=[_,_,_,_,_,_]) rfl (H14.cells (i:=1) rfl rfl) Tryz.underlying43 rfl Fa.I43 rfl<|wo (op_callF Fa.C19 rfl ((copy16_ok mp _ _ _ xs ps con en sg _ (H14.arr hE) (H14.arr hP) (H14.arr hS) (by omega) (by omega) (by omega)).mono (fun e w34 hq=>?_))))
      obtain ⟨v34,u34,q34,rfl,hq34⟩:=hq
      refine ⟨_,rfl,?_⟩
      have H34:Owl.Own [] w w34 [.blk b1 [(vU32 pg),hv] 75,.blk b2 [(vU32 mp),ev,pv,(.bool con),(vU32 en),sv] 43,.blk x10 (xoC k10 (List.replicate 9 Slt.zero)) 146,Ent.bo k10 [(vU32 pg),hx10,(ptr c10 0),nv10,bv10,(vU32 0)],.blk c10 [(vU32 pg),yv10,(.map (some mb10))] 196,Ent.ar yv10 1 he.length (List.map vU32 he),.obj mb10 (mP .i64 (List.map Gr.me []) 0),Ent.bs 199 Gr.cells Gr.b [],Ent.dp grD.list [],Ent.dp (sltD 211).list (List.replicate 9 Slt.zero),.blk x11 (xoC k11 (List.replicate 9 Slt.zero)) 146,Ent.bo k11 [(vU32 pg),hx11,(ptr c11 0),nv11,bv11,(vU32 0)],.blk c11 [(vU32 pg),yv11,(.map (some mb11))] 196,Ent.ar yv11 1 he.length (List.map vU32 he),.obj mb11 (mP .i64 (List.map Gr.me []) 0),Ent.bs 199 Gr.cells Gr.b [],Ent.dp grD.list [],Ent.dp (sltD 211).list (List.replicate 9 Slt.zero),.row (.slice (some ⟨b13,0,none⟩) 1 1) 9 1 1 (List.map str [[120]]),.row v34 207 2 xs.length (List.flatMap xtc xs),.row u34 203 1 ps.length (List.map vU16 ps),.row q34 116 3 sg.length (List.flatMap sgc sg)]:=H14.splice [] [] [.row v34 207 2 xs.length (List.flatMap xtc xs),.row u34 203 1 ps.length (List.map vU16 ps),.row q34 116 3 sg.length (List.flatMap sgc sg)] rfl rfl hq34 (Fits.solid True.intro (Fits.solid True.intro (Fits.solid True.intro Fits.nil)))
      have H35:=H34.freeze (i:=19) rfl
      have H36:Owl.Own [] w w34 [.blk b1 [(vU32 pg),hv] 75,.blk b2 [(vU32 mp),ev,pv,(.bool con),(vU32 en),sv] 43,.blk x10 (xoC k10 (List.replicate 9 Slt.zero)) 146,Ent.bo k10 [(vU32 pg),hx10,(ptr c10 0),nv10,bv10,(vU32 0)],.blk c10 [(vU32 pg),yv10,(.map (some mb10))] 196,Ent.ar yv10 1 he.length (List.map vU32 he),.obj mb10 (mP .i64 (List.map Gr.me []) 0),Ent.bs 199 Gr.cells Gr.b [],Ent.dp grD.list [],Ent.dp (sltD 211).list (List.replicate 9 Slt.zero),.blk x11 (xoC k11 (List.replicate 9 Slt.zero)) 146,Ent.bo k11 [(vU32 pg),hx11,(ptr c11 0),nv11,bv11,(vU32 0)],.blk c11 [(vU32 pg),yv11,(.map (some mb11))] 196,Ent.ar yv11 1 he.length (List.map vU32 he),.obj mb11 (mP .i64 (List.map Gr.me []) 0),Ent.bs 199 Gr.cells Gr.b [],Ent.dp grD.list [],Ent.dp (sltD 211).list (List.replicate 9 Slt.zero),.row (.slice (some ⟨b13,0,none⟩) 1 1) 9 1 1 (List.map str [[120]]),Ent.ar v34 2 xs.length (List.flatMap xtc xs),Ent.ar u34 1 ps.length (List.map vU16 ps),.row q34 116 3 sg.length (List.flatMap sgc sg)]:=H35.freeze (i:=20) rfl
      have H37:=H36.freeze (i:=21) rfl
      refine wo (op_callF Fa.C40 rfl ((limage_no x10 k10 pg hx10 nv10 bv10 c10 pg yv10 he mb10 0 ([]) (List.replicate 9 Slt.zero) ([]) mp v34 u34 q34 xs ps con en sg _ _ (H37.part [2,3,4,5,6,7,8,9,19,20,21] rfl rfl) capRnil rfl (by omega) (by omega) (by omega) (by omega) hB30 (may_yes hl1.2.2.2 hb15) (by decide) (dF hb16)).mono (fun e w38 hq=>?_)))
      obtain ⟨cn38,gs38,rfl,hi38,hd38,hq38⟩:=hq
      refine ⟨_,rfl,?_⟩
      have H38:Owl.Own [] w w38 [.blk b1 [(vU32 pg),hv] 75,.blk b2 [(vU32 mp),ev,pv,(.bool con),(vU32 en),sv] 43,.blk x10 (xoC k10 (List.replicate 9 Slt.zero)) 146,Ent.bo k10 [(vU32 pg),hx10,(ptr c10 0),nv10,bv10,(vU32 0)],.blk c10 [(vU32 pg),yv10,(.map (some mb10))] 196,Ent.ar yv10 1 he.length (List.map vU32 he),.obj mb10 (mP .i64 (List.map Gr.me gs38) cn38),Ent.bs 199 Gr.cells Gr.b gs38,Ent.dp grD.list gs38,Ent.dp (sltD 211).list (List.replicate 9 Slt.zero),.blk x11 (xoC k11 (List.replicate 9 Slt.zero)) 146,Ent.bo k11 [(vU32 pg),hx11,(ptr c11 0),nv11,bv11,(vU32 0)],.blk c11 [(vU32 pg),yv11,(.map (some mb11))] 196,Ent.ar yv11 1 he.length (List.map vU32 he),.obj mb11 (mP .i64 (List.map Gr.me []) 0),Ent.bs 199 Gr.cells Gr.b [],Ent.dp grD.list [],Ent.dp (sltD 211).list (List.replicate 9 Slt.zero),.row (.slice (some ⟨b13,0,none⟩) 1 1) 9 1 1 (List.map str [[120]]),Ent.ar v34 2 xs.length (List.flatMap xtc xs),Ent.ar u34 1 ps.length (List.map vU16 ps),Ent.ar q34 3 sg.length (List.flatMap sgc sg)]:=H37.splice [2,3,4,5,6,7,8,9,19,20,21] [.blk x10 (xoC k10 (List.replicate 9 Slt.zero)) 146,Ent.bo k10 [(vU32 pg),hx10,(ptr c10 0),nv10,bv10,(vU32 0)],.blk c10 [(vU32 pg),yv10,(.map (some mb10))] 196,Ent.ar yv10 1 he.length (List.map vU32 he),.obj mb10 (mP .i64 (List.map Gr.me gs38) cn38),Ent.bs 199 Gr.cells Gr.b gs38,Ent.dp grD.list gs38,Ent.dp (sltD 211).list (List.replicate 9 Slt.zero),Ent.ar v34 2 xs.length (List.flatMap xtc xs),Ent.ar u34 1 ps.length (List.map vU16 ps),Ent.ar q34 3 sg.length (List.flatMap sgc sg)] [] rfl rfl hq38 (Fits.solid True.intro (Fits.same (j:=1) rfl (Fits.solid True.intro (Fits.same (j:=3) rfl (Fits.solid True.intro (Fits.solid True.intro (Fits.dpTo 6 rfl hd38 (Fits.same (j:=7) rfl (Fits.same (j:=8) rfl (Fits.same (j:=9) rfl (Fits.same (j:=10) rfl Fits.nil)))))))))))
      refine wm rfl<|we rfl rfl<|we rfl rfl<|wa rfl<|wa rfl<|wn<|ws<|wo (op_loadS (vs:=[_,_,_,_,_,_]) rfl (H38.cells (i:=1) rfl rfl) Tryz.underlying43 rfl Fa.I43 rfl<|wo (op_callF Fa.C18 rfl ((seal_ok ([107]) mp _ _ _ xs ps con en sg _ (H38.arr hE) (H38.arr hP) (H38.arr hS) (by decide) (by omega) (by omega) (by omega) hB30 (Nat.lt_trans (imB_38 hl1) (by decide))).mono (fun e w39 hq=>?_))))
      obtain ⟨rfl,hf39⟩:=hq
      refine ⟨_,rfl,?_⟩
      have H39:=H38.fr' hf39
      refine wm rfl<|we rfl rfl<|we rfl rfl<|wa rfl<|wa rfl<|wn<|WC.seq<|ws ?_
      have hso:=seal_open (key:=[107]) (pg:=mp) (xs:=xs) (ps:=ps) (c:=con) (en:=en) (sg:=sg) (may_yes hl1.2.2.2 hb15) hl1.2.2.2
      refine wm rfl<|wo (op_neqN (b:=0) rfl rfl<|wn<|WC.no rfl (decide_eq_false (fun h=>h (may_yes hl1.2.2.2 hb15)))<|WC.skip<|WQ.next<|ws<|wm rfl<|wm rfl<|wo (op_callF Fa.C21 rfl ((lload_no x11 k11 pg hx11 nv11 bv11 c11 pg yv11 he mb11 0 ([]) (List.replicate 9 Slt.zero) ([]) ([107]) (slS ([107]) mp xs ps con en sg) _ _ (H39.part [10,11,12,13,14,15,16,17] rfl rfl) capRnil rfl (by omega) (by decide) (slS_37 hl1) hso.1 (by decide) (by rw [hso.2]; exact dF hb16)).mono (fun e w40 hq=>?_))))
      obtain ⟨cn40,gs40,rfl,hi40,hd40,hq40⟩:=hq
      refine ⟨_,rfl,?_⟩
      have H40:=H39.splice [10,11,12,13,14,15,16,17] [.blk x11 (xoC k11 (List.replicate 9 Slt.zero)) 146,Ent.bo k11 [(vU32 pg),hx11,(ptr c11 0),nv11,bv11,(vU32 0)],.blk c11 [(vU32 pg),yv11,(.map (some mb11))] 196,Ent.ar yv11 1 he.length (List.map vU32 he),.obj mb11 (mP .i64 (List.map Gr.me gs40) cn40),Ent.bs 199 Gr.cells Gr.b gs40,Ent.dp grD.list gs40,Ent.dp (sltD 211).list (List.replicate 9 Slt.zero)] [] rfl rfl hq40 (Fits.solid True.intro (Fits.same (j:=1) rfl (Fits.solid True.intro (Fits.same (j:=3) rfl (Fits.solid True.intro (Fits.solid True.intro (Fits.dpTo 6 rfl hd40 (Fits.same (j:=7) rfl Fits.nil))))))))
      refine wm rfl<|we rfl rfl<|we rfl rfl<|wa rfl<|wa rfl<|wn<|WC.seq<|ws<|wm rfl<|wm rfl<|wo (op_neqN rfl rfl<|wm rfl<|WL.yes rfl rfl rfl (decide_eq_false (fun h=>h (by first | (rw [hso.2]<;>rfl) | rfl))) rfl (op_move rfl ?_))
      refine WL.yes rfl rfl rfl (decide_eq_false (fun h=>h (by first | (rw [hso.2]<;>rfl) | rfl))) rfl (op_move rfl ?_)
      refine WL.yes rfl rfl rfl (decide_eq_false (fun h=>h (by first | (rw [hso.2]<;>rfl) | rfl))) rfl (op_neqN rfl rfl ?_)
      refine wo (op_pickF rfl (decide_eq_false (fun h=>h (by first | (rw [hso.2]<;>rfl) | rfl))) rfl ?_)
      refine wm rfl<|WL.yes rfl rfl rfl (decide_eq_false (fun h=>h (by first | (rw [hso.2]<;>rfl) | rfl))) rfl (op_move rfl ?_)
      refine WL.yes rfl rfl rfl (decide_eq_false (fun h=>h (by first | (rw [hso.2]<;>rfl) | rfl))) rfl (op_callF Fa.C38 rfl ((look24_ok x10 k10 pg hx10 nv10 bv10 c10 pg yv10 he mb10 cn38 gs38 (List.replicate 9 Slt.zero) (loadG pg he [] (List.replicate 9 Slt.zero) (Im.mk mp xs ps con en sg)) _ (H40.cellsAt (i:=2) rfl) (H40.cellsAtO (i:=3) rfl) (H40.cellsAt (i:=4) rfl) (H40.arrO (i:=5) rfl) (H40.mp (i:=6) rfl) (H40.bsG (i:=7) rfl) (H40.dpO (i:=8) rfl) (H40.dpO (i:=9) rfl) hi38 rfl).mono (fun e w41 hq=>?_)))
      obtain ⟨rfl,hf41⟩:=hq
      refine ⟨_,rfl,?_⟩
      have H41:=H40.fr' hf41
      refine WL.yes rfl rfl rfl (decide_eq_false (fun h=>h (by first | (rw [hso.2]<;>rfl) | rfl))) rfl (op_move rfl ?_)
      refine WL.yes rfl rfl rfl (decide_eq_false (fun h=>h (by first | (rw [hso.2]<;>rfl) | rfl))) rfl (op_callF Fa.C38 rfl ((look24_ok x11 k11 pg hx11 nv11 bv11 c11 pg yv11 he mb11 cn40 gs40 (List.replicate 9 Slt.zero) (loadG pg he ([]) (List.replicate 9 Slt.zero) (opI ([107]) (slS ([107]) mp xs ps con en sg))) _ (H41.cellsAt (i:=10) rfl) (H41.cellsAtO (i:=11) rfl) (H41.cellsAt (i:=12) rfl) (H41.arrO (i:=13) rfl) (H41.mp (i:=14) rfl) (H41.bsG (i:=15) rfl) (H41.dpO (i:=16) rfl) (H41.dpO (i:=17) rfl) hi40 rfl).mono (fun e w42 hq=>?_)))
      obtain ⟨rfl,hf42⟩:=hq
      refine ⟨_,rfl,?_⟩
      have H42:=H41.fr' hf42
      refine WL.yes rfl rfl rfl (decide_eq_false (fun h=>h (by first | (rw [hso.2]<;>rfl) | rfl))) rfl (op_neqSame (by kernel_rfl) (gnd_key _ _ _) (by first | (rw [hso.2]<;>rfl) | rfl) rfl rfl ?_)
      refine wo (op_pickF rfl (decide_eq_false (fun h=>h (by first | (rw [hso.2]<;>rfl) | rfl))) rfl ?_)
      refine wn<|WC.no rfl rfl<|WC.skip<|WQ.next<|WC.seq<|ws<|wm rfl<|wo (op_neqN (b:=0) rfl rfl<|wn<|WC.yes rfl (decide_eq_true (by rw [hso.2]; exact dF hb16))<|ws<|wo (op_callF Fa.C31 rfl ((alive24_ok _).mono (fun e w43 hq=>?_))))
      obtain ⟨rfl,hf43⟩:=hq
      refine ⟨_,rfl,?_⟩
      have H43:=H42.fr' hf43
      exact wa rfl<|wn<|WC.ret<|WQ.thenRet<|WQ.out (.tmp rfl .nil) (⟨rfl,H43.fr⟩)
    ·
     refine wm rfl<|wo (op_loadS (vs:=[_,_,_,_,_,_]) rfl (H14.cells (i:=1) rfl rfl) Tryz.underlying43 rfl Fa.I43 rfl<|wo (op_callF Fa.C19 rfl ((copy16_ok mp _ _ _ xs ps con en sg _ (H14.arr hE) (H14.arr hP) (H14.arr hS) (by omega) (by omega) (by omega)).mono (fun e w44 hq=>?_))))
     obtain ⟨v44,u44,q44,rfl,hq44⟩:=hq
     refine ⟨_,rfl,?_⟩
     have H44:Owl.Own [] w w44 [.blk b1 [(vU32 pg),hv] 75,.blk b2 [(vU32 mp),ev,pv,(.bool con),(vU32 en),sv] 43,.blk x10 (xoC k10 (List.replicate 9 Slt.zero)) 146,Ent.bo k10 [(vU32 pg),hx10,(ptr c10 0),nv10,bv10,(vU32 0)],.blk c10 [(vU32 pg),yv10,(.map (some mb10))] 196,Ent.ar yv10 1 he.length (List.map vU32 he),.obj mb10 (mP .i64 (List.map Gr.me []) 0),Ent.bs 199 Gr.cells Gr.b [],Ent.dp grD.list [],Ent.dp (sltD 211).list (List.replicate 9 Slt.zero),.blk x11 (xoC k11 (List.replicate 9 Slt.zero)) 146,Ent.bo k11 [(vU32 pg),hx11,(ptr c11 0),nv11,bv11,(vU32 0)],.blk c11 [(vU32 pg),yv11,(.map (some mb11))] 196,Ent.ar yv11 1 he.length (List.map vU32 he),.obj mb11 (mP .i64 (List.map Gr.me []) 0),Ent.bs 199 Gr.cells Gr.b [],Ent.dp grD.list [],Ent.dp (sltD 211).list (List.replicate 9 Slt.zero),.row (.slice (some ⟨b13,0,none⟩) 1 1) 9 1 1 (List.map str [[120]]),.row v44 207 2 xs.length (List.flatMap xtc xs),.row u44 203 1 ps.length (List.map vU16 ps),.row q44 116 3 sg.length (List.flatMap sgc sg)]:=H14.splice [] [] [.row v44 207 2 xs.length (List.flatMap xtc xs),.row u44 203 1 ps.length (List.map vU16 ps),.row q44 116 3 sg.length (List.flatMap sgc sg)] rfl rfl hq44 (Fits.solid True.intro (Fits.solid True.intro (Fits.solid True.intro Fits.nil)))
     have H45:=H44.freeze (i:=19) rfl
     have H46:Owl.Own [] w w44 [.blk b1 [(vU32 pg),hv] 75,.blk b2 [(vU32 mp),ev,pv,(.bool con),(vU32 en),sv] 43,.blk x10 (xoC k10 (List.replicate 9 Slt.zero)) 146,Ent.bo k10 [(vU32 pg),hx10,(ptr c10 0),nv10,bv10,(vU32 0)],.blk c10 [(vU32 pg),yv10,(.map (some mb10))] 196,Ent.ar yv10 1 he.length (List.map vU32 he),.obj mb10 (mP .i64 (List.map Gr.me []) 0),Ent.bs 199 Gr.cells Gr.b [],Ent.dp grD.list [],Ent.dp (sltD 211).list (List.replicate 9 Slt.zero),.blk x11 (xoC k11 (List.replicate 9 Slt.zero)) 146,Ent.bo k11 [(vU32 pg),hx11,(ptr c11 0),nv11,bv11,(vU32 0)],.blk c11 [(vU32 pg),yv11,(.map (some mb11))] 196,Ent.ar yv11 1 he.length (List.map vU32 he),.obj mb11 (mP .i64 (List.map Gr.me []) 0),Ent.bs 199 Gr.cells Gr.b [],Ent.dp grD.list [],Ent.dp (sltD 211).list (List.replicate 9 Slt.zero),.row (.slice (some ⟨b13,0,none⟩) 1 1) 9 1 1 (List.map str [[120]]),Ent.ar v44 2 xs.length (List.flatMap xtc xs),Ent.ar u44 1 ps.length (List.map vU16 ps),.row q44 116 3 sg.length (List.flatMap sgc sg)]:=H45.freeze (i:=20) rfl
     have H47:=H46.freeze (i:=21) rfl
     refine wo (op_callF Fa.C40 rfl ((limage_img x10 k10 pg hx10 nv10 bv10 c10 pg yv10 he mb10 0 ([]) (List.replicate 9 Slt.zero) ([]) mp v44 u44 q44 xs ps con en sg _ _ (H47.part [2,3,4,5,6,7,8,9,19,20,21] rfl rfl) capRnil rfl (by omega) (by omega) (by omega) (by omega) hB30 (may_no hl1.2.2.2 hb15)).mono (fun e w48 hq=>?_)))
     obtain ⟨rfl,hq48⟩:=hq
     refine ⟨_,rfl,?_⟩
     have H48:Owl.Own [] w w48 [.blk b1 [(vU32 pg),hv] 75,.blk b2 [(vU32 mp),ev,pv,(.bool con),(vU32 en),sv] 43,.blk x10 (xoC k10 (List.replicate 9 Slt.zero)) 146,Ent.bo k10 [(vU32 pg),hx10,(ptr c10 0),nv10,bv10,(vU32 0)],.blk c10 [(vU32 pg),yv10,(.map (some mb10))] 196,Ent.ar yv10 1 he.length (List.map vU32 he),.obj mb10 (mP .i64 (List.map Gr.me []) 0),Ent.bs 199 Gr.cells Gr.b [],Ent.dp grD.list [],Ent.dp (sltD 211).list (List.replicate 9 Slt.zero),.blk x11 (xoC k11 (List.replicate 9 Slt.zero)) 146,Ent.bo k11 [(vU32 pg),hx11,(ptr c11 0),nv11,bv11,(vU32 0)],.blk c11 [(vU32 pg),yv11,(.map (some mb11))] 196,Ent.ar yv11 1 he.length (List.map vU32 he),.obj mb11 (mP .i64 (List.map Gr.me []) 0),Ent.bs 199 Gr.cells Gr.b [],Ent.dp grD.list [],Ent.dp (sltD 211).list (List.replicate 9 Slt.zero),.row (.slice (some ⟨b13,0,none⟩) 1 1) 9 1 1 (List.map str [[120]]),Ent.ar v44 2 xs.length (List.flatMap xtc xs),Ent.ar u44 1 ps.length (List.map vU16 ps),Ent.ar q44 3 sg.length (List.flatMap sgc sg)]:=H47.splice [2,3,4,5,6,7,8,9,19,20,21] [.blk x10 (xoC k10 (List.replicate 9 Slt.zero)) 146,Ent.bo k10 [(vU32 pg),hx10,(ptr c10 0),nv10,bv10,(vU32 0)],.blk c10 [(vU32 pg),yv10,(.map (some mb10))] 196,Ent.ar yv10 1 he.length (List.map vU32 he),.obj mb10 (mP .i64 (List.map Gr.me []) 0),Ent.bs 199 Gr.cells Gr.b [],Ent.dp grD.list [],Ent.dp (sltD 211).list (List.replicate 9 Slt.zero),Ent.ar v44 2 xs.length (List.flatMap xtc xs),Ent.ar u44 1 ps.length (List.map vU16 ps),Ent.ar q44 3 sg.length (List.flatMap sgc sg)] [] rfl rfl hq48 (Fits.solid True.intro (Fits.same (j:=1) rfl (Fits.solid True.intro (Fits.same (j:=3) rfl (Fits.solid True.intro (Fits.solid True.intro (Fits.same (j:=6) rfl (Fits.same (j:=7) rfl (Fits.same (j:=8) rfl (Fits.same (j:=9) rfl (Fits.same (j:=10) rfl Fits.nil)))))))))))
     refine wm rfl<|we rfl rfl<|we rfl rfl<|wa rfl<|wa rfl<|wn<|ws<|wo (op_loadS (vs:=[_,_,_,_,_,_]) rfl (H48.cells (i:=1) rfl rfl) Tryz.underlying43 rfl Fa.I43 rfl<|wo (op_callF Fa.C18 rfl ((seal_ok ([107]) mp _ _ _ xs ps con en sg _ (H48.arr hE) (H48.arr hP) (H48.arr hS) (by decide) (by omega) (by omega) (by omega) hB30 (Nat.lt_trans (imB_38 hl1) (by decide))).mono (fun e w49 hq=>?_))))
     obtain ⟨rfl,hf49⟩:=hq
     refine ⟨_,rfl,?_⟩
     have H49:=H48.fr' hf49
     refine wm rfl<|we rfl rfl<|we rfl rfl<|wa rfl<|wa rfl<|wn<|WC.seq<|ws<|wm rfl<|wo (op_neqN (b:=0) rfl rfl<|wn<|WC.yes rfl (decide_eq_true (by rw [may_no hl1.2.2.2 hb15]; decide))<|ws<|wo (op_loadS (vs:=[_,_,_,_,_,_]) rfl (H49.cells (i:=1) rfl rfl) Tryz.underlying43 rfl Fa.I43 rfl<|wo (op_callF Fa.C41 rfl ((icheck_ok mp _ _ _ xs ps con en sg _ (H49.arr hE) (H49.arr hP) (H49.arr hS) (by omega) (by omega) (by omega)).mono (fun e w50 hq=>?_)))))
     obtain ⟨rfl,hf50⟩:=hq
     refine ⟨_,rfl,?_⟩
     have H50:=H49.fr' hf50
     refine wo (op_eqlN (b:=2) rfl rfl<|wm rfl<|WL.yes rfl rfl rfl (decide_eq_true (may_no hl1.2.2.2 hb15)) rfl (op_move rfl<|WL.yes rfl rfl rfl (decide_eq_true (may_no hl1.2.2.2 hb15)) rfl (op_eqlN (b:=2) rfl rfl<|wo (op_pickT rfl (decide_eq_true (may_no hl1.2.2.2 hb15)) rfl<|wm rfl<|WL.yes rfl rfl rfl (by decide) rfl (op_move rfl<|WL.yes rfl rfl rfl (by decide) rfl (op_eqlN (b:=0) rfl rfl<|wo (op_pickT rfl (by decide) rfl<|wm rfl<|WL.yes rfl rfl rfl (by decide) rfl (op_move rfl<|WL.yes rfl rfl rfl (by decide) rfl (op_callF Fa.C38 rfl ((look24_ok x10 k10 pg hx10 nv10 bv10 c10 pg yv10 he mb10 0 ([]) (List.replicate 9 Slt.zero) ([]) _ (H50.cellsAt (i:=2) rfl) (H50.cellsAtO (i:=3) rfl) (H50.cellsAt (i:=4) rfl) (H50.arrO (i:=5) rfl) (H50.mp (i:=6) rfl) (H50.bsG (i:=7) rfl) (H50.dpO (i:=8) rfl) (H50.dpO (i:=9) rfl) capRnil rfl).mono (fun e w51 hq=>?_)))))))))))
     obtain ⟨rfl,hf51⟩:=hq
     refine ⟨_,rfl,?_⟩
     have H51:=H50.fr' hf51
     refine WL.yes rfl rfl rfl (by decide) rfl (op_move rfl<|WL.yes rfl rfl rfl (by decide) rfl (op_callF Fa.C38 rfl ((look24_ok x11 k11 pg hx11 nv11 bv11 c11 pg yv11 he mb11 0 ([]) (List.replicate 9 Slt.zero) ([]) _ (H51.cellsAt (i:=10) rfl) (H51.cellsAtO (i:=11) rfl) (H51.cellsAt (i:=12) rfl) (H51.arrO (i:=13) rfl) (H51.mp (i:=14) rfl) (H51.bsG (i:=7) rfl) (H51.dpO (i:=8) rfl) (H51.dpO (i:=17) rfl) capRnil rfl).mono (fun e w52 hq=>?_))))
     obtain ⟨rfl,hf52⟩:=hq
     refine ⟨_,rfl,?_⟩
     have H52:=H51.fr' hf52
     refine WL.yes rfl rfl rfl (by decide) rfl (op_eqlSame (by kernel_rfl) (gnd_key _ _ _) rfl rfl rfl<|wo (op_pickT rfl (by decide) rfl<|wm rfl<|wY rfl (op_callF Fa.C31 rfl ((alive24_ok _).mono (fun e w53 hq=>?_)))))
     obtain ⟨rfl,hf53⟩:=hq
     refine ⟨_,rfl,?_⟩
     have H53:=H52.fr' hf53
     exact wo (op_pickT rfl rfl rfl<|wa rfl<|wn<|WC.ret<|WQ.thenRet<|WQ.out (.tmp rfl .nil) (⟨rfl,H53.fr⟩))
   ·
    refine wo (op_loadS (vs:=[_,_]) rfl (H6.cells (i:=0) rfl rfl) Tryz.underlying75 rfl Fa.I75 rfl<|wo (op_callF Fa.C37 rfl ((exoNewX_ok pg _ he _ (H6.arr hH) (dF hb9) (by omega)).mono (fun e w54 hq=>?_))))
    obtain ⟨rfl,hf54⟩:=hq
    refine ⟨_,rfl,?_⟩
    have H54:=H6.fr' hf54
    refine wm rfl<|we rfl rfl<|we rfl rfl<|wa rfl<|wa rfl<|wn<|ws<|wo (op_loadS (vs:=[_,_]) rfl (H54.cells (i:=0) rfl rfl) Tryz.underlying75 rfl Fa.I75 rfl<|wo (op_callF Fa.C37 rfl ((exoNewX_ok pg _ he _ (H54.arr hH) (dF hb9) (by omega)).mono (fun e w55 hq=>?_))))
    obtain ⟨rfl,hf55⟩:=hq
    refine ⟨_,rfl,?_⟩
    have H55:=H54.fr' hf55
    refine wm rfl<|we rfl rfl<|we rfl rfl<|wa rfl<|wa rfl<|wn<|ws<|wo (op_loadS (vs:=[_,_,_,_,_,_]) rfl (H55.cells (i:=1) rfl rfl) Tryz.underlying43 rfl Fa.I43 rfl<|wo (op_callF Fa.C40 rfl ((limage_nil mp _ _ _ xs ps con en sg [] _ (Own.start _ []) (H55.arr hE) (H55.arr hP) (H55.arr hS)).mono (fun e w56 hq=>?_))))
    obtain ⟨rfl,hq56⟩:=hq
    refine ⟨_,rfl,?_⟩
    have H56:=H55.splice [] [] [] rfl rfl hq56 Fits.nil
    refine wm rfl<|we rfl rfl<|we rfl rfl<|wa rfl<|wa rfl<|wn<|ws<|wo (op_buildSlice (cs:=[_]) H56 Tryz.underlying59 Fa.I9 rfl rfl rfl rfl (by decide) (by decide) (fun b57 w57 H57=>(wo (op_callF Fa.C39 rfl ((all_nil [107] _ _).mono (fun e w58 hq=>?_))))))
    obtain ⟨rfl,hf58⟩:=hq
    refine ⟨_,rfl,?_⟩
    have H58:=H57.fr' hf58
    refine wm rfl<|we rfl rfl<|we rfl rfl<|we rfl rfl<|wa rfl<|wa rfl<|wa rfl<|wn<|WC.seq<|ws<|wm rfl<|wo (op_neqN (b:=1) rfl rfl<|wm rfl<|WL.yes rfl rfl rfl (by decide) rfl (op_move rfl<|WL.yes rfl rfl rfl (by decide) rfl (op_lenA Tryz.underlying83 rfl (Arr.nil _ 1)<|WL.yes rfl rfl rfl (by decide) rfl (op_neqN (b:=0) rfl rfl<|wo (op_pickF rfl (by decide) rfl<|wm rfl<|WL.yes rfl rfl rfl (by decide) rfl (op_move rfl<|WL.yes rfl rfl rfl (by decide) rfl (op_neqN (b:=0) rfl rfl<|wo (op_pickF rfl (by decide) rfl<|wm rfl<|WL.yes rfl rfl rfl (by decide) rfl (op_move rfl<|WL.yes rfl rfl rfl (by decide) rfl (op_neqN (b:=1) rfl rfl<|wo (op_pickF rfl (by decide) rfl<|wn<|WC.no rfl (by decide)<|WC.skip<|WQ.next<|WC.seq<|ws<|wm rfl<|wo (op_neqN (b:=0) rfl rfl<|wm rfl<|WL.no rfl rfl rfl (by decide) rfl<|WL.no rfl rfl rfl (by decide) rfl<|wo (op_pickT rfl (by decide) rfl<|wm rfl<|wN rfl<|wN rfl<|wo (op_pickT rfl rfl rfl<|wn<|WC.yes rfl rfl<|ws<|wo (op_callF Fa.C31 rfl ((alive24_ok _).mono (fun e w59 hq=>?_)))))))))))))))))
    obtain ⟨rfl,hf59⟩:=hq
    refine ⟨_,rfl,?_⟩
    have H59:=H58.fr' hf59
    exact wa rfl<|wn<|WC.ret<|WQ.thenRet<|WQ.out (.tmp rfl .nil) (⟨rfl,H59.fr⟩)
end Go.Proofs.YtbjhccnffacbcaaGreat
