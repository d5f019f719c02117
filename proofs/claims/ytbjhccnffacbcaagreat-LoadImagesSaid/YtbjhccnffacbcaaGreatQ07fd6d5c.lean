/- General lemmas and walks: WCap5, WCap6, WCap7, WCap8, WCap9, WCap10, WCap11, WCap12, WCap13, WCap14, WCap15, WPack, WPack2, WImg, WImg2, WImg3, WImg4, WImg5, WImg6, WImg7, WImg8, WImg9, WImg10. No condition but what each theorem names. -/
import Derived.Test.YtbjhccnffacbcaaGreatQ9230fe84
import Derived.Test.YtbjhccnffacbcaaGreatQcb9860f8
import Derived.Test.YtbjhccnffacbcaaGreatQ0a1db9bb
set_option maxRecDepth 100000
set_option maxHeartbeats 8000000
namespace Go.Proofs.YtbjhccnffacbcaaGreat
open Go.Owl Go.Spec
theorem full_ok (c:Nat) (pg:UInt32) (hv:Value) (he:List UInt32) (mb cn:Nat) (gs:List Gr) (mp:UInt32) (ev pv:Value) (xs:List Xt) (ps:List UInt16) (con:Bool) (pb:Nat) (pages:UInt32) (w:World) (hC:cellsAt w c [(vU32 pg),hv,(.map (some mb))]) (hH:Arr w hv 1 he.length (List.map vU32 he)) (hM:w.heap[mb]?=some (mP .i64 (List.map Gr.me gs) cn)) (hG:BsOK 199 Gr.cells Gr.b gs w) (hS:grD.list.ok w gs) (hPb:cellsAt w pb [(vU32 pages)]) (hME:MEok (List.map Gr.me gs) cn) (hE:Arr w ev 2 xs.length (List.flatMap xtc xs)) (hP:Arr w pv 1 ps.length (List.map vU16 ps)) :
  Calls Tryz.prog 173 #[(ptr c 0),(.agg #[(vU32 mp),ev,pv,(.bool con)]),(ptr pb 0)] w (fun e w'=>e=.returned (vN (fullE pg gs mp pages))∧Fr [] w w'):=by
 refine enter (args:=[(ptr c 0),(.agg #[(vU32 mp),ev,pv,(.bool con)]),(ptr pb 0)]) Tryz.func173 rfl rfl ?_
 have H0:Owl.Own [] w w [Ent.bo c [(vU32 pg),hv,(.map (some mb))],Ent.ar hv 1 he.length (List.map vU32 he),Ent.mo .i64 mb (List.map Gr.me gs) cn,Ent.bsO 199 Gr.cells Gr.b gs,Ent.dp grD.list gs,Ent.bo pb [(vU32 pages)]]:=(((((((Own.start w []).oldB hC).oldA hH).mpOld hM).bsOld hG).dpOld hS).oldB hPb)
 refine ws<|wo (op_box H0 rfl rfl (fun b1 w1 H1=>(wa rfl<|wn<|WC.seq<|WC.seq<|WC.draw 7 Fa.M H1 (oh (fun w1 H1=>op_fieldAddr rfl Fa.F40_0 zr)<|oh (fun w1 H1=>op_load rfl (H1.cell (i:=6) rfl rfl) Tryz.underlying22 rfl zr)<|oh (fun w1 H1=>op_load rfl (H1.cellO (i:=5) rfl rfl) Tryz.underlying22 rfl zr)<|oh (fun w1 H1=>op_addU32 rfl rfl zr)<|mh rfl<|oh (fun w1 H1=>op_callF Fa.C60 rfl ((free_ok c pg hv he mb cn gs _ (H1.cellsAtO (i:=0) rfl) (H1.arrO (i:=1) rfl) (H1.mpO (i:=2) rfl) (H1.bsR (i:=3) rfl) (H1.dpO (i:=4) rfl) hME).mono (fun e w2 hq=>⟨_,hq.1,rfl,hq.2⟩)))<|oh (fun w1 H1=>op_gtrU32 rfl rfl zr)  HW.nil) (by kernel_rfl) ?_)))
 intro β3 w3 H3
 refine wn (wC (decide ((mp+pages)>(freeS pg gs))) (fun hb4=>?_) (fun hb4=>?_))
 ·
  have hc4:=dT hb4
  exact ws<|wa rfl<|wn<|WC.ret<|WQ.thenRet<|WQ.out (.tmp rfl .nil) (⟨by rw [fullE,if_pos (dT hb4)]; rfl,H3.fr⟩)
 ·
  have hc4:=dF hb4
  exact WC.skip<|WQ.next<|ws<|wa rfl<|wn<|WC.ret<|WQ.out (.tmp rfl .nil) (⟨by rw [fullE,if_neg (dF hb4)]; rfl,H3.fr⟩)
theorem each_ok (c:Nat) (pg:UInt32) (hv:Value) (he:List UInt32) (mb cn:Nat) (gs:List Gr) (mp:UInt32) (ev pv:Value) (xs:List Xt) (ps:List UInt16) (con:Bool) (pb:Nat) (pages:UInt32) (lv:Value) (w:World) (hC:cellsAt w c [(vU32 pg),hv,(.map (some mb))]) (hH:Arr w hv 1 he.length (List.map vU32 he)) (hM:w.heap[mb]?=some (mP .i64 (List.map Gr.me gs) cn)) (hG:BsOK 199 Gr.cells Gr.b gs w) (hS:grD.list.ok w gs) (hPb:cellsAt w pb [(vU32 pages)]) (hME:MEok (List.map Gr.me gs) cn) (hfit: ∀g∈gs,g.ps.length<2^40∧g.xs.length<2^40) (hE:Arr w ev 2 xs.length (List.flatMap xtc xs)) (hP:Arr w pv 1 ps.length (List.map vU16 ps)) (hn:xs.length<2^40) (hm:ps.length<2^40) (hhe:he.length<2^32) (hL:Arr w lv 1 4 [(.func (.func 208) #[] #[]),(.func (.func 209) #[] #[]),(.func (.func 210) #[] #[]),(.func (.func 173) #[] #[(ptr pb 0)])]) :
  Calls Tryz.prog 207 #[(ptr c 0),(.agg #[(vU32 mp),ev,pv,(.bool con)]),lv] w (fun e w'=>e=.returned (vN (whyE pg he gs mp xs ps pages))∧Fr [] w w'):=by
 refine enter (args:=[(ptr c 0),(.agg #[(vU32 mp),ev,pv,(.bool con)]),lv]) Tryz.func207 rfl rfl ?_
 have H0:Owl.Own [] w w [Ent.bo c [(vU32 pg),hv,(.map (some mb))],Ent.ar hv 1 he.length (List.map vU32 he),Ent.mo .i64 mb (List.map Gr.me gs) cn,Ent.bsO 199 Gr.cells Gr.b gs,Ent.dp grD.list gs,Ent.bo pb [(vU32 pages)]]:=(((((((Own.start w []).oldB hC).oldA hH).mpOld hM).bsOld hG).dpOld hS).oldB hPb)
 refine ws<|wo (op_box H0 rfl rfl (fun b1 w1 H1=>(wa rfl<|wn<|WC.seq<|ws<|wm rfl<|wo (op_lenA Tryz.underlying332 rfl (H1.arr hL)<|wm rfl<|wn<|WC.block<|WC.unroll 4<|ws<|wo (op_lssN rfl rfl<|wn<|WC.seq<|WC.yes rfl rfl<|WC.skip<|WQ.next<|WC.seq<|WC.block<|ws<|wo (op_indexAddr1 Tryz.underlying332 Fa.I308 rfl (H1.arr hL) rfl (by simp)<|wo (op_load rfl ((H1.arr hL).at rfl) Tryz.underlying308 rfl<|wa rfl<|wn<|ws<|wm rfl<|wm rfl<|wo (op_loadS (vs:=[_,_,_,_]) rfl (H1.cells (i:=6) rfl rfl) Tryz.underlying40 rfl Fa.I40 rfl<|wo (op_call (f:=208) rfl Fa.C208 rfl ((none_ok c pg hv he mb cn gs mp _ _ xs ps con _ (H1.cellsAtO (i:=0) rfl) (H1.arrO (i:=1) rfl) (H1.mpO (i:=2) rfl) (H1.bsR (i:=3) rfl) (H1.dpO (i:=4) rfl) hME (H1.arr hE) (H1.arr hP) hn hm hhe).mono (fun e w2 hq=>?_)))))))))))
 obtain ⟨rfl,hf2⟩:=hq
 refine ⟨_,rfl,?_⟩
 have H2:=H1.fr' hf2
 refine wa rfl<|wn<|ws<|wm rfl<|wo (op_neqN (b:=0) rfl rfl<|wn (wC (decide ((noneE he xs)≠0)) (fun hb3=>?_) (fun hb3=>?_)))
 ·
  have hc3:=dT hb3
  exact ws<|wm rfl<|wa rfl<|wn<|WC.ret<|WQ.inRet<|WQ.thenRet<|WQ.thenRet<|WQ.inRet<|WQ.thenRet<|WQ.out (.tmp rfl .nil) (⟨by rw [whyE,if_pos (dT hb3)]; rfl,H2.fr⟩)
 ·
  have hc3:=dF hb3
  refine WC.skip<|WQ.inNormal<|WQ.next<|WC.region<|wo (op_addN (b:=1) rfl rfl (by simp)<|wm rfl<|WL.nil<|WQ.again<|ws<|wo (op_lssN rfl rfl<|wn<|WC.seq<|WC.yes rfl rfl<|WC.skip<|WQ.next<|WC.seq<|WC.block<|ws<|wo (op_indexAddr1 Tryz.underlying332 Fa.I308 rfl (H2.arr hL) rfl (by simp)<|wo (op_load rfl ((H2.arr hL).at rfl) Tryz.underlying308 rfl<|wa rfl<|wn<|ws<|wm rfl<|wm rfl<|wo (op_loadS (vs:=[_,_,_,_]) rfl (H2.cells (i:=6) rfl rfl) Tryz.underlying40 rfl Fa.I40 rfl<|wo (op_call (f:=209) rfl Fa.C209 rfl ((long_ok c pg hv he mb cn gs mp _ _ xs ps con _ (H2.cellsAtO (i:=0) rfl) (H2.arrO (i:=1) rfl) (H2.mpO (i:=2) rfl) (H2.bsR (i:=3) rfl) (H2.dpO (i:=4) rfl) hME (H2.arr hE) (H2.arr hP) hn hm hhe).mono (fun e w4 hq=>?_))))))))
  obtain ⟨rfl,hf4⟩:=hq
  refine ⟨_,rfl,?_⟩
  have H4:=H2.fr' hf4
  refine wa rfl<|wn<|ws<|wm rfl<|wo (op_neqN (b:=0) rfl rfl<|wn (wC (decide ((longE he xs)≠0)) (fun hb5=>?_) (fun hb5=>?_)))
  ·
   have hc5:=dT hb5
   exact ws<|wm rfl<|wa rfl<|wn<|WC.ret<|WQ.inRet<|WQ.thenRet<|WQ.thenRet<|WQ.inRet<|WQ.thenRet<|WQ.out (.tmp rfl .nil) (⟨by rw [whyE,if_neg (dF hb3),if_pos (dT hb5)]; rfl,H4.fr⟩)
  ·
   have hc5:=dF hb5
   refine WC.skip<|WQ.inNormal<|WQ.next<|WC.region<|wo (op_addN (b:=1) rfl rfl (by simp)<|wm rfl<|WL.nil<|WQ.again<|ws<|wo (op_lssN rfl rfl<|wn<|WC.seq<|WC.yes rfl rfl<|WC.skip<|WQ.next<|WC.seq<|WC.block<|ws<|wo (op_indexAddr1 Tryz.underlying332 Fa.I308 rfl (H4.arr hL) rfl (by simp)<|wo (op_load rfl ((H4.arr hL).at rfl) Tryz.underlying308 rfl<|wa rfl<|wn<|ws<|wm rfl<|wm rfl<|wo (op_loadS (vs:=[_,_,_,_]) rfl (H4.cells (i:=6) rfl rfl) Tryz.underlying40 rfl Fa.I40 rfl<|wo (op_call (f:=210) rfl Fa.C210 rfl ((busy_ok c pg hv he mb cn gs mp _ _ xs ps con _ (H4.cellsAtO (i:=0) rfl) (H4.arrO (i:=1) rfl) (H4.mpO (i:=2) rfl) (H4.bsR (i:=3) rfl) (H4.dpO (i:=4) rfl) hME hfit (H4.arr hE) (H4.arr hP) hn hm hhe).mono (fun e w6 hq=>?_))))))))
   obtain ⟨rfl,hf6⟩:=hq
   refine ⟨_,rfl,?_⟩
   have H6:=H4.fr' hf6
   refine wa rfl<|wn<|ws<|wm rfl<|wo (op_neqN (b:=0) rfl rfl<|wn (wC (decide ((busyE gs xs ps)≠0)) (fun hb7=>?_) (fun hb7=>?_)))
   ·
    have hc7:=dT hb7
    exact ws<|wm rfl<|wa rfl<|wn<|WC.ret<|WQ.inRet<|WQ.thenRet<|WQ.thenRet<|WQ.inRet<|WQ.thenRet<|WQ.out (.tmp rfl .nil) (⟨by rw [whyE,if_neg (dF hb3),if_neg (dF hb5),if_pos (dT hb7)]; rfl,H6.fr⟩)
   ·
    have hc7:=dF hb7
    refine WC.skip<|WQ.inNormal<|WQ.next<|WC.region<|wo (op_addN (b:=1) rfl rfl (by simp)<|wm rfl<|WL.nil<|WQ.again<|ws<|wo (op_lssN rfl rfl<|wn<|WC.seq<|WC.yes rfl rfl<|WC.skip<|WQ.next<|WC.seq<|WC.block<|ws<|wo (op_indexAddr1 Tryz.underlying332 Fa.I308 rfl (H6.arr hL) rfl (by simp)<|wo (op_load rfl ((H6.arr hL).at rfl) Tryz.underlying308 rfl<|wa rfl<|wn<|ws<|wm rfl<|wm rfl<|wo (op_loadS (vs:=[_,_,_,_]) rfl (H6.cells (i:=6) rfl rfl) Tryz.underlying40 rfl Fa.I40 rfl<|wo (op_call (f:=173) rfl Fa.C173 rfl ((full_ok c pg hv he mb cn gs mp _ _ xs ps con pb pages _ (H6.cellsAtO (i:=0) rfl) (H6.arrO (i:=1) rfl) (H6.mpO (i:=2) rfl) (H6.bsR (i:=3) rfl) (H6.dpO (i:=4) rfl) (H6.cellsAtO (i:=5) rfl) hME (H6.arr hE) (H6.arr hP)).mono (fun e w8 hq=>?_))))))))
    obtain ⟨rfl,hf8⟩:=hq
    refine ⟨_,rfl,?_⟩
    have H8:=H6.fr' hf8
    refine wa rfl<|wn<|ws<|wm rfl<|wo (op_neqN (b:=0) rfl rfl<|wn (wC (decide ((fullE pg gs mp pages)≠0)) (fun hb9=>?_) (fun hb9=>?_)))
    ·
     have hc9:=dT hb9
     exact ws<|wm rfl<|wa rfl<|wn<|WC.ret<|WQ.inRet<|WQ.thenRet<|WQ.thenRet<|WQ.inRet<|WQ.thenRet<|WQ.out (.tmp rfl .nil) (⟨by rw [whyE,if_neg (dF hb3),if_neg (dF hb5),if_neg (dF hb7)]; rfl,H8.fr⟩)
    ·
     have hc9:=dF hb9
     exact WC.skip<|WQ.inNormal<|WQ.next<|WC.region<|wo (op_addN (b:=1) rfl rfl (by simp)<|wm rfl<|WL.nil<|WQ.again<|ws<|wo (op_lssN rfl rfl<|wn<|WC.seq<|WC.no rfl rfl<|WC.exit<|WQ.thenExit<|WQ.thenExit<|WQ.inHere<|WQ.next<|ws<|wa rfl<|wn<|WC.ret<|WQ.out (.tmp rfl .nil) (⟨by rw [whyE,if_neg (dF hb3),if_neg (dF hb5),if_neg (dF hb7),show fullE pg gs mp pages=0 from Classical.not_not.1 (dF hb9)]; rfl,H8.fr⟩)))
theorem call_ok (c:Nat) (pg:UInt32) (hv:Value) (he:List UInt32) (mb cn:Nat) (gs:List Gr) (mp:UInt32) (ev pv:Value) (xs:List Xt) (ps:List UInt16) (con:Bool) (pb:Nat) (pages:UInt32) (w:World) (hC:cellsAt w c [(vU32 pg),hv,(.map (some mb))]) (hH:Arr w hv 1 he.length (List.map vU32 he)) (hM:w.heap[mb]?=some (mP .i64 (List.map Gr.me gs) cn)) (hG:BsOK 199 Gr.cells Gr.b gs w) (hS:grD.list.ok w gs) (hPb:cellsAt w pb [(vU32 pages)]) (hME:MEok (List.map Gr.me gs) cn) (hfit: ∀g∈gs,g.ps.length<2^40∧g.xs.length<2^40) (hE:Arr w ev 2 xs.length (List.flatMap xtc xs)) (hP:Arr w pv 1 ps.length (List.map vU16 ps)) (hn:xs.length<2^40) (hm:ps.length<2^40) (hhe:he.length<2^32) :
  Calls Tryz.prog 174 #[(ptr c 0),(.agg #[(vU32 mp),ev,pv,(.bool con)]),(.func (.func 173) #[] #[(ptr pb 0)])] w (fun e w'=>e=.returned (vN (whyE pg he gs mp xs ps pages))∧Fr [] w w'):=by
 refine enter (args:=[(ptr c 0),(.agg #[(vU32 mp),ev,pv,(.bool con)]),(.func (.func 173) #[] #[(ptr pb 0)])]) Tryz.func174 rfl rfl ?_
 have H0:Owl.Own [] w w [Ent.bo c [(vU32 pg),hv,(.map (some mb))],Ent.ar hv 1 he.length (List.map vU32 he),Ent.mo .i64 mb (List.map Gr.me gs) cn,Ent.bsO 199 Gr.cells Gr.b gs,Ent.dp grD.list gs,Ent.bo pb [(vU32 pages)]]:=(((((((Own.start w []).oldB hC).oldA hH).mpOld hM).bsOld hG).dpOld hS).oldB hPb)
 refine ws<|wo (op_box H0 rfl rfl (fun b1 w1 H1=>(wa rfl<|wn<|ws<|wm rfl<|wo (op_loadS (vs:=[_,_,_,_]) rfl (H1.cells (i:=6) rfl rfl) Tryz.underlying40 rfl Fa.I40 rfl<|wm rfl<|wo (op_buildSlice (cs:=[_,_,_,_]) H1 Tryz.underlying332 Fa.I308 rfl rfl rfl rfl (by decide) (by decide) (fun b2 w2 H2=>(wo (op_callF Fa.C207 rfl ((each_ok c pg hv he mb cn gs mp _ _ xs ps con pb pages _ _ (H2.cellsAtO (i:=0) rfl) (H2.arrO (i:=1) rfl) (H2.mpO (i:=2) rfl) (H2.bsR (i:=3) rfl) (H2.dpO (i:=4) rfl) (H2.cellsAtO (i:=5) rfl) hME hfit (H2.arr hE) (H2.arr hP) hn hm hhe (H2.arrR (i:=7) rfl)).mono (fun e w3 hq=>?_))))))))))
 obtain ⟨rfl,hf3⟩:=hq
 refine ⟨_,rfl,?_⟩
 have H3:=H2.fr' hf3
 exact wa rfl<|wn<|WC.ret<|WQ.out (.tmp rfl .nil) (⟨rfl,H3.fr⟩)
theorem cloneX_ok (lv:Value) (l:List Xt) (w:World) (hA:Arr w lv 2 l.length (List.flatMap xtc l)) (hn:l.length<2^40) :
  Calls Tryz.prog 171 #[lv] w (fun e w'=> ∃v,e=.returned v∧Owl.Own [] w w' [.row v 207 2 l.length (List.flatMap xtc l)]):=by
 refine enter (args:=[lv]) Tryz.func171 rfl rfl ?_
 have H0:Owl.Own [] w w []:=Own.start w []
 refine ws<|wa rfl<|wn<|WC.seq<|ws<|wm rfl<|wo (op_eqlSN Tryz.underlying37 rfl (H0.arr hA) rfl<|wn (wC (isNilS lv) (fun hb1=>?_) (fun hb1=>?_)))
 ·
  refine ws<|wa rfl<|wn<|WC.ret<|WQ.thenRet<|WQ.out (.tmp rfl .nil) ?_
  obtain rfl:l=[]:=List.eq_nil_of_length_eq_zero (hA.isNil0 hb1).1
  exact ⟨_,rfl,(H0.sel [] rfl rfl).nilRow 207 2⟩
 ·
  refine WC.skip<|WQ.next<|ws<|wo (op_buildSlice (cs:=[]) H0 Tryz.underlying37 Fa.I207 rfl rfl rfl rfl (by decide) (by decide) (fun b2 w2 H2=>(wm rfl<|wo (op_appendF (f:=xtc) (l:=[]) (l':=l) (i:=0) H2 Tryz.underlying37 Fa.I207 rfl rfl rfl rfl (Src.ofArr Tryz.underlying37 (H2.arr hA)) (one_flat (fun _=>by simp [xtc,Value.oneCell'])) (by omega) (by omega) (fun v3 w3 H3=>(wa rfl<|wn<|WC.ret<|WQ.out (.tmp rfl .nil) ?_))))))
  have h:=H3.sel [0] rfl rfl
  rw [Nat.zero_add,List.nil_append] at h
  exact ⟨_,rfl,h⟩
theorem clone16_ok (lv:Value) (l:List UInt16) (w:World) (hA:Arr w lv 1 l.length (List.map vU16 l)) (hn:l.length<2^40) :
  Calls Tryz.prog 172 #[lv] w (fun e w'=> ∃v,e=.returned v∧Owl.Own [] w w' [.row v 203 1 l.length (List.map vU16 l)]):=by
 refine enter (args:=[lv]) Tryz.func172 rfl rfl ?_
 have H0:Owl.Own [] w w []:=Own.start w []
 refine ws<|wa rfl<|wn<|WC.seq<|ws<|wm rfl<|wo (op_eqlSN Tryz.underlying38 rfl (H0.arr hA) rfl<|wn (wC (isNilS lv) (fun hb1=>?_) (fun hb1=>?_)))
 ·
  refine ws<|wa rfl<|wn<|WC.ret<|WQ.thenRet<|WQ.out (.tmp rfl .nil) ?_
  obtain rfl:l=[]:=List.eq_nil_of_length_eq_zero (hA.isNil0 hb1).1
  exact ⟨_,rfl,(H0.sel [] rfl rfl).nilRow 203 1⟩
 ·
  refine WC.skip<|WQ.next<|ws<|wo (op_buildSlice (cs:=[]) H0 Tryz.underlying38 Fa.I203 rfl rfl rfl rfl (by decide) (by decide) (fun b2 w2 H2=>(wm rfl<|wo (op_append (i:=0) H2 Tryz.underlying38 Fa.I203 rfl rfl rfl rfl (Src.ofArr Tryz.underlying38 (H2.arr hA)) (by simp [Value.oneCell']) (by omega) (by omega) (fun v3 w3 H3=>(wa rfl<|wn<|WC.ret<|WQ.out (.tmp rfl .nil) ?_))))))
  have h:=H3.sel [0] rfl rfl
  rw [Nat.zero_add,List.nil_append] at h
  exact ⟨_,rfl,h⟩
theorem grant_no (c:Nat) (pg:UInt32) (hv:Value) (he:List UInt32) (mb cn:Nat) (gs:List Gr) (en:Nat) (mp:UInt32) (ev pv:Value) (xs:List Xt) (ps:List UInt16) (con:Bool) (pages:UInt32) (T:List Nat) (w:World) (H:Owl.Own T w w [.blk c [(vU32 pg),hv,(.map (some mb))] 196,Ent.ar hv 1 he.length (List.map vU32 he),.obj mb (mP .i64 (List.map Gr.me gs) cn),Ent.bs 199 Gr.cells Gr.b gs,Ent.dp grD.list gs,Ent.ar ev 2 xs.length (List.flatMap xtc xs),Ent.ar pv 1 ps.length (List.map vU16 ps)]) (hME:MEok (List.map Gr.me gs) cn) (h1:1≤en) (h8:en≤8) (hn:xs.length<2^40) (hm:ps.length<2^40) (hhe:he.length<2^32) (hfit: ∀g∈gs,g.ps.length<2^40∧g.xs.length<2^40) (hmf:mfE mp xs ps=0) (hpg:¬pages>4096) (no: ∀g∈gs,(g.e:Int)≠(en:Int)) (hw:(whyE pg he gs mp xs ps pages)≠0) :
  Calls Tryz.prog 132 #[(ptr c 0),(vN en),(.agg #[(vU32 mp),ev,pv,(.bool con)]),(vU32 pages)] w (fun e w'=>e=.returned (vN (whyE pg he gs mp xs ps pages))∧Owl.Own T w w' [.blk c [(vU32 pg),hv,(.map (some mb))] 196,Ent.ar hv 1 he.length (List.map vU32 he),.obj mb (mP .i64 (List.map Gr.me gs) cn),Ent.bs 199 Gr.cells Gr.b gs,Ent.dp grD.list gs,Ent.ar ev 2 xs.length (List.flatMap xtc xs),Ent.ar pv 1 ps.length (List.map vU16 ps)]):=by
 refine enter (args:=[(ptr c 0),(vN en),(.agg #[(vU32 mp),ev,pv,(.bool con)]),(vU32 pages)]) Tryz.func132 rfl rfl<|ws<|wo (op_box H rfl rfl (fun b1 w1 H1=>(wo (op_box H1 rfl rfl (fun b2 w2 H2=>(wa rfl<|wn<|WC.seq<|WC.block<|ws<|wm rfl<|wo (op_eqlPN Fa.PT110 rfl rfl<|wa rfl<|wn<|WC.no rfl rfl<|ws<|wm rfl<|wo (op_lssN (b:=1) rfl rfl<|wm rfl<|WL.yes rfl rfl rfl (decide_eq_false (by omega)) rfl (op_move rfl<|WL.yes rfl rfl rfl (decide_eq_false (by omega)) rfl (op_gtrN (b:=8) rfl rfl<|wo (op_pickF rfl (decide_eq_false (by omega)) rfl<|wm rfl<|WL.yes rfl rfl rfl (decide_eq_false (by omega)) rfl (op_loadS (vs:=[_,_,_,_]) rfl (H2.cells (i:=7) rfl rfl) Tryz.underlying40 rfl Fa.I40 rfl<|WL.yes rfl rfl rfl (decide_eq_false (by omega)) rfl (op_callF Fa.C90 rfl ((dcheck_ok mp _ _ xs ps con _ (H2.arrO (i:=5) rfl) (H2.arrO (i:=6) rfl) (by omega) (by omega)).mono (fun e w3 hq=>?_)))))))))))))))
 obtain ⟨rfl,hf3⟩:=hq
 refine ⟨_,rfl,?_⟩
 have H3:=H2.fr' hf3
 refine WL.yes rfl rfl rfl (decide_eq_false (by omega)) rfl (op_neqN (b:=0) rfl rfl<|wo (op_pickF rfl (decide_eq_false (by omega)) rfl<|wm rfl<|WL.yes rfl rfl rfl (decide_eq_false (fun h=>h hmf)) rfl (op_load rfl (H3.cell (i:=8) rfl rfl) Tryz.underlying22 rfl<|WL.yes rfl rfl rfl (decide_eq_false (fun h=>h hmf)) rfl (op_gtrU32 (b:=4096) rfl rfl<|wo (op_pickF rfl (decide_eq_false (fun h=>h hmf)) rfl<|wa rfl<|wn<|WC.no rfl (decide_eq_false hpg)<|ws<|wm rfl<|wo (op_nilCheck rfl<|wo (op_fieldAddr rfl Fa.F196_1<|wo (op_load rfl (H3.cell (i:=0) rfl rfl) Tryz.underlying194 rfl<|wm rfl<|wo (op_lookG_no (H3.mp (i:=2) rfl) no Tryz.underlying194 Tryz.underlying3 Fa.Z197 rfl rfl<|wo (op_neqPN Fa.PT197 rfl rfl<|wa rfl<|wn<|WC.no rfl rfl<|WC.skip<|WQ.inNormal<|WQ.next<|ws<|wo (op_makeFunc rfl rfl<|wa rfl<|wn<|WC.seq<|ws<|wm rfl<|wo (op_loadS (vs:=[_,_,_,_]) rfl (H3.cells (i:=7) rfl rfl) Tryz.underlying40 rfl Fa.I40 rfl<|wm rfl<|wo (op_callF Fa.C174 rfl ((call_ok c pg hv he mb cn gs mp _ _ xs ps con b2 pages _ (H3.cellsAt (i:=0) rfl) (H3.arrO (i:=1) rfl) (H3.mp (i:=2) rfl) (H3.bsG (i:=3) rfl) (H3.dpO (i:=4) rfl) (H3.cellsAt (i:=8) rfl) hME hfit (H3.arrO (i:=5) rfl) (H3.arrO (i:=6) rfl) hn hm hhe).mono (fun e w4 hq=>?_)))))))))))))))
 obtain ⟨rfl,hf4⟩:=hq
 refine ⟨_,rfl,?_⟩
 have H4:=H3.fr' hf4
 exact wa rfl<|wn<|ws<|wm rfl<|wo (op_neqN (b:=0) rfl rfl<|wn<|WC.yes rfl (decide_eq_true hw)<|ws<|wm rfl<|wa rfl<|wn<|WC.ret<|WQ.thenRet<|WQ.out (.tmp rfl .nil) (⟨rfl,H4.sel [0,1,2,3,4,5,6] rfl rfl⟩))
theorem grant_have (c:Nat) (pg:UInt32) (hv:Value) (he:List UInt32) (mb cn:Nat) (gs:List Gr) (en:Nat) (mp:UInt32) (ev pv:Value) (xs:List Xt) (ps:List UInt16) (con:Bool) (pages:UInt32) (g:Gr) (T:List Nat) (w:World) (H:Owl.Own T w w [.blk c [(vU32 pg),hv,(.map (some mb))] 196,Ent.ar hv 1 he.length (List.map vU32 he),.obj mb (mP .i64 (List.map Gr.me gs) cn),Ent.bs 199 Gr.cells Gr.b gs,Ent.dp grD.list gs,Ent.ar ev 2 xs.length (List.flatMap xtc xs),Ent.ar pv 1 ps.length (List.map vU16 ps)]) (hME:MEok (List.map Gr.me gs) cn) (h1:1≤en) (h8:en≤8) (hn:xs.length<2^40) (hm:ps.length<2^40) (hhe:he.length<2^32) (hfit: ∀g∈gs,g.ps.length<2^40∧g.xs.length<2^40) (hmf:mfE mp xs ps=0) (hpg:¬pages>4096) (hg:g∈gs) (hge:(g.e:Int)=(en:Int)) :
  Calls Tryz.prog 132 #[(ptr c 0),(vN en),(.agg #[(vU32 mp),ev,pv,(.bool con)]),(vU32 pages)] w (fun e w'=>e=.returned (vN 9)∧Owl.Own T w w' [.blk c [(vU32 pg),hv,(.map (some mb))] 196,Ent.ar hv 1 he.length (List.map vU32 he),.obj mb (mP .i64 (List.map Gr.me gs) cn),Ent.bs 199 Gr.cells Gr.b gs,Ent.dp grD.list gs,Ent.ar ev 2 xs.length (List.flatMap xtc xs),Ent.ar pv 1 ps.length (List.map vU16 ps)]):=by
 refine enter (args:=[(ptr c 0),(vN en),(.agg #[(vU32 mp),ev,pv,(.bool con)]),(vU32 pages)]) Tryz.func132 rfl rfl<|ws<|wo (op_box H rfl rfl (fun b1 w1 H1=>(wo (op_box H1 rfl rfl (fun b2 w2 H2=>(wa rfl<|wn<|WC.seq<|WC.block<|ws<|wm rfl<|wo (op_eqlPN Fa.PT110 rfl rfl<|wa rfl<|wn<|WC.no rfl rfl<|ws<|wm rfl<|wo (op_lssN (b:=1) rfl rfl<|wm rfl<|WL.yes rfl rfl rfl (decide_eq_false (by omega)) rfl (op_move rfl<|WL.yes rfl rfl rfl (decide_eq_false (by omega)) rfl (op_gtrN (b:=8) rfl rfl<|wo (op_pickF rfl (decide_eq_false (by omega)) rfl<|wm rfl<|WL.yes rfl rfl rfl (decide_eq_false (by omega)) rfl (op_loadS (vs:=[_,_,_,_]) rfl (H2.cells (i:=7) rfl rfl) Tryz.underlying40 rfl Fa.I40 rfl<|WL.yes rfl rfl rfl (decide_eq_false (by omega)) rfl (op_callF Fa.C90 rfl ((dcheck_ok mp _ _ xs ps con _ (H2.arrO (i:=5) rfl) (H2.arrO (i:=6) rfl) (by omega) (by omega)).mono (fun e w3 hq=>?_)))))))))))))))
 obtain ⟨rfl,hf3⟩:=hq
 refine ⟨_,rfl,?_⟩
 have H3:=H2.fr' hf3
 exact WL.yes rfl rfl rfl (decide_eq_false (by omega)) rfl (op_neqN (b:=0) rfl rfl<|wo (op_pickF rfl (decide_eq_false (by omega)) rfl<|wm rfl<|WL.yes rfl rfl rfl (decide_eq_false (fun h=>h hmf)) rfl (op_load rfl (H3.cell (i:=8) rfl rfl) Tryz.underlying22 rfl<|WL.yes rfl rfl rfl (decide_eq_false (fun h=>h hmf)) rfl (op_gtrU32 (b:=4096) rfl rfl<|wo (op_pickF rfl (decide_eq_false (fun h=>h hmf)) rfl<|wa rfl<|wn<|WC.no rfl (decide_eq_false hpg)<|ws<|wm rfl<|wo (op_nilCheck rfl<|wo (op_fieldAddr rfl Fa.F196_1<|wo (op_load rfl (H3.cell (i:=0) rfl rfl) Tryz.underlying194 rfl<|wm rfl<|wo (op_lookG_some (g:=g) (H3.mp (i:=2) rfl) hME hg hge Tryz.underlying194 Tryz.underlying3 rfl rfl<|wo (op_neqPN Fa.PT197 rfl rfl<|wa rfl<|wn<|WC.yes rfl rfl<|ws<|wa rfl<|wn<|WC.ret<|WQ.inRet<|WQ.thenRet<|WQ.out (.tmp rfl .nil) (⟨rfl,H3.sel [0,1,2,3,4,5,6] rfl rfl⟩)))))))))))
theorem grant_yes (c:Nat) (pg:UInt32) (hv:Value) (he:List UInt32) (mb cn:Nat) (gs:List Gr) (en:Nat) (mp:UInt32) (ev pv:Value) (xs:List Xt) (ps:List UInt16) (con:Bool) (pages:UInt32) (T:List Nat) (w:World) (H:Owl.Own T w w [.blk c [(vU32 pg),hv,(.map (some mb))] 196,Ent.ar hv 1 he.length (List.map vU32 he),.obj mb (mP .i64 (List.map Gr.me gs) cn),Ent.bs 199 Gr.cells Gr.b gs,Ent.dp grD.list gs,Ent.ar ev 2 xs.length (List.flatMap xtc xs),Ent.ar pv 1 ps.length (List.map vU16 ps)]) (hME:MEok (List.map Gr.me gs) cn) (h1:1≤en) (h8:en≤8) (hn:xs.length<2^40) (hm:ps.length<2^40) (hhe:he.length<2^32) (hfit: ∀g∈gs,g.ps.length<2^40∧g.xs.length<2^40) (hmf:mfE mp xs ps=0) (hpg:¬pages>4096) (no: ∀g∈gs,(g.e:Int)≠(en:Int)) (hw:(whyE pg he gs mp xs ps pages)=0) (hT: ∀b∈T,b=c∨b=mb∨b∈List.map Gr.b gs) :
    Calls Tryz.prog 132 #[(ptr c 0),(vN en),(.agg #[(vU32 mp),ev,pv,(.bool con)]),(vU32 pages)] w (fun e w'=> ∃b v1 v2,e=.returned (vN 0)∧(∀x∈grD.ft (Gr.mk en b cn mp v1 xs v2 ps con pages 0),w.heap.size≤x)∧Owl.Own T w w' [.blk c [(vU32 pg),hv,(.map (some mb))] 196,Ent.ar hv 1 he.length (List.map vU32 he),.obj mb (mP .i64 (List.map Gr.me (gs++[(Gr.mk en b cn mp v1 xs v2 ps con pages 0)])) (cn+1)),Ent.bs 199 Gr.cells Gr.b (gs++[(Gr.mk en b cn mp v1 xs v2 ps con pages 0)]),Ent.dp grD.list (gs++[(Gr.mk en b cn mp v1 xs v2 ps con pages 0)]),Ent.ar ev 2 xs.length (List.flatMap xtc xs),Ent.ar pv 1 ps.length (List.map vU16 ps)]):=by
  refine enter (args:=[(ptr c 0),(vN en),(.agg #[(vU32 mp),ev,pv,(.bool con)]),(vU32 pages)]) Tryz.func132 rfl rfl<|ws<|wo (op_box H rfl rfl (fun b1 w1 H1=>(wo (op_box H1 rfl rfl (fun b2 w2 H2=>(wa rfl<|wn<|WC.seq<|WC.block<|ws<|wm rfl<|wo (op_eqlPN Fa.PT110 rfl rfl<|wa rfl<|wn<|WC.no rfl rfl<|ws<|wm rfl<|wo (op_lssN (b:=1) rfl rfl<|wm rfl<|WL.yes rfl rfl rfl (decide_eq_false (by omega)) rfl (op_move rfl<|WL.yes rfl rfl rfl (decide_eq_false (by omega)) rfl (op_gtrN (b:=8) rfl rfl<|wo (op_pickF rfl (decide_eq_false (by omega)) rfl<|wm rfl<|WL.yes rfl rfl rfl (decide_eq_false (by omega)) rfl (op_loadS (vs:=[_,_,_,_]) rfl (H2.cells (i:=7) rfl rfl) Tryz.underlying40 rfl Fa.I40 rfl<|WL.yes rfl rfl rfl (decide_eq_false (by omega)) rfl (op_callF Fa.C90 rfl ((dcheck_ok mp _ _ xs ps con _ (H2.arrO (i:=5) rfl) (H2.arrO (i:=6) rfl) (by omega) (by omega)).mono (fun e w3 hq=>?_)))))))))))))))
  obtain ⟨rfl,hf3⟩:=hq
  refine ⟨_,rfl,?_⟩
  have H3:=H2.fr' hf3
  refine WL.yes rfl rfl rfl (decide_eq_false (by omega)) rfl (op_neqN (b:=0) rfl rfl<|wo (op_pickF rfl (decide_eq_false (by omega)) rfl<|wm rfl<|WL.yes rfl rfl rfl (decide_eq_false (fun h=>h hmf)) rfl (op_load rfl (H3.cell (i:=8) rfl rfl) Tryz.underlying22 rfl<|WL.yes rfl rfl rfl (decide_eq_false (fun h=>h hmf)) rfl (op_gtrU32 (b:=4096) rfl rfl<|wo (op_pickF rfl (decide_eq_false (fun h=>h hmf)) rfl<|wa rfl<|wn<|WC.no rfl (decide_eq_false hpg)<|ws<|wm rfl<|wo (op_nilCheck rfl<|wo (op_fieldAddr rfl Fa.F196_1<|wo (op_load rfl (H3.cell (i:=0) rfl rfl) Tryz.underlying194 rfl<|wm rfl<|wo (op_lookG_no (H3.mp (i:=2) rfl) no Tryz.underlying194 Tryz.underlying3 Fa.Z197 rfl rfl<|wo (op_neqPN Fa.PT197 rfl rfl<|wa rfl<|wn<|WC.no rfl rfl<|WC.skip<|WQ.inNormal<|WQ.next<|ws<|wo (op_makeFunc rfl rfl<|wa rfl<|wn<|WC.seq<|ws<|wm rfl<|wo (op_loadS (vs:=[_,_,_,_]) rfl (H3.cells (i:=7) rfl rfl) Tryz.underlying40 rfl Fa.I40 rfl<|wm rfl<|wo (op_callF Fa.C174 rfl ((call_ok c pg hv he mb cn gs mp _ _ xs ps con b2 pages _ (H3.cellsAt (i:=0) rfl) (H3.arrO (i:=1) rfl) (H3.mp (i:=2) rfl) (H3.bsG (i:=3) rfl) (H3.dpO (i:=4) rfl) (H3.cellsAt (i:=8) rfl) hME hfit (H3.arrO (i:=5) rfl) (H3.arrO (i:=6) rfl) hn hm hhe).mono (fun e w4 hq=>?_)))))))))))))))
  obtain ⟨rfl,hf4⟩:=hq
  refine ⟨_,rfl,?_⟩
  have H4:=H3.fr' hf4
  refine wa rfl<|wn<|ws<|wm rfl<|wo (op_neqN (b:=0) rfl rfl<|wn<|WC.no rfl (decide_eq_false (fun h=>h hw))<|WC.skip<|WQ.next<|WC.seq<|WC.draw 7 Fa.M H4 (oh (fun w1 H1=>op_fieldAddr rfl Fa.F40_1 zr)<|oh (fun w1 H1=>op_load rfl (H1.cell (i:=7) rfl rfl) Tryz.underlying37 rfl zr)<|HW.flt (mk:=fun bq=>bq.2) (ent:=fun bq=>.row bq.2 207 2 xs.length (List.flatMap xtc xs)) rfl (fun w1 H1=>op_callF Fa.C171 rfl ((cloneX_ok _ xs _ (H1.arrO (i:=5) rfl) (by omega)).mono (fun e w2 ⟨v,he,hO⟩=>⟨_,he,(0,v),rfl,hO,True.intro⟩)))<|oh (fun w1 H1=>op_fieldAddr rfl Fa.F40_2 zr)<|oh (fun w1 H1=>op_load rfl (H1.cell (i:=7) rfl rfl) Tryz.underlying38 rfl zr)<|HW.flt (mk:=fun bq=>bq.2) (ent:=fun bq=>.row bq.2 203 1 ps.length (List.map vU16 ps)) rfl (fun w1 H1=>op_callF Fa.C172 rfl ((clone16_ok _ ps _ (H1.arrO (i:=6) rfl) (by omega)).mono (fun e w2 ⟨v,he,hO⟩=>⟨_,he,(0,v),rfl,hO,True.intro⟩)))<|oh (fun w1 H1=>op_fieldAddr rfl Fa.F40_1 zr)  HW.nil) (by kernel_rfl) ?_)
  intro β7 w7 H7
  refine wo (op_storeB (i:=7) H7 rfl rfl rfl rfl (Arr.one (H7.arrR (i:=9) rfl)) Fa.I37 (fun w8 H8=>(wo (op_fieldAddr rfl Fa.F40_2<|wo (op_storeB (i:=7) H8 rfl rfl rfl rfl (Arr.one (H8.arrR (i:=10) rfl)) Fa.I38 (fun w9 H9=>(wn<|WC.seq<|WC.draw 9 Fa.M H9 (mh rfl<|oh (fun w1 H1=>op_nilCheck rfl zr)<|oh (fun w1 H1=>op_fieldAddr rfl Fa.F196_1 zr)<|oh (fun w1 H1=>op_load rfl (H1.cell (i:=0) rfl rfl) Tryz.underlying194 rfl zr)<|mh rfl<|oh (fun w1 H1=>op_loadS (vs:=[_,_,_,_]) rfl (H1.cells (i:=7) rfl rfl) Tryz.underlying40 rfl Fa.I40 rfl zr)<|oh (fun w1 H1=>op_load rfl (H1.cell (i:=8) rfl rfl) Tryz.underlying22 rfl zr)<|oh (fun w1 H1=>op_build (cs:=[_,_,_,_,_,_]) Fa.I199 Fa.PL199 rfl rfl zr)<|HW.flt (mk:=fun bq=>ptr bq.1 0) (ent:=fun bq=>.blk bq.1 _ _) rfl (fun w1 _=>op_box (Own.start w1 []) rfl rfl (fun bq w2 H2=>⟨(bq,undef),rfl,H2,True.intro⟩))  HW.nil) (by kernel_rfl) ?_)))))))
  intro β10 w10 H10
  refine wo (op_updP (i:=2) (k:=en) H10 rfl Tryz.underlying194 Tryz.underlying3 (fun x hx hk=>by obtain ⟨g,hg,rfl⟩:=List.mem_map.1 hx; exact no g hg (by show ((Gr.me g).k:Int)=_; omega)) rfl rfl rfl (fun w11 H11=>?_))
  refine wn<|ws<|wa rfl<|wn<|WC.ret<|WQ.out (.tmp rfl .nil) ?_
  have h:=H11
  rw [show List.map Gr.me gs++[ME.mk en (β10 8).1 cn]=List.map Gr.me (gs++[(Gr.mk en (β10 8).1 cn mp (β7 2).2 xs (β7 5).2 ps con pages 0)]) from by rw [List.map_append]; rfl] at h
  have h2:=h.fold (i:=3) (j:=11) (f:=Gr.cells) (bl:=Gr.b) (a:=(Gr.mk en (β10 8).1 cn mp (β7 2).2 xs (β7 5).2 ps con pages 0)) (l1:=gs) (l2:=[]) (by rw [List.append_nil]; rfl) rfl rfl rfl rfl
  have hz1:=h2.rowFreshT (i:=9) rfl (fun b hb=>by
    rcases hT b hb with h9 | h9 | h9
    · exact ⟨0,_,rfl,by decide,congrArg some h9.symm⟩
    · exact ⟨2,_,rfl,by decide,congrArg some h9.symm⟩
    · exact ⟨3,_,rfl,by decide,by show b∈List.map Gr.b (gs++[_]); rw [List.map_append]; exact List.mem_append.2 (.inl h9)⟩)
  have hz2:=h2.rowFreshT (i:=10) rfl (fun b hb=>by
    rcases hT b hb with h9 | h9 | h9
    · exact ⟨0,_,rfl,by decide,congrArg some h9.symm⟩
    · exact ⟨2,_,rfl,by decide,congrArg some h9.symm⟩
    · exact ⟨3,_,rfl,by decide,by show b∈List.map Gr.b (gs++[_]); rw [List.map_append]; exact List.mem_append.2 (.inl h9)⟩)
  have h3:=(h2.freeze (i:=9) rfl).freeze (i:=10) rfl
  have h4:=h3.join (i:=9) (j:=10) (sr:=grD.st (Gr.mk en (β10 8).1 cn mp (β7 2).2 xs (β7 5).2 ps con pages 0)) rfl rfl (fun p q=>⟨p,q⟩) (fun b hb=>List.mem_append.1 hb)
  have h5:=Own.dpSnoc (D:=grD) (l:=gs) (a:=(Gr.mk en (β10 8).1 cn mp (β7 2).2 xs (β7 5).2 ps con pages 0)) (i:=4) (j:=12) h4 rfl rfl
  exact ⟨_,_,_,rfl,fun x hx=>(List.mem_append.1 hx).elim (hz1 x) (hz2 x),h5.sel [0,1,2,3,13,5,6] rfl rfl⟩
theorem release_yes (c:Nat) (pg:UInt32) (hv:Value) (he:List UInt32) (mb cn:Nat) (l1 l2:List Gr) (g:Gr) (env:Int) (T:List Nat) (w:World) (H:Owl.Own T w w [.blk c [(vU32 pg),hv,(.map (some mb))] 196,Ent.ar hv 1 he.length (List.map vU32 he),.obj mb (mP .i64 (List.map Gr.me (l1++g::l2)) cn),Ent.bs 199 Gr.cells Gr.b (l1++g::l2),Ent.dp grD.list (l1++g::l2)]) (hME:MEok (List.map Gr.me (l1++g::l2)) cn) (hge:(g.e:Int)=env) :
  Calls Tryz.prog 105 #[(ptr c 0),(vI env)] w (fun e w'=>e=.returned (vN 0)∧Owl.Own T w w' [.blk c [(vU32 pg),hv,(.map (some mb))] 196,Ent.ar hv 1 he.length (List.map vU32 he),.obj mb (mP .i64 (List.map Gr.me (l1++l2)) cn),Ent.bs 199 Gr.cells Gr.b (l1++l2),Ent.dp grD.list (l1++l2)]):=by
 refine enter (args:=[(ptr c 0),(vI env)]) Tryz.func105 rfl rfl<|ws<|wa rfl<|wn<|WC.seq<|WC.block<|ws<|wm rfl<|wo (op_eqlPN Fa.PT110 rfl rfl<|wa rfl<|wn<|WC.no rfl rfl<|ws<|wm rfl<|wo (op_nilCheck rfl<|wo (op_fieldAddr rfl Fa.F196_1<|wo (op_load rfl (H.cell (i:=0) rfl rfl) Tryz.underlying194 rfl<|wm rfl<|wo (op_lookG_some (g:=g) (H.mp (i:=2) rfl) hME (by simp) hge Tryz.underlying194 Tryz.underlying3 rfl rfl<|wo (op_eqlPN Fa.PT197 rfl rfl<|wa rfl<|wn<|WC.no rfl rfl<|WC.skip<|WQ.inNormal<|WQ.next<|ws<|wm rfl<|wo (op_nilCheck rfl<|wo (op_fieldAddr rfl Fa.F196_1<|wo (op_load rfl (H.cell (i:=0) rfl rfl) Tryz.underlying194 rfl<|wm rfl ?_)))))))))
 have H1:Owl.Own T w w [.blk c [(vU32 pg),hv,(.map (some mb))] 196,Ent.ar hv 1 he.length (List.map vU32 he),.obj mb (mP .i64 (List.map Gr.me l1++Gr.me g::List.map Gr.me l2) cn),Ent.bs 199 Gr.cells Gr.b (l1++g::l2),Ent.dp grD.list (l1++g::l2)]:=by
  have h:=H
  rw [List.map_append,List.map_cons] at h
  exact h
 refine wo (op_delP (i:=2) (l1:=(List.map Gr.me l1)) (l2:=(List.map Gr.me l2)) H1 rfl Tryz.underlying194 Tryz.underlying3 (fun x hx hk=>by rw [List.map_append,List.map_cons] at hME; exact hME.left x hx (hk.trans hge.symm)) hge rfl rfl (fun w2 H2=>?_))
 refine wn<|ws<|wa rfl<|wn<|WC.ret<|WQ.out (.tmp rfl .nil) ?_
 have h:=H2
 rw [←List.map_append] at h
 have h2:=h.focus (i:=3) (l1:=l1) (l2:=l2) (a:=g) (f:=Gr.cells) (bl:=Gr.b) rfl
 have h3:=h2.dpLess (i:=4) (D:=grD) (l':=l1++l2) rfl (fun x hx=>by rcases List.mem_append.1 hx with h9 | h9<;>simp [h9])
 exact ⟨rfl,h3.sel [0,1,2,3,6] rfl rfl⟩
theorem release_no (c:Nat) (pg:UInt32) (hv:Value) (he:List UInt32) (mb cn:Nat) (gs:List Gr) (env:Int) (w:World) (hC:cellsAt w c [(vU32 pg),hv,(.map (some mb))]) (hH:Arr w hv 1 he.length (List.map vU32 he)) (hM:w.heap[mb]?=some (mP .i64 (List.map Gr.me gs) cn)) (hG:BsOK 199 Gr.cells Gr.b gs w) (hS:grD.list.ok w gs) (hME:MEok (List.map Gr.me gs) cn) (no: ∀g∈gs,(g.e:Int)≠env) :
  Calls Tryz.prog 105 #[(ptr c 0),(vI env)] w (fun e w'=>e=.returned (vN 3)∧Fr [] w w'):=by
 refine enter (args:=[(ptr c 0),(vI env)]) Tryz.func105 rfl rfl ?_
 have H0:Owl.Own [] w w [Ent.bo c [(vU32 pg),hv,(.map (some mb))],Ent.ar hv 1 he.length (List.map vU32 he),Ent.mo .i64 mb (List.map Gr.me gs) cn,Ent.bsO 199 Gr.cells Gr.b gs,Ent.dp grD.list gs]:=((((((Own.start w []).oldB hC).oldA hH).mpOld hM).bsOld hG).dpOld hS)
 exact ws<|wa rfl<|wn<|WC.seq<|WC.block<|ws<|wm rfl<|wo (op_eqlPN Fa.PT110 rfl rfl<|wa rfl<|wn<|WC.no rfl rfl<|ws<|wm rfl<|wo (op_nilCheck rfl<|wo (op_fieldAddr rfl Fa.F196_1<|wo (op_load rfl (H0.cellO (i:=0) rfl rfl) Tryz.underlying194 rfl<|wm rfl<|wo (op_lookG_no (H0.mpO (i:=2) rfl) no Tryz.underlying194 Tryz.underlying3 Fa.Z197 rfl rfl<|wo (op_eqlPN Fa.PT197 rfl rfl<|wa rfl<|wn<|WC.yes rfl rfl<|ws<|wa rfl<|wn<|WC.ret<|WQ.inRet<|WQ.thenRet<|WQ.out (.tmp rfl .nil) (⟨rfl,H0.fr⟩)))))))
theorem manifest_no (c:Nat) (pg:UInt32) (hv:Value) (he:List UInt32) (mb cn:Nat) (gs:List Gr) (env:Int) (w:World) (hC:cellsAt w c [(vU32 pg),hv,(.map (some mb))]) (hH:Arr w hv 1 he.length (List.map vU32 he)) (hM:w.heap[mb]?=some (mP .i64 (List.map Gr.me gs) cn)) (hG:BsOK 199 Gr.cells Gr.b gs w) (hS:grD.list.ok w gs) (hME:MEok (List.map Gr.me gs) cn) (no: ∀g∈gs,(g.e:Int)≠env) :
  Calls Tryz.prog 131 #[(ptr c 0),(vI env)] w (fun e w'=> ∃v1 v2,e=.returned (.tuple #[.agg #[vU32 0,v1,v2,.bool false],.bool false])∧Owl.Own [] w w' [.row v1 207 2 0 (List.flatMap xtc []),.row v2 203 1 0 (List.map vU16 [])]):=by
 refine enter (args:=[(ptr c 0),(vI env)]) Tryz.func131 rfl rfl ?_
 have H0:Owl.Own [] w w [Ent.bo c [(vU32 pg),hv,(.map (some mb))],Ent.ar hv 1 he.length (List.map vU32 he),Ent.mo .i64 mb (List.map Gr.me gs) cn,Ent.bsO 199 Gr.cells Gr.b gs,Ent.dp grD.list gs]:=((((((Own.start w []).oldB hC).oldA hH).mpOld hM).bsOld hG).dpOld hS)
 refine ws<|wo (op_alloc H0 Fa.I40 (fun b1 w1 H1=>(wa rfl<|wn<|ws<|wm rfl<|wm rfl<|wo (op_callF Fa.C170 rfl ((of_no c pg hv he mb cn gs env _ (H1.cellsAtO (i:=0) rfl) (H1.arrO (i:=1) rfl) (H1.mpO (i:=2) rfl) (H1.bsR (i:=3) rfl) (H1.dpO (i:=4) rfl) hME no).mono (fun e w2 hq=>?_))))))
 obtain ⟨b2,rfl,hq2⟩:=hq
 refine ⟨_,rfl,?_⟩
 have H2:=H1.splice [] [] [.blk b2 [(vU32 0),(.slice none 0 0),(.slice none 0 0),(.bool false),(vU32 0),(vU32 0)] 199] rfl rfl hq2 (Fits.solid True.intro Fits.nil)
 refine wm rfl<|we rfl rfl<|we rfl rfl<|wa rfl<|wa rfl<|wn<|ws<|wm rfl<|wo (op_nilCheck rfl<|wo (op_fieldAddr rfl Fa.F199_0<|wo (op_loadS (vs:=[_,_,_,_]) rfl (H2.cells (i:=6) rfl rfl) Tryz.underlying40 rfl Fa.I40 rfl<|wo (op_alloc H2 Fa.I40 (fun b3 w3 H3=>(wo (op_storeBW (i:=7) H3 rfl rfl rfl rfl rfl Fa.I40 (fun w4 H4=>(wn<|WC.seq<|WC.draw 7 Fa.M H4 (oh (fun w1 H1=>op_fieldAddr rfl Fa.F40_1 zr)<|oh (fun w1 H1=>op_load rfl (H1.cell (i:=7) rfl rfl) Tryz.underlying37 rfl zr)<|HW.flt (mk:=fun bq=>bq.2) (ent:=fun bq=>.row bq.2 207 2 [].length (List.flatMap xtc [])) rfl (fun w1 H1=>op_callF Fa.C171 rfl ((cloneX_ok _ [] _ (Arr.nil _ _) (by simp)).mono (fun e w2 ⟨v,he,hO⟩=>⟨_,he,(0,v),rfl,hO,True.intro⟩)))<|oh (fun w1 H1=>op_fieldAddr rfl Fa.F40_2 zr)<|oh (fun w1 H1=>op_load rfl (H1.cell (i:=7) rfl rfl) Tryz.underlying38 rfl zr)<|HW.flt (mk:=fun bq=>bq.2) (ent:=fun bq=>.row bq.2 203 1 [].length (List.map vU16 [])) rfl (fun w1 H1=>op_callF Fa.C172 rfl ((clone16_ok _ [] _ (Arr.nil _ _) (by simp)).mono (fun e w2 ⟨v,he,hO⟩=>⟨_,he,(0,v),rfl,hO,True.intro⟩)))<|oh (fun w1 H1=>op_fieldAddr rfl Fa.F40_1 zr)  HW.nil) (by kernel_rfl) ?_)))))))))
 intro β7 w7 H7
 exact wo (op_storeB (i:=7) H7 rfl rfl rfl rfl (Arr.one (H7.arrR (i:=8) rfl)) Fa.I37 (fun w8 H8=>(wo (op_fieldAddr rfl Fa.F40_2<|wo (op_storeB (i:=7) H8 rfl rfl rfl rfl (Arr.one (H8.arrR (i:=9) rfl)) Fa.I38 (fun w9 H9=>(wn<|ws<|wo (op_loadS (vs:=[_,_,_,_]) rfl (H9.cells (i:=7) rfl rfl) Tryz.underlying40 rfl Fa.I40 rfl<|wm rfl<|wo (op_storeBW (i:=5) H9 rfl rfl rfl rfl (one_cons rfl (one_cons (Arr.one (H9.arrR (i:=8) rfl)) (one_cons (Arr.one (H9.arrR (i:=9) rfl)) (one_cons rfl one_nil)))) Fa.I40 (fun w10 H10=>(wa rfl<|wn<|WC.ret<|WQ.out (.cell rfl (run_loadVarS (vs:=[_,_,_,_]) (H10.cells (i:=5) rfl rfl) Tryz.underlying40 rfl Fa.I40 rfl) (.tmp rfl .nil)) (⟨_,_,rfl,H10.sel [8,9] rfl rfl⟩))))))))))))
theorem manifest_some (c:Nat) (pg:UInt32) (hv:Value) (he:List UInt32) (mb cn:Nat) (gs:List Gr) (env:Int) (g:Gr) (w:World) (hC:cellsAt w c [(vU32 pg),hv,(.map (some mb))]) (hH:Arr w hv 1 he.length (List.map vU32 he)) (hM:w.heap[mb]?=some (mP .i64 (List.map Gr.me gs) cn)) (hG:BsOK 199 Gr.cells Gr.b gs w) (hS:grD.list.ok w gs) (hME:MEok (List.map Gr.me gs) cn) (hg:g∈gs) (hge:(g.e:Int)=env) (hgp:g.ps.length<2^40) (hgx:g.xs.length<2^40) :
  Calls Tryz.prog 131 #[(ptr c 0),(vI env)] w (fun e w'=> ∃v1 v2,e=.returned (.tuple #[.agg #[vU32 g.pg,v1,v2,.bool g.con],.bool true])∧Owl.Own [] w w' [.row v1 207 2 g.xs.length (List.flatMap xtc g.xs),.row v2 203 1 g.ps.length (List.map vU16 g.ps)]):=by
 refine enter (args:=[(ptr c 0),(vI env)]) Tryz.func131 rfl rfl ?_
 have H0:Owl.Own [] w w [Ent.bo c [(vU32 pg),hv,(.map (some mb))],Ent.ar hv 1 he.length (List.map vU32 he),Ent.mo .i64 mb (List.map Gr.me gs) cn,Ent.bsO 199 Gr.cells Gr.b gs,Ent.dp grD.list gs]:=((((((Own.start w []).oldB hC).oldA hH).mpOld hM).bsOld hG).dpOld hS)
 refine ws<|wo (op_alloc H0 Fa.I40 (fun b1 w1 H1=>(wa rfl<|wn<|ws<|wm rfl<|wm rfl ?_)))
 have H2:=(((H1.bsView (i:=3) (a:=g) rfl hg).dpView (i:=4) (a:=g) rfl hg (fun w h=>h.1) (fun b hb=>List.mem_append.2 (.inl hb))).dpView (i:=4) (a:=g) rfl hg (fun w h=>h.2) (fun b hb=>List.mem_append.2 (.inr hb)))
 refine wo (op_callF Fa.C170 rfl ((of_some c pg hv he mb cn gs env g _ (H2.cellsAtO (i:=0) rfl) (H2.arrO (i:=1) rfl) (H2.mpO (i:=2) rfl) (H2.bsR (i:=3) rfl) (H2.dpO (i:=4) rfl) hME hg hge).mono (fun e w3 hq=>?_)))
 obtain ⟨rfl,hf3⟩:=hq
 refine ⟨_,rfl,?_⟩
 have H3:=H2.fr' hf3
 refine wm rfl<|we rfl rfl<|we rfl rfl<|wa rfl<|wa rfl<|wn<|ws<|wm rfl<|wo (op_nilCheck rfl<|wo (op_fieldAddr rfl Fa.F199_0<|wo (op_loadS (vs:=[_,_,_,_]) rfl (H3.cellsO (i:=6) rfl rfl) Tryz.underlying40 rfl Fa.I40 rfl<|wo (op_alloc H3 Fa.I40 (fun b4 w4 H4=>(wo (op_storeBW (i:=9) H4 rfl rfl rfl rfl (one_cons rfl (one_cons (Arr.one (H4.arrO (i:=7) rfl)) (one_cons (Arr.one (H4.arrO (i:=8) rfl)) (one_cons rfl one_nil)))) Fa.I40 (fun w5 H5=>(wn<|WC.seq<|WC.draw 7 Fa.M H5 (oh (fun w1 H1=>op_fieldAddr rfl Fa.F40_1 zr)<|oh (fun w1 H1=>op_load rfl (H1.cell (i:=9) rfl rfl) Tryz.underlying37 rfl zr)<|HW.flt (mk:=fun bq=>bq.2) (ent:=fun bq=>.row bq.2 207 2 g.xs.length (List.flatMap xtc g.xs)) rfl (fun w1 H1=>op_callF Fa.C171 rfl ((cloneX_ok _ g.xs _ (H1.arrO (i:=7) rfl) (by omega)).mono (fun e w2 ⟨v,he,hO⟩=>⟨_,he,(0,v),rfl,hO,True.intro⟩)))<|oh (fun w1 H1=>op_fieldAddr rfl Fa.F40_2 zr)<|oh (fun w1 H1=>op_load rfl (H1.cell (i:=9) rfl rfl) Tryz.underlying38 rfl zr)<|HW.flt (mk:=fun bq=>bq.2) (ent:=fun bq=>.row bq.2 203 1 g.ps.length (List.map vU16 g.ps)) rfl (fun w1 H1=>op_callF Fa.C172 rfl ((clone16_ok _ g.ps _ (H1.arrO (i:=8) rfl) (by omega)).mono (fun e w2 ⟨v,he,hO⟩=>⟨_,he,(0,v),rfl,hO,True.intro⟩)))<|oh (fun w1 H1=>op_fieldAddr rfl Fa.F40_1 zr)  HW.nil) (by kernel_rfl) ?_)))))))))
 intro β8 w8 H8
 exact wo (op_storeB (i:=9) H8 rfl rfl rfl rfl (Arr.one (H8.arrR (i:=10) rfl)) Fa.I37 (fun w9 H9=>(wo (op_fieldAddr rfl Fa.F40_2<|wo (op_storeB (i:=9) H9 rfl rfl rfl rfl (Arr.one (H9.arrR (i:=11) rfl)) Fa.I38 (fun w10 H10=>(wn<|ws<|wo (op_loadS (vs:=[_,_,_,_]) rfl (H10.cells (i:=9) rfl rfl) Tryz.underlying40 rfl Fa.I40 rfl<|wm rfl<|wo (op_storeBW (i:=5) H10 rfl rfl rfl rfl (one_cons rfl (one_cons (Arr.one (H10.arrR (i:=10) rfl)) (one_cons (Arr.one (H10.arrR (i:=11) rfl)) (one_cons rfl one_nil)))) Fa.I40 (fun w11 H11=>(wa rfl<|wn<|WC.ret<|WQ.out (.cell rfl (run_loadVarS (vs:=[_,_,_,_]) (H11.cells (i:=5) rfl rfl) Tryz.underlying40 rfl Fa.I40 rfl) (.tmp rfl .nil)) (⟨_,_,rfl,H11.sel [10,11] rfl rfl⟩))))))))))))
theorem grant_bad1 (c:Nat) (pg:UInt32) (hv:Value) (he:List UInt32) (mb cn:Nat) (gs:List Gr) (env:Int) (mp:UInt32) (ev pv:Value) (xs:List Xt) (ps:List UInt16) (con:Bool) (pages:UInt32) (w:World) (hC:cellsAt w c [(vU32 pg),hv,(.map (some mb))]) (hH:Arr w hv 1 he.length (List.map vU32 he)) (hM:w.heap[mb]?=some (mP .i64 (List.map Gr.me gs) cn)) (hG:BsOK 199 Gr.cells Gr.b gs w) (hS:grD.list.ok w gs) (hE:Arr w ev 2 xs.length (List.flatMap xtc xs)) (hP:Arr w pv 1 ps.length (List.map vU16 ps)) (hn:xs.length<2^40) (hm:ps.length<2^40) (hb:env<1∨env>8) :
  Calls Tryz.prog 132 #[(ptr c 0),(vI env),(.agg #[(vU32 mp),ev,pv,(.bool con)]),(vU32 pages)] w (fun e w'=>e=.returned (vN 2)∧Fr [] w w'):=by
 refine enter (args:=[(ptr c 0),(vI env),(.agg #[(vU32 mp),ev,pv,(.bool con)]),(vU32 pages)]) Tryz.func132 rfl rfl ?_
 have H0:Owl.Own [] w w [Ent.bo c [(vU32 pg),hv,(.map (some mb))],Ent.ar hv 1 he.length (List.map vU32 he),Ent.mo .i64 mb (List.map Gr.me gs) cn,Ent.bsO 199 Gr.cells Gr.b gs,Ent.dp grD.list gs]:=((((((Own.start w []).oldB hC).oldA hH).mpOld hM).bsOld hG).dpOld hS)
 refine ws<|wo (op_box H0 rfl rfl (fun b1 w1 H1=>(wo (op_box H1 rfl rfl (fun b2 w2 H2=>(wa rfl<|wn<|WC.seq<|WC.block<|ws<|wm rfl<|wo (op_eqlPN Fa.PT110 rfl rfl<|wa rfl<|wn<|WC.no rfl rfl<|ws<|wm rfl<|wo (op_lssI (b:=(1:Int)) rfl rfl<|wm rfl (wV 17 (decide (env<(1:Int))) (fun hb3=>?_) (fun hb3=>?_))))))))))
 ·
  have hc3:=dT hb3
  exact wN hb3<|wN hb3<|wo (op_pickT rfl hb3 rfl<|wm rfl<|wN rfl<|wN rfl<|wN rfl<|wo (op_pickT rfl rfl rfl<|wm rfl<|wN rfl<|wN rfl<|wo (op_pickT rfl rfl rfl<|wa rfl<|wn<|WC.yes rfl rfl<|ws<|wa rfl<|wn<|WC.ret<|WQ.inRet<|WQ.thenRet<|WQ.out (.tmp rfl .nil) (⟨rfl,H2.fr⟩))))
 ·
  have hc3:=dF hb3
  exact wY hb3 (op_move rfl<|wY hb3 (op_gtrI (b:=(8:Int)) rfl rfl<|wo (op_pickF rfl hb3 rfl<|wm rfl<|WL.no rfl rfl rfl (decide_eq_true (by omega)) rfl<|WL.no rfl rfl rfl (decide_eq_true (by omega)) rfl<|WL.no rfl rfl rfl (decide_eq_true (by omega)) rfl<|wo (op_pickT rfl (decide_eq_true (by omega)) rfl<|wm rfl<|wN rfl<|wN rfl<|wo (op_pickT rfl rfl rfl<|wa rfl<|wn<|WC.yes rfl rfl<|ws<|wa rfl<|wn<|WC.ret<|WQ.inRet<|WQ.thenRet<|WQ.out (.tmp rfl .nil) (⟨rfl,H2.fr⟩))))))
theorem grant_bad2 (c:Nat) (pg:UInt32) (hv:Value) (he:List UInt32) (mb cn:Nat) (gs:List Gr) (env:Int) (mp:UInt32) (ev pv:Value) (xs:List Xt) (ps:List UInt16) (con:Bool) (pages:UInt32) (w:World) (hC:cellsAt w c [(vU32 pg),hv,(.map (some mb))]) (hH:Arr w hv 1 he.length (List.map vU32 he)) (hM:w.heap[mb]?=some (mP .i64 (List.map Gr.me gs) cn)) (hG:BsOK 199 Gr.cells Gr.b gs w) (hS:grD.list.ok w gs) (hE:Arr w ev 2 xs.length (List.flatMap xtc xs)) (hP:Arr w pv 1 ps.length (List.map vU16 ps)) (hn:xs.length<2^40) (hm:ps.length<2^40) (h1:1≤env) (h8:env≤8) (hmf:mfE mp xs ps≠0) :
  Calls Tryz.prog 132 #[(ptr c 0),(vI env),(.agg #[(vU32 mp),ev,pv,(.bool con)]),(vU32 pages)] w (fun e w'=>e=.returned (vN 2)∧Fr [] w w'):=by
 refine enter (args:=[(ptr c 0),(vI env),(.agg #[(vU32 mp),ev,pv,(.bool con)]),(vU32 pages)]) Tryz.func132 rfl rfl ?_
 have H0:Owl.Own [] w w [Ent.bo c [(vU32 pg),hv,(.map (some mb))],Ent.ar hv 1 he.length (List.map vU32 he),Ent.mo .i64 mb (List.map Gr.me gs) cn,Ent.bsO 199 Gr.cells Gr.b gs,Ent.dp grD.list gs]:=((((((Own.start w []).oldB hC).oldA hH).mpOld hM).bsOld hG).dpOld hS)
 refine ws<|wo (op_box H0 rfl rfl (fun b1 w1 H1=>(wo (op_box H1 rfl rfl (fun b2 w2 H2=>(wa rfl<|wn<|WC.seq<|WC.block<|ws<|wm rfl<|wo (op_eqlPN Fa.PT110 rfl rfl<|wa rfl<|wn<|WC.no rfl rfl<|ws<|wm rfl<|wo (op_lssI (b:=(1:Int)) rfl rfl<|wm rfl<|WL.yes rfl rfl rfl (decide_eq_false (by omega)) rfl (op_move rfl<|WL.yes rfl rfl rfl (decide_eq_false (by omega)) rfl (op_gtrI (b:=(8:Int)) rfl rfl<|wo (op_pickF rfl (decide_eq_false (by omega)) rfl<|wm rfl<|WL.yes rfl rfl rfl (decide_eq_false (by omega)) rfl (op_loadS (vs:=[_,_,_,_]) rfl (H2.cells (i:=5) rfl rfl) Tryz.underlying40 rfl Fa.I40 rfl<|WL.yes rfl rfl rfl (decide_eq_false (by omega)) rfl (op_callF Fa.C90 rfl ((dcheck_ok mp _ _ xs ps con _ (H2.arr hE) (H2.arr hP) (by omega) (by omega)).mono (fun e w3 hq=>?_)))))))))))))))
 obtain ⟨rfl,hf3⟩:=hq
 refine ⟨_,rfl,?_⟩
 have H3:=H2.fr' hf3
 exact WL.yes rfl rfl rfl (decide_eq_false (by omega)) rfl (op_neqN (b:=0) rfl rfl<|wo (op_pickF rfl (decide_eq_false (by omega)) rfl<|wm rfl<|WL.no rfl rfl rfl (decide_eq_true hmf) rfl<|WL.no rfl rfl rfl (decide_eq_true hmf) rfl<|wo (op_pickT rfl (decide_eq_true hmf) rfl<|wa rfl<|wn<|WC.yes rfl rfl<|ws<|wa rfl<|wn<|WC.ret<|WQ.inRet<|WQ.thenRet<|WQ.out (.tmp rfl .nil) (⟨rfl,H3.fr⟩))))
theorem grant_bad3 (c:Nat) (pg:UInt32) (hv:Value) (he:List UInt32) (mb cn:Nat) (gs:List Gr) (env:Int) (mp:UInt32) (ev pv:Value) (xs:List Xt) (ps:List UInt16) (con:Bool) (pages:UInt32) (w:World) (hC:cellsAt w c [(vU32 pg),hv,(.map (some mb))]) (hH:Arr w hv 1 he.length (List.map vU32 he)) (hM:w.heap[mb]?=some (mP .i64 (List.map Gr.me gs) cn)) (hG:BsOK 199 Gr.cells Gr.b gs w) (hS:grD.list.ok w gs) (hE:Arr w ev 2 xs.length (List.flatMap xtc xs)) (hP:Arr w pv 1 ps.length (List.map vU16 ps)) (hn:xs.length<2^40) (hm:ps.length<2^40) (h1:1≤env) (h8:env≤8) (hmf:mfE mp xs ps=0) (hpg:pages>4096) :
  Calls Tryz.prog 132 #[(ptr c 0),(vI env),(.agg #[(vU32 mp),ev,pv,(.bool con)]),(vU32 pages)] w (fun e w'=>e=.returned (vN 2)∧Fr [] w w'):=by
 refine enter (args:=[(ptr c 0),(vI env),(.agg #[(vU32 mp),ev,pv,(.bool con)]),(vU32 pages)]) Tryz.func132 rfl rfl ?_
 have H0:Owl.Own [] w w [Ent.bo c [(vU32 pg),hv,(.map (some mb))],Ent.ar hv 1 he.length (List.map vU32 he),Ent.mo .i64 mb (List.map Gr.me gs) cn,Ent.bsO 199 Gr.cells Gr.b gs,Ent.dp grD.list gs]:=((((((Own.start w []).oldB hC).oldA hH).mpOld hM).bsOld hG).dpOld hS)
 refine ws<|wo (op_box H0 rfl rfl (fun b1 w1 H1=>(wo (op_box H1 rfl rfl (fun b2 w2 H2=>(wa rfl<|wn<|WC.seq<|WC.block<|ws<|wm rfl<|wo (op_eqlPN Fa.PT110 rfl rfl<|wa rfl<|wn<|WC.no rfl rfl<|ws<|wm rfl<|wo (op_lssI (b:=(1:Int)) rfl rfl<|wm rfl<|WL.yes rfl rfl rfl (decide_eq_false (by omega)) rfl (op_move rfl<|WL.yes rfl rfl rfl (decide_eq_false (by omega)) rfl (op_gtrI (b:=(8:Int)) rfl rfl<|wo (op_pickF rfl (decide_eq_false (by omega)) rfl<|wm rfl<|WL.yes rfl rfl rfl (decide_eq_false (by omega)) rfl (op_loadS (vs:=[_,_,_,_]) rfl (H2.cells (i:=5) rfl rfl) Tryz.underlying40 rfl Fa.I40 rfl<|WL.yes rfl rfl rfl (decide_eq_false (by omega)) rfl (op_callF Fa.C90 rfl ((dcheck_ok mp _ _ xs ps con _ (H2.arr hE) (H2.arr hP) (by omega) (by omega)).mono (fun e w3 hq=>?_)))))))))))))))
 obtain ⟨rfl,hf3⟩:=hq
 refine ⟨_,rfl,?_⟩
 have H3:=H2.fr' hf3
 exact WL.yes rfl rfl rfl (decide_eq_false (by omega)) rfl (op_neqN (b:=0) rfl rfl<|wo (op_pickF rfl (decide_eq_false (by omega)) rfl<|wm rfl<|WL.yes rfl rfl rfl (decide_eq_false (fun h=>h hmf)) rfl (op_load rfl (H3.cell (i:=6) rfl rfl) Tryz.underlying22 rfl<|WL.yes rfl rfl rfl (decide_eq_false (fun h=>h hmf)) rfl (op_gtrU32 (b:=4096) rfl rfl<|wo (op_pickF rfl (decide_eq_false (fun h=>h hmf)) rfl<|wa rfl<|wn<|WC.yes rfl (decide_eq_true hpg)<|ws<|wa rfl<|wn<|WC.ret<|WQ.inRet<|WQ.thenRet<|WQ.out (.tmp rfl .nil) (⟨rfl,H3.fr⟩))))))
theorem capsNew2_ok (pg:UInt32) (lv:Value) (he:List UInt32) (w:World) (hA:Arr w lv 1 he.length (List.map vU32 he)) (hn:he.length<2^40) (hok0:hardE pg he=0) :
  Calls Tryz.prog 126 #[.agg #[vU32 pg,lv]] w (fun e w'=> ∃c v mb,e=.returned (.tuple #[ptr c 0,vN 0])∧(∀b∈footA v (List.map vU32 he),w.heap.size≤b)∧Owl.Own [] w w' [.blk c [(vU32 pg),v,(.map (some mb))] 196,Ent.ar v 1 he.length (List.map vU32 he),.obj mb (mP .i64 (List.map Gr.me []) 0),Ent.bs 199 Gr.cells Gr.b [],Ent.dp grD.list []]) :=
 (capsNew_ok pg lv he w hA hn hok0).mono (fun e w' ⟨c,v,mb,h1,h⟩=>⟨c,v,mb,h1,h.rowFresh (i:=1) rfl,((h.freeze (i:=1) rfl).bsNil 199 Gr.cells Gr.b).dpNil grD⟩)
theorem capG_ok (c:Nat) (pg:UInt32) (hv:Value) (he:List UInt32) (mb cn:Nat) (gs:List Gr) (en:Int) (mp:UInt32) (ev pv:Value) (xs:List Xt) (ps:List UInt16) (con:Bool) (pages:UInt32) (l:List Gr) (T:List Nat) (w:World) (H:Owl.Own T w w [.blk c [(vU32 pg),hv,(.map (some mb))] 196,Ent.ar hv 1 he.length (List.map vU32 he),.obj mb (mP .i64 (List.map Gr.me gs) cn),Ent.bs 199 Gr.cells Gr.b gs,Ent.dp grD.list gs,Ent.ar ev 2 xs.length (List.flatMap xtc xs),Ent.ar pv 1 ps.length (List.map vU16 ps)]) (hR:CapR gs cn l) (hT: ∀b∈T,b=c∨b=mb∨b∈List.map Gr.b gs) (hn:xs.length<2^40) (hm:ps.length<2^40) (hhe:he.length<2^32) :
    Calls Tryz.prog 132 #[ptr c 0,vI en,.agg #[vU32 mp,ev,pv,.bool con],vU32 pages] w (fun e w'=> ∃cn' gs',e=.returned (vN (grantE pg he l en mp xs ps pages))∧CapR gs' cn' (grantG pg he l en mp xs ps con pages)∧DpTo w gs gs'∧Owl.Own T w w' [.blk c [(vU32 pg),hv,(.map (some mb))] 196,Ent.ar hv 1 he.length (List.map vU32 he),.obj mb (mP .i64 (List.map Gr.me gs') cn'),Ent.bs 199 Gr.cells Gr.b gs',Ent.dp grD.list gs',Ent.ar ev 2 xs.length (List.flatMap xtc xs),Ent.ar pv 1 ps.length (List.map vU16 ps)]):=by
  obtain ⟨hI,rfl⟩:=hR
  rw [grantE_bare]
  have no: ∀n,n≠0→grantE pg he gs en mp xs ps pages=n→CapR gs cn (grantG pg he (gs.map Gr.bare) en mp xs ps con pages):=fun n h0 h=>⟨hI,by rw [grantG,grantE_bare,h,if_neg h0]⟩
  by_cases h1:en<1∨en>8
  · have e0:grantE pg he gs en mp xs ps pages=2:=if_pos (.inl h1)
    exact (grant_bad1 c pg hv he mb cn gs en mp ev pv xs ps con pages w (H.cellsAt (i:=0) rfl) (H.arrO (i:=1) rfl) (H.mp (i:=2) rfl) (H.bsG (i:=3) rfl) (H.dpO (i:=4) rfl) (H.arrO (i:=5) rfl) (H.arrO (i:=6) rfl) hn hm h1).mono (fun e w' ⟨he1,hf⟩=>⟨cn,gs,by rw [e0]; exact he1,no 2 (by decide) e0,DpTo.sub (fun _ h=>h),H.fr' hf⟩)
  by_cases h2:mfE mp xs ps≠0
  · have e0:grantE pg he gs en mp xs ps pages=2:=if_pos (.inr (.inl h2))
    exact (grant_bad2 c pg hv he mb cn gs en mp ev pv xs ps con pages w (H.cellsAt (i:=0) rfl) (H.arrO (i:=1) rfl) (H.mp (i:=2) rfl) (H.bsG (i:=3) rfl) (H.dpO (i:=4) rfl) (H.arrO (i:=5) rfl) (H.arrO (i:=6) rfl) hn hm (by omega) (by omega) h2).mono (fun e w' ⟨he1,hf⟩=>⟨cn,gs,by rw [e0]; exact he1,no 2 (by decide) e0,DpTo.sub (fun _ h=>h),H.fr' hf⟩)
  by_cases h3:pages>4096
  · have e0:grantE pg he gs en mp xs ps pages=2:=if_pos (.inr (.inr h3))
    exact (grant_bad3 c pg hv he mb cn gs en mp ev pv xs ps con pages w (H.cellsAt (i:=0) rfl) (H.arrO (i:=1) rfl) (H.mp (i:=2) rfl) (H.bsG (i:=3) rfl) (H.dpO (i:=4) rfl) (H.arrO (i:=5) rfl) (H.arrO (i:=6) rfl) hn hm (by omega) (by omega) (Classical.not_not.1 h2) h3).mono (fun e w' ⟨he1,hf⟩=>⟨cn,gs,by rw [e0]; exact he1,no 2 (by decide) e0,DpTo.sub (fun _ h=>h),H.fr' hf⟩)
  have e1:grantE pg he gs en mp xs ps pages=if hasE gs en=true then 9 else whyE pg he gs mp xs ps pages:=if_neg (fun h=>h.elim h1 (fun h=>h.elim h2 h3))
  obtain ⟨n,rfl⟩: ∃n:Nat,en=n:=⟨en.toNat,by omega⟩
  cases h4:hasE gs n with
  | true =>
    obtain ⟨hg,hge⟩:=obs_yes h4
    have e0:=e1.trans (if_pos h4)
    exact (grant_have c pg hv he mb cn gs n mp ev pv xs ps con pages (obs gs n) T w H hI.me (by omega) (by omega) hn hm hhe hI.fit (Classical.not_not.1 h2) h3 hg hge).mono (fun e w' ⟨he1,h⟩=>⟨cn,gs,by rw [e0]; exact he1,no 9 (by decide) e0,DpTo.sub (fun _ h=>h),h⟩)
  | false =>
    have e0:=e1.trans (if_neg (by rw [h4]; decide))
    by_cases h5:whyE pg he gs mp xs ps pages=0
    · rw [h5] at e0
      exact (grant_yes c pg hv he mb cn gs n mp ev pv xs ps con pages T w H hI.me (by omega) (by omega) hn hm hhe hI.fit (Classical.not_not.1 h2) h3 (hasE_no h4) h5 hT).mono (fun e w' ⟨b,v1,v2,he1,hz,h⟩=>⟨cn+1,_,by rw [e0]; exact he1,⟨hI.add (fun g hg he=>hasE_no h4 g hg (by rw [he])) hn hm,by rw [grantG,grantE_bare,e0,if_pos rfl,List.map_append]; rfl⟩,DpTo.add hz,h⟩)
    · exact (grant_no c pg hv he mb cn gs n mp ev pv xs ps con pages T w H hI.me (by omega) (by omega) hn hm hhe hI.fit (Classical.not_not.1 h2) h3 (hasE_no h4) h5).mono (fun e w' ⟨he1,h⟩=>⟨cn,gs,by rw [e0]; exact he1,no _ h5 e0,DpTo.sub (fun _ h=>h),h⟩)
theorem capR_ok (c:Nat) (pg:UInt32) (hv:Value) (he:List UInt32) (mb cn:Nat) (gs:List Gr) (en:Int) (l:List Gr) (T:List Nat) (w:World) (H:Owl.Own T w w [.blk c [(vU32 pg),hv,(.map (some mb))] 196,Ent.ar hv 1 he.length (List.map vU32 he),.obj mb (mP .i64 (List.map Gr.me gs) cn),Ent.bs 199 Gr.cells Gr.b gs,Ent.dp grD.list gs]) (hR:CapR gs cn l) :
  Calls Tryz.prog 105 #[ptr c 0,vI en] w (fun e w'=> ∃gs',e=.returned (vN (relE l en))∧CapR gs' cn (relG l en)∧DpTo w gs gs'∧Owl.Own T w w' [.blk c [(vU32 pg),hv,(.map (some mb))] 196,Ent.ar hv 1 he.length (List.map vU32 he),.obj mb (mP .i64 (List.map Gr.me gs') cn),Ent.bs 199 Gr.cells Gr.b gs',Ent.dp grD.list gs']):=by
 obtain ⟨hI,rfl⟩:=hR
 have e0:relE (gs.map Gr.bare) en=relE gs en:=by rw [relE,relE,hasE_bare]
 rw [e0]
 cases h:hasE gs en with
 | false=>exact (release_no c pg hv he mb cn gs en w (H.cellsAt (i:=0) rfl) (H.arrO (i:=1) rfl) (H.mp (i:=2) rfl) (H.bsG (i:=3) rfl) (H.dpO (i:=4) rfl) hI.me (hasE_no h)).mono (fun e w' ⟨he1,hf⟩=>⟨gs,by rw [relE,h]; exact he1,⟨hI,by rw [relG_bare,relG_no h]⟩,DpTo.sub (fun _ h=>h),H.fr' hf⟩)
 | true =>
  obtain ⟨hg,hge⟩:=obs_yes h
  generalize obs gs en=g at hg hge
  obtain ⟨l1,l2,rfl⟩:=List.append_of_mem hg
  exact (release_yes c pg hv he mb cn l1 l2 g en T w H hI.me hge).mono (fun e w' ⟨he1,h2⟩=>⟨l1++l2,by rw [relE,h]; exact he1,⟨hI.del,by rw [relG_bare,hI.rel hge]⟩,DpTo.sub (fun x hx=>by rcases List.mem_append.1 hx with hx | hx<;>simp [hx]),h2⟩)
theorem manifest_ok (c:Nat) (pg:UInt32) (hv:Value) (he:List UInt32) (mb cn:Nat) (gs:List Gr) (env:Int) (l:List Gr) (w:World) (hC:cellsAt w c [(vU32 pg),hv,(.map (some mb))]) (hH:Arr w hv 1 he.length (List.map vU32 he)) (hM:w.heap[mb]?=some (mP .i64 (List.map Gr.me gs) cn)) (hG:BsOK 199 Gr.cells Gr.b gs w) (hS:grD.list.ok w gs) (hR:CapR gs cn l) :
  Calls Tryz.prog 131 #[ptr c 0,vI env] w (fun e w'=> ∃v1 v2,e=.returned (.tuple #[.agg #[vU32 (obs l env).pg,v1,v2,.bool (obs l env).con],.bool (hasE l env)])∧Owl.Own [] w w' [.row v1 207 2 (obs l env).xs.length (List.flatMap xtc (obs l env).xs),.row v2 203 1 (obs l env).ps.length (List.map vU16 (obs l env).ps)]):=by
 rw [hR.obs,←hR.has]
 cases h:hasE gs env with
 | false=>rw [obs_no h]; exact manifest_no c pg hv he mb cn gs env w hC hH hM hG hS hR.1.me (hasE_no h)
 | true =>
  obtain ⟨hg,hge⟩:=obs_yes h
  exact manifest_some c pg hv he mb cn gs env (obs gs env) w hC hH hM hG hS hR.1.me hg hge (hR.1.fit _ hg).1 (hR.1.fit _ hg).2
theorem freeL_ok (c:Nat) (pg:UInt32) (hv:Value) (he:List UInt32) (mb cn:Nat) (gs:List Gr) (l:List Gr) (w:World) (hC:cellsAt w c [(vU32 pg),hv,(.map (some mb))]) (hH:Arr w hv 1 he.length (List.map vU32 he)) (hM:w.heap[mb]?=some (mP .i64 (List.map Gr.me gs) cn)) (hG:BsOK 199 Gr.cells Gr.b gs w) (hS:grD.list.ok w gs) (hR:CapR gs cn l) :
  Calls Tryz.prog 60 #[ptr c 0] w (fun e w'=>e=.returned (vU32 (freeS pg l))∧Fr [] w w'):=by
 rw [←hR.free]
 exact free_ok c pg hv he mb cn gs w hC hH hM hG hS hR.1.me
theorem qtext_ok (v:Value) (m:Nat) (l:List UInt8) (w:World) (hA:Arr w v 1 m (l.map vU8)) :
  Calls Tryz.prog 187 #[v] w (fun e w'=>e=.returned (str l)∧Fr [] w w'):=by
 refine enter (args:=[v]) Tryz.func187 rfl rfl ?_
 have H0:Owl.Own [] w w []:=Own.start w []
 exact ws<|wa rfl<|wn<|ws<|wm rfl<|wo (op_bytesStr (l:=l) Tryz.underlying114 Tryz.underlying5 Tryz.underlying9 rfl (H0.arr hA) rfl<|wa rfl<|wn<|WC.ret<|WQ.out (.tmp rfl .nil) (⟨rfl,H0.fr⟩))
theorem qget_ok (s:List UInt8) (w:World) :
  Calls Tryz.prog 107 #[(str s)] w (fun e w'=>e=.returned (.tuple #[vU32 (getV s),vN (getE s)])∧Fr [] w w'):=by
 refine enter (args:=[(str s)]) Tryz.func107 rfl rfl ?_
 have H0:Owl.Own [] w w []:=Own.start w []
 refine ws<|wa rfl<|wa rfl<|wn<|WC.seq<|ws<|wm rfl<|wo (op_lenStr Tryz.underlying9 rfl<|wo (op_lssN (b:=1) rfl rfl<|wm rfl (wV 8 (decide (s.length<1)) (fun hb1=>?_) (fun hb1=>?_))))
 ·
  have hc1:=dT hb1
  exact wN hb1<|wN hb1<|wN hb1<|wo (op_pickT rfl hb1 rfl<|wn<|WC.yes rfl rfl<|ws<|wa rfl<|wa rfl<|wn<|WC.ret<|WQ.thenRet<|WQ.out (.tmp rfl (.tmp rfl .nil)) (⟨by first | (have hk:k=s.length:=(by omega); subst hk; rw [getV,getE,if_neg (by omega),if_neg (by omega)]; rfl) | (rw [getV,getE,if_pos (by omega),if_pos (by omega)]; rfl),H0.fr⟩))
 ·
  have hc1:=dF hb1
  refine wY hb1 (op_move rfl<|wY hb1 (op_lenStr Tryz.underlying9 rfl<|wY hb1 (op_gtrN (b:=4) rfl rfl<|wo (op_pickF rfl hb1 rfl<|wn (wC (decide (s.length>4)) (fun hb2=>?_) (fun hb2=>?_))))))
  ·
   have hc2:=dT hb2
   exact ws<|wa rfl<|wa rfl<|wn<|WC.ret<|WQ.thenRet<|WQ.out (.tmp rfl (.tmp rfl .nil)) (⟨by first | (have hk:k=s.length:=(by omega); subst hk; rw [getV,getE,if_neg (by omega),if_neg (by omega)]; rfl) | (rw [getV,getE,if_pos (by omega),if_pos (by omega)]; rfl),H0.fr⟩)
  ·
   have hc2:=dF hb2
   refine WC.skip<|WQ.next<|WC.seq<|ws<|wm rfl<|wo (op_lenStr Tryz.underlying9 rfl<|wm rfl<|wn<|WC.block<|WC.loop (α:=Nat) (fun k=>[(0,(str s)),(3,(vN 0)),(14,(vN s.length)),(15,(vN k)),(2,(vU32 (getTo s k)))]) (fun k w'=>(k≤s.length)∧Owl.Own [] w w' []) (fun k=>s.length-k) 0 ⟨(by omega),H0⟩ ⟨rfl,rfl,rfl,rfl,rfl,trivial⟩ ?_)
   rintro k w3 ⟨hinv,H3⟩
   show WC _ _ _ _ _ [(0,(str s)),(3,(vN 0)),(14,(vN s.length)),(15,(vN k)),(2,(vU32 (getTo s k)))] _
   refine ws<|wo (op_lssN rfl rfl<|wn<|WC.seq (wC (decide (k<s.length)) (fun hb4=>?_) (fun hb4=>?_)))
   ·
    have hc4:=dT hb4
    exact WC.skip<|WQ.next<|WC.seq<|WC.block<|ws<|wm rfl<|wa rfl<|wn<|WC.region<|wm rfl<|wm rfl<|wm rfl<|wo (op_indexStrD Tryz.underlying9 rfl rfl (by omega)<|wo (op_convU8U32 (hs:=Tryz.underlying5) (hd:=Tryz.underlying22) rfl<|wm rfl<|wo (op_mulN (a:=8) rfl rfl (by omega)<|wo (op_shlU32 rfl rfl<|wo (op_orU32 rfl rfl<|wa rfl<|WL.nil<|WQ.inNormal<|WQ.next<|WC.region<|wo (op_addN (b:=1) rfl rfl (by omega)<|wm rfl<|WL.nil<|WQ.round (k+1) ⟨(by omega),H3⟩ ⟨rfl,rfl,rfl,rfl,rfl,trivial⟩ (by omega)))))))
   ·
    have hc4:=dF hb4
    exact WC.exit<|WQ.thenExit<|WQ.thenExit<|WQ.inHere<|WQ.next<|ws<|wm rfl<|wa rfl<|wa rfl<|wn<|WC.ret<|WQ.out (.tmp rfl (.tmp rfl .nil)) (⟨by first | (have hk:k=s.length:=(by omega); subst hk; rw [getV,getE,if_neg (by omega),if_neg (by omega)]; rfl) | (rw [getV,getE,if_pos (by omega),if_pos (by omega)]; rfl),H3.fr⟩)
theorem put_ok (v:UInt32) (n:Int) (w:World) :
  Calls Tryz.prog 151 #[(vU32 v),(vI n)] w (fun e w'=>e=.returned (.tuple #[str (numS v n),vN (numE v n)])∧Fr [] w w'):=by
 refine enter (args:=[(vU32 v),(vI n)]) Tryz.func151 rfl rfl ?_
 have H0:Owl.Own [] w w []:=Own.start w []
 refine ws<|wa rfl<|wa rfl<|wn<|WC.seq<|WC.block<|ws<|wm rfl<|wo (op_lssI (b:=(1:Int)) rfl rfl<|wm rfl (wV 9 (decide (n<(1:Int))) (fun hb1=>?_) (fun hb1=>?_)))
 ·
  have hc1:=dT hb1
  refine wN hb1<|wN hb1<|wo (op_pickT rfl hb1 rfl<|wa rfl<|wn<|WC.yes rfl rfl<|ws<|wa rfl<|wa rfl<|wn<|WC.ret<|WQ.inRet<|WQ.thenRet<|WQ.out (.tmp rfl (.tmp rfl .nil)) ?_)
  rw [numS,numE,if_pos (show n<1∨n>4 from by omega),if_neg (by decide)]
  exact ⟨rfl,H0.fr⟩
 ·
  have hc1:=dF hb1
  refine wY hb1 (op_move rfl<|wY hb1 (op_gtrI (b:=(4:Int)) rfl rfl<|wo (op_pickF rfl hb1 rfl<|wa rfl<|wn (wC (decide (n>(4:Int))) (fun hb2=>?_) (fun hb2=>?_)))))
  ·
   have hc2:=dT hb2
   refine ws<|wa rfl<|wa rfl<|wn<|WC.ret<|WQ.inRet<|WQ.thenRet<|WQ.out (.tmp rfl (.tmp rfl .nil)) ?_
   rw [numS,numE,if_pos (show n<1∨n>4 from by omega),if_neg (by decide)]
   exact ⟨rfl,H0.fr⟩
  ·
   have hc2:=dF hb2
   obtain ⟨m,rfl⟩: ∃m:Nat,n=(m:Int):=⟨n.toNat,by omega⟩
   refine ws<|wm rfl<|wo (op_lssN (b:=4) rfl rfl<|wm rfl (wV 16 (decide (m<4)) (fun hb3=>?_) (fun hb3=>?_)))
   ·
    have hc3:=dT hb3
    refine wY hb3 (op_move rfl<|wY hb3 (op_move rfl<|wY hb3 (op_mulN (a:=8) rfl rfl (by omega)<|wY hb3 (op_shrU32 rfl rfl<|wY hb3 (op_neqU32 (b:=0) rfl rfl<|wo (op_pickT rfl hb3 rfl<|wa rfl<|wn (wC (decide ((shrU32 v (8 * m))≠(0:UInt32))) (fun hb4=>?_) (fun hb4=>?_))))))))
    ·
     have hc4:=dT hb4
     refine ws<|wa rfl<|wa rfl<|wn<|WC.ret<|WQ.inRet<|WQ.thenRet<|WQ.out (.tmp rfl (.tmp rfl .nil)) ?_
     rw [numS,numE,if_neg (show ¬((m:Int)<1∨(m:Int)>4) from by omega),Int.toNat_natCast,if_pos (show rV v m≠0 from by rw [←rV_shr]; exact hc4),if_neg (by decide)]
     exact ⟨rfl,H0.fr⟩
    ·
     have hc4:=dF hb4
     refine WC.skip<|WQ.inNormal<|WQ.next<|ws<|wm rfl<|wo (op_convU32U8 (hs:=Tryz.underlying22) (hd:=Tryz.underlying5) rfl<|wm rfl<|wo (op_shrU32 (s:=8) rfl rfl<|wo (op_convU32U8 (hs:=Tryz.underlying22) (hd:=Tryz.underlying5) rfl<|wm rfl<|wo (op_shrU32 (s:=16) rfl rfl<|wo (op_convU32U8 (hs:=Tryz.underlying22) (hd:=Tryz.underlying5) rfl<|wm rfl<|wo (op_shrU32 (s:=24) rfl rfl<|wo (op_convU32U8 (hs:=Tryz.underlying22) (hd:=Tryz.underlying5) rfl<|wo (op_buildSlice (cs:=[_,_,_,_]) H0 Tryz.underlying114 Fa.I5 rfl rfl rfl rfl (by decide) (by decide) (fun b5 w5 H5=>(wm rfl<|wo (op_cutHi Tryz.underlying114 Fa.I5 rfl (H5.arrR (i:=0) rfl) rfl (by omega)<|wo (op_callF Fa.C187 rfl ((qtext_ok _ _ (([(UInt8.ofNat v.toNat),(UInt8.ofNat (shrU32 v 8).toNat),(UInt8.ofNat (shrU32 v 16).toNat),(UInt8.ofNat (shrU32 v 24).toNat)].take m)) _ (((H5.arrR (i:=0) rfl)).cutHiM (f:=vU8) (l:=[(UInt8.ofNat v.toNat),(UInt8.ofNat (shrU32 v 8).toNat),(UInt8.ofNat (shrU32 v 16).toNat),(UInt8.ofNat (shrU32 v 24).toNat)]) (b:=m) (by omega))).mono (fun e w6 hq=>?_))))))))))))))
     obtain ⟨rfl,hf6⟩:=hq
     refine ⟨_,rfl,?_⟩
     have H6:=H5.fr' hf6
     refine wa rfl<|wa rfl<|wn<|WC.ret<|WQ.out (.tmp rfl (.tmp rfl .nil)) ?_
     rw [numS,numE,if_neg (show ¬((m:Int)<1∨(m:Int)>4) from by omega),Int.toNat_natCast,if_neg (show ¬(rV v m≠0) from fun h=>h (by rw [←rV_shr]; exact Decidable.not_not.mp hc4)),if_pos rfl,←rB_take v (by omega)]
     exact ⟨rfl,H6.fr⟩
   ·
    have hc3:=dF hb3
    refine wN hb3<|wN hb3<|wN hb3<|wN hb3<|wN hb3<|wo (op_pickF rfl hb3 rfl<|wa rfl<|wn<|WC.no rfl rfl<|WC.skip<|WQ.inNormal<|WQ.next<|ws<|wm rfl<|wo (op_convU32U8 (hs:=Tryz.underlying22) (hd:=Tryz.underlying5) rfl<|wm rfl<|wo (op_shrU32 (s:=8) rfl rfl<|wo (op_convU32U8 (hs:=Tryz.underlying22) (hd:=Tryz.underlying5) rfl<|wm rfl<|wo (op_shrU32 (s:=16) rfl rfl<|wo (op_convU32U8 (hs:=Tryz.underlying22) (hd:=Tryz.underlying5) rfl<|wm rfl<|wo (op_shrU32 (s:=24) rfl rfl<|wo (op_convU32U8 (hs:=Tryz.underlying22) (hd:=Tryz.underlying5) rfl<|wo (op_buildSlice (cs:=[_,_,_,_]) H0 Tryz.underlying114 Fa.I5 rfl rfl rfl rfl (by decide) (by decide) (fun b7 w7 H7=>(wm rfl<|wo (op_cutHi Tryz.underlying114 Fa.I5 rfl (H7.arrR (i:=0) rfl) rfl (by omega)<|wo (op_callF Fa.C187 rfl ((qtext_ok _ _ (([(UInt8.ofNat v.toNat),(UInt8.ofNat (shrU32 v 8).toNat),(UInt8.ofNat (shrU32 v 16).toNat),(UInt8.ofNat (shrU32 v 24).toNat)].take m)) _ (((H7.arrR (i:=0) rfl)).cutHiM (f:=vU8) (l:=[(UInt8.ofNat v.toNat),(UInt8.ofNat (shrU32 v 8).toNat),(UInt8.ofNat (shrU32 v 16).toNat),(UInt8.ofNat (shrU32 v 24).toNat)]) (b:=m) (by omega))).mono (fun e w8 hq=>?_)))))))))))))))
    obtain ⟨rfl,hf8⟩:=hq
    refine ⟨_,rfl,?_⟩
    have H8:=H7.fr' hf8
    refine wa rfl<|wa rfl<|wn<|WC.ret<|WQ.out (.tmp rfl (.tmp rfl .nil)) ?_
    rw [numS,numE,if_neg (show ¬((m:Int)<1∨(m:Int)>4) from by omega),Int.toNat_natCast,if_neg (show ¬(rV v m≠0) from fun h=>h (by rw [show m=4 from by omega]; exact rV_4 v)),if_pos rfl,←rB_take v (by omega)]
    exact ⟨rfl,H8.fr⟩
theorem num_ok (v:UInt32) (n:Int) (w:World) :
  Calls Tryz.prog 196 #[(vU32 v),(vI n)] w (fun e w'=>e=.returned (.tuple #[str (numS v n),vN (numE v n)])∧Fr [] w w'):=by
 refine enter (args:=[(vU32 v),(vI n)]) Tryz.func196 rfl rfl ?_
 have H0:Owl.Own [] w w []:=Own.start w []
 refine ws<|wa rfl<|wa rfl<|wn<|WC.seq<|WC.block<|ws<|wm rfl<|wo (op_lssI (b:=(1:Int)) rfl rfl<|wm rfl (wV 9 (decide (n<(1:Int))) (fun hb1=>?_) (fun hb1=>?_)))
 ·
  have hc1:=dT hb1
  refine wN hb1<|wN hb1<|wo (op_pickT rfl hb1 rfl<|wa rfl<|wn<|WC.yes rfl rfl<|ws<|wa rfl<|wa rfl<|wn<|WC.ret<|WQ.inRet<|WQ.thenRet<|WQ.out (.tmp rfl (.tmp rfl .nil)) ?_)
  rw [numS,numE,if_pos (show n<1∨n>4 from by omega),if_neg (by decide)]
  exact ⟨rfl,H0.fr⟩
 ·
  have hc1:=dF hb1
  refine wY hb1 (op_move rfl<|wY hb1 (op_gtrI (b:=(4:Int)) rfl rfl<|wo (op_pickF rfl hb1 rfl<|wa rfl<|wn (wC (decide (n>(4:Int))) (fun hb2=>?_) (fun hb2=>?_)))))
  ·
   have hc2:=dT hb2
   refine ws<|wa rfl<|wa rfl<|wn<|WC.ret<|WQ.inRet<|WQ.thenRet<|WQ.out (.tmp rfl (.tmp rfl .nil)) ?_
   rw [numS,numE,if_pos (show n<1∨n>4 from by omega),if_neg (by decide)]
   exact ⟨rfl,H0.fr⟩
  ·
   have hc2:=dF hb2
   obtain ⟨m,rfl⟩: ∃m:Nat,n=(m:Int):=⟨n.toNat,by omega⟩
   refine ws<|wm rfl<|wo (op_lssN (b:=4) rfl rfl<|wm rfl (wV 16 (decide (m<4)) (fun hb3=>?_) (fun hb3=>?_)))
   ·
    have hc3:=dT hb3
    refine wY hb3 (op_move rfl<|wY hb3 (op_move rfl<|wY hb3 (op_mulN (a:=8) rfl rfl (by omega)<|wY hb3 (op_shrU32 rfl rfl<|wY hb3 (op_neqU32 (b:=0) rfl rfl<|wo (op_pickT rfl hb3 rfl<|wa rfl<|wn (wC (decide ((shrU32 v (8 * m))≠(0:UInt32))) (fun hb4=>?_) (fun hb4=>?_))))))))
    ·
     have hc4:=dT hb4
     refine ws<|wa rfl<|wa rfl<|wn<|WC.ret<|WQ.inRet<|WQ.thenRet<|WQ.out (.tmp rfl (.tmp rfl .nil)) ?_
     rw [numS,numE,if_neg (show ¬((m:Int)<1∨(m:Int)>4) from by omega),Int.toNat_natCast,if_pos (show rV v m≠0 from by rw [←rV_shr]; exact hc4),if_neg (by decide)]
     exact ⟨rfl,H0.fr⟩
    ·
     have hc4:=dF hb4
     refine WC.skip<|WQ.inNormal<|WQ.next<|ws<|wm rfl<|wm rfl<|wo (op_callF Fa.C151 rfl ((put_ok v ((m:Nat)) _).mono (fun e w5 hq=>?_)))
     obtain ⟨rfl,hf5⟩:=hq
     refine ⟨_,rfl,?_⟩
     have H5:=H0.fr' hf5
     exact we rfl rfl<|we rfl rfl<|wa rfl<|wa rfl<|wn<|WC.ret<|WQ.out (.tmp rfl (.tmp rfl .nil)) (⟨rfl,H5.fr⟩)
   ·
    have hc3:=dF hb3
    refine wN hb3<|wN hb3<|wN hb3<|wN hb3<|wN hb3<|wo (op_pickF rfl hb3 rfl<|wa rfl<|wn<|WC.no rfl rfl<|WC.skip<|WQ.inNormal<|WQ.next<|ws<|wm rfl<|wm rfl<|wo (op_callF Fa.C151 rfl ((put_ok v ((m:Nat)) _).mono (fun e w6 hq=>?_))))
    obtain ⟨rfl,hf6⟩:=hq
    refine ⟨_,rfl,?_⟩
    have H6:=H0.fr' hf6
    exact we rfl rfl<|we rfl rfl<|wa rfl<|wa rfl<|wn<|WC.ret<|WQ.out (.tmp rfl (.tmp rfl .nil)) (⟨rfl,H6.fr⟩)
theorem rdnew_ok (s:List UInt8) (w:World) :
  Calls Tryz.prog 157 #[(str s)] w (fun e w'=> ∃q,e=.returned (ptr q 0)∧Owl.Own [] w w' [.blk q [str s,vN 0,vN 0] 298]):=by
 refine enter (args:=[(str s)]) Tryz.func157 rfl rfl ?_
 have H0:Owl.Own [] w w []:=Own.start w []
 exact ws<|wa rfl<|wn<|ws<|wm rfl<|wo (op_build (cs:=[_,_,_]) Fa.I296 Fa.PL296 rfl rfl<|wo (op_build (cs:=[_,_,_]) Fa.I298 Fa.PL298 rfl rfl<|wo (op_box H0 rfl rfl (fun b1 w1 H1=>(wa rfl<|wn<|WC.ret<|WQ.out (.tmp rfl .nil) (⟨_,rfl,H1⟩))))))
theorem spoilt_ok (q:Nat) (r:Rd) (x:Nat) (TR:TypeId) (T:List Nat) (w:World) (H:Owl.Own T w w [.blk q [(str r.s),(vN r.at_),(vN r.f)] TR]) :
  Calls Tryz.prog 198 #[(ptr q 0),(vN x)] w (fun e w'=>e=.returned (vN x)∧Owl.Own T w w' [.blk q [str (r.bad x).s,vN (r.bad x).at_,vN (r.bad x).f] TR]):=by
 exact enter (args:=[(ptr q 0),(vN x)]) Tryz.func198 rfl rfl<|ws<|wa rfl<|wn<|ws<|wm rfl<|wm rfl<|wo (op_nilCheck rfl<|wo (op_fieldAddr rfl Fa.F296_2<|wo (op_storeB (i:=0) H rfl rfl rfl rfl rfl Fa.I25 (fun w1 H1=>(wn<|ws<|wm rfl<|wa rfl<|wn<|WC.ret<|WQ.out (.tmp rfl .nil) (⟨rfl,H1⟩))))))
theorem qleft_ok (q:Nat) (r:Rd) (w:World) (hQ:cellsAt w q [(str r.s),(vN r.at_),(vN r.f)]) (hr:r.s.length<2^47) :
  Calls Tryz.prog 201 #[(ptr q 0)] w (fun e w'=>e=.returned (vN (r.s.length-r.at_))∧Fr [] w w'):=by
 refine enter (args:=[(ptr q 0)]) Tryz.func201 rfl rfl ?_
 have H0:Owl.Own [] w w [Ent.bo q [(str r.s),(vN r.at_),(vN r.f)]]:=((Own.start w []).oldB hQ)
 have hrh:=r.h
 refine ws<|wa rfl<|wn<|WC.seq<|WC.draw 11 Fa.M H0 (mh rfl<|oh (fun w1 H1=>op_nilCheck rfl zr)<|oh (fun w1 H1=>op_fieldAddr rfl Fa.F296_0 zr)<|oh (fun w1 H1=>op_load rfl (H1.cellO (i:=0) rfl rfl) Tryz.underlying9 rfl zr)<|oh (fun w1 H1=>op_lenStr Tryz.underlying9 rfl zr)<|mh rfl<|oh (fun w1 H1=>op_nilCheck rfl zr)<|oh (fun w1 H1=>op_fieldAddr rfl Fa.F296_1 zr)<|oh (fun w1 H1=>op_load rfl (H1.cellO (i:=0) rfl rfl) Tryz.underlying3 rfl zr)<|oh (fun w1 H1=>op_subN rfl rfl (by omega) (by omega) zr)<|ah rfl  HW.nil) (by kernel_rfl) ?_
 intro β1 w1 H1
 exact wn<|WC.ret<|WQ.out (.tmp rfl .nil) (⟨rfl,H1.fr⟩)
theorem fault_ok (q:Nat) (r:Rd) (w:World) (hQ:cellsAt w q [(str r.s),(vN r.at_),(vN r.f)]) :
  Calls Tryz.prog 197 #[(ptr q 0)] w (fun e w'=>e=.returned (vN r.f)∧Fr [] w w'):=by
 refine enter (args:=[(ptr q 0)]) Tryz.func197 rfl rfl ?_
 have H0:Owl.Own [] w w [Ent.bo q [(str r.s),(vN r.at_),(vN r.f)]]:=((Own.start w []).oldB hQ)
 exact ws<|wa rfl<|wn<|WC.seq<|ws<|wm rfl<|wo (op_eqlPN Fa.PT251 rfl rfl<|wn<|WC.no rfl rfl<|WC.skip<|WQ.next<|ws<|wm rfl<|wo (op_nilCheck rfl<|wo (op_fieldAddr rfl Fa.F298_0<|wo (op_fieldAddr rfl Fa.F296_2<|wo (op_load rfl (H0.cellO (i:=0) rfl rfl) Tryz.underlying25 rfl<|wa rfl<|wn<|WC.ret<|WQ.out (.tmp rfl .nil) (⟨rfl,H0.fr⟩))))))
theorem rtake_ok (q:Nat) (r:Rd) (n:Nat) (TR:TypeId) (T:List Nat) (w:World) (H:Owl.Own T w w [.blk q [(str r.s),(vN r.at_),(vN r.f)] TR]) (hr:r.s.length<2^47) :
  Calls Tryz.prog 199 #[(ptr q 0),(vN n)] w (fun e w'=>e=.returned (.tuple #[str (rawR r n).1.1,vN (rawR r n).1.2])∧Owl.Own T w w' [.blk q [str (rawR r n).2.s,vN (rawR r n).2.at_,vN (rawR r n).2.f] TR]):=by
 refine enter (args:=[(ptr q 0),(vN n)]) Tryz.func199 rfl rfl ?_
 have hrh:=r.h
 refine ws<|wa rfl<|wa rfl<|wn<|WC.seq<|ws<|wm rfl<|wm rfl<|wo (op_callF Fa.C201 rfl ((qleft_ok q r _ (H.cellsAt (i:=0) rfl) (by first | assumption | omega)).mono (fun e w1 hq=>?_)))
 obtain ⟨rfl,hf1⟩:=hq
 refine ⟨_,rfl,?_⟩
 have H1:=H.fr' hf1
 refine wo (op_gtrN rfl rfl<|wn (wC (decide (n>(r.s.length-r.at_))) (fun hb2=>?_) (fun hb2=>?_)))
 ·
  have hc2:=dT hb2
  refine ws<|wm rfl<|wo (op_callF Fa.C198 rfl ((spoilt_ok q r 6 TR _ _ (H1.part [0] rfl rfl)).mono (fun e w3 hq=>?_)))
  obtain ⟨rfl,hq3⟩:=hq
  refine ⟨_,rfl,?_⟩
  have H3:=H1.splice [0] [.blk q [(str (r.bad 6).s),(vN (r.bad 6).at_),(vN (r.bad 6).f)] TR] [] rfl rfl hq3 (Fits.solid True.intro Fits.nil)
  refine wa rfl<|wa rfl<|wn<|WC.ret<|WQ.thenRet<|WQ.out (.tmp rfl (.tmp rfl .nil)) ?_
  rw [rawR_1 hc2]
  exact ⟨rfl,H3⟩
 ·
  have hc2:=dF hb2
  refine WC.skip<|WQ.next<|ws<|wm rfl<|wo (op_nilCheck rfl<|wo (op_fieldAddr rfl Fa.F296_1<|wo (op_load rfl (H1.cell (i:=0) rfl rfl) Tryz.underlying3 rfl<|wm rfl<|wo (op_addN rfl rfl (by omega)<|wo (op_nilCheck rfl<|wo (op_fieldAddr rfl Fa.F296_1<|wo (op_storeB (i:=0) H1 rfl rfl rfl rfl rfl Fa.I3 (fun w4 H4=>(wn<|WC.seq<|WC.draw 17 Fa.M H4 (mh rfl<|oh (fun w1 H1=>op_nilCheck rfl zr)<|oh (fun w1 H1=>op_fieldAddr rfl Fa.F296_0 zr)<|oh (fun w1 H1=>op_load rfl (H1.cell (i:=0) rfl rfl) Tryz.underlying9 rfl zr)<|mh rfl<|oh (fun w1 H1=>op_nilCheck rfl zr)<|oh (fun w1 H1=>op_fieldAddr rfl Fa.F296_1 zr)<|oh (fun w1 H1=>op_load rfl (H1.cell (i:=0) rfl rfl) Tryz.underlying3 rfl zr)<|mh rfl<|oh (fun w1 H1=>op_subN rfl rfl (by omega) (by omega) zr)<|mh rfl<|oh (fun w1 H1=>op_nilCheck rfl zr)<|oh (fun w1 H1=>op_fieldAddr rfl Fa.F296_1 zr)<|oh (fun w1 H1=>op_load rfl (H1.cell (i:=0) rfl rfl) Tryz.underlying3 rfl zr)<|oh (fun w1 H1=>op_sliceStr Tryz.underlying9 rfl rfl rfl (by omega) (by omega) zr)<|ah rfl<|ah rfl  HW.nil) (by kernel_rfl) ?_)))))))))
  intro β5 w5 H5
  refine wn<|WC.ret<|WQ.out (.tmp rfl (.tmp rfl .nil)) ?_
  rw [rawR_2 hc2]
  exact ⟨by show _=Ending.returned (.tuple #[str ((r.s.drop r.at_).take n),vN 0]); rw [show r.at_+n-n=r.at_ from by omega,show r.at_+n-r.at_=n from by omega]; rfl,H5⟩
theorem take_ok (q:Nat) (r:Rd) (n:Int) (TR:TypeId) (T:List Nat) (w:World) (H:Owl.Own T w w [.blk q [(str r.s),(vN r.at_),(vN r.f)] TR]) (hr:r.s.length<2^47) :
  Calls Tryz.prog 158 #[(ptr q 0),(vI n)] w (fun e w'=>e=.returned (.tuple #[str (takeR r n).1.1,vN (takeR r n).1.2])∧Owl.Own T w w' [.blk q [str (takeR r n).2.s,vN (takeR r n).2.at_,vN (takeR r n).2.f] TR]):=by
 refine enter (args:=[(ptr q 0),(vI n)]) Tryz.func158 rfl rfl<|ws<|wa rfl<|wa rfl<|wn<|WC.seq<|ws<|wm rfl<|wo (op_callF Fa.C197 rfl ((fault_ok q r _ (H.cellsAt (i:=0) rfl)).mono (fun e w1 hq=>?_)))
 obtain ⟨rfl,hf1⟩:=hq
 refine ⟨_,rfl,?_⟩
 have H1:=H.fr' hf1
 refine wa rfl<|wn<|ws<|wm rfl<|wo (op_neqN (b:=0) rfl rfl<|wn (wC (decide (r.f≠0)) (fun hb2=>?_) (fun hb2=>?_)))
 ·
  have hc2:=dT hb2
  refine ws<|wm rfl<|wa rfl<|wa rfl<|wn<|WC.ret<|WQ.thenRet<|WQ.out (.tmp rfl (.tmp rfl .nil)) ?_
  rw [takeR,if_pos hc2]
  exact ⟨rfl,H1⟩
 ·
  have hc2:=dF hb2
  refine WC.skip<|WQ.next<|WC.seq<|ws<|wm rfl<|wo (op_lssI (b:=(0:Int)) rfl rfl<|wn (wC (decide (n<(0:Int))) (fun hb3=>?_) (fun hb3=>?_)))
  ·
   have hc3:=dT hb3
   refine ws<|wm rfl<|wo (op_nilCheck rfl<|wo (op_fieldAddr rfl Fa.F298_0<|wo (op_callF Fa.C198 rfl ((spoilt_ok q r 2 TR _ _ (H1.part [0] rfl rfl)).mono (fun e w4 hq=>?_)))))
   obtain ⟨rfl,hq4⟩:=hq
   refine ⟨_,rfl,?_⟩
   have H4:=H1.splice [0] [.blk q [(str (r.bad 2).s),(vN (r.bad 2).at_),(vN (r.bad 2).f)] TR] [] rfl rfl hq4 (Fits.solid True.intro Fits.nil)
   refine wa rfl<|wa rfl<|wn<|WC.ret<|WQ.thenRet<|WQ.out (.tmp rfl (.tmp rfl .nil)) ?_
   rw [takeR,if_neg hc2,if_pos hc3]
   exact ⟨rfl,H4⟩
  ·
   have hc3:=dF hb3
   obtain ⟨m,rfl⟩: ∃m:Nat,n=(m:Int):=⟨n.toNat,by omega⟩
   refine WC.skip<|WQ.next<|ws<|wm rfl<|wo (op_nilCheck rfl<|wo (op_fieldAddr rfl Fa.F298_0<|wm rfl<|wo (op_callF Fa.C199 rfl ((rtake_ok q r ((m:Nat)) TR _ _ (H1.part [0] rfl rfl) (by first | assumption | omega)).mono (fun e w5 hq=>?_)))))
   obtain ⟨rfl,hq5⟩:=hq
   refine ⟨_,rfl,?_⟩
   have H5:=H1.splice [0] [.blk q [(str ((rawR r (m:Nat)).2).s),(vN ((rawR r (m:Nat)).2).at_),(vN ((rawR r (m:Nat)).2).f)] TR] [] rfl rfl hq5 (Fits.solid True.intro Fits.nil)
   refine we rfl rfl<|we rfl rfl<|wa rfl<|wa rfl<|wn<|WC.ret<|WQ.out (.tmp rfl (.tmp rfl .nil)) ?_
   rw [takeR,if_neg hc2,if_neg (show ¬((m:Int)<0) from by omega),Int.toNat_natCast]
   exact ⟨rfl,H5⟩
theorem rdnum_ok (q:Nat) (r:Rd) (n:Int) (TR:TypeId) (T:List Nat) (w:World) (H:Owl.Own T w w [.blk q [(str r.s),(vN r.at_),(vN r.f)] TR]) (hr:r.s.length<2^47) :
  Calls Tryz.prog 200 #[(ptr q 0),(vI n)] w (fun e w'=>e=.returned (.tuple #[vU32 (numR r n).1.1,vN (numR r n).1.2])∧Owl.Own T w w' [.blk q [str (numR r n).2.s,vN (numR r n).2.at_,vN (numR r n).2.f] TR]):=by
 refine enter (args:=[(ptr q 0),(vI n)]) Tryz.func200 rfl rfl<|ws<|wa rfl<|wa rfl<|wn<|WC.seq<|ws<|wm rfl<|wo (op_callF Fa.C197 rfl ((fault_ok q r _ (H.cellsAt (i:=0) rfl)).mono (fun e w1 hq=>?_)))
 obtain ⟨rfl,hf1⟩:=hq
 refine ⟨_,rfl,?_⟩
 have H1:=H.fr' hf1
 refine wa rfl<|wn<|ws<|wm rfl<|wo (op_neqN (b:=0) rfl rfl<|wn (wC (decide (r.f≠0)) (fun hb2=>?_) (fun hb2=>?_)))
 ·
  have hc2:=dT hb2
  refine ws<|wm rfl<|wa rfl<|wa rfl<|wn<|WC.ret<|WQ.thenRet<|WQ.out (.tmp rfl (.tmp rfl .nil)) ?_
  rw [numR,if_pos hc2]
  exact ⟨rfl,H1⟩
 ·
  have hc2:=dF hb2
  refine WC.skip<|WQ.next<|WC.seq<|ws<|wm rfl<|wo (op_lssI (b:=(1:Int)) rfl rfl<|wm rfl (wV 16 (decide (n<(1:Int))) (fun hb3=>?_) (fun hb3=>?_)))
  ·
   have hc3:=dT hb3
   refine wN hb3<|wN hb3<|wo (op_pickT rfl hb3 rfl<|wn<|WC.yes rfl rfl<|ws<|wm rfl<|wo (op_nilCheck rfl<|wo (op_fieldAddr rfl Fa.F298_0<|wo (op_callF Fa.C198 rfl ((spoilt_ok q r 2 TR _ _ (H1.part [0] rfl rfl)).mono (fun e w4 hq=>?_))))))
   obtain ⟨rfl,hq4⟩:=hq
   refine ⟨_,rfl,?_⟩
   have H4:=H1.splice [0] [.blk q [(str (r.bad 2).s),(vN (r.bad 2).at_),(vN (r.bad 2).f)] TR] [] rfl rfl hq4 (Fits.solid True.intro Fits.nil)
   refine wa rfl<|wa rfl<|wn<|WC.ret<|WQ.thenRet<|WQ.out (.tmp rfl (.tmp rfl .nil)) ?_
   rw [numR,if_neg hc2,if_pos (show n<1∨n>4 from by omega)]
   exact ⟨rfl,H4⟩
  ·
   have hc3:=dF hb3
   refine wY hb3 (op_move rfl<|wY hb3 (op_gtrI (b:=(4:Int)) rfl rfl<|wo (op_pickF rfl hb3 rfl<|wn (wC (decide (n>(4:Int))) (fun hb5=>?_) (fun hb5=>?_)))))
   ·
    have hc5:=dT hb5
    refine ws<|wm rfl<|wo (op_nilCheck rfl<|wo (op_fieldAddr rfl Fa.F298_0<|wo (op_callF Fa.C198 rfl ((spoilt_ok q r 2 TR _ _ (H1.part [0] rfl rfl)).mono (fun e w6 hq=>?_)))))
    obtain ⟨rfl,hq6⟩:=hq
    refine ⟨_,rfl,?_⟩
    have H6:=H1.splice [0] [.blk q [(str (r.bad 2).s),(vN (r.bad 2).at_),(vN (r.bad 2).f)] TR] [] rfl rfl hq6 (Fits.solid True.intro Fits.nil)
    refine wa rfl<|wa rfl<|wn<|WC.ret<|WQ.thenRet<|WQ.out (.tmp rfl (.tmp rfl .nil)) ?_
    rw [numR,if_neg hc2,if_pos (show n<1∨n>4 from by omega)]
    exact ⟨rfl,H6⟩
   ·
    have hc5:=dF hb5
    obtain ⟨m,rfl⟩: ∃m:Nat,n=(m:Int):=⟨n.toNat,by omega⟩
    refine WC.skip<|WQ.next<|ws<|wm rfl<|wo (op_nilCheck rfl<|wo (op_fieldAddr rfl Fa.F298_0<|wm rfl<|wo (op_callF Fa.C199 rfl ((rtake_ok q r ((m:Nat)) TR _ _ (H1.part [0] rfl rfl) (by first | assumption | omega)).mono (fun e w7 hq=>?_)))))
    obtain ⟨rfl,hq7⟩:=hq
    refine ⟨_,rfl,?_⟩
    have H7:=H1.splice [0] [.blk q [(str ((rawR r (m:Nat)).2).s),(vN ((rawR r (m:Nat)).2).at_),(vN ((rawR r (m:Nat)).2).f)] TR] [] rfl rfl hq7 (Fits.solid True.intro Fits.nil)
    refine wm rfl<|we rfl rfl<|we rfl rfl<|wa rfl<|wa rfl<|wn<|WC.seq<|ws<|wm rfl<|wo (op_neqN (b:=0) rfl rfl<|wn (wC (decide ((rawR r (m:Nat)).1.2≠0)) (fun hb8=>?_) (fun hb8=>?_)))
    ·
     have hc8:=dT hb8
     refine ws<|wm rfl<|wa rfl<|wa rfl<|wn<|WC.ret<|WQ.thenRet<|WQ.out (.tmp rfl (.tmp rfl .nil)) ?_
     rw [numR,if_neg hc2,if_neg (show ¬((m:Int)<1∨(m:Int)>4) from by omega),Int.toNat_natCast,if_pos hc8]
     exact ⟨rfl,H7⟩
    ·
     have hc8:=dF hb8
     refine WC.skip<|WQ.next<|ws<|wm rfl<|wo (op_callF Fa.C107 rfl ((qget_ok ((rawR r (m:Nat)).1.1) _).mono (fun e w9 hq=>?_)))
     obtain ⟨rfl,hf9⟩:=hq
     refine ⟨_,rfl,?_⟩
     have H9:=H7.fr' hf9
     refine we rfl rfl<|we rfl rfl<|wa rfl<|wa rfl<|wn<|WC.ret<|WQ.out (.tmp rfl (.tmp rfl .nil)) ?_
     have hl:=rawR_len (Decidable.not_not.mp hc8)
     rw [numR,if_neg hc2,if_neg (show ¬((m:Int)<1∨(m:Int)>4) from by omega),Int.toNat_natCast,if_neg hc8]
     exact ⟨by rw [getE,if_neg (by omega)]; rfl,H9⟩
theorem rdend_ok (q:Nat) (r:Rd) (TR:TypeId) (T:List Nat) (w:World) (H:Owl.Own T w w [.blk q [(str r.s),(vN r.at_),(vN r.f)] TR]) (hr:r.s.length<2^47) :
  Calls Tryz.prog 161 #[(ptr q 0)] w (fun e w'=>e=.returned (vN (endR r).1)∧Owl.Own T w w' [.blk q [str (endR r).2.s,vN (endR r).2.at_,vN (endR r).2.f] TR]):=by
 refine enter (args:=[(ptr q 0)]) Tryz.func161 rfl rfl<|ws<|wa rfl<|wn<|WC.seq<|ws<|wm rfl<|wo (op_callF Fa.C197 rfl ((fault_ok q r _ (H.cellsAt (i:=0) rfl)).mono (fun e w1 hq=>?_)))
 obtain ⟨rfl,hf1⟩:=hq
 refine ⟨_,rfl,?_⟩
 have H1:=H.fr' hf1
 refine wa rfl<|wn<|ws<|wm rfl<|wo (op_neqN (b:=0) rfl rfl<|wn (wC (decide (r.f≠0)) (fun hb2=>?_) (fun hb2=>?_)))
 ·
  have hc2:=dT hb2
  refine ws<|wm rfl<|wa rfl<|wn<|WC.ret<|WQ.thenRet<|WQ.out (.tmp rfl .nil) ?_
  rw [endR,if_pos hc2]
  exact ⟨rfl,H1⟩
 ·
  have hc2:=dF hb2
  refine WC.skip<|WQ.next<|WC.seq<|ws<|wm rfl<|wo (op_nilCheck rfl<|wo (op_fieldAddr rfl Fa.F298_0<|wo (op_callF Fa.C201 rfl ((qleft_ok q r _ (H1.cellsAt (i:=0) rfl) hr).mono (fun e w3 hq=>?_)))))
  obtain ⟨rfl,hf3⟩:=hq
  refine ⟨_,rfl,?_⟩
  have H3:=H1.fr' hf3
  refine wo (op_gtrN (b:=0) rfl rfl<|wn (wC (decide ((r.s.length-r.at_)>0)) (fun hb4=>?_) (fun hb4=>?_)))
  ·
   have hc4:=dT hb4
   refine ws<|wm rfl<|wo (op_nilCheck rfl<|wo (op_fieldAddr rfl Fa.F298_0<|wo (op_callF Fa.C198 rfl ((spoilt_ok q r 7 TR _ _ (H3.part [0] rfl rfl)).mono (fun e w5 hq=>?_)))))
   obtain ⟨rfl,hq5⟩:=hq
   refine ⟨_,rfl,?_⟩
   have H5:=H3.splice [0] [.blk q [(str (r.bad 7).s),(vN (r.bad 7).at_),(vN (r.bad 7).f)] TR] [] rfl rfl hq5 (Fits.solid True.intro Fits.nil)
   refine wa rfl<|wn<|WC.ret<|WQ.thenRet<|WQ.out (.tmp rfl .nil) ?_
   rw [endR,if_neg hc2,if_pos hc4]
   exact ⟨rfl,H5⟩
  ·
   have hc4:=dF hb4
   refine WC.skip<|WQ.next<|ws<|wa rfl<|wn<|WC.ret<|WQ.out (.tmp rfl .nil) ?_
   rw [endR,if_neg hc2,if_neg hc4]
   exact ⟨rfl,H3⟩
theorem perms_ok (p:UInt8) (w:World) :
  Calls Tryz.prog 91 #[(vU8 p)] w (fun e w'=>e=.returned (.bool (permOk p))∧Fr [] w w'):=by
 refine enter (args:=[(vU8 p)]) Tryz.func91 rfl rfl ?_
 have H0:Owl.Own [] w w []:=Own.start w []
 refine ws<|wa rfl<|wn<|ws<|wo (op_buildSlice (cs:=[_,_,_]) H0 Tryz.underlying114 Fa.I5 rfl rfl rfl rfl (by decide) (by decide) (fun b1 w1 H1=>(wm rfl<|wo (op_callF Fa.C142 rfl ((con8_ok _ ([1,3,5]) p _ (H1.arrR (i:=0) rfl) (by decide)).mono (fun e w2 hq=>?_))))))
 obtain ⟨rfl,hf2⟩:=hq
 refine ⟨_,rfl,?_⟩
 have H2:=H1.fr' hf2
 exact wa rfl<|wn<|WC.ret<|WQ.out (.tmp rfl .nil) (⟨rfl,H2.fr⟩)
theorem send_ok (x:Sg) (w:World) :
  Calls Tryz.prog 92 #[(.agg #[(vU32 x.a),(vU8 x.p),(str x.b)])] w (fun e w'=>e=.returned (vU64 (sgEnd x))∧Fr [] w w'):=by
 refine enter (args:=[(.agg #[(vU32 x.a),(vU8 x.p),(str x.b)])]) Tryz.func92 rfl rfl ?_
 have H0:Owl.Own [] w w []:=Own.start w []
 exact ws<|wo (op_box H0 rfl rfl (fun b1 w1 H1=>(wa rfl<|wn<|ws<|wo (op_fieldAddr rfl Fa.F116_0<|wo (op_load rfl (H1.cell (i:=0) rfl rfl) Tryz.underlying22 rfl<|wo (op_convU32U64 (hs:=Tryz.underlying22) (hd:=Tryz.underlying154) rfl<|wo (op_fieldAddr rfl Fa.F116_2<|wo (op_load rfl (H1.cell (i:=0) rfl rfl) Tryz.underlying9 rfl<|wo (op_lenStr Tryz.underlying9 rfl<|wo (op_convNU64 (hs:=Tryz.underlying3) (hd:=Tryz.underlying154) rfl<|wo (op_addU64 rfl rfl<|wa rfl<|wn<|WC.ret<|WQ.out (.tmp rfl .nil) (⟨rfl,H1.fr⟩))))))))))))
theorem icheck_ok (pg:UInt32) (ev pv sv:Value) (xs:List Xt) (ps:List UInt16) (con:Bool) (en:UInt32) (sg:List Sg) (w:World) (hE:Arr w ev 2 xs.length (List.flatMap xtc xs)) (hP:Arr w pv 1 ps.length (List.map vU16 ps)) (hS:Arr w sv 3 sg.length (List.flatMap sgc sg)) (hn:xs.length<2^47) (hm:ps.length<2^47) (hk:sg.length<2^47) :
  Calls Tryz.prog 41 #[(.agg #[(vU32 pg),ev,pv,(.bool con),(vU32 en),sv])] w (fun e w'=>e=.returned (vN (imE pg xs ps en sg))∧Fr [] w w'):=by
 refine enter (args:=[(.agg #[(vU32 pg),ev,pv,(.bool con),(vU32 en),sv])]) Tryz.func41 rfl rfl ?_
 have H0:Owl.Own [] w w []:=Own.start w []
 refine ws<|wo (op_box H0 rfl rfl (fun b1 w1 H1=>(wa rfl<|wn<|WC.seq<|ws<|wo (op_fieldAddr rfl Fa.F43_0<|wo (op_loadS (vs:=[_,_,_,_]) rfl (H1.cells (i:=0) rfl rfl) Tryz.underlying40 rfl Fa.I40 rfl<|wo (op_callF Fa.C90 rfl ((dcheck_ok pg _ _ xs ps con _ (H1.arr hE) (H1.arr hP) hn hm).mono (fun e w2 hq=>?_))))))))
 obtain ⟨rfl,hf2⟩:=hq
 refine ⟨_,rfl,?_⟩
 have H2:=H1.fr' hf2
 refine wo (op_neqN (b:=0) rfl rfl<|wm rfl (wV 11 (decide ((mfE pg xs ps)≠0)) (fun hb3=>?_) (fun hb3=>?_)))
 ·
  have hc3:=dT hb3
  exact wN hb3<|wN hb3<|wN hb3<|wN hb3<|wo (op_pickT rfl hb3 rfl<|wm rfl<|wN rfl<|wN rfl<|wN rfl<|wN rfl<|wo (op_pickT rfl rfl rfl<|wm rfl<|wN rfl<|wN rfl<|wN rfl<|wN rfl<|wo (op_pickT rfl rfl rfl<|wn<|WC.yes rfl rfl<|ws<|wa rfl<|wn<|WC.ret<|WQ.thenRet<|WQ.out (.tmp rfl .nil) (⟨by rw [im_head (by (rw [imHead,hb3])<;>rfl)]; rfl,H2.fr⟩))))
 ·
  have hc3:=dF hb3
  refine wY hb3 (op_fieldAddr rfl Fa.F43_2<|wY hb3 (op_load rfl (H2.cell (i:=0) rfl rfl) Tryz.underlying41 rfl<|wY hb3 (op_lenA Tryz.underlying41 rfl (H2.arr hS)<|wY hb3 (op_lssN (b:=1) rfl rfl<|wo (op_pickF rfl hb3 rfl<|wm rfl (wV 17 (decide (sg.length<1)) (fun hb4=>?_) (fun hb4=>?_)))))))
  ·
   have hc4:=dT hb4
   exact wN hb4<|wN hb4<|wN hb4<|wN hb4<|wo (op_pickT rfl hb4 rfl<|wm rfl<|wN rfl<|wN rfl<|wN rfl<|wN rfl<|wo (op_pickT rfl rfl rfl<|wn<|WC.yes rfl rfl<|ws<|wa rfl<|wn<|WC.ret<|WQ.thenRet<|WQ.out (.tmp rfl .nil) (⟨by rw [im_head (by (rw [imHead,hb3,hb4])<;>rfl)]; rfl,H2.fr⟩)))
  ·
   have hc4:=dF hb4
   refine wY hb4 (op_fieldAddr rfl Fa.F43_2<|wY hb4 (op_load rfl (H2.cell (i:=0) rfl rfl) Tryz.underlying41 rfl<|wY hb4 (op_lenA Tryz.underlying41 rfl (H2.arr hS)<|wY hb4 (op_gtrN (b:=8) rfl rfl<|wo (op_pickF rfl hb4 rfl<|wm rfl (wV 23 (decide (sg.length>8)) (fun hb5=>?_) (fun hb5=>?_)))))))
   ·
    have hc5:=dT hb5
    exact wN hb5<|wN hb5<|wN hb5<|wN hb5<|wo (op_pickT rfl hb5 rfl<|wn<|WC.yes rfl rfl<|ws<|wa rfl<|wn<|WC.ret<|WQ.thenRet<|WQ.out (.tmp rfl .nil) (⟨by rw [im_head (by (rw [imHead,hb3,hb4,hb5])<;>rfl)]; rfl,H2.fr⟩))
   ·
    have hc5:=dF hb5
    refine wY hb5 (op_fieldAddr rfl Fa.F43_1<|wY hb5 (op_load rfl (H2.cell (i:=0) rfl rfl) Tryz.underlying22 rfl<|wY hb5 (op_remU32 (b:=8) rfl rfl (by decide)<|wY hb5 (op_neqU32 (b:=0) rfl rfl<|wo (op_pickF rfl hb5 rfl<|wn (wC (decide ((en%(8:UInt32))≠(0:UInt32))) (fun hb6=>?_) (fun hb6=>?_)))))))
    ·
     have hc6:=dT hb6
     exact ws<|wa rfl<|wn<|WC.ret<|WQ.thenRet<|WQ.out (.tmp rfl .nil) (⟨by rw [im_head (by (rw [imHead,hb3,hb4,hb5,hb6])<;>rfl)]; rfl,H2.fr⟩)
    ·
     have hc6:=dF hb6
     refine WC.skip<|WQ.next<|ws<|wa rfl<|wn<|ws<|wa rfl<|wn<|WC.seq<|ws<|wo (op_fieldAddr rfl Fa.F43_2<|wo (op_load rfl (H2.cell (i:=0) rfl rfl) Tryz.underlying41 rfl<|wo (op_lenA Tryz.underlying41 rfl (H2.arr hS)<|wm rfl<|wn<|WC.block<|WC.loop (α:=Nat) (fun k=>[(1,(ptr b1 0)),(30,sv),(31,(vN sg.length)),(3,(vU64 (ckTo en sg k).1)),(4,(.bool (ckTo en sg k).2)),(32,(vN k))]) (fun k w'=>(k≤sg.length∧(∀j,j<k→sgBad (ckTo en sg j).1 (sg.getD j Sg.zero)=false))∧Owl.Own [] w w' [.blk b1 [(vU32 pg),ev,pv,(.bool con),(vU32 en),sv] 43]) (fun k=>sg.length-k) 0 ⟨⟨Nat.zero_le _,fun j h=>by omega⟩,H2⟩ ⟨rfl,rfl,rfl,rfl,rfl,rfl,trivial⟩ ?_)))
     rintro k w7 ⟨⟨hk1,hok⟩,H7⟩
     show WC _ _ _ _ _ [(1,(ptr b1 0)),(30,sv),(31,(vN sg.length)),(3,(vU64 (ckTo en sg k).1)),(4,(.bool (ckTo en sg k).2)),(32,(vN k))] _
     refine ws<|wo (op_lssN rfl rfl<|wn<|WC.seq (wC (decide (k<sg.length)) (fun hb8=>?_) (fun hb8=>?_)))
     ·
      have hc8:=dT hb8
      refine WC.skip<|WQ.next<|WC.seq<|WC.block<|ws<|wo (op_indexAddr Tryz.underlying41 Fa.I116 rfl (H7.arr hS) rfl (by omega)<|wo (op_loadSP (vs:=sgc (sg.getD k Sg.zero)) rfl (Arr.atsF (H7.arr hS) (fun _=>rfl) (by decide) Sg.zero (by omega)) Tryz.underlying116 rfl Fa.I116 rfl<|wo (op_alloc H7 Fa.I116 (fun b9 w9 H9=>(wo (op_storeBW (i:=1) H9 rfl rfl rfl rfl rfl Fa.I116 (fun w10 H10=>(wn<|WC.seq<|ws<|wo (op_fieldAddr rfl Fa.F116_1<|wo (op_load rfl (H10.cell (i:=1) rfl rfl) Tryz.underlying5 rfl<|wo (op_callF Fa.C91 rfl ((perms_ok ((sg.getD k Sg.zero).p) _).mono (fun e w11 hq=>?_)))))))))))))
      obtain ⟨rfl,hf11⟩:=hq
      refine ⟨_,rfl,?_⟩
      have H11:=H10.fr' hf11
      refine wo (op_not rfl<|wm rfl (wV 40 (!(permOk ((sg.getD k Sg.zero).p))) (fun hb12=>?_) (fun hb12=>?_)))
      ·
       have hn12:=(Bool.not_eq_true' _).mp hb12
       exact wN hb12<|wN hb12<|wN hb12<|wN hb12<|wo (op_pickT rfl hb12 rfl<|wm rfl<|wN rfl<|wN rfl<|wN rfl<|wN rfl<|wN rfl<|wo (op_pickT rfl rfl rfl<|wm rfl<|wN rfl<|wN rfl<|wN rfl<|wo (op_pickT rfl rfl rfl<|wm rfl<|wN rfl<|wN rfl<|wN rfl<|wo (op_pickT rfl rfl rfl<|wn<|WC.yes rfl rfl<|ws<|wa rfl<|wn<|WC.ret<|WQ.thenRet<|WQ.inRet<|WQ.thenRet<|WQ.thenRet<|WQ.inRet<|WQ.thenRet<|WQ.out (.tmp rfl .nil) (⟨by rw [im_bad (k:=k) (by omega) (by (rw [sgBad,hn12])<;>rfl)]; rfl,H11.fr⟩)))))
      ·
       have hn12:=(Bool.not_eq_false' _).mp hb12
       refine wY hb12 (op_fieldAddr rfl Fa.F116_0<|wY hb12 (op_load rfl (H11.cell (i:=1) rfl rfl) Tryz.underlying22 rfl<|wY hb12 (op_remU32 (b:=256) rfl rfl (by decide)<|wY hb12 (op_neqU32 (b:=0) rfl rfl<|wo (op_pickF rfl hb12 rfl<|wm rfl (wV 46 (decide (((sg.getD k Sg.zero).a%(256:UInt32))≠(0:UInt32))) (fun hb13=>?_) (fun hb13=>?_)))))))
       ·
        have hc13:=dT hb13
        exact wN hb13<|wN hb13<|wN hb13<|wN hb13<|wN hb13<|wo (op_pickT rfl hb13 rfl<|wm rfl<|wN rfl<|wN rfl<|wN rfl<|wo (op_pickT rfl rfl rfl<|wm rfl<|wN rfl<|wN rfl<|wN rfl<|wo (op_pickT rfl rfl rfl<|wn<|WC.yes rfl rfl<|ws<|wa rfl<|wn<|WC.ret<|WQ.thenRet<|WQ.inRet<|WQ.thenRet<|WQ.thenRet<|WQ.inRet<|WQ.thenRet<|WQ.out (.tmp rfl .nil) (⟨by rw [im_bad (k:=k) (by omega) (by (rw [sgBad,hn12,hb13])<;>rfl)]; rfl,H11.fr⟩))))
       ·
        have hc13:=dF hb13
        refine wY hb13 (op_fieldAddr rfl Fa.F116_0<|wY hb13 (op_load rfl (H11.cell (i:=1) rfl rfl) Tryz.underlying22 rfl<|wY hb13 (op_convU32U64 (hs:=Tryz.underlying22) (hd:=Tryz.underlying154) rfl<|wY hb13 (op_move rfl<|wY hb13 (op_lssU64 rfl rfl<|wo (op_pickF rfl hb13 rfl<|wm rfl (wV 53 (decide ((UInt64.ofNat (sg.getD k Sg.zero).a.toNat)<(ckTo en sg k).1)) (fun hb14=>?_) (fun hb14=>?_))))))))
        ·
         have hc14:=dT hb14
         exact wN hb14<|wN hb14<|wN hb14<|wo (op_pickT rfl hb14 rfl<|wm rfl<|wN rfl<|wN rfl<|wN rfl<|wo (op_pickT rfl rfl rfl<|wn<|WC.yes rfl rfl<|ws<|wa rfl<|wn<|WC.ret<|WQ.thenRet<|WQ.inRet<|WQ.thenRet<|WQ.thenRet<|WQ.inRet<|WQ.thenRet<|WQ.out (.tmp rfl .nil) (⟨by rw [im_bad (k:=k) (by omega) (by (rw [sgBad,hn12,hb13,hb14])<;>rfl)]; rfl,H11.fr⟩)))
        ·
         have hc14:=dF hb14
         refine wY hb14 (op_fieldAddr rfl Fa.F116_2<|wY hb14 (op_load rfl (H11.cell (i:=1) rfl rfl) Tryz.underlying9 rfl<|wY hb14 (op_eqlStr rfl rfl<|wo (op_pickF rfl hb14 rfl<|wm rfl (wV 58 (decide ((sg.getD k Sg.zero).b=[])) (fun hb15=>?_) (fun hb15=>?_))))))
         ·
          have hc15:=dT hb15
          exact wN hb15<|wN hb15<|wN hb15<|wo (op_pickT rfl hb15 rfl<|wn<|WC.yes rfl rfl<|ws<|wa rfl<|wn<|WC.ret<|WQ.thenRet<|WQ.inRet<|WQ.thenRet<|WQ.thenRet<|WQ.inRet<|WQ.thenRet<|WQ.out (.tmp rfl .nil) (⟨by rw [im_bad (k:=k) (by omega) (by (rw [sgBad,hn12,hb13,hb14,hb15])<;>rfl)]; rfl,H11.fr⟩))
         ·
          have hc15:=dF hb15
          refine wY hb15 (op_loadS (vs:=[_,_,_]) rfl (H11.cells (i:=1) rfl rfl) Tryz.underlying116 rfl Fa.I116 rfl<|wY hb15 (op_callF Fa.C92 rfl ((send_ok (sg.getD k Sg.zero) _).mono (fun e w16 hq=>?_))))
          obtain ⟨rfl,hf16⟩:=hq
          refine ⟨_,rfl,?_⟩
          have H16:=H11.fr' hf16
          refine wY hb15 (op_gtrU64 (b:=131072) rfl rfl<|wo (op_pickF rfl hb15 rfl<|wn (wC (decide ((sgEnd (sg.getD k Sg.zero))>(131072:UInt64))) (fun hb17=>?_) (fun hb17=>?_))))
          ·
           have hc17:=dT hb17
           exact ws<|wa rfl<|wn<|WC.ret<|WQ.thenRet<|WQ.inRet<|WQ.thenRet<|WQ.thenRet<|WQ.inRet<|WQ.thenRet<|WQ.out (.tmp rfl .nil) (⟨by rw [im_bad (k:=k) (by omega) (by (rw [sgBad,hn12,hb13,hb14,hb15,hb17])<;>rfl)]; rfl,H16.fr⟩)
          ·
           have hc17:=dF hb17
           refine WC.skip<|WQ.next<|ws<|wo (op_loadS (vs:=[_,_,_]) rfl (H16.cells (i:=1) rfl rfl) Tryz.underlying116 rfl Fa.I116 rfl<|wo (op_callF Fa.C92 rfl ((send_ok (sg.getD k Sg.zero) _).mono (fun e w18 hq=>?_))))
           obtain ⟨rfl,hf18⟩:=hq
           refine ⟨_,rfl,?_⟩
           have H18:=H16.fr' hf18
           refine wo (op_addU64 (b:=256) rfl rfl<|wo (op_subU64 (b:=1) rfl rfl<|wo (op_quoU64 (b:=256) rfl rfl (by decide)<|wo (op_mulU64 (b:=256) rfl rfl<|wa rfl<|wn (wB (ckTo en sg k).2 (fun hb19=>?_) (fun hb19=>?_))))))
           ·
            refine WC.draw 24 Fa.M H18 (mh rfl<|mh rfl<|nh hb19<|nh hb19<|nh hb19<|nh hb19<|nh hb19<|uh<|uh<|uh<|uh<|uh<|nh hb19<|nh hb19<|uh<|uh<|uh<|uh<|uh<|uh<|uh<|nh hb19<|oh (fun w1 H1=>op_pickT rfl hb19 rfl zr)<|ah rfl  HW.nil) (by kernel_rfl) ?_
            intro β20 w20 H20
            exact WL.nil<|WQ.inNormal<|WQ.next<|WC.region<|wo (op_addN (b:=1) rfl rfl (by omega)<|wm rfl<|WL.nil<|WQ.round (k+1) ⟨⟨by omega,allPrev hok (by (rw [sgBad,hn12,hb13,hb14,hb15,hb17])<;>rfl)⟩,(H20.take 1)⟩ ⟨rfl,rfl,rfl,rfl,(congrArg (fun b=>some (Value.bool b)) (show true=(ckTo en sg (k+1)).2 by (rw [ckTo_2,sgBegins,hb19])<;>rfl)),rfl,trivial⟩ (by omega))
           ·
            refine wB (decide (((sg.getD k Sg.zero).p &&& (4:UInt8))≠(0:UInt8))) (fun hb21=>?_) (fun hb21=>?_)
            ·
             have hc21:=dT hb21
             refine wB (decide (en≥(sg.getD k Sg.zero).a)) (fun hb22=>?_) (fun hb22=>?_)
             ·
              have hc22:=dT hb22
              refine WC.draw 24 Fa.M H18 (mh rfl<|mh rfl<|yh hb19 (fun w1 H1=>op_fieldAddr rfl Fa.F116_1 zr)<|yh hb19 (fun w1 H1=>op_load rfl (H1.cell (i:=1) rfl rfl) Tryz.underlying5 rfl zr)<|yh hb19 (fun w1 H1=>op_andU8 (b:=4) rfl rfl zr)<|yh hb19 (fun w1 H1=>op_neqU8 (b:=0) rfl rfl zr)<|yh hb19 (fun w1 H1=>op_move rfl zr)<|yh hb21 (fun w1 H1=>op_fieldAddr rfl Fa.F43_1 zr)<|yh hb21 (fun w1 H1=>op_load rfl (H1.cell (i:=0) rfl rfl) Tryz.underlying22 rfl zr)<|yh hb21 (fun w1 H1=>op_fieldAddr rfl Fa.F116_0 zr)<|yh hb21 (fun w1 H1=>op_load rfl (H1.cell (i:=1) rfl rfl) Tryz.underlying22 rfl zr)<|yh hb21 (fun w1 H1=>op_geqU32 rfl rfl zr)<|yh hb19 (fun w1 H1=>op_pickT rfl hb21 rfl zr)<|yh hb19 (fun w1 H1=>op_move rfl zr)<|yh hb22 (fun w1 H1=>op_fieldAddr rfl Fa.F43_1 zr)<|yh hb22 (fun w1 H1=>op_load rfl (H1.cell (i:=0) rfl rfl) Tryz.underlying22 rfl zr)<|yh hb22 (fun w1 H1=>op_convU32U64 (hs:=Tryz.underlying22) (hd:=Tryz.underlying154) rfl zr)<|yh hb22 (fun w1 H1=>op_addU64 (b:=8) rfl rfl zr)<|yh hb22 (fun w1 H1=>op_loadS (vs:=[_,_,_]) rfl (H1.cells (i:=1) rfl rfl) Tryz.underlying116 rfl Fa.I116 rfl zr)<|yh hb22 (fun w1 H1=>op_callF Fa.C92 rfl ((send_ok (sg.getD k Sg.zero) _).mono (fun e w2 hq=>⟨_,hq.1,rfl,hq.2⟩)))<|yh hb22 (fun w1 H1=>op_leqU64 rfl rfl zr)<|yh hb19 (fun w1 H1=>op_pickT rfl hb22 rfl zr)<|oh (fun w1 H1=>op_pickF rfl hb19 rfl zr)<|ah rfl  HW.nil) (by kernel_rfl) ?_
              intro β24 w24 H24
              exact WL.nil<|WQ.inNormal<|WQ.next<|WC.region<|wo (op_addN (b:=1) rfl rfl (by omega)<|wm rfl<|WL.nil<|WQ.round (k+1) ⟨⟨by omega,allPrev hok (by (rw [sgBad,hn12,hb13,hb14,hb15,hb17])<;>rfl)⟩,(H24.take 1)⟩ ⟨rfl,rfl,rfl,rfl,(congrArg (fun b=>some (Value.bool b)) (show (decide (((UInt64.ofNat en.toNat)+(8:UInt64))≤(sgEnd (sg.getD k Sg.zero))))=(ckTo en sg (k+1)).2 by (rw [ckTo_2,sgBegins,hb19,hb21,hb22])<;>rfl)),rfl,trivial⟩ (by omega))
             ·
              have hc22:=dF hb22
              refine WC.draw 24 Fa.M H18 (mh rfl<|mh rfl<|yh hb19 (fun w1 H1=>op_fieldAddr rfl Fa.F116_1 zr)<|yh hb19 (fun w1 H1=>op_load rfl (H1.cell (i:=1) rfl rfl) Tryz.underlying5 rfl zr)<|yh hb19 (fun w1 H1=>op_andU8 (b:=4) rfl rfl zr)<|yh hb19 (fun w1 H1=>op_neqU8 (b:=0) rfl rfl zr)<|yh hb19 (fun w1 H1=>op_move rfl zr)<|yh hb21 (fun w1 H1=>op_fieldAddr rfl Fa.F43_1 zr)<|yh hb21 (fun w1 H1=>op_load rfl (H1.cell (i:=0) rfl rfl) Tryz.underlying22 rfl zr)<|yh hb21 (fun w1 H1=>op_fieldAddr rfl Fa.F116_0 zr)<|yh hb21 (fun w1 H1=>op_load rfl (H1.cell (i:=1) rfl rfl) Tryz.underlying22 rfl zr)<|yh hb21 (fun w1 H1=>op_geqU32 rfl rfl zr)<|yh hb19 (fun w1 H1=>op_pickT rfl hb21 rfl zr)<|yh hb19 (fun w1 H1=>op_move rfl zr)<|nh hb22<|nh hb22<|nh hb22<|nh hb22<|nh hb22<|nh hb22<|nh hb22<|yh hb19 (fun w1 H1=>op_pickF rfl hb22 rfl zr)<|oh (fun w1 H1=>op_pickF rfl hb19 rfl zr)<|ah rfl  HW.nil) (by kernel_rfl) ?_
              intro β25 w25 H25
              exact WL.nil<|WQ.inNormal<|WQ.next<|WC.region<|wo (op_addN (b:=1) rfl rfl (by omega)<|wm rfl<|WL.nil<|WQ.round (k+1) ⟨⟨by omega,allPrev hok (by (rw [sgBad,hn12,hb13,hb14,hb15,hb17])<;>rfl)⟩,(H25.take 1)⟩ ⟨rfl,rfl,rfl,rfl,(congrArg (fun b=>some (Value.bool b)) (show false=(ckTo en sg (k+1)).2 by (rw [ckTo_2,sgBegins,hb19,hb21,hb22])<;>rfl)),rfl,trivial⟩ (by omega))
            ·
             have hc21:=dF hb21
             refine WC.draw 24 Fa.M H18 (mh rfl<|mh rfl<|yh hb19 (fun w1 H1=>op_fieldAddr rfl Fa.F116_1 zr)<|yh hb19 (fun w1 H1=>op_load rfl (H1.cell (i:=1) rfl rfl) Tryz.underlying5 rfl zr)<|yh hb19 (fun w1 H1=>op_andU8 (b:=4) rfl rfl zr)<|yh hb19 (fun w1 H1=>op_neqU8 (b:=0) rfl rfl zr)<|yh hb19 (fun w1 H1=>op_move rfl zr)<|nh hb21<|nh hb21<|nh hb21<|nh hb21<|nh hb21<|yh hb19 (fun w1 H1=>op_pickF rfl hb21 rfl zr)<|yh hb19 (fun w1 H1=>op_move rfl zr)<|nh rfl<|nh rfl<|nh rfl<|nh rfl<|nh rfl<|nh rfl<|nh rfl<|yh hb19 (fun w1 H1=>op_pickF rfl rfl rfl zr)<|oh (fun w1 H1=>op_pickF rfl hb19 rfl zr)<|ah rfl  HW.nil) (by kernel_rfl) ?_
             intro β26 w26 H26
             exact WL.nil<|WQ.inNormal<|WQ.next<|WC.region<|wo (op_addN (b:=1) rfl rfl (by omega)<|wm rfl<|WL.nil<|WQ.round (k+1) ⟨⟨by omega,allPrev hok (by (rw [sgBad,hn12,hb13,hb14,hb15,hb17])<;>rfl)⟩,(H26.take 1)⟩ ⟨rfl,rfl,rfl,rfl,(congrArg (fun b=>some (Value.bool b)) (show false=(ckTo en sg (k+1)).2 by (rw [ckTo_2,sgBegins,hb19,hb21])<;>rfl)),rfl,trivial⟩ (by omega))
     ·
      have hc8:=dF hb8
      refine WC.exit<|WQ.thenExit<|WQ.thenExit<|WQ.inHere<|WQ.next<|WC.seq<|ws<|wm rfl<|wo (op_not rfl<|wn (wC (!(ckTo en sg k).2) (fun hb27=>?_) (fun hb27=>?_)))
      ·
       have hn27:=(Bool.not_eq_true' _).mp hb27
       exact ws<|wa rfl<|wn<|WC.ret<|WQ.thenRet<|WQ.out (.tmp rfl .nil) (⟨by rw [im_end (by (rw [imHead,hb3,hb4,hb5,hb6])<;>rfl) (fun j hj=>hok j (by omega)),show sg.length=k by omega,hn27]; rfl,H7.fr⟩)
      ·
       have hn27:=(Bool.not_eq_false' _).mp hb27
       exact WC.skip<|WQ.next<|ws<|wa rfl<|wn<|WC.ret<|WQ.out (.tmp rfl .nil) (⟨by rw [im_end (by (rw [imHead,hb3,hb4,hb5,hb6])<;>rfl) (fun j hj=>hok j (by omega)),show sg.length=k by omega,hn27]; rfl,H7.fr⟩)
theorem qcc_new (b:Nat) (v:Value) (T0:TypeId) (T:List Nat) (w:World) (H:Owl.Own T w w [.blk b [(.pointer none),v] T0]) (hc:Tryz.prog.cellsOf T0=2) (hl:liesAt Tryz.prog Tryz.prog.depth T0 1 0 175 1=true) :
  Calls Tryz.prog 150 #[(ptr b 0)] w (fun e w'=>e=.returned undef∧Owl.Own T w w' [.blk b [ptr b 0,v] T0]):=by
 exact enter (args:=[(ptr b 0)]) Tryz.func150 rfl rfl<|ws<|wm rfl<|wo (op_nilCheck rfl<|wo (op_fieldAddr rfl Fa.F175_0<|wo (op_load rfl (H.cell (i:=0) rfl rfl) Tryz.underlying173 rfl<|wo (op_eqlPN Fa.PT173 rfl rfl<|wn<|WC.yes rfl rfl<|WC.region<|wm rfl<|wm rfl<|wo (op_toUnsafe (i:=0) H Tryz.underlying173 Tryz.underlying285 Fa.CO175 rfl rfl rfl<|wo (op_noEscape Tryz.func186 (by kernel_rfl) (by kernel_rfl) (by kernel_rfl) (by kernel_rfl) rfl<|wo (op_fromUnsafe (i:=0) H Tryz.underlying285 Tryz.underlying173 Fa.CO175 rfl rfl rfl hc hl<|wo (op_nilCheck rfl<|wo (op_fieldAddr rfl Fa.F175_0<|wo (op_storeB (i:=0) H rfl rfl rfl rfl rfl Fa.I173 (fun w1 H1=>(WL.nil<|WQ.outEnd .nil (⟨rfl,H1⟩)))))))))))))
theorem qcc_old (b:Nat) (v:Value) (T0:TypeId) (T:List Nat) (w:World) (H:Owl.Own T w w [.blk b [(ptr b 0),v] T0]) (hc:Tryz.prog.cellsOf T0=2) (hl:liesAt Tryz.prog Tryz.prog.depth T0 1 0 175 1=true) :
  Calls Tryz.prog 150 #[(ptr b 0)] w (fun e w'=>e=.returned undef∧Owl.Own T w w' [.blk b [ptr b 0,v] T0]):=by
 exact enter (args:=[(ptr b 0)]) Tryz.func150 rfl rfl<|ws<|wm rfl<|wo (op_nilCheck rfl<|wo (op_fieldAddr rfl Fa.F175_0<|wo (op_load rfl (H.cell (i:=0) rfl rfl) Tryz.underlying173 rfl<|wo (op_eqlPN Fa.PT173 rfl rfl<|wn<|WC.no rfl rfl<|ws<|wm rfl<|wo (op_nilCheck rfl<|wo (op_fieldAddr rfl Fa.F175_0<|wo (op_load rfl (H.cell (i:=0) rfl rfl) Tryz.underlying173 rfl<|wm rfl<|wo (op_neqPP Tryz.underlying173 Fa.CO175 rfl rfl<|wn<|WC.no rfl rfl<|WC.skip<|WQ.outEnd .nil (⟨rfl,H⟩)))))))))
theorem qcc_ok (b:Nat) (A v:Value) (T0:TypeId) (T:List Nat) (w:World) (H:Owl.Own T w w [.blk b [A,v] T0]) (hA:A=.pointer none∨A=ptr b 0) (hc:Tryz.prog.cellsOf T0=2) (hl:liesAt Tryz.prog Tryz.prog.depth T0 1 0 175 1=true) :
    Calls Tryz.prog 150 #[ptr b 0] w (fun e w'=>e=.returned undef∧Owl.Own T w w' [.blk b [ptr b 0,v] T0]):=by
  rcases hA with rfl | rfl
  · exact qcc_new b v T0 T w H hc hl
  · exact qcc_old b v T0 T w H hc hl
theorem qws_ok (b:Nat) (A v:Value) (n:Nat) (bs s:List UInt8) (T0:TypeId) (T:List Nat) (w:World) (H:Owl.Own T w w [.blk b [A,v] T0,.row v 5 1 n (List.map vU8 bs)]) (hA:A=.pointer none∨A=ptr b 0) (hc:Tryz.prog.cellsOf T0=2) (hl:liesAt Tryz.prog Tryz.prog.depth T0 1 0 175 1=true) (hs:n+s.length<2^46) :
  Calls Tryz.prog 106 #[(ptr b 0),(str s)] w (fun e w'=> ∃v,e=.returned (.tuple #[vN s.length,.nilIface])∧Owl.Own T w w' [.blk b [ptr b 0,v] T0,.row v 5 1 (n+s.length) (List.map vU8 (bs++s))]):=by
 refine enter (args:=[(ptr b 0),(str s)]) Tryz.func106 rfl rfl<|ws<|wa rfl<|wa rfl<|wn<|ws<|wm rfl<|wo (op_callF Fa.C150 rfl ((qcc_ok b A v T0 _ _ (H.part [0] rfl rfl) hA hc hl).mono (fun e w1 hq=>?_)))
 obtain ⟨rfl,hq1⟩:=hq
 refine ⟨_,rfl,?_⟩
 have H1:=H.splice [0] [.blk b [(ptr b 0),v] T0] [] rfl rfl hq1 (Fits.solid True.intro Fits.nil)
 exact wn<|ws<|wm rfl<|wm rfl<|wo (op_nilCheck rfl<|wo (op_fieldAddr rfl Fa.F175_1<|wo (op_load rfl (H1.cell (i:=0) rfl rfl) Tryz.underlying114 rfl<|wm rfl<|wo (op_appendM (f:=vU8) (l:=bs) (l':=s) (i:=1) H1 Tryz.underlying114 Fa.I5 rfl rfl rfl rfl (Src.ofStr Tryz.underlying9) (one_mapM (fun _=>rfl)) (by omega) (by omega) (fun v2 w2 H2=>(wo (op_nilCheck rfl<|wo (op_fieldAddr rfl Fa.F175_1<|wo (op_storeB (i:=0) H2 rfl rfl rfl rfl (Arr.one (H2.arrR (i:=1) rfl)) Fa.I114 (fun w3 H3=>(wn<|ws<|wm rfl<|wo (op_lenStr Tryz.underlying9 rfl<|wa rfl<|wa rfl<|wn<|WC.ret<|WQ.out (.tmp rfl (.tmp rfl .nil)) (⟨_,rfl,H3⟩)))))))))))))
theorem qbstr_1 (b:Nat) (A:Value) (n:Nat) (bs:List UInt8) (T0:TypeId) (a0:Option Addr) (cap:Nat) (T:List Nat) (w:World) (H:Owl.Own T w w [.blk b [A,(.slice a0 n cap)] T0,.row (.slice a0 n cap) 5 1 n (List.map vU8 bs)]) (hz:a0=none∨cap≠0) :
  Calls Tryz.prog 109 #[(ptr b 0)] w (fun e w'=>e=.returned (str bs)∧Fr T w w'):=by
 refine enter (args:=[(ptr b 0)]) Tryz.func109 rfl rfl<|ws<|wa rfl<|wn<|WC.seq<|WC.draw 10 Fa.M H (mh rfl<|oh (fun w1 H1=>op_nilCheck rfl zr)<|oh (fun w1 H1=>op_fieldAddr rfl Fa.F175_1 zr)<|oh (fun w1 H1=>op_load rfl (H1.cell (i:=0) rfl rfl) Tryz.underlying114 rfl zr)<|oh (fun w1 H1=>op_sliceData rfl hz zr)<|mh rfl<|oh (fun w1 H1=>op_nilCheck rfl zr)<|oh (fun w1 H1=>op_fieldAddr rfl Fa.F175_1 zr)<|oh (fun w1 H1=>op_load rfl (H1.cell (i:=0) rfl rfl) Tryz.underlying114 rfl zr)<|oh (fun w1 H1=>op_lenA Tryz.underlying114 rfl (H1.arrR (i:=1) rfl) zr)  HW.nil) (by kernel_rfl) ?_
 intro β1 w1 H1
 exact wo (op_unsafeString (i:=1) H1 rfl Tryz.underlying243 Fa.CO5 rfl rfl (fun w2 H2=>(wa rfl<|wn<|WC.ret<|WQ.out (.tmp rfl .nil) (⟨rfl,H1.frPart (I:=[1]) rfl H2⟩))))
theorem qbstr_ok (b:Nat) (A v:Value) (n:Nat) (bs:List UInt8) (T0:TypeId) (T:List Nat) (w:World) (H:Owl.Own T w w [.blk b [A,v] T0,.row v 5 1 n (List.map vU8 bs)]) (hz:v=.slice none 0 0∨n≠0) :
  Calls Tryz.prog 109 #[ptr b 0] w (fun e w'=>e=.returned (str bs)∧Fr T w w'):=by
 obtain ⟨a0,cap,rfl,h⟩:=H.rowForm (i:=1) rfl hz
 exact qbstr_1 b A n bs T0 a0 cap T w H h
theorem nums_ok (b:Nat) (v lv:Value) (q:Nat) (bs:List UInt8) (l:List UInt32) (n:Nat) (T:List Nat) (w:World) (H:Owl.Own T w w [.blk b [(ptr b 0),v] 249,.row v 5 1 q (List.map vU8 bs)]) (hA: ∀w1,Fr T w w1→Arr w1 lv 1 l.length (List.map vU32 l)) (hb:q+4 * l.length<2^46) :
  Calls Tryz.prog 156 #[(ptr b 0),(vN n),lv] w (fun e w'=> ∃v',e=.returned undef∧Owl.Own T w w' [.blk b [ptr b 0,v'] 249,.row v' 5 1 (bs++(numsTo l n l.length)).length (List.map vU8 (bs++(numsTo l n l.length)))]):=by
 refine enter (args:=[(ptr b 0),(vN n),lv]) Tryz.func156 rfl rfl ?_
 obtain rfl:bs.length=q:=map_len H (i:=1) rfl
 refine ws<|wm rfl<|wo (op_lenA Tryz.underlying73 rfl (hA _ H.fr)<|wm rfl<|wn<|WC.block<|WC.loop (α:=Nat × Value) (fun (k,v2)=>[(0,(ptr b 0)),(1,(vN n)),(10,lv),(11,(vN l.length)),(12,(vN k))]) (fun (k,v2) w'=>(k≤l.length)∧Owl.Own T w w' [.blk b [(ptr b 0),v2] 249,.row v2 5 1 (bs++(numsTo l n k)).length (List.map vU8 (bs++(numsTo l n k)))]) (fun (k,v2)=>l.length-k) (0,v) ⟨Nat.zero_le _,(Own.rowEqN (i:=1) (f:=vU8) H rfl (List.append_nil bs).symm (by rw [numsTo,List.append_nil]))⟩ ⟨rfl,rfl,rfl,rfl,rfl,trivial⟩ ?_)
 rintro ⟨k,v2⟩ w1 ⟨hinv,H1⟩
 show WC _ _ _ _ _ [(0,(ptr b 0)),(1,(vN n)),(10,lv),(11,(vN l.length)),(12,(vN k))] _
 have hnl:=numsTo_len l n k
 have hnk:=numE_len (l.getD k 0) n
 refine ws<|wo (op_lssN rfl rfl<|wn<|WC.seq (wC (decide (k<l.length)) (fun hb2=>?_) (fun hb2=>?_)))
 ·
  have hc2:=dT hb2
  refine WC.skip<|WQ.next<|WC.seq<|WC.block<|ws<|wo (op_indexAddr1 Tryz.underlying73 Fa.I22 rfl (hA _ H1.fr) rfl (by omega)<|wo (op_load rfl ((hA _ H1.fr).at (get_map vU32 0 (Arr.ltM (hA _ H1.fr) (by omega)))) Tryz.underlying22 rfl<|wa rfl<|wn<|ws<|wm rfl<|wm rfl<|wo (op_callF Fa.C196 rfl ((num_ok (l.getD k 0) ((n:Nat)) _).mono (fun e w3 hq=>?_)))))
  obtain ⟨rfl,hf3⟩:=hq
  refine ⟨_,rfl,?_⟩
  have H3:=H1.fr' hf3
  refine wm rfl<|we rfl rfl<|we rfl rfl<|wa rfl<|wa rfl<|wn<|WC.region<|wm rfl<|wo (op_nilCheck rfl<|wo (op_fieldAddr rfl Fa.F249_0<|wm rfl<|wo (op_callF Fa.C106 rfl ((qws_ok b (ptr b 0) v2 (bs++(numsTo l n k)).length (bs++(numsTo l n k)) (numS (l.getD k 0) (n:Nat)) 249 _ _ (H3.part [0,1] rfl rfl) (.inr rfl) Fa.CO249 Fa.LI249_175 (by rw [List.length_append]; omega)).mono (fun e w4 hq=>?_)))))
  obtain ⟨v4,rfl,hq4⟩:=hq
  refine ⟨_,rfl,?_⟩
  have H4:=H3.splice [0,1] [.blk b [(ptr b 0),v4] 249,.row v4 5 1 ((bs++(numsTo l n k)).length+(numS (l.getD k 0) (n:Nat)).length) (List.map vU8 ((bs++(numsTo l n k))++(numS (l.getD k 0) (n:Nat))))] [] rfl rfl hq4 (Fits.solid True.intro (Fits.solid True.intro Fits.nil))
  exact WL.nil<|WQ.inNormal<|WQ.next<|WC.region<|wo (op_addN (b:=1) rfl rfl (by omega)<|wm rfl<|WL.nil<|WQ.round (k+1,v4) ⟨(by omega),(Own.rowEqN (i:=1) (f:=vU8) H4 rfl (List.append_assoc ..) (by rw [numsTo]; simp only [List.length_append]; omega))⟩ ⟨rfl,rfl,rfl,rfl,rfl,trivial⟩ (by show l.length-(k+1)<l.length-k; omega))
 ·
  have hc2:=dF hb2
  exact WC.exit<|WQ.thenExit<|WQ.thenExit<|WQ.inHere<|WQ.outEnd .nil (⟨_,rfl,(by have e:k=l.length:=(by omega); have h:=(show Owl.Own T w w1 [.blk b [(ptr b 0),v2] 249,.row v2 5 1 (bs++(numsTo l n k)).length (List.map vU8 (bs++(numsTo l n k)))] from H1); rw [e] at h; exact h)⟩)
theorem nums1_ok (b:Nat) (v lv:Value) (q:Nat) (bs:List UInt8) (u:UInt32) (n:Nat) (T:List Nat) (w:World) (H:Owl.Own T w w [.blk b [ptr b 0,v] 249,.row v 5 1 q (List.map vU8 bs)]) (hA: ∀w1,Fr T w w1→Arr w1 lv 1 1 (List.map vU32 [u])) (hb:q<2^45) :
  Calls Tryz.prog 156 #[ptr b 0,vN n,lv] w (fun e w'=> ∃v',e=.returned undef∧Owl.Own T w w' [.blk b [ptr b 0,v'] 249,.row v' 5 1 (bs++numS u n).length (List.map vU8 (bs++numS u n))]):=by
 have h:=nums_ok b v lv q bs [u] n T w H hA (by show q+4 * 1<2^46; omega)
 rw [show numsTo [u] n [u].length=numS u n from List.nil_append _] at h
 exact h
set_option maxHeartbeats 8000000
theorem iput_ok (pg:UInt32) (ev pv sv:Value) (xs:List Xt) (ps:List UInt16) (con:Bool) (en:UInt32) (sg:List Sg) (w:World) (hE:Arr w ev 2 xs.length (List.flatMap xtc xs)) (hP:Arr w pv 1 ps.length (List.map vU16 ps)) (hS:Arr w sv 3 sg.length (List.flatMap sgc sg)) (bx:xs.length≤2^20) (bp:ps.length≤2^20) (bs:sg.length≤2^10) (bb: ∀x∈sg,x.b.length≤2^30) :
  Calls Tryz.prog 113 #[(.agg #[(vU32 pg),ev,pv,(.bool con),(vU32 en),sv])] w (fun e w'=>e=.returned (.tuple #[str (imB pg xs ps con en sg),vN (imE pg xs ps en sg)])∧Fr [] w w'):=by
 refine enter (args:=[(.agg #[(vU32 pg),ev,pv,(.bool con),(vU32 en),sv])]) Tryz.func113 rfl rfl ?_
 have H0:Owl.Own [] w w []:=Own.start w []
 have hq1:=imP1_len pg xs
 have hq2:=imP2_len pg xs ps
 have hq3:=imP3_len pg xs ps con en sg
 refine ws<|wo (op_box H0 rfl rfl (fun b1 w1 H1=>(wa rfl<|wa rfl<|wn<|WC.seq<|ws<|wo (op_loadS (vs:=[_,_,_,_,_,_]) rfl (H1.cells (i:=0) rfl rfl) Tryz.underlying43 rfl Fa.I43 rfl<|wo (op_callF Fa.C41 rfl ((icheck_ok pg _ _ _ xs ps con en sg _ (H1.arr hE) (H1.arr hP) (H1.arr hS) (by omega) (by omega) (by omega)).mono (fun e w2 hq=>?_)))))))
 obtain ⟨rfl,hf2⟩:=hq
 refine ⟨_,rfl,?_⟩
 have H2:=H1.fr' hf2
 refine wa rfl<|wn<|ws<|wm rfl<|wo (op_neqN (b:=0) rfl rfl<|wn (wC (decide ((imE pg xs ps en sg)≠0)) (fun hb3=>?_) (fun hb3=>?_)))
 ·
  have hc3:=dT hb3
  refine ws<|wm rfl<|wa rfl<|wa rfl<|wn<|WC.ret<|WQ.thenRet<|WQ.out (.tmp rfl (.tmp rfl .nil)) ?_
  have h2:=hc3
  rw [imB,if_neg h2]
  exact ⟨rfl,H2.fr⟩
 ·
  have hc3:=dF hb3
  refine WC.skip<|WQ.next<|ws<|wo (op_alloc H2 Fa.I249 (fun b4 w4 H4=>(wn<|ws ?_)))
  have H5:=H4.nilRow 5 1
  refine wo (op_fieldAddr rfl Fa.F249_0<|wo (op_callF Fa.C106 rfl ((qws_ok b4 (.pointer none) (.slice none 0 0) 0 ([]) ([65,73,77,49]) 249 _ _ (H5.part [1,2] rfl rfl) (.inl rfl) Fa.CO249 Fa.LI249_175 (by first | (show 0+4<2^46; decide) | (simp only [List.length_append]; omega))).mono (fun e w6 hq=>?_))))
  obtain ⟨v6,rfl,hq6⟩:=hq
  refine ⟨_,rfl,?_⟩
  have H6:=H5.splice [1,2] [.blk b4 [(ptr b4 0),v6] 249,.row v6 5 1 (0+ [65,73,77,49].length) (List.map vU8 ([]++[65,73,77,49]))] [] rfl rfl hq6 (Fits.solid True.intro (Fits.solid True.intro Fits.nil))
  refine wn<|ws<|wo (op_fieldAddr rfl Fa.F43_0<|wo (op_fieldAddr rfl Fa.F40_0<|wo (op_load rfl (H6.cell (i:=0) rfl rfl) Tryz.underlying22 rfl<|wo (op_buildSlice (cs:=[_]) H6 Tryz.underlying73 Fa.I22 rfl rfl rfl rfl (by decide) (by decide) (fun b7 w7 H7=>(wo (op_callF Fa.C156 rfl ((nums1_ok b4 v6 (.slice (some ⟨b7,0,none⟩) 1 1) (0+ [65,73,77,49].length) ([]++[65,73,77,49]) pg 4 _ _ (H7.part [1,2] rfl rfl) (H7.stayR (I:=[1,2]) (k:=3) rfl rfl rfl) (by (try simp only [List.length_append,List.length_cons,List.length_nil]); omega)).mono (fun e w8 hq=>?_)))))))))
  obtain ⟨v8,rfl,hq8⟩:=hq
  refine ⟨_,rfl,?_⟩
  have H8:=H7.splice [1,2] [.blk b4 [(ptr b4 0),v8] 249,.row v8 5 1 (([]++[65,73,77,49])++(numS pg 4)).length (List.map vU8 (([]++[65,73,77,49])++(numS pg 4)))] [] rfl rfl hq8 (Fits.solid True.intro (Fits.solid True.intro Fits.nil))
  refine wn<|ws<|wo (op_fieldAddr rfl Fa.F43_0<|wo (op_fieldAddr rfl Fa.F40_1<|wo (op_load rfl (H8.cell (i:=0) rfl rfl) Tryz.underlying37 rfl<|wo (op_lenA Tryz.underlying37 rfl (H8.arr hE)<|wo (op_convNU32 (hs:=Tryz.underlying3) (hd:=Tryz.underlying22) rfl<|wo (op_buildSlice (cs:=[_]) H8 Tryz.underlying73 Fa.I22 rfl rfl rfl rfl (by decide) (by decide) (fun b9 w9 H9=>(wo (op_callF Fa.C156 rfl ((nums1_ok b4 v8 (.slice (some ⟨b9,0,none⟩) 1 1) (([]++[65,73,77,49])++(numS pg 4)).length (([]++[65,73,77,49])++(numS pg 4)) (UInt32.ofNat xs.length) 1 _ _ (H9.part [1,2] rfl rfl) (H9.stayR (I:=[1,2]) (k:=4) rfl rfl rfl) (by have:=numE_len pg 4; (try simp only [List.length_append,List.length_cons,List.length_nil]); omega)).mono (fun e w10 hq=>?_)))))))))))
  obtain ⟨v10,rfl,hq10⟩:=hq
  refine ⟨_,rfl,?_⟩
  have H10:=H9.splice [1,2] [.blk b4 [(ptr b4 0),v10] 249,.row v10 5 1 ((([]++[65,73,77,49])++(numS pg 4))++(numS (UInt32.ofNat xs.length) 1)).length (List.map vU8 ((([]++[65,73,77,49])++(numS pg 4))++(numS (UInt32.ofNat xs.length) 1)))] [] rfl rfl hq10 (Fits.solid True.intro (Fits.solid True.intro Fits.nil))
  refine wn<|WC.seq<|ws ?_
  have H11:Owl.Own [] w w10 [.blk b1 [(vU32 pg),ev,pv,(.bool con),(vU32 en),sv] 43,.blk b4 [(ptr b4 0),v10] 249,.row v10 5 1 (imP1 pg xs).length (List.map vU8 (imP1 pg xs)),.row (.slice (some ⟨b7,0,none⟩) 1 1) 22 1 1 (List.map vU32 [pg]),.row (.slice (some ⟨b9,0,none⟩) 1 1) 22 1 1 (List.map vU32 [(UInt32.ofNat xs.length)])]:=Own.rowEqN (i:=2) (f:=vU8) H10 rfl rfl rfl
  refine wo (op_fieldAddr rfl Fa.F43_0<|wo (op_fieldAddr rfl Fa.F40_1<|wo (op_load rfl (H11.cell (i:=0) rfl rfl) Tryz.underlying37 rfl<|wo (op_lenA Tryz.underlying37 rfl (H11.arr hE)<|wm rfl<|wn<|WC.block<|WC.loop (α:=Nat × Value) (fun (k,x)=>[(1,(ptr b1 0)),(5,(ptr b4 0)),(34,ev),(35,(vN xs.length)),(36,(vN k))]) (fun (k,x) w'=>(k≤xs.length)∧Owl.Own [] w w' [.blk b1 [(vU32 pg),ev,pv,(.bool con),(vU32 en),sv] 43,.blk b4 [(ptr b4 0),x] 249,.row x 5 1 ((imP1 pg xs)++putX xs k).length (List.map vU8 ((imP1 pg xs)++putX xs k)),.row (.slice (some ⟨b7,0,none⟩) 1 1) 22 1 1 (List.map vU32 [pg]),.row (.slice (some ⟨b9,0,none⟩) 1 1) 22 1 1 (List.map vU32 [(UInt32.ofNat xs.length)])]) (fun (k,x)=>xs.length-k) (0,v10) ⟨Nat.zero_le _,(Own.rowEqN (i:=2) (f:=vU8) H11 rfl (List.append_nil _).symm (congrArg List.length (List.append_nil _).symm))⟩ ⟨rfl,rfl,rfl,rfl,rfl,trivial⟩ ?_))))
  rintro ⟨k,x⟩ w12 ⟨hk1,H12⟩
  show WC _ _ _ _ _ [(1,(ptr b1 0)),(5,(ptr b4 0)),(34,ev),(35,(vN xs.length)),(36,(vN k))] _
  have hq1:=imP1_len pg xs
  have hqx:=putX_len xs k
  refine ws<|wo (op_lssN rfl rfl<|wn<|WC.seq (wC (decide (k<xs.length)) (fun hb13=>?_) (fun hb13=>?_)))
  ·
   have hc13:=dT hb13
   refine WC.skip<|WQ.next<|WC.seq<|WC.block<|ws<|wo (op_indexAddr Tryz.underlying37 Fa.I207 rfl (H12.arr hE) rfl (by omega)<|wo (op_loadSP (vs:=xtc (xs.getD k Xt.zero)) rfl (Arr.atsF (H12.arr hE) (fun _=>rfl) (by decide) Xt.zero (by omega)) Tryz.underlying207 rfl Fa.I207 rfl<|wo (op_alloc H12 Fa.I207 (fun b14 w14 H14=>(wo (op_storeBW (i:=5) H14 rfl rfl rfl rfl rfl Fa.I207 (fun w15 H15=>(wn<|ws<|wo (op_fieldAddr rfl Fa.F207_0<|wo (op_load rfl (H15.cell (i:=5) rfl rfl) Tryz.underlying22 rfl<|wo (op_buildSlice (cs:=[_]) H15 Tryz.underlying73 Fa.I22 rfl rfl rfl rfl (by decide) (by decide) (fun b16 w16 H16=>(wo (op_callF Fa.C156 rfl ((nums1_ok b4 x (.slice (some ⟨b16,0,none⟩) 1 1) ((imP1 pg xs)++putX xs k).length ((imP1 pg xs)++putX xs k) ((xs.getD k Xt.zero).id) 1 _ _ (H16.part [1,2] rfl rfl) (H16.stayR (I:=[1,2]) (k:=6) rfl rfl rfl) (by (try simp only [List.length_append,List.length_cons,List.length_nil]); omega)).mono (fun e w17 hq=>?_))))))))))))))))
   obtain ⟨v17,rfl,hq17⟩:=hq
   refine ⟨_,rfl,?_⟩
   have H17:=H16.splice [1,2] [.blk b4 [(ptr b4 0),v17] 249,.row v17 5 1 (((imP1 pg xs)++putX xs k)++(numS ((xs.getD k Xt.zero).id) 1)).length (List.map vU8 (((imP1 pg xs)++putX xs k)++(numS ((xs.getD k Xt.zero).id) 1)))] [] rfl rfl hq17 (Fits.solid True.intro (Fits.solid True.intro Fits.nil))
   refine wn<|WC.region<|wo (op_fieldAddr rfl Fa.F207_1<|wo (op_load rfl (H17.cell (i:=5) rfl rfl) Tryz.underlying22 rfl<|wo (op_buildSlice (cs:=[_]) H17 Tryz.underlying73 Fa.I22 rfl rfl rfl rfl (by decide) (by decide) (fun b18 w18 H18=>(wo (op_callF Fa.C156 rfl ((nums1_ok b4 v17 (.slice (some ⟨b18,0,none⟩) 1 1) (((imP1 pg xs)++putX xs k)++(numS ((xs.getD k Xt.zero).id) 1)).length (((imP1 pg xs)++putX xs k)++(numS ((xs.getD k Xt.zero).id) 1)) ((xs.getD k Xt.zero).bl) 2 _ _ (H18.part [1,2] rfl rfl) (H18.stayR (I:=[1,2]) (k:=7) rfl rfl rfl) (by have:=numE_len ((xs.getD k Xt.zero).id) 1; (try simp only [List.length_append,List.length_cons,List.length_nil]); omega)).mono (fun e w19 hq=>?_))))))))
   obtain ⟨v19,rfl,hq19⟩:=hq
   refine ⟨_,rfl,?_⟩
   have H19:=H18.splice [1,2] [.blk b4 [(ptr b4 0),v19] 249,.row v19 5 1 ((((imP1 pg xs)++putX xs k)++(numS ((xs.getD k Xt.zero).id) 1))++(numS ((xs.getD k Xt.zero).bl) 2)).length (List.map vU8 ((((imP1 pg xs)++putX xs k)++(numS ((xs.getD k Xt.zero).id) 1))++(numS ((xs.getD k Xt.zero).bl) 2)))] [] rfl rfl hq19 (Fits.solid True.intro (Fits.solid True.intro Fits.nil))
   exact WL.nil<|WQ.inNormal<|WQ.next<|WC.region<|wo (op_addN (b:=1) rfl rfl (by omega)<|wm rfl<|WL.nil<|WQ.round (k+1,v19) ⟨(by omega),(by have h:=(show Owl.Own [] w w19 [.blk b1 [(vU32 pg),ev,pv,(.bool con),(vU32 en),sv] 43,.blk b4 [(ptr b4 0),v19] 249,.row v19 5 1 ((((imP1 pg xs)++putX xs k)++(numS ((xs.getD k Xt.zero).id) 1))++(numS ((xs.getD k Xt.zero).bl) 2)).length (List.map vU8 ((((imP1 pg xs)++putX xs k)++(numS ((xs.getD k Xt.zero).id) 1))++(numS ((xs.getD k Xt.zero).bl) 2))),.row (.slice (some ⟨b7,0,none⟩) 1 1) 22 1 1 (List.map vU32 [pg]),.row (.slice (some ⟨b9,0,none⟩) 1 1) 22 1 1 (List.map vU32 [(UInt32.ofNat xs.length)])] from (H19.take 5)); exact Own.rowEqN (i:=2) (f:=vU8) h rfl (by simp only [putX,List.append_assoc]) (by simp only [putX,List.append_assoc,List.length_append]; try omega))⟩ ⟨rfl,rfl,rfl,rfl,rfl,trivial⟩ (by show xs.length-(k+1)<xs.length-k; omega))
  ·
   have hc13:=dF hb13
   refine WC.exit<|WQ.thenExit<|WQ.thenExit<|WQ.inHere<|WQ.next<|ws<|wo (op_fieldAddr rfl Fa.F43_0<|wo (op_fieldAddr rfl Fa.F40_2<|wo (op_load rfl (H12.cell (i:=0) rfl rfl) Tryz.underlying38 rfl<|wo (op_lenA Tryz.underlying38 rfl (H12.arr hP)<|wo (op_convNU32 (hs:=Tryz.underlying3) (hd:=Tryz.underlying22) rfl<|wo (op_buildSlice (cs:=[_]) H12 Tryz.underlying73 Fa.I22 rfl rfl rfl rfl (by decide) (by decide) (fun b20 w20 H20=>(wo (op_callF Fa.C156 rfl ((nums1_ok b4 x (.slice (some ⟨b20,0,none⟩) 1 1) ((imP1 pg xs)++putX xs k).length ((imP1 pg xs)++putX xs k) (UInt32.ofNat ps.length) 1 _ _ (H20.part [1,2] rfl rfl) (H20.stayR (I:=[1,2]) (k:=5) rfl rfl rfl) (by (try simp only [List.length_append,List.length_cons,List.length_nil]); omega)).mono (fun e w21 hq=>?_)))))))))))
   obtain ⟨v21,rfl,hq21⟩:=hq
   refine ⟨_,rfl,?_⟩
   have H21:=H20.splice [1,2] [.blk b4 [(ptr b4 0),v21] 249,.row v21 5 1 (((imP1 pg xs)++putX xs k)++(numS (UInt32.ofNat ps.length) 1)).length (List.map vU8 (((imP1 pg xs)++putX xs k)++(numS (UInt32.ofNat ps.length) 1)))] [] rfl rfl hq21 (Fits.solid True.intro (Fits.solid True.intro Fits.nil))
   refine wn<|WC.seq<|ws ?_
   obtain rfl:k=xs.length:=by omega
   have H22:Owl.Own [] w w21 [.blk b1 [(vU32 pg),ev,pv,(.bool con),(vU32 en),sv] 43,.blk b4 [(ptr b4 0),v21] 249,.row v21 5 1 (imP2 pg xs ps).length (List.map vU8 (imP2 pg xs ps)),.row (.slice (some ⟨b7,0,none⟩) 1 1) 22 1 1 (List.map vU32 [pg]),.row (.slice (some ⟨b9,0,none⟩) 1 1) 22 1 1 (List.map vU32 [(UInt32.ofNat xs.length)]),.row (.slice (some ⟨b20,0,none⟩) 1 1) 22 1 1 (List.map vU32 [(UInt32.ofNat ps.length)])]:=Own.rowEqN (i:=2) (f:=vU8) H21 rfl rfl rfl
   refine wo (op_fieldAddr rfl Fa.F43_0<|wo (op_fieldAddr rfl Fa.F40_2<|wo (op_load rfl (H22.cell (i:=0) rfl rfl) Tryz.underlying38 rfl<|wo (op_lenA Tryz.underlying38 rfl (H22.arr hP)<|wm rfl<|wn<|WC.block<|WC.loop (α:=Nat × Value) (fun (j,x)=>[(1,(ptr b1 0)),(5,(ptr b4 0)),(58,pv),(59,(vN ps.length)),(60,(vN j))]) (fun (j,x) w'=>(j≤ps.length)∧Owl.Own [] w w' [.blk b1 [(vU32 pg),ev,pv,(.bool con),(vU32 en),sv] 43,.blk b4 [(ptr b4 0),x] 249,.row x 5 1 ((imP2 pg xs ps)++putP ps j).length (List.map vU8 ((imP2 pg xs ps)++putP ps j)),.row (.slice (some ⟨b7,0,none⟩) 1 1) 22 1 1 (List.map vU32 [pg]),.row (.slice (some ⟨b9,0,none⟩) 1 1) 22 1 1 (List.map vU32 [(UInt32.ofNat xs.length)]),.row (.slice (some ⟨b20,0,none⟩) 1 1) 22 1 1 (List.map vU32 [(UInt32.ofNat ps.length)])]) (fun (j,x)=>ps.length-j) (0,v21) ⟨Nat.zero_le _,(Own.rowEqN (i:=2) (f:=vU8) H22 rfl (List.append_nil _).symm (congrArg List.length (List.append_nil _).symm))⟩ ⟨rfl,rfl,rfl,rfl,rfl,trivial⟩ ?_))))
   rintro ⟨j,x⟩ w23 ⟨hj1,H23⟩
   show WC _ _ _ _ _ [(1,(ptr b1 0)),(5,(ptr b4 0)),(58,pv),(59,(vN ps.length)),(60,(vN j))] _
   have hq2:=imP2_len pg xs ps
   have hqp:=putP_len ps j
   refine ws<|wo (op_lssN rfl rfl<|wn<|WC.seq (wC (decide (j<ps.length)) (fun hb24=>?_) (fun hb24=>?_)))
   ·
    have hc24:=dT hb24
    refine WC.skip<|WQ.next<|WC.seq<|WC.block<|ws<|wo (op_indexAddr1 Tryz.underlying38 Fa.I203 rfl (H23.arr hP) rfl (by omega)<|wo (op_load rfl ((H23.arr hP).at (get_map vU16 0 (Arr.ltM (H23.arr hP) (by omega)))) Tryz.underlying203 rfl<|wa rfl<|wn<|WC.region<|wm rfl<|wo (op_convU16U32 (hs:=Tryz.underlying203) (hd:=Tryz.underlying22) rfl<|wo (op_buildSlice (cs:=[_]) H23 Tryz.underlying73 Fa.I22 rfl rfl rfl rfl (by decide) (by decide) (fun b25 w25 H25=>(wo (op_callF Fa.C156 rfl ((nums1_ok b4 x (.slice (some ⟨b25,0,none⟩) 1 1) ((imP2 pg xs ps)++putP ps j).length ((imP2 pg xs ps)++putP ps j) (UInt32.ofNat (ps.getD j 0).toNat) 2 _ _ (H25.part [1,2] rfl rfl) (H25.stayR (I:=[1,2]) (k:=6) rfl rfl rfl) (by (try simp only [List.length_append,List.length_cons,List.length_nil]); omega)).mono (fun e w26 hq=>?_)))))))))
    obtain ⟨v26,rfl,hq26⟩:=hq
    refine ⟨_,rfl,?_⟩
    have H26:=H25.splice [1,2] [.blk b4 [(ptr b4 0),v26] 249,.row v26 5 1 (((imP2 pg xs ps)++putP ps j)++(numS (UInt32.ofNat (ps.getD j 0).toNat) 2)).length (List.map vU8 (((imP2 pg xs ps)++putP ps j)++(numS (UInt32.ofNat (ps.getD j 0).toNat) 2)))] [] rfl rfl hq26 (Fits.solid True.intro (Fits.solid True.intro Fits.nil))
    exact WL.nil<|WQ.inNormal<|WQ.next<|WC.region<|wo (op_addN (b:=1) rfl rfl (by omega)<|wm rfl<|WL.nil<|WQ.round (j+1,v26) ⟨(by omega),(by have h:=(show Owl.Own [] w w26 [.blk b1 [(vU32 pg),ev,pv,(.bool con),(vU32 en),sv] 43,.blk b4 [(ptr b4 0),v26] 249,.row v26 5 1 (((imP2 pg xs ps)++putP ps j)++(numS (UInt32.ofNat (ps.getD j 0).toNat) 2)).length (List.map vU8 (((imP2 pg xs ps)++putP ps j)++(numS (UInt32.ofNat (ps.getD j 0).toNat) 2))),.row (.slice (some ⟨b7,0,none⟩) 1 1) 22 1 1 (List.map vU32 [pg]),.row (.slice (some ⟨b9,0,none⟩) 1 1) 22 1 1 (List.map vU32 [(UInt32.ofNat xs.length)]),.row (.slice (some ⟨b20,0,none⟩) 1 1) 22 1 1 (List.map vU32 [(UInt32.ofNat ps.length)])] from (H26.take 6)); exact Own.rowEqN (i:=2) (f:=vU8) h rfl (by simp only [putP,List.append_assoc]) (by simp only [putP,List.append_assoc,List.length_append]; try omega))⟩ ⟨rfl,rfl,rfl,rfl,rfl,trivial⟩ (by show ps.length-(j+1)<ps.length-j; omega))
   ·
    have hc24:=dF hb24
    refine WC.exit<|WQ.thenExit<|WQ.thenExit<|WQ.inHere<|WQ.next<|ws<|wa rfl<|wn<|WC.cut (α:=Unit) (fun _=>[(1,(ptr b1 0)),(5,(ptr b4 0)),(10,(vU32 (conN con)))]) (fun _ w'=>Owl.Own [] w w' [.blk b1 [(vU32 pg),ev,pv,(.bool con),(vU32 en),sv] 43,.blk b4 [(ptr b4 0),x] 249,.row x 5 1 ((imP2 pg xs ps)++putP ps j).length (List.map vU8 ((imP2 pg xs ps)++putP ps j)),.row (.slice (some ⟨b7,0,none⟩) 1 1) 22 1 1 (List.map vU32 [pg]),.row (.slice (some ⟨b9,0,none⟩) 1 1) 22 1 1 (List.map vU32 [(UInt32.ofNat xs.length)]),.row (.slice (some ⟨b20,0,none⟩) 1 1) 22 1 1 (List.map vU32 [(UInt32.ofNat ps.length)])]) ?_ ?_
    ·
     refine ws<|wo (op_fieldAddr rfl Fa.F43_0<|wo (op_fieldAddr rfl Fa.F40_3<|wo (op_load rfl (H23.cell (i:=0) rfl rfl) Tryz.underlying4 rfl<|wn (wC con (fun hb27=>?_) (fun hb27=>?_)))))
     ·
      exact WC.region<|wa rfl<|WL.nil<|WQ.here () H23 ⟨rfl,rfl,(by rw [conN,hb27]; rfl),trivial⟩
     ·
      exact WC.skip<|WQ.here () H23 ⟨rfl,rfl,(by rw [conN,hb27]; rfl),trivial⟩
    ·
     rintro ⟨⟩ w28 H28
     show WC _ _ _ _ _ [(1,(ptr b1 0)),(5,(ptr b4 0)),(10,(vU32 (conN con)))] _
     refine ws<|wm rfl<|wo (op_buildSlice (cs:=[_]) H28 Tryz.underlying73 Fa.I22 rfl rfl rfl rfl (by decide) (by decide) (fun b29 w29 H29=>(wo (op_callF Fa.C156 rfl ((nums1_ok b4 x (.slice (some ⟨b29,0,none⟩) 1 1) ((imP2 pg xs ps)++putP ps j).length ((imP2 pg xs ps)++putP ps j) (conN con) 1 _ _ (H29.part [1,2] rfl rfl) (H29.stayR (I:=[1,2]) (k:=6) rfl rfl rfl) (by (try simp only [List.length_append,List.length_cons,List.length_nil]); omega)).mono (fun e w30 hq=>?_))))))
     obtain ⟨v30,rfl,hq30⟩:=hq
     refine ⟨_,rfl,?_⟩
     have H30:=H29.splice [1,2] [.blk b4 [(ptr b4 0),v30] 249,.row v30 5 1 (((imP2 pg xs ps)++putP ps j)++(numS (conN con) 1)).length (List.map vU8 (((imP2 pg xs ps)++putP ps j)++(numS (conN con) 1)))] [] rfl rfl hq30 (Fits.solid True.intro (Fits.solid True.intro Fits.nil))
     refine wn<|ws<|wo (op_fieldAddr rfl Fa.F43_1<|wo (op_load rfl (H30.cell (i:=0) rfl rfl) Tryz.underlying22 rfl<|wo (op_buildSlice (cs:=[_]) H30 Tryz.underlying73 Fa.I22 rfl rfl rfl rfl (by decide) (by decide) (fun b31 w31 H31=>(wo (op_callF Fa.C156 rfl ((nums1_ok b4 v30 (.slice (some ⟨b31,0,none⟩) 1 1) (((imP2 pg xs ps)++putP ps j)++(numS (conN con) 1)).length (((imP2 pg xs ps)++putP ps j)++(numS (conN con) 1)) en 4 _ _ (H31.part [1,2] rfl rfl) (H31.stayR (I:=[1,2]) (k:=7) rfl rfl rfl) (by have:=numE_len (conN con) 1; (try simp only [List.length_append,List.length_cons,List.length_nil]); omega)).mono (fun e w32 hq=>?_))))))))
     obtain ⟨v32,rfl,hq32⟩:=hq
     refine ⟨_,rfl,?_⟩
     have H32:=H31.splice [1,2] [.blk b4 [(ptr b4 0),v32] 249,.row v32 5 1 ((((imP2 pg xs ps)++putP ps j)++(numS (conN con) 1))++(numS en 4)).length (List.map vU8 ((((imP2 pg xs ps)++putP ps j)++(numS (conN con) 1))++(numS en 4)))] [] rfl rfl hq32 (Fits.solid True.intro (Fits.solid True.intro Fits.nil))
     refine wn<|ws<|wo (op_fieldAddr rfl Fa.F43_2<|wo (op_load rfl (H32.cell (i:=0) rfl rfl) Tryz.underlying41 rfl<|wo (op_lenA Tryz.underlying41 rfl (H32.arr hS)<|wo (op_convNU32 (hs:=Tryz.underlying3) (hd:=Tryz.underlying22) rfl<|wo (op_buildSlice (cs:=[_]) H32 Tryz.underlying73 Fa.I22 rfl rfl rfl rfl (by decide) (by decide) (fun b33 w33 H33=>(wo (op_callF Fa.C156 rfl ((nums1_ok b4 v32 (.slice (some ⟨b33,0,none⟩) 1 1) ((((imP2 pg xs ps)++putP ps j)++(numS (conN con) 1))++(numS en 4)).length ((((imP2 pg xs ps)++putP ps j)++(numS (conN con) 1))++(numS en 4)) (UInt32.ofNat sg.length) 1 _ _ (H33.part [1,2] rfl rfl) (H33.stayR (I:=[1,2]) (k:=8) rfl rfl rfl) (by have:=numE_len (conN con) 1; have:=numE_len en 4; (try simp only [List.length_append,List.length_cons,List.length_nil]); omega)).mono (fun e w34 hq=>?_))))))))))
     obtain ⟨v34,rfl,hq34⟩:=hq
     refine ⟨_,rfl,?_⟩
     have H34:=H33.splice [1,2] [.blk b4 [(ptr b4 0),v34] 249,.row v34 5 1 (((((imP2 pg xs ps)++putP ps j)++(numS (conN con) 1))++(numS en 4))++(numS (UInt32.ofNat sg.length) 1)).length (List.map vU8 (((((imP2 pg xs ps)++putP ps j)++(numS (conN con) 1))++(numS en 4))++(numS (UInt32.ofNat sg.length) 1)))] [] rfl rfl hq34 (Fits.solid True.intro (Fits.solid True.intro Fits.nil))
     refine wn<|WC.seq<|ws ?_
     obtain rfl:j=ps.length:=by omega
     have H35:Owl.Own [] w w34 [.blk b1 [(vU32 pg),ev,pv,(.bool con),(vU32 en),sv] 43,.blk b4 [(ptr b4 0),v34] 249,.row v34 5 1 (imP3 pg xs ps con en sg).length (List.map vU8 (imP3 pg xs ps con en sg)),.row (.slice (some ⟨b7,0,none⟩) 1 1) 22 1 1 (List.map vU32 [pg]),.row (.slice (some ⟨b9,0,none⟩) 1 1) 22 1 1 (List.map vU32 [(UInt32.ofNat xs.length)]),.row (.slice (some ⟨b20,0,none⟩) 1 1) 22 1 1 (List.map vU32 [(UInt32.ofNat ps.length)]),.row (.slice (some ⟨b29,0,none⟩) 1 1) 22 1 1 (List.map vU32 [(conN con)]),.row (.slice (some ⟨b31,0,none⟩) 1 1) 22 1 1 (List.map vU32 [en]),.row (.slice (some ⟨b33,0,none⟩) 1 1) 22 1 1 (List.map vU32 [(UInt32.ofNat sg.length)])]:=Own.rowEqN (i:=2) (f:=vU8) H34 rfl rfl rfl
     refine wo (op_fieldAddr rfl Fa.F43_2<|wo (op_load rfl (H35.cell (i:=0) rfl rfl) Tryz.underlying41 rfl<|wo (op_lenA Tryz.underlying41 rfl (H35.arr hS)<|wm rfl<|wn<|WC.block<|WC.loop (α:=Nat × Value) (fun (i,x)=>[(1,(ptr b1 0)),(5,(ptr b4 0)),(86,sv),(87,(vN sg.length)),(88,(vN i))]) (fun (i,x) w'=>(i≤sg.length)∧Owl.Own [] w w' [.blk b1 [(vU32 pg),ev,pv,(.bool con),(vU32 en),sv] 43,.blk b4 [(ptr b4 0),x] 249,.row x 5 1 ((imP3 pg xs ps con en sg)++putS sg i).length (List.map vU8 ((imP3 pg xs ps con en sg)++putS sg i)),.row (.slice (some ⟨b7,0,none⟩) 1 1) 22 1 1 (List.map vU32 [pg]),.row (.slice (some ⟨b9,0,none⟩) 1 1) 22 1 1 (List.map vU32 [(UInt32.ofNat xs.length)]),.row (.slice (some ⟨b20,0,none⟩) 1 1) 22 1 1 (List.map vU32 [(UInt32.ofNat ps.length)]),.row (.slice (some ⟨b29,0,none⟩) 1 1) 22 1 1 (List.map vU32 [(conN con)]),.row (.slice (some ⟨b31,0,none⟩) 1 1) 22 1 1 (List.map vU32 [en]),.row (.slice (some ⟨b33,0,none⟩) 1 1) 22 1 1 (List.map vU32 [(UInt32.ofNat sg.length)])]) (fun (i,x)=>sg.length-i) (0,v34) ⟨Nat.zero_le _,(Own.rowEqN (i:=2) (f:=vU8) H35 rfl (List.append_nil _).symm (congrArg List.length (List.append_nil _).symm))⟩ ⟨rfl,rfl,rfl,rfl,rfl,trivial⟩ ?_)))
     rintro ⟨i,x⟩ w36 ⟨hi1,H36⟩
     show WC _ _ _ _ _ [(1,(ptr b1 0)),(5,(ptr b4 0)),(86,sv),(87,(vN sg.length)),(88,(vN i))] _
     have hq3:=imP3_len pg xs ps con en sg
     have hqs:=putS_len bb i
     have hqb:=getS_mem bb i
     have hn1:=numE_len (sg.getD i Sg.zero).a 4
     have hn2:=numE_len (UInt32.ofNat (sg.getD i Sg.zero).p.toNat) 1
     have hn3:=numE_len (UInt32.ofNat (sg.getD i Sg.zero).b.length) 4
     refine ws<|wo (op_lssN rfl rfl<|wn<|WC.seq (wC (decide (i<sg.length)) (fun hb37=>?_) (fun hb37=>?_)))
     ·
      have hc37:=dT hb37
      refine WC.skip<|WQ.next<|WC.seq<|WC.block<|ws<|wo (op_indexAddr Tryz.underlying41 Fa.I116 rfl (H36.arr hS) rfl (by omega)<|wo (op_loadSP (vs:=sgc (sg.getD i Sg.zero)) rfl (Arr.atsF (H36.arr hS) (fun _=>rfl) (by decide) Sg.zero (by omega)) Tryz.underlying116 rfl Fa.I116 rfl<|wo (op_alloc H36 Fa.I116 (fun b38 w38 H38=>(wo (op_storeBW (i:=9) H38 rfl rfl rfl rfl rfl Fa.I116 (fun w39 H39=>(wn<|ws<|wo (op_fieldAddr rfl Fa.F116_0<|wo (op_load rfl (H39.cell (i:=9) rfl rfl) Tryz.underlying22 rfl<|wo (op_buildSlice (cs:=[_]) H39 Tryz.underlying73 Fa.I22 rfl rfl rfl rfl (by decide) (by decide) (fun b40 w40 H40=>(wo (op_callF Fa.C156 rfl ((nums1_ok b4 x (.slice (some ⟨b40,0,none⟩) 1 1) ((imP3 pg xs ps con en sg)++putS sg i).length ((imP3 pg xs ps con en sg)++putS sg i) ((sg.getD i Sg.zero).a) 4 _ _ (H40.part [1,2] rfl rfl) (H40.stayR (I:=[1,2]) (k:=10) rfl rfl rfl) (by (try simp only [List.length_append,List.length_cons,List.length_nil]); omega)).mono (fun e w41 hq=>?_))))))))))))))))
      obtain ⟨v41,rfl,hq41⟩:=hq
      refine ⟨_,rfl,?_⟩
      have H41:=H40.splice [1,2] [.blk b4 [(ptr b4 0),v41] 249,.row v41 5 1 (((imP3 pg xs ps con en sg)++putS sg i)++(numS ((sg.getD i Sg.zero).a) 4)).length (List.map vU8 (((imP3 pg xs ps con en sg)++putS sg i)++(numS ((sg.getD i Sg.zero).a) 4)))] [] rfl rfl hq41 (Fits.solid True.intro (Fits.solid True.intro Fits.nil))
      refine wn<|ws<|wo (op_fieldAddr rfl Fa.F116_1<|wo (op_load rfl (H41.cell (i:=9) rfl rfl) Tryz.underlying5 rfl<|wo (op_convU8U32 (hs:=Tryz.underlying5) (hd:=Tryz.underlying22) rfl<|wo (op_buildSlice (cs:=[_]) H41 Tryz.underlying73 Fa.I22 rfl rfl rfl rfl (by decide) (by decide) (fun b42 w42 H42=>(wo (op_callF Fa.C156 rfl ((nums1_ok b4 v41 (.slice (some ⟨b42,0,none⟩) 1 1) (((imP3 pg xs ps con en sg)++putS sg i)++(numS ((sg.getD i Sg.zero).a) 4)).length (((imP3 pg xs ps con en sg)++putS sg i)++(numS ((sg.getD i Sg.zero).a) 4)) (UInt32.ofNat (sg.getD i Sg.zero).p.toNat) 1 _ _ (H42.part [1,2] rfl rfl) (H42.stayR (I:=[1,2]) (k:=11) rfl rfl rfl) (by have:=numE_len ((sg.getD i Sg.zero).a) 4; (try simp only [List.length_append,List.length_cons,List.length_nil]); omega)).mono (fun e w43 hq=>?_)))))))))
      obtain ⟨v43,rfl,hq43⟩:=hq
      refine ⟨_,rfl,?_⟩
      have H43:=H42.splice [1,2] [.blk b4 [(ptr b4 0),v43] 249,.row v43 5 1 ((((imP3 pg xs ps con en sg)++putS sg i)++(numS ((sg.getD i Sg.zero).a) 4))++(numS (UInt32.ofNat (sg.getD i Sg.zero).p.toNat) 1)).length (List.map vU8 ((((imP3 pg xs ps con en sg)++putS sg i)++(numS ((sg.getD i Sg.zero).a) 4))++(numS (UInt32.ofNat (sg.getD i Sg.zero).p.toNat) 1)))] [] rfl rfl hq43 (Fits.solid True.intro (Fits.solid True.intro Fits.nil))
      refine wn<|ws<|wo (op_fieldAddr rfl Fa.F116_2<|wo (op_load rfl (H43.cell (i:=9) rfl rfl) Tryz.underlying9 rfl<|wo (op_lenStr Tryz.underlying9 rfl<|wo (op_convNU32 (hs:=Tryz.underlying3) (hd:=Tryz.underlying22) rfl<|wo (op_buildSlice (cs:=[_]) H43 Tryz.underlying73 Fa.I22 rfl rfl rfl rfl (by decide) (by decide) (fun b44 w44 H44=>(wo (op_callF Fa.C156 rfl ((nums1_ok b4 v43 (.slice (some ⟨b44,0,none⟩) 1 1) ((((imP3 pg xs ps con en sg)++putS sg i)++(numS ((sg.getD i Sg.zero).a) 4))++(numS (UInt32.ofNat (sg.getD i Sg.zero).p.toNat) 1)).length ((((imP3 pg xs ps con en sg)++putS sg i)++(numS ((sg.getD i Sg.zero).a) 4))++(numS (UInt32.ofNat (sg.getD i Sg.zero).p.toNat) 1)) (UInt32.ofNat (sg.getD i Sg.zero).b.length) 4 _ _ (H44.part [1,2] rfl rfl) (H44.stayR (I:=[1,2]) (k:=12) rfl rfl rfl) (by have:=numE_len ((sg.getD i Sg.zero).a) 4; have:=numE_len (UInt32.ofNat (sg.getD i Sg.zero).p.toNat) 1; (try simp only [List.length_append,List.length_cons,List.length_nil]); omega)).mono (fun e w45 hq=>?_))))))))))
      obtain ⟨v45,rfl,hq45⟩:=hq
      refine ⟨_,rfl,?_⟩
      have H45:=H44.splice [1,2] [.blk b4 [(ptr b4 0),v45] 249,.row v45 5 1 (((((imP3 pg xs ps con en sg)++putS sg i)++(numS ((sg.getD i Sg.zero).a) 4))++(numS (UInt32.ofNat (sg.getD i Sg.zero).p.toNat) 1))++(numS (UInt32.ofNat (sg.getD i Sg.zero).b.length) 4)).length (List.map vU8 (((((imP3 pg xs ps con en sg)++putS sg i)++(numS ((sg.getD i Sg.zero).a) 4))++(numS (UInt32.ofNat (sg.getD i Sg.zero).p.toNat) 1))++(numS (UInt32.ofNat (sg.getD i Sg.zero).b.length) 4)))] [] rfl rfl hq45 (Fits.solid True.intro (Fits.solid True.intro Fits.nil))
      refine wn<|WC.region<|wo (op_fieldAddr rfl Fa.F249_0<|wo (op_fieldAddr rfl Fa.F116_2<|wo (op_load rfl (H45.cell (i:=9) rfl rfl) Tryz.underlying9 rfl<|wo (op_callF Fa.C106 rfl ((qws_ok b4 (ptr b4 0) v45 (((((imP3 pg xs ps con en sg)++putS sg i)++(numS ((sg.getD i Sg.zero).a) 4))++(numS (UInt32.ofNat (sg.getD i Sg.zero).p.toNat) 1))++(numS (UInt32.ofNat (sg.getD i Sg.zero).b.length) 4)).length (((((imP3 pg xs ps con en sg)++putS sg i)++(numS ((sg.getD i Sg.zero).a) 4))++(numS (UInt32.ofNat (sg.getD i Sg.zero).p.toNat) 1))++(numS (UInt32.ofNat (sg.getD i Sg.zero).b.length) 4)) ((sg.getD i Sg.zero).b) 249 _ _ (H45.part [1,2] rfl rfl) (.inr rfl) Fa.CO249 Fa.LI249_175 (by first | (show 0+4<2^46; decide) | (simp only [List.length_append]; omega))).mono (fun e w46 hq=>?_))))))
      obtain ⟨v46,rfl,hq46⟩:=hq
      refine ⟨_,rfl,?_⟩
      have H46:=H45.splice [1,2] [.blk b4 [(ptr b4 0),v46] 249,.row v46 5 1 ((((((imP3 pg xs ps con en sg)++putS sg i)++(numS ((sg.getD i Sg.zero).a) 4))++(numS (UInt32.ofNat (sg.getD i Sg.zero).p.toNat) 1))++(numS (UInt32.ofNat (sg.getD i Sg.zero).b.length) 4)).length+(sg.getD i Sg.zero).b.length) (List.map vU8 ((((((imP3 pg xs ps con en sg)++putS sg i)++(numS ((sg.getD i Sg.zero).a) 4))++(numS (UInt32.ofNat (sg.getD i Sg.zero).p.toNat) 1))++(numS (UInt32.ofNat (sg.getD i Sg.zero).b.length) 4))++(sg.getD i Sg.zero).b))] [] rfl rfl hq46 (Fits.solid True.intro (Fits.solid True.intro Fits.nil))
      exact WL.nil<|WQ.inNormal<|WQ.next<|WC.region<|wo (op_addN (b:=1) rfl rfl (by omega)<|wm rfl<|WL.nil<|WQ.round (i+1,v46) ⟨(by omega),(by have h:=(show Owl.Own [] w w46 [.blk b1 [(vU32 pg),ev,pv,(.bool con),(vU32 en),sv] 43,.blk b4 [(ptr b4 0),v46] 249,.row v46 5 1 ((((((imP3 pg xs ps con en sg)++putS sg i)++(numS ((sg.getD i Sg.zero).a) 4))++(numS (UInt32.ofNat (sg.getD i Sg.zero).p.toNat) 1))++(numS (UInt32.ofNat (sg.getD i Sg.zero).b.length) 4)).length+(sg.getD i Sg.zero).b.length) (List.map vU8 ((((((imP3 pg xs ps con en sg)++putS sg i)++(numS ((sg.getD i Sg.zero).a) 4))++(numS (UInt32.ofNat (sg.getD i Sg.zero).p.toNat) 1))++(numS (UInt32.ofNat (sg.getD i Sg.zero).b.length) 4))++(sg.getD i Sg.zero).b)),.row (.slice (some ⟨b7,0,none⟩) 1 1) 22 1 1 (List.map vU32 [pg]),.row (.slice (some ⟨b9,0,none⟩) 1 1) 22 1 1 (List.map vU32 [(UInt32.ofNat xs.length)]),.row (.slice (some ⟨b20,0,none⟩) 1 1) 22 1 1 (List.map vU32 [(UInt32.ofNat ps.length)]),.row (.slice (some ⟨b29,0,none⟩) 1 1) 22 1 1 (List.map vU32 [(conN con)]),.row (.slice (some ⟨b31,0,none⟩) 1 1) 22 1 1 (List.map vU32 [en]),.row (.slice (some ⟨b33,0,none⟩) 1 1) 22 1 1 (List.map vU32 [(UInt32.ofNat sg.length)])] from (H46.take 9)); exact Own.rowEqN (i:=2) (f:=vU8) h rfl (by simp only [putS,List.append_assoc]) (by simp only [putS,List.append_assoc,List.length_append]; try omega))⟩ ⟨rfl,rfl,rfl,rfl,rfl,trivial⟩ (by show sg.length-(i+1)<sg.length-i; omega))
     ·
      have hc37:=dF hb37
      refine WC.exit<|WQ.thenExit<|WQ.thenExit<|WQ.inHere<|WQ.next<|ws<|wo (op_fieldAddr rfl Fa.F249_0<|wo (op_callF Fa.C109 rfl ((qbstr_ok b4 (ptr b4 0) x ((imP3 pg xs ps con en sg)++putS sg i).length ((imP3 pg xs ps con en sg)++putS sg i) 249 _ _ (H36.part [1,2] rfl rfl) (.inr (imP3_ne _ _ _ _ _ _ _))).mono (fun e w47 hq=>?_))))
      obtain ⟨rfl,hq47⟩:=hq
      refine ⟨_,rfl,?_⟩
      have H47:=H36.rest (I:=[1,2]) (J:=[0,3,4,5,6,7,8]) rfl rfl rfl rfl hq47
      refine wa rfl<|wa rfl<|wn<|WC.ret<|WQ.out (.tmp rfl (.tmp rfl .nil)) ?_
      obtain rfl:i=sg.length:=by omega
      rw [imB,if_pos (Decidable.not_not.mp hc3),Decidable.not_not.mp hc3]
      exact ⟨rfl,H47.fr⟩
theorem same15_ok (va vb:Value) (a b:List UInt32) (w:World) (hA:Arr w va 1 a.length (List.map vU32 a)) (hB:Arr w vb 1 b.length (List.map vU32 b)) (hn:a.length<2^47) :
  Calls Tryz.prog 43 #[va,vb] w (fun e w'=>e=.returned (.bool (decide (a=b)))∧Fr [] w w'):=by
 refine enter (args:=[va,vb]) Tryz.func43 rfl rfl ?_
 have H0:Owl.Own [] w w []:=Own.start w []
 refine ws<|wa rfl<|wn<|WC.seq<|ws<|wm rfl<|wo (op_lenA Tryz.underlying73 rfl (H0.arr hA)<|wm rfl<|wo (op_lenA Tryz.underlying73 rfl (H0.arr hB)<|wo (op_neqN rfl rfl<|wn (wC (decide (a.length≠b.length)) (fun hb1=>?_) (fun hb1=>?_)))))
 ·
  have hc1:=dT hb1
  exact ws<|wa rfl<|wn<|WC.ret<|WQ.thenRet<|WQ.out (.tmp rfl .nil) (⟨by rw [decide_eq_false (fun h:a=b=>hc1 (by rw [h]))]; rfl,H0.fr⟩)
 ·
  have hc1:=dF hb1
  refine WC.skip<|WQ.next<|WC.seq<|ws<|wa rfl<|wn<|WC.block<|WC.loop (α:=Nat) (fun k=>[(0,va),(1,vb),(5,(vN k))]) (fun k w'=>(k≤a.length∧(∀j,j<k→a.getD j 0=b.getD j 0))∧Owl.Own [] w w' []) (fun k=>a.length-k) 0 ⟨⟨Nat.zero_le _,fun j h=>by omega⟩,H0⟩ ⟨rfl,rfl,rfl,trivial⟩ ?_
  rintro k w2 ⟨⟨hk1,hok⟩,H2⟩
  show WC _ _ _ _ _ [(0,va),(1,vb),(5,(vN k))] _
  refine WC.seq<|ws<|wm rfl<|wm rfl<|wo (op_lenA Tryz.underlying73 rfl (H2.arr hA)<|wo (op_lssN rfl rfl<|wn (wC (decide (k<a.length)) (fun hb3=>?_) (fun hb3=>?_))))
  ·
   have hc3:=dT hb3
   refine WC.skip<|WQ.next<|WC.seq<|WC.block<|WC.seq<|WC.draw 9 Fa.M H2 (mh rfl<|mh rfl<|oh (fun w1 H1=>op_indexAddr1 Tryz.underlying73 Fa.I22 rfl (H1.arr hA) rfl (by omega) zr)<|oh (fun w1 H1=>op_load rfl ((H1.arr hA).at (get_map vU32 0 (Arr.ltM (H1.arr hA) (by omega)))) Tryz.underlying22 rfl zr)<|mh rfl<|mh rfl<|oh (fun w1 H1=>op_indexAddr1 Tryz.underlying73 Fa.I22 rfl (H1.arr hB) rfl (by omega) zr)<|oh (fun w1 H1=>op_load rfl ((H1.arr hB).at (get_map vU32 0 (Arr.ltM (H1.arr hB) (by omega)))) Tryz.underlying22 rfl zr)<|oh (fun w1 H1=>op_neqU32 rfl rfl zr)  HW.nil) (by kernel_rfl) ?_
   intro β4 w4 H4
   refine wn (wC (decide ((a.getD k 0)≠(b.getD k 0))) (fun hb5=>?_) (fun hb5=>?_))
   ·
    have hc5:=dT hb5
    exact ws<|wa rfl<|wn<|WC.ret<|WQ.inRet<|WQ.thenRet<|WQ.thenRet<|WQ.inRet<|WQ.thenRet<|WQ.out (.tmp rfl .nil) (⟨by rw [decide_eq_false (fun h:a=b=>hc5 (by rw [h]))]; rfl,H4.fr⟩)
   ·
    have hc5:=dF hb5
    exact WC.skip<|WQ.inNormal<|WQ.next<|WC.region<|wm rfl<|wo (op_addN (b:=1) rfl rfl (by omega)<|wa rfl<|WL.nil<|WQ.round (k+1) ⟨⟨by omega,allPrev hok (Decidable.not_not.mp hc5)⟩,H4⟩ ⟨rfl,rfl,rfl,trivial⟩ (by omega))
  ·
   have hc3:=dF hb3
   exact WC.exit<|WQ.thenExit<|WQ.thenExit<|WQ.inHere<|WQ.next<|ws<|wa rfl<|wn<|WC.ret<|WQ.out (.tmp rfl .nil) (⟨by rw [decide_eq_true (list_eqD (by omega) (fun j hj=>hok j (by omega)))]; rfl,H2.fr⟩)
theorem large11_ok (pg:UInt32) (ev pv lv:Value) (xs:List Xt) (ps:List UInt16) (con:Bool) (w:World) (hL:Arr w lv 4 1 [vU32 pg,ev,pv,.bool con]) (hE:Arr w ev 2 xs.length (List.flatMap xtc xs)) (hP:Arr w pv 1 ps.length (List.map vU16 ps)) (hn:xs.length<2^47) (hm:ps.length<2^47) :
  Calls Tryz.prog 70 #[lv] w (fun e w'=>e=.returned (.bool (decide (1+xs.length+ps.length>600)))∧Fr [] w w'):=by
 refine enter (args:=[lv]) Tryz.func70 rfl rfl ?_
 have H0:Owl.Own [] w w []:=Own.start w []
 refine ws<|wa rfl<|wn<|ws<|wm rfl<|wo (op_lenA Tryz.underlying167 rfl (H0.arr hL)<|wa rfl<|wn<|WC.cut (α:=Unit) (fun _=>[(3,(vN (1+xs.length+ps.length)))]) (fun _ w'=>Owl.Own [] w w' []) ?_ ?_)
 ·
  refine ws<|wa rfl<|wn<|WC.block<|WC.loop (α:=Nat) (fun k=>[(0,lv),(3,(vN (if k=0 then 1 else 1+xs.length+ps.length))),(4,(vN k))]) (fun k w'=>(k≤1)∧Owl.Own [] w w' []) (fun k=>1-k) 0 ⟨(Nat.zero_le _),H0⟩ ⟨rfl,rfl,rfl,trivial⟩ ?_
  rintro k w1 ⟨hinv,H1⟩
  show WC _ _ _ _ _ [(0,lv),(3,(vN (if k=0 then 1 else 1+xs.length+ps.length))),(4,(vN k))] _
  refine WC.seq<|ws<|wm rfl<|wm rfl<|wo (op_lenA Tryz.underlying167 rfl (H1.arr hL)<|wo (op_lssN rfl rfl<|wm rfl (wV 11 (decide (k<1)) (fun hb2=>?_) (fun hb2=>?_))))
  ·
   have hc2:=dT hb2
   refine wY hb2 (op_move rfl<|wY hb2 (op_lssN (b:=100) rfl rfl<|wo (op_pickT rfl hb2 rfl<|wn (wC (decide (k<100)) (fun hb3=>?_) (fun hb3=>?_)))))
   ·
    have hc3:=dT hb3
    obtain rfl:k=0:=by omega
    refine WC.skip<|WQ.next<|WC.seq<|WC.block<|WC.draw 16 Fa.M H1 (mh rfl<|mh rfl<|mh rfl<|oh (fun w1 H1=>op_indexAddr Tryz.underlying167 Fa.I40 rfl (H1.arr hL) rfl (by omega) zr)<|oh (fun w1 H1=>op_fieldAddrS rfl Fa.F40_1 zr)<|oh (fun w1 H1=>op_load rfl ((H1.arr hL).at rfl) Tryz.underlying37 rfl zr)<|oh (fun w1 H1=>op_lenA Tryz.underlying37 rfl (H1.arr hE) zr)<|oh (fun w1 H1=>op_addN rfl rfl (by rw [if_pos rfl]; omega) zr)<|mh rfl<|mh rfl<|oh (fun w1 H1=>op_indexAddr Tryz.underlying167 Fa.I40 rfl (H1.arr hL) rfl (by omega) zr)<|oh (fun w1 H1=>op_fieldAddrS rfl Fa.F40_2 zr)<|oh (fun w1 H1=>op_load rfl ((H1.arr hL).at rfl) Tryz.underlying38 rfl zr)<|oh (fun w1 H1=>op_lenA Tryz.underlying38 rfl (H1.arr hP) zr)<|oh (fun w1 H1=>op_addN rfl rfl (by rw [if_pos rfl]; omega) zr)<|ah rfl  HW.nil) (by kernel_rfl) ?_
    intro β4 w4 H4
    exact WL.nil<|WQ.inNormal<|WQ.next<|WC.region<|wm rfl<|wo (op_addN (b:=1) rfl rfl (by omega)<|wa rfl<|WL.nil<|WQ.round 1 ⟨(Nat.le_refl _),H4⟩ ⟨rfl,rfl,rfl,trivial⟩ (by decide))
   ·
    have hc3:=dF hb3
    refine WC.exit<|WQ.thenExit<|WQ.thenExit<|WQ.inHere ?_
    obtain rfl:k=1:=by omega
    exact WQ.here () H1 ⟨rfl,trivial⟩
  ·
   have hc2:=dF hb2
   refine wN hb2<|wN hb2<|wo (op_pickF rfl hb2 rfl<|wn<|WC.no rfl rfl<|WC.exit<|WQ.thenExit<|WQ.thenExit<|WQ.inHere ?_)
   obtain rfl:k=1:=by omega
   exact WQ.here () H1 ⟨rfl,trivial⟩
 ·
  rintro ⟨⟩ w5 H5
  show WC _ _ _ _ _ [(3,(vN (1+xs.length+ps.length)))] _
  exact ws<|wm rfl<|wo (op_gtrN (b:=600) rfl rfl<|wa rfl<|wn<|WC.ret<|WQ.out (.tmp rfl .nil) (⟨rfl,H5.fr⟩))
theorem large16_ok (pg:UInt32) (ev pv sv:Value) (xs:List Xt) (ps:List UInt16) (con:Bool) (en:UInt32) (sg:List Sg) (w:World) (hE:Arr w ev 2 xs.length (List.flatMap xtc xs)) (hP:Arr w pv 1 ps.length (List.map vU16 ps)) (hS:Arr w sv 3 sg.length (List.flatMap sgc sg)) (hn:xs.length<2^47) (hm:ps.length<2^47) (hk:sg.length<2^47) (hB: ∀x∈sg,x.b.length≤140737488351232) :
  Calls Tryz.prog 30 #[(.agg #[(vU32 pg),ev,pv,(.bool con),(vU32 en),sv])] w (fun e w'=>e=.returned (.bool (large16 xs ps sg))∧Fr [] w w'):=by
 refine enter (args:=[(.agg #[(vU32 pg),ev,pv,(.bool con),(vU32 en),sv])]) Tryz.func30 rfl rfl ?_
 have H0:Owl.Own [] w w []:=Own.start w []
 refine ws<|wo (op_box H0 rfl rfl (fun b1 w1 H1=>(wa rfl<|wn<|ws<|wa rfl<|wn<|WC.cut (α:=Nat) (fun k=>[(1,(ptr b1 0)),(3,(vN (sumS sg k)))]) (fun k w'=>(k=min sg.length 20)∧Owl.Own [] w w' [.blk b1 [(vU32 pg),ev,pv,(.bool con),(vU32 en),sv] 43]) ?_ ?_)))
 ·
  refine ws<|wa rfl<|wn<|WC.block<|WC.loop (α:=Nat) (fun k=>[(1,(ptr b1 0)),(3,(vN (sumS sg k))),(4,(vN k))]) (fun k w'=>(k≤sg.length∧k≤20)∧Owl.Own [] w w' [.blk b1 [(vU32 pg),ev,pv,(.bool con),(vU32 en),sv] 43]) (fun k=>sg.length-k) 0 ⟨⟨by omega,by omega⟩,H1⟩ ⟨rfl,rfl,rfl,trivial⟩ ?_
  rintro k w2 ⟨hinv,H2⟩
  show WC _ _ _ _ _ [(1,(ptr b1 0)),(3,(vN (sumS sg k))),(4,(vN k))] _
  have hs0:=sumS_le hB k
  have hg0:=getS_mem hB k
  refine WC.seq<|ws<|wm rfl<|wo (op_fieldAddr rfl Fa.F43_2<|wo (op_load rfl (H2.cell (i:=0) rfl rfl) Tryz.underlying41 rfl<|wo (op_lenA Tryz.underlying41 rfl (H2.arr hS)<|wo (op_lssN rfl rfl<|wm rfl (wV 10 (decide (k<sg.length)) (fun hb3=>?_) (fun hb3=>?_))))))
  ·
   have hc3:=dT hb3
   refine wY hb3 (op_move rfl<|wY hb3 (op_lssN (b:=20) rfl rfl<|wo (op_pickT rfl hb3 rfl<|wn (wC (decide (k<20)) (fun hb4=>?_) (fun hb4=>?_)))))
   ·
    have hc4:=dT hb4
    exact WC.skip<|WQ.next<|WC.seq<|WC.block<|WC.region<|wm rfl<|wo (op_fieldAddr rfl Fa.F43_2<|wo (op_load rfl (H2.cell (i:=0) rfl rfl) Tryz.underlying41 rfl<|wm rfl<|wo (op_indexAddr Tryz.underlying41 Fa.I116 rfl (H2.arr hS) rfl (by omega)<|wo (op_fieldAddrS rfl Fa.F116_2<|wo (op_load rfl (Arr.atF (k:=2) (H2.arr hS) (fun _=>rfl) (by decide) Sg.zero (by omega) rfl) Tryz.underlying9 rfl<|wo (op_lenStr Tryz.underlying9 rfl<|wo (op_addN rfl rfl (by omega)<|wa rfl<|WL.nil<|WQ.inNormal<|WQ.next<|WC.region<|wm rfl<|wo (op_addN (b:=1) rfl rfl (by omega)<|wa rfl<|WL.nil<|WQ.round (k+1) ⟨(by omega),H2⟩ ⟨rfl,rfl,rfl,trivial⟩ (by omega)))))))))
   ·
    have hc4:=dF hb4
    exact WC.exit<|WQ.thenExit<|WQ.thenExit<|WQ.inHere<|WQ.here k ⟨(by omega),H2⟩ ⟨rfl,rfl,trivial⟩
  ·
   have hc3:=dF hb3
   exact wN hb3<|wN hb3<|wo (op_pickF rfl hb3 rfl<|wn<|WC.no rfl rfl<|WC.exit<|WQ.thenExit<|WQ.thenExit<|WQ.inHere<|WQ.here k ⟨(by omega),H2⟩ ⟨rfl,rfl,trivial⟩)
 ·
  rintro k w5 ⟨hinv,H5⟩
  show WC _ _ _ _ _ [(1,(ptr b1 0)),(3,(vN (sumS sg k)))] _
  refine ws<|wo (op_fieldAddr rfl Fa.F43_0<|wo (op_loadS (vs:=[_,_,_,_]) rfl (H5.cells (i:=0) rfl rfl) Tryz.underlying40 rfl Fa.I40 rfl<|wo (op_buildSlice (cs:=[_,_,_,_]) H5 Tryz.underlying167 Fa.I40 rfl rfl rfl rfl (by decide) (by decide) (fun b6 w6 H6=>(wo (op_callF Fa.C70 rfl ((large11_ok pg ev pv (.slice (some ⟨b6,0,none⟩) 1 1) xs ps con _ (H6.arrR (i:=1) rfl) (H6.arr hE) (H6.arr hP) (by omega) (by omega)).mono (fun e w7 hq=>?_))))))))
  obtain ⟨rfl,hf7⟩:=hq
  refine ⟨_,rfl,?_⟩
  have H7:=H6.fr' hf7
  refine wm rfl (wV 29 (decide (1+xs.length+ps.length>600)) (fun hb8=>?_) (fun hb8=>?_))
  ·
   have hc8:=dT hb8
   exact wN hb8<|wN hb8<|wN hb8<|wN hb8<|wo (op_pickT rfl hb8 rfl<|wm rfl<|wN rfl<|wN rfl<|wo (op_pickT rfl rfl rfl<|wa rfl<|wn<|WC.ret<|WQ.out (.tmp rfl .nil) (⟨by subst hinv; (rw [large16,hb8])<;>rfl,H7.fr⟩)))
  ·
   have hc8:=dF hb8
   refine wY hb8 (op_fieldAddr rfl Fa.F43_2<|wY hb8 (op_load rfl (H7.cell (i:=0) rfl rfl) Tryz.underlying41 rfl<|wY hb8 (op_lenA Tryz.underlying41 rfl (H7.arr hS)<|wY hb8 (op_gtrN (b:=15) rfl rfl<|wo (op_pickF rfl hb8 rfl<|wm rfl (wV 35 (decide (sg.length>15)) (fun hb9=>?_) (fun hb9=>?_)))))))
   ·
    have hc9:=dT hb9
    exact wN hb9<|wN hb9<|wo (op_pickT rfl hb9 rfl<|wa rfl<|wn<|WC.ret<|WQ.out (.tmp rfl .nil) (⟨by subst hinv; (rw [large16,hb8,hb9])<;>rfl,H7.fr⟩))
   ·
    have hc9:=dF hb9
    exact wY hb9 (op_move rfl<|wY hb9 (op_gtrN (b:=262144) rfl rfl<|wo (op_pickF rfl hb9 rfl<|wa rfl<|wn<|WC.ret<|WQ.out (.tmp rfl .nil) (⟨by subst hinv; (rw [large16,hb8,hb9])<;>rfl,H7.fr⟩))))
theorem copy11_ok (pg:UInt32) (ev pv:Value) (xs:List Xt) (ps:List UInt16) (con:Bool) (w:World) (hE:Arr w ev 2 xs.length (List.flatMap xtc xs)) (hP:Arr w pv 1 ps.length (List.map vU16 ps)) (hn:xs.length<2^40) (hm:ps.length<2^40) :
  Calls Tryz.prog 56 #[(.agg #[(vU32 pg),ev,pv,(.bool con)])] w (fun e w'=> ∃v u,e=.returned (.agg #[vU32 pg,v,u,.bool con])∧Owl.Own [] w w' [.row v 207 2 xs.length (List.flatMap xtc xs),.row u 203 1 ps.length (List.map vU16 ps)]):=by
 refine enter (args:=[(.agg #[(vU32 pg),ev,pv,(.bool con)])]) Tryz.func56 rfl rfl ?_
 have H0:Owl.Own [] w w []:=Own.start w []
 refine ws<|wo (op_box H0 rfl rfl (fun b1 w1 H1=>(wo (op_alloc H1 Fa.I40 (fun b2 w2 H2=>(wn<|ws<|wo (op_fieldAddr rfl Fa.F40_1<|wo (op_load rfl (H2.cell (i:=0) rfl rfl) Tryz.underlying37 rfl ?_))))))))
 have H4:=H2.nilRow 207 2
 refine wo (op_appendF (f:=xtc) (l:=[]) (l':=xs) (i:=2) H4 Tryz.underlying37 Fa.I207 rfl rfl rfl rfl (Src.ofArr Tryz.underlying37 (H4.arr hE)) (one_flat (fun _=>by simp [xtc,Value.oneCell'])) (by omega) (by omega) (fun v3 w3 H3=>(wo (op_fieldAddr rfl Fa.F40_1<|wo (op_storeB (i:=0) H3 rfl rfl rfl rfl (Arr.one (H3.arrR (i:=2) rfl)) Fa.I37 (fun w5 H5=>(wn<|ws<|wo (op_fieldAddr rfl Fa.F40_2<|wo (op_load rfl (H5.cell (i:=0) rfl rfl) Tryz.underlying38 rfl ?_)))))))))
 have H7:=H5.nilRow 203 1
 exact wo (op_appendM (f:=vU16) (l:=[]) (l':=ps) (i:=3) H7 Tryz.underlying38 Fa.I203 rfl rfl rfl rfl (Src.ofArr Tryz.underlying38 (H7.arr hP)) (one_mapM (fun _=>rfl)) (by omega) (by omega) (fun v6 w6 H6=>(wo (op_fieldAddr rfl Fa.F40_2<|wo (op_storeB (i:=0) H6 rfl rfl rfl rfl (Arr.one (H6.arrR (i:=3) rfl)) Fa.I38 (fun w8 H8=>(wn<|ws<|wo (op_loadS (vs:=[_,_,_,_]) rfl (H8.cells (i:=0) rfl rfl) Tryz.underlying40 rfl Fa.I40 rfl<|wo (op_storeBW (i:=1) H8 rfl rfl rfl rfl (one_cons rfl (one_cons (Arr.one (H8.arrR (i:=2) rfl)) (one_cons (Arr.one (H8.arrR (i:=3) rfl)) (one_cons rfl one_nil)))) Fa.I40 (fun w9 H9=>(wn<|WC.ret<|WQ.out (.cell rfl (run_loadVarS (vs:=[_,_,_,_]) (H9.cells (i:=1) rfl rfl) Tryz.underlying40 rfl Fa.I40 rfl) .nil) (⟨_,_,rfl,(by have h:=(show Owl.Own [] w w9 [.blk b1 [(vU32 pg),v3,v6,(.bool con)] 40,.blk b2 [(vU32 pg),v3,v6,(.bool con)] 40,.row v3 207 2 (0+xs.length) (List.flatMap xtc ([]++xs)),.row v6 203 1 (0+ps.length) (List.map vU16 ([]++ps))] from H9); have h2:=Own.sel h [2,3] rfl rfl; simp only [Nat.zero_add,List.nil_append] at h2; exact h2)⟩))))))))))))
theorem copy16_ok (pg:UInt32) (ev pv sv:Value) (xs:List Xt) (ps:List UInt16) (con:Bool) (en:UInt32) (sg:List Sg) (w:World) (hE:Arr w ev 2 xs.length (List.flatMap xtc xs)) (hP:Arr w pv 1 ps.length (List.map vU16 ps)) (hS:Arr w sv 3 sg.length (List.flatMap sgc sg)) (hn:xs.length<2^40) (hm:ps.length<2^40) (hk:sg.length<2^40) :
  Calls Tryz.prog 19 #[(.agg #[(vU32 pg),ev,pv,(.bool con),(vU32 en),sv])] w (fun e w'=> ∃v u q,e=.returned (.agg #[vU32 pg,v,u,.bool con,vU32 en,q])∧Owl.Own [] w w' [.row v 207 2 xs.length (List.flatMap xtc xs),.row u 203 1 ps.length (List.map vU16 ps),.row q 116 3 sg.length (List.flatMap sgc sg)]):=by
 refine enter (args:=[(.agg #[(vU32 pg),ev,pv,(.bool con),(vU32 en),sv])]) Tryz.func19 rfl rfl ?_
 have H0:Owl.Own [] w w []:=Own.start w []
 refine ws<|wo (op_box H0 rfl rfl (fun b1 w1 H1=>(wo (op_alloc H1 Fa.I43 (fun b2 w2 H2=>(wn<|ws<|wo (op_fieldAddr rfl Fa.F43_0<|wo (op_loadS (vs:=[_,_,_,_]) rfl (H2.cells (i:=0) rfl rfl) Tryz.underlying40 rfl Fa.I40 rfl<|wo (op_callF Fa.C56 rfl ((copy11_ok pg _ _ xs ps con _ (H2.arr hE) (H2.arr hP) (by omega) (by omega)).mono (fun e w3 hq=>?_)))))))))))
 obtain ⟨v3,u3,rfl,hq3⟩:=hq
 refine ⟨_,rfl,?_⟩
 have H3:=H2.splice [] [] [.row v3 207 2 xs.length (List.flatMap xtc xs),.row u3 203 1 ps.length (List.map vU16 ps)] rfl rfl hq3 (Fits.solid True.intro (Fits.solid True.intro Fits.nil))
 refine wo (op_fieldAddr rfl Fa.F43_0<|wo (op_storeBS (i:=0) (vs:=[_,_,_,_]) H3 rfl rfl rfl rfl (one_cons rfl (one_cons (Arr.one (H3.arrR (i:=2) rfl)) (one_cons (Arr.one (H3.arrR (i:=3) rfl)) (one_cons rfl one_nil)))) Fa.I40 (fun w4 H4=>(wn<|ws<|wo (op_fieldAddr rfl Fa.F43_2<|wo (op_load rfl (H4.cell (i:=0) rfl rfl) Tryz.underlying41 rfl ?_))))))
 have H6:=H4.nilRow 116 3
 exact wo (op_appendF (f:=sgc) (l:=[]) (l':=sg) (i:=4) H6 Tryz.underlying41 Fa.I116 rfl rfl rfl rfl (Src.ofArr Tryz.underlying41 (H6.arr hS)) (one_flat (fun _=>by simp [sgc,Value.oneCell'])) (by omega) (by omega) (fun v5 w5 H5=>(wo (op_fieldAddr rfl Fa.F43_2<|wo (op_storeB (i:=0) H5 rfl rfl rfl rfl (Arr.one (H5.arrR (i:=4) rfl)) Fa.I41 (fun w7 H7=>(wn<|ws<|wo (op_loadS (vs:=[_,_,_,_,_,_]) rfl (H7.cells (i:=0) rfl rfl) Tryz.underlying43 rfl Fa.I43 rfl<|wo (op_storeBW (i:=1) H7 rfl rfl rfl rfl (one_cons rfl (one_cons (Arr.one (H7.arrR (i:=2) rfl)) (one_cons (Arr.one (H7.arrR (i:=3) rfl)) (one_cons rfl (one_cons rfl (one_cons (Arr.one (H7.arrR (i:=4) rfl)) one_nil)))))) Fa.I43 (fun w8 H8=>(wn<|WC.ret<|WQ.out (.cell rfl (run_loadVarS (vs:=[_,_,_,_,_,_]) (H8.cells (i:=1) rfl rfl) Tryz.underlying43 rfl Fa.I43 rfl) .nil) (⟨_,_,_,rfl,(by have h:=(show Owl.Own [] w w8 [.blk b1 [(vU32 pg),v3,u3,(.bool con),(vU32 en),v5] 43,.blk b2 [(vU32 pg),v3,u3,(.bool con),(vU32 en),v5] 43,.row v3 207 2 xs.length (List.flatMap xtc xs),.row u3 203 1 ps.length (List.map vU16 ps),.row v5 116 3 (0+sg.length) (List.flatMap sgc ([]++sg))] from H8); have h2:=Own.sel h [2,3,4] rfl rfl; simp only [Nat.zero_add,List.nil_append] at h2; exact h2)⟩))))))))))))
theorem ipgs_ok (pg:UInt32) (ev pv sv:Value) (xs:List Xt) (ps:List UInt16) (con:Bool) (en:UInt32) (sg:List Sg) (w:World) (hE:Arr w ev 2 xs.length (List.flatMap xtc xs)) (hP:Arr w pv 1 ps.length (List.map vU16 ps)) (hS:Arr w sv 3 sg.length (List.flatMap sgc sg)) (hn:xs.length<2^47) (hm:ps.length<2^47) (hk:sg.length<2^47) (hB: ∀x∈sg,x.b.length≤2^30) (hs:sg.length≤2^20) :
  Calls Tryz.prog 87 #[(.agg #[(vU32 pg),ev,pv,(.bool con),(vU32 en),sv])] w (fun e w'=> ∃v,e=.returned v∧Owl.Own [] w w' [.row v 22 1 (if imE pg xs ps en sg=0 then pagesTo sg sg.length else []).length (List.map vU32 (if imE pg xs ps en sg=0 then pagesTo sg sg.length else []))]):=by
 refine enter (args:=[(.agg #[(vU32 pg),ev,pv,(.bool con),(vU32 en),sv])]) Tryz.func87 rfl rfl ?_
 have H0:Owl.Own [] w w []:=Own.start w []
 refine ws<|wo (op_box H0 rfl rfl (fun b1 w1 H1=>(wa rfl ?_)))
 have H2:=H1.nilRow 22 1
 refine wn<|WC.seq<|ws<|wo (op_loadS (vs:=[_,_,_,_,_,_]) rfl (H2.cells (i:=0) rfl rfl) Tryz.underlying43 rfl Fa.I43 rfl<|wo (op_callF Fa.C41 rfl ((icheck_ok pg _ _ _ xs ps con en sg _ (H2.arr hE) (H2.arr hP) (H2.arr hS) (by omega) (by omega) (by omega)).mono (fun e w3 hq=>?_))))
 obtain ⟨rfl,hf3⟩:=hq
 refine ⟨_,rfl,?_⟩
 have H3:=H2.fr' hf3
 refine wo (op_neqN (b:=0) rfl rfl<|wn (wC (decide ((imE pg xs ps en sg)≠0)) (fun hb4=>?_) (fun hb4=>?_)))
 ·
  have hc4:=dT hb4
  refine ws<|wa rfl<|wn<|WC.ret<|WQ.thenRet<|WQ.out (.tmp rfl .nil) ?_
  rw [if_neg hc4]
  exact ⟨_,rfl,(H3.nilRow 22 1).sel [2] rfl rfl⟩
 ·
  have hc4:=dF hb4
  have him:imE pg xs ps en sg=0:=Decidable.not_not.mp hc4
  refine WC.skip<|WQ.next<|WC.seq<|ws<|wo (op_fieldAddr rfl Fa.F43_2<|wo (op_load rfl (H3.cell (i:=0) rfl rfl) Tryz.underlying41 rfl<|wo (op_lenA Tryz.underlying41 rfl (H3.arr hS)<|wm rfl<|wn<|WC.block<|WC.loop (α:=Nat × Value) (fun (k,q)=>[(1,(ptr b1 0)),(2,q),(10,sv),(11,(vN sg.length)),(12,(vN k))]) (fun (k,q) w'=>(k≤sg.length)∧Owl.Own [] w w' [.blk b1 [(vU32 pg),ev,pv,(.bool con),(vU32 en),sv] 43,.row q 22 1 (pagesTo sg k).length (List.map vU32 (pagesTo sg k))]) (fun (k,q)=>sg.length-k) (0,(.slice none 0 0)) ⟨Nat.zero_le _,H3⟩ ⟨rfl,rfl,rfl,rfl,rfl,trivial⟩ ?_)))
  rintro ⟨k,q⟩ w5 ⟨hk1,H5⟩
  show WC _ _ _ _ _ [(1,(ptr b1 0)),(2,q),(10,sv),(11,(vN sg.length)),(12,(vN k))] _
  have hpl:=pagesTo_len hB k
  have hgb:=getS_mem hB k
  have hpg:pgN (sg.getD k Sg.zero)=((sg.getD k Sg.zero).b.length+255) / 256:=rfl
  refine ws<|wo (op_lssN rfl rfl<|wn<|WC.seq (wC (decide (k<sg.length)) (fun hb6=>?_) (fun hb6=>?_)))
  ·
   have hc6:=dT hb6
   refine WC.skip<|WQ.next<|WC.seq<|WC.block<|ws<|wo (op_indexAddr Tryz.underlying41 Fa.I116 rfl (H5.arr hS) rfl (by omega)<|wo (op_loadSP (vs:=sgc (sg.getD k Sg.zero)) rfl (Arr.atsF (H5.arr hS) (fun _=>rfl) (by decide) Sg.zero (by omega)) Tryz.underlying116 rfl Fa.I116 rfl<|wo (op_alloc H5 Fa.I116 (fun b7 w7 H7=>(wo (op_storeBW (i:=2) H7 rfl rfl rfl rfl rfl Fa.I116 (fun w8 H8=>(wn<|ws<|wo (op_fieldAddr rfl Fa.F116_0<|wo (op_load rfl (H8.cell (i:=2) rfl rfl) Tryz.underlying22 rfl<|wo (op_convU32U64 (hs:=Tryz.underlying22) (hd:=Tryz.underlying154) rfl<|wa rfl<|wn<|WC.block<|WC.loop (α:=Nat × Value) (fun (j,r)=>[(1,(ptr b1 0)),(2,r),(4,(ptr b7 0)),(5,(vU64 (UInt64.ofNat ((sg.getD k Sg.zero).a.toNat+256 * j)))),(10,sv),(11,(vN sg.length)),(12,(vN k))]) (fun (j,r) w'=>(j≤pgN (sg.getD k Sg.zero))∧Owl.Own [] w w' [.blk b1 [(vU32 pg),ev,pv,(.bool con),(vU32 en),sv] 43,.row r 22 1 (pagesTo sg k++pgL (sg.getD k Sg.zero) j).length (List.map vU32 (pagesTo sg k++pgL (sg.getD k Sg.zero) j)),.blk b7 [(vU32 (sg.getD k Sg.zero).a),(vU8 (sg.getD k Sg.zero).p),(str (sg.getD k Sg.zero).b)] 116]) (fun (j,r)=>pgN (sg.getD k Sg.zero)-j) (0,q) ⟨Nat.zero_le _,(Own.rowEqN (i:=1) (f:=vU32) H8 rfl (List.append_nil _).symm (congrArg List.length (List.append_nil _).symm))⟩ ⟨rfl,rfl,rfl,rfl,rfl,rfl,rfl,trivial⟩ ?_)))))))))))
   rintro ⟨j,r⟩ w9 ⟨hj1,H9⟩
   show WC _ _ _ _ _ [(1,(ptr b1 0)),(2,r),(4,(ptr b7 0)),(5,(vU64 (UInt64.ofNat ((sg.getD k Sg.zero).a.toNat+256 * j)))),(10,sv),(11,(vN sg.length)),(12,(vN k))] _
   have hnb:=im_all him k (by omega)
   have hlt:=pg_lt hnb (by omega) hj1
   have hpj:(pagesTo sg k++pgL (sg.getD k Sg.zero) j).length=(pagesTo sg k).length+j:=by rw [List.length_append,pgL_len]
   have hal:=(sg.getD k Sg.zero).a.toNat_lt
   refine WC.seq<|ws<|wm rfl<|wo (op_loadS (vs:=[_,_,_]) rfl (H9.cells (i:=2) rfl rfl) Tryz.underlying116 rfl Fa.I116 rfl<|wo (op_callF Fa.C92 rfl ((send_ok (sg.getD k Sg.zero) _).mono (fun e w10 hq=>?_))))
   obtain ⟨rfl,hf10⟩:=hq
   refine ⟨_,rfl,?_⟩
   have H10:=H9.fr' hf10
   refine wo (op_lssU64 rfl rfl<|wn (wC (decide ((UInt64.ofNat ((sg.getD k Sg.zero).a.toNat+256 * j))<(sgEnd (sg.getD k Sg.zero)))) (fun hb11=>?_) (fun hb11=>?_)))
   ·
    have hc11:=dT hb11
    exact WC.skip<|WQ.next<|WC.seq<|WC.block<|WC.region<|wm rfl<|wm rfl<|wo (op_convU64U32 (hs:=Tryz.underlying154) (hd:=Tryz.underlying22) rfl<|wo (op_buildSlice (cs:=[_]) H10 Tryz.underlying73 Fa.I22 rfl rfl rfl rfl (by decide) (by decide) (fun b12 w12 H12=>(wo (op_appendM (f:=vU32) (l:=(pagesTo sg k++pgL (sg.getD k Sg.zero) j)) (l':=[(UInt32.ofNat (UInt64.ofNat ((sg.getD k Sg.zero).a.toNat+256 * j)).toNat)]) (i:=1) H12 Tryz.underlying73 Fa.I22 rfl rfl rfl rfl (Src.ofArr Tryz.underlying73 (H12.arrR (i:=3) rfl)) (one_mapM (fun _=>rfl)) (by omega) (by omega) (fun v13 w13 H13=>(wa rfl<|WL.nil<|WQ.inNormal<|WQ.next<|WC.region<|wm rfl<|wo (op_addU64 (b:=256) rfl rfl<|wa rfl<|WL.nil<|WQ.round (j+1,v13) ⟨(by have:=hlt.1 hc11; omega),(Own.rowEqN (i:=1) (f:=vU32) (show Owl.Own [] w w13 [.blk b1 [(vU32 pg),ev,pv,(.bool con),(vU32 en),sv] 43,.row v13 22 1 ((pagesTo sg k++pgL (sg.getD k Sg.zero) j).length+1) (List.map vU32 ((pagesTo sg k++pgL (sg.getD k Sg.zero) j)++[(UInt32.ofNat (UInt64.ofNat ((sg.getD k Sg.zero).a.toNat+256 * j)).toNat)])),.blk b7 [(vU32 (sg.getD k Sg.zero).a),(vU8 (sg.getD k Sg.zero).p),(str (sg.getD k Sg.zero).b)] 116] from (H13.take 3)) rfl (by rw [pg_u32 (by omega),List.append_assoc]; rfl) (by simp only [List.length_append,pgL_len,List.length_cons,List.length_nil]; omega))⟩ ⟨rfl,rfl,rfl,(congrArg (fun n=>some (vU64 n)) (pg_add _ _)),rfl,rfl,rfl,trivial⟩ (by have:=hlt.1 hc11; show pgN (sg.getD k Sg.zero)-(j+1)<pgN (sg.getD k Sg.zero)-j; omega)))))))))
   ·
    have hc11:=dF hb11
    have hjn:¬256 * j<(sg.getD k Sg.zero).b.length:=fun h=>hc11 (hlt.2 h)
    refine WC.exit<|WQ.thenExit<|WQ.thenExit<|WQ.inHere<|WQ.inNormal<|WQ.next<|WC.region<|wo (op_addN (b:=1) rfl rfl (by omega)<|wm rfl<|WL.nil ?_)
    have hje:j=pgN (sg.getD k Sg.zero):=by omega
    exact WQ.round (k+1,r) ⟨(by omega),(by have h:=(show Owl.Own [] w w10 [.blk b1 [(vU32 pg),ev,pv,(.bool con),(vU32 en),sv] 43,.row r 22 1 (pagesTo sg k++pgL (sg.getD k Sg.zero) j).length (List.map vU32 (pagesTo sg k++pgL (sg.getD k Sg.zero) j))] from (H10.take 2)); rw [hje] at h; exact Own.rowEqN (i:=1) (f:=vU32) h rfl rfl (by rw [pagesTo]))⟩ ⟨rfl,rfl,rfl,rfl,rfl,trivial⟩ (by show sg.length-(k+1)<sg.length-k; omega)
  ·
   have hc6:=dF hb6
   refine WC.exit<|WQ.thenExit<|WQ.thenExit<|WQ.inHere<|WQ.next<|ws<|wm rfl<|wa rfl<|wn<|WC.ret<|WQ.out (.tmp rfl .nil) ?_
   obtain rfl:k=sg.length:=by omega
   rw [if_pos him]
   exact ⟨_,rfl,H5.sel [1] rfl rfl⟩
theorem inum_ok (q:Nat) (r:Rd) (n:Int) (TR:TypeId) (T:List Nat) (w:World) (H:Owl.Own T w w [.blk q [(str r.s),(vN r.at_),(vN r.f)] TR]) (hr:r.s.length<2^47) :
  Calls Tryz.prog 159 #[(.agg #[(ptr q 0)]),(vI n)] w (fun e w'=>e=.returned (vU32 (numR r n).1.1)∧Owl.Own T w w' [.blk q [str (numR r n).2.s,vN (numR r n).2.at_,vN (numR r n).2.f] TR]):=by
 refine enter (args:=[(.agg #[(ptr q 0)]),(vI n)]) Tryz.func159 rfl rfl<|ws<|wo (op_box H rfl rfl (fun b1 w1 H1=>(wa rfl<|wn<|ws<|wo (op_fieldAddr rfl Fa.F254_0<|wo (op_load rfl (H1.cell (i:=1) rfl rfl) Tryz.underlying251 rfl<|wm rfl<|wo (op_callF Fa.C200 rfl ((rdnum_ok q r (n) TR _ _ (H1.part [0] rfl rfl) hr).mono (fun e w2 hq=>?_))))))))
 obtain ⟨rfl,hq2⟩:=hq
 refine ⟨_,rfl,?_⟩
 have H2:=H1.splice [0] [.blk q [(str ((numR r n).2).s),(vN ((numR r n).2).at_),(vN ((numR r n).2).f)] TR] [] rfl rfl hq2 (Fits.solid True.intro Fits.nil)
 exact wm rfl<|we rfl rfl<|we rfl rfl<|wa rfl<|wa rfl<|wn<|ws<|wm rfl<|wa rfl<|wn<|WC.ret<|WQ.out (.tmp rfl .nil) (⟨rfl,H2.take 1⟩)
theorem iseg_ok (q:Nat) (r:Rd) (TR:TypeId) (T:List Nat) (w:World) (H:Owl.Own T w w [.blk q [(str r.s),(vN r.at_),(vN r.f)] TR]) (hr:r.s.length<2^47) :
  Calls Tryz.prog 160 #[(.agg #[(ptr q 0)])] w (fun e w'=>e=.returned (.agg #[vU32 (segR r).1.a,vU8 (segR r).1.p,str (segR r).1.b])∧Owl.Own T w w' [.blk q [str (segR r).2.s,vN (segR r).2.at_,vN (segR r).2.f] TR]):=by
 refine enter (args:=[(.agg #[(ptr q 0)])]) Tryz.func160 rfl rfl<|ws<|wo (op_box H rfl rfl (fun b1 w1 H1=>(wo (op_alloc H1 Fa.I116 (fun b2 w2 H2=>(wn<|WC.seq<|WC.drawn 8 rfl Fa.M H2 ?_))))))
 intro w3 H3
 refine WD.named (fun W hW=>?_)
 let a1_0:Ent:=.blk q [(str r.s),(vN r.at_),(vN r.f)] TR
 let a1_1:Ent:=.blk b1 [(ptr q 0)] 254
 let a1_2:Ent:=.blk b2 [(vU32 0),(vU8 0),(str [])] 116
 let a1_3:Ent:=.blk q [(str ((numR r 4).2).s),(vN ((numR r 4).2).at_),(vN ((numR r 4).2).f)] TR
 let a1_4:Ent:=.blk q [(str ((numR ((numR r 4).2) 1).2).s),(vN ((numR ((numR r 4).2) 1).2).at_),(vN ((numR ((numR r 4).2) 1).2).f)] TR
 have st1_18: ∀(b14121:_) (wS:World),Owl.Own T w wS [a1_4,a1_1,a1_2,.blk b14121 [(vU32 (numR r 4).1.1),(vU8 (UInt8.ofNat (numR ((numR r 4).2) 1).1.1.toNat)),(str [])] 116]→W 0 (bz 8 255) [(0,(.agg #[(ptr q 0)])),(1,(ptr b1 0)),(2,(ptr b2 0)),(3,(ptr b14121 0))] wS:=by
  intro b14121 wS HS
  rw [hW]
  refine WD.done (by kernel_rfl)<|WQ.next<|WC.cut (α:=Unit) (fun _=>[(2,(ptr b2 0)),(3,(ptr b14121 0))]) (fun _ w'=>Owl.Own T w w' [.blk q [(str ((segR r).2).s),(vN ((segR r).2).at_),(vN ((segR r).2).f)] TR,.blk b1 [(ptr q 0)] 254,.blk b2 [(vU32 0),(vU8 0),(str [])] 116,.blk b14121 [(vU32 (segR r).1.a),(vU8 (segR r).1.p),(str (segR r).1.b)] 116]) ?_ ?_
  ·
   refine ws<|wo (op_loadS (vs:=[_]) rfl (HS.cells (i:=1) rfl rfl) Tryz.underlying254 rfl Fa.I254 rfl<|wo (op_callF Fa.C159 rfl ((inum_ok q ((numR ((numR r 4).2) 1).2) (4) TR _ _ (HS.part [0] rfl rfl) (by first | with_reducible exact hr | ((repeat rw [numR_s]); with_reducible exact hr))).mono (fun e w5 hq=>?_))))
   obtain ⟨rfl,hq5⟩:=hq
   refine ⟨_,rfl,?_⟩
   have H5:=HS.splice [0] [.blk q [(str ((numR ((numR ((numR r 4).2) 1).2) 4).2).s),(vN ((numR ((numR ((numR r 4).2) 1).2) 4).2).at_),(vN ((numR ((numR ((numR r 4).2) 1).2) 4).2).f)] TR] [] rfl rfl hq5 (Fits.solid True.intro Fits.nil)
   refine wa rfl<|wn<|ws<|wm rfl<|wo (op_leqU32 (b:=131072) rfl rfl<|wn (wC (decide ((numR ((numR ((numR r 4).2) 1).2) 4).1.1≤(131072:UInt32))) (fun hb6=>?_) (fun hb6=>?_)))
   ·
    have hc6:=dT hb6
    refine WC.region<|wo (op_fieldAddr rfl Fa.F254_0<|wo (op_load rfl (H5.cell (i:=1) rfl rfl) Tryz.underlying251 rfl<|wm rfl<|wo (op_convU32N (hs:=Tryz.underlying22) (hd:=Tryz.underlying3) rfl<|wo (op_callF Fa.C158 rfl ((take_ok q ((numR ((numR ((numR r 4).2) 1).2) 4).2) (((numR ((numR ((numR r 4).2) 1).2) 4).1.1.toNat:Nat)) TR _ _ (H5.part [0] rfl rfl) (by first | with_reducible exact hr | ((repeat rw [numR_s]); with_reducible exact hr))).mono (fun e w7 hq=>?_))))))
    obtain ⟨rfl,hq7⟩:=hq
    refine ⟨_,rfl,?_⟩
    have H7:=H5.splice [0] [.blk q [(str ((takeR ((numR ((numR ((numR r 4).2) 1).2) 4).2) ((numR ((numR ((numR r 4).2) 1).2) 4).1.1.toNat:Nat)).2).s),(vN ((takeR ((numR ((numR ((numR r 4).2) 1).2) 4).2) ((numR ((numR ((numR r 4).2) 1).2) 4).1.1.toNat:Nat)).2).at_),(vN ((takeR ((numR ((numR ((numR r 4).2) 1).2) 4).2) ((numR ((numR ((numR r 4).2) 1).2) 4).1.1.toNat:Nat)).2).f)] TR] [] rfl rfl hq7 (Fits.solid True.intro Fits.nil)
    exact wm rfl<|we rfl rfl<|we rfl rfl<|wo (op_fieldAddr rfl Fa.F116_2<|wo (op_storeB (i:=3) H7 rfl rfl rfl rfl rfl Fa.I9 (fun w8 H8=>(WL.nil<|WQ.here () (by rw [segR_yes hc6]; exact H8) ⟨rfl,rfl,trivial⟩))))
   ·
    have hc6:=dF hb6
    exact WC.skip<|WQ.here () (by rw [segR_no hc6]; exact H5) ⟨rfl,rfl,trivial⟩
  ·
   rintro ⟨⟩ w9 H9
   show WC _ _ _ _ _ [(2,(ptr b2 0)),(3,(ptr b14121 0))] _
   exact ws<|wo (op_loadS (vs:=[_,_,_]) rfl (H9.cells (i:=3) rfl rfl) Tryz.underlying116 rfl Fa.I116 rfl<|wo (op_storeBW (i:=2) H9 rfl rfl rfl rfl rfl Fa.I116 (fun w10 H10=>(wn<|WC.ret<|WQ.out (.cell rfl (run_loadVarS (vs:=[_,_,_]) (H10.cells (i:=2) rfl rfl) Tryz.underlying116 rfl Fa.I116 rfl) .nil) (⟨rfl,H10.take 1⟩)))))
 have st1_17: ∀(b14121:_) (wS:World),Owl.Own T w wS [a1_4,a1_1,a1_2,.blk b14121 [(vU32 0),(vU8 0),(str [])] 116]→W 1 (bz 8 127) [(0,(.agg #[(ptr q 0)])),(1,(ptr b1 0)),(2,(ptr b2 0)),(3,(ptr b14121 0)),(10,(.agg #[(vU32 (numR r 4).1.1),(vU8 (UInt8.ofNat (numR ((numR r 4).2) 1).1.1.toNat)),(str [])]))] wS:=by
  intro b14121 wS HS
  rw [hW]
  refine wd1 7 ?_
  ·
   exact kS 7 rfl (op_storeBW (i:=3) HS rfl rfl rfl rfl rfl Fa.I116 (fun w14141 H14141=>(WD.cw hW (st1_18 b14121 w14141 H14141))))
 have st1_15: ∀(wS:World),Owl.Own T w wS [a1_4,a1_1,a1_2]→W 2 (bz 8 63) [(0,(.agg #[(ptr q 0)])),(1,(ptr b1 0)),(2,(ptr b2 0)),(10,(.agg #[(vU32 (numR r 4).1.1),(vU8 (UInt8.ofNat (numR ((numR r 4).2) 1).1.1.toNat)),(str [])]))] wS:=by
  intro wS HS
  rw [hW]
  refine wd1 6 ?_
  ·
   exact kS 6 rfl (op_alloc HS Fa.I116 (fun b14121 w14121 H14121=>(WD.cw hW (st1_17 b14121 w14121 H14121))))
 have st1_16: ∀(b14121:_) (wS:World),Owl.Own T w wS [a1_4,a1_1,a1_2,.blk b14121 [(vU32 0),(vU8 0),(str [])] 116]→W 2 (bz 8 95) [(0,(.agg #[(ptr q 0)])),(1,(ptr b1 0)),(2,(ptr b2 0)),(3,(ptr b14121 0)),(6,(vU32 (numR r 4).1.1)),(9,(vU8 (UInt8.ofNat (numR ((numR r 4).2) 1).1.1.toNat)))] wS:=by
  intro b14121 wS HS
  rw [hW]
  refine wd1 5 ?_
  ·
   exact kS 5 rfl (op_build (cs:=[_,_,_]) Fa.I116 Fa.PL116 rfl rfl<|WD.cw hW (st1_17 b14121 wS HS))
 have st1_13: ∀(wS:World),Owl.Own T w wS [a1_4,a1_1,a1_2]→W 3 (bz 8 31) [(0,(.agg #[(ptr q 0)])),(1,(ptr b1 0)),(2,(ptr b2 0)),(6,(vU32 (numR r 4).1.1)),(9,(vU8 (UInt8.ofNat (numR ((numR r 4).2) 1).1.1.toNat)))] wS:=by
  intro wS HS
  rw [hW]
  refine wd2 5 6 ?_ ?_
  ·
   exact kS 5 rfl (op_build (cs:=[_,_,_]) Fa.I116 Fa.PL116 rfl rfl<|WD.cw hW (st1_15 wS HS))
  ·
   exact kS 6 rfl (op_alloc HS Fa.I116 (fun b14121 w14121 H14121=>(WD.cw hW (st1_16 b14121 w14121 H14121))))
 have st1_14: ∀(b14121:_) (wS:World),Owl.Own T w wS [a1_4,a1_1,a1_2,.blk b14121 [(vU32 0),(vU8 0),(str [])] 116]→W 3 (bz 8 79) [(0,(.agg #[(ptr q 0)])),(1,(ptr b1 0)),(2,(ptr b2 0)),(3,(ptr b14121 0)),(6,(vU32 (numR r 4).1.1)),(8,(vU32 (numR ((numR r 4).2) 1).1.1))] wS:=by
  intro b14121 wS HS
  rw [hW]
  refine wd1 4 ?_
  ·
   exact kS 4 rfl (op_convU32U8 (hs:=Tryz.underlying22) (hd:=Tryz.underlying5) rfl<|WD.cw hW (st1_16 b14121 wS HS))
 have st1_11: ∀(wS:World),Owl.Own T w wS [a1_4,a1_1,a1_2]→W 4 (bz 8 15) [(0,(.agg #[(ptr q 0)])),(1,(ptr b1 0)),(2,(ptr b2 0)),(6,(vU32 (numR r 4).1.1)),(8,(vU32 (numR ((numR r 4).2) 1).1.1))] wS:=by
  intro wS HS
  rw [hW]
  refine wd2 4 6 ?_ ?_
  ·
   exact kS 4 rfl (op_convU32U8 (hs:=Tryz.underlying22) (hd:=Tryz.underlying5) rfl<|WD.cw hW (st1_13 wS HS))
  ·
   exact kS 6 rfl (op_alloc HS Fa.I116 (fun b14121 w14121 H14121=>(WD.cw hW (st1_14 b14121 w14121 H14121))))
 have st1_12: ∀(b14121:_) (wS:World),Owl.Own T w wS [a1_3,a1_1,a1_2,.blk b14121 [(vU32 0),(vU8 0),(str [])] 116]→W 4 (bz 8 71) [(0,(.agg #[(ptr q 0)])),(1,(ptr b1 0)),(2,(ptr b2 0)),(3,(ptr b14121 0)),(6,(vU32 (numR r 4).1.1)),(7,(.agg #[(ptr q 0)]))] wS:=by
  intro b14121 wS HS
  rw [hW]
  refine wd1 3 ?_
  ·
   refine kS 3 rfl (op_callF Fa.C159 rfl ((inum_ok q ((numR r 4).2) (1) TR _ _ (HS.part [0] rfl rfl) (by first | with_reducible exact hr | ((repeat rw [numR_s]); with_reducible exact hr))).mono (fun e w14061 hq=>?_)))
   obtain ⟨rfl,hq14061⟩:=hq
   refine ⟨_,rfl,?_⟩
   have H14061:=HS.splice [0] [.blk q [(str ((numR ((numR r 4).2) 1).2).s),(vN ((numR ((numR r 4).2) 1).2).at_),(vN ((numR ((numR r 4).2) 1).2).f)] TR] [] rfl rfl hq14061 (Fits.solid True.intro Fits.nil)
   exact WD.cw hW (st1_14 b14121 w14061 H14061)
 have st1_8: ∀(wS:World),Owl.Own T w wS [a1_3,a1_1,a1_2]→W 5 (bz 8 7) [(0,(.agg #[(ptr q 0)])),(1,(ptr b1 0)),(2,(ptr b2 0)),(6,(vU32 (numR r 4).1.1)),(7,(.agg #[(ptr q 0)]))] wS:=by
  intro wS HS
  rw [hW]
  refine wd2 3 6 ?_ ?_
  ·
   refine kS 3 rfl (op_callF Fa.C159 rfl ((inum_ok q ((numR r 4).2) (1) TR _ _ (HS.part [0] rfl rfl) (by first | with_reducible exact hr | ((repeat rw [numR_s]); with_reducible exact hr))).mono (fun e w14061 hq=>?_)))
   obtain ⟨rfl,hq14061⟩:=hq
   refine ⟨_,rfl,?_⟩
   have H14061:=HS.splice [0] [.blk q [(str ((numR ((numR r 4).2) 1).2).s),(vN ((numR ((numR r 4).2) 1).2).at_),(vN ((numR ((numR r 4).2) 1).2).f)] TR] [] rfl rfl hq14061 (Fits.solid True.intro Fits.nil)
   exact WD.cw hW (st1_11 w14061 H14061)
  ·
   exact kS 6 rfl (op_alloc HS Fa.I116 (fun b14121 w14121 H14121=>(WD.cw hW (st1_12 b14121 w14121 H14121))))
 have st1_9: ∀(b14121:_) (wS:World),Owl.Own T w wS [a1_3,a1_1,a1_2,.blk b14121 [(vU32 0),(vU8 0),(str [])] 116]→W 5 (bz 8 67) [(0,(.agg #[(ptr q 0)])),(1,(ptr b1 0)),(2,(ptr b2 0)),(3,(ptr b14121 0)),(6,(vU32 (numR r 4).1.1))] wS:=by
  intro b14121 wS HS
  rw [hW]
  refine wd1 2 ?_
  ·
   exact kS 2 rfl (op_loadS (vs:=[_]) rfl (HS.cells (i:=1) rfl rfl) Tryz.underlying254 rfl Fa.I254 rfl<|WD.cw hW (st1_12 b14121 wS HS))
 have st1_10: ∀(b14121:_) (wS:World),Owl.Own T w wS [a1_0,a1_1,a1_2,.blk b14121 [(vU32 0),(vU8 0),(str [])] 116]→W 5 (bz 8 69) [(0,(.agg #[(ptr q 0)])),(1,(ptr b1 0)),(2,(ptr b2 0)),(3,(ptr b14121 0)),(5,(.agg #[(ptr q 0)])),(7,(.agg #[(ptr q 0)]))] wS:=by
  intro b14121 wS HS
  rw [hW]
  refine wd1 1 ?_
  ·
   refine kS 1 rfl (op_callF Fa.C159 rfl ((inum_ok q r (4) TR _ _ (HS.part [0] rfl rfl) (by first | with_reducible exact hr | ((repeat rw [numR_s]); with_reducible exact hr))).mono (fun e w14021 hq=>?_)))
   obtain ⟨rfl,hq14021⟩:=hq
   refine ⟨_,rfl,?_⟩
   have H14021:=HS.splice [0] [.blk q [(str ((numR r 4).2).s),(vN ((numR r 4).2).at_),(vN ((numR r 4).2).f)] TR] [] rfl rfl hq14021 (Fits.solid True.intro Fits.nil)
   exact WD.cw hW (st1_12 b14121 w14021 H14021)
 have st1_4: ∀(wS:World),Owl.Own T w wS [a1_3,a1_1,a1_2]→W 6 (bz 8 3) [(0,(.agg #[(ptr q 0)])),(1,(ptr b1 0)),(2,(ptr b2 0)),(6,(vU32 (numR r 4).1.1))] wS:=by
  intro wS HS
  rw [hW]
  refine wd2 2 6 ?_ ?_
  ·
   exact kS 2 rfl (op_loadS (vs:=[_]) rfl (HS.cells (i:=1) rfl rfl) Tryz.underlying254 rfl Fa.I254 rfl<|WD.cw hW (st1_8 wS HS))
  ·
   exact kS 6 rfl (op_alloc HS Fa.I116 (fun b14121 w14121 H14121=>(WD.cw hW (st1_9 b14121 w14121 H14121))))
 have st1_5: ∀(wS:World),Owl.Own T w wS [a1_0,a1_1,a1_2]→W 6 (bz 8 5) [(0,(.agg #[(ptr q 0)])),(1,(ptr b1 0)),(2,(ptr b2 0)),(5,(.agg #[(ptr q 0)])),(7,(.agg #[(ptr q 0)]))] wS:=by
  intro wS HS
  rw [hW]
  refine wd2 1 6 ?_ ?_
  ·
   refine kS 1 rfl (op_callF Fa.C159 rfl ((inum_ok q r (4) TR _ _ (HS.part [0] rfl rfl) (by first | with_reducible exact hr | ((repeat rw [numR_s]); with_reducible exact hr))).mono (fun e w14021 hq=>?_)))
   obtain ⟨rfl,hq14021⟩:=hq
   refine ⟨_,rfl,?_⟩
   have H14021:=HS.splice [0] [.blk q [(str ((numR r 4).2).s),(vN ((numR r 4).2).at_),(vN ((numR r 4).2).f)] TR] [] rfl rfl hq14021 (Fits.solid True.intro Fits.nil)
   exact WD.cw hW (st1_8 w14021 H14021)
  ·
   exact kS 6 rfl (op_alloc HS Fa.I116 (fun b14121 w14121 H14121=>(WD.cw hW (st1_10 b14121 w14121 H14121))))
 have st1_6: ∀(b14121:_) (wS:World),Owl.Own T w wS [a1_0,a1_1,a1_2,.blk b14121 [(vU32 0),(vU8 0),(str [])] 116]→W 6 (bz 8 65) [(0,(.agg #[(ptr q 0)])),(1,(ptr b1 0)),(2,(ptr b2 0)),(3,(ptr b14121 0)),(5,(.agg #[(ptr q 0)]))] wS:=by
  intro b14121 wS HS
  rw [hW]
  refine wd2 1 2 ?_ ?_
  ·
   refine kS 1 rfl (op_callF Fa.C159 rfl ((inum_ok q r (4) TR _ _ (HS.part [0] rfl rfl) (by first | with_reducible exact hr | ((repeat rw [numR_s]); with_reducible exact hr))).mono (fun e w14021 hq=>?_)))
   obtain ⟨rfl,hq14021⟩:=hq
   refine ⟨_,rfl,?_⟩
   have H14021:=HS.splice [0] [.blk q [(str ((numR r 4).2).s),(vN ((numR r 4).2).at_),(vN ((numR r 4).2).f)] TR] [] rfl rfl hq14021 (Fits.solid True.intro Fits.nil)
   exact WD.cw hW (st1_9 b14121 w14021 H14021)
  ·
   exact kS 2 rfl (op_loadS (vs:=[_]) rfl (HS.cells (i:=1) rfl rfl) Tryz.underlying254 rfl Fa.I254 rfl<|WD.cw hW (st1_10 b14121 wS HS))
 have st1_7: ∀(b14121:_) (wS:World),Owl.Own T w wS [a1_0,a1_1,a1_2,.blk b14121 [(vU32 0),(vU8 0),(str [])] 116]→W 6 (bz 8 68) [(0,(.agg #[(ptr q 0)])),(1,(ptr b1 0)),(2,(ptr b2 0)),(3,(ptr b14121 0)),(7,(.agg #[(ptr q 0)]))] wS:=by
  intro b14121 wS HS
  rw [hW]
  refine wd1 0 ?_
  ·
   exact kS 0 rfl (op_loadS (vs:=[_]) rfl (HS.cells (i:=1) rfl rfl) Tryz.underlying254 rfl Fa.I254 rfl<|WD.cw hW (st1_10 b14121 wS HS))
 have st1_1: ∀(wS:World),Owl.Own T w wS [a1_0,a1_1,a1_2]→W 7 (bz 8 1) [(0,(.agg #[(ptr q 0)])),(1,(ptr b1 0)),(2,(ptr b2 0)),(5,(.agg #[(ptr q 0)]))] wS:=by
  intro wS HS
  rw [hW]
  refine wd3 1 2 6 ?_ ?_ ?_
  ·
   refine kS 1 rfl (op_callF Fa.C159 rfl ((inum_ok q r (4) TR _ _ (HS.part [0] rfl rfl) (by first | with_reducible exact hr | ((repeat rw [numR_s]); with_reducible exact hr))).mono (fun e w14021 hq=>?_)))
   obtain ⟨rfl,hq14021⟩:=hq
   refine ⟨_,rfl,?_⟩
   have H14021:=HS.splice [0] [.blk q [(str ((numR r 4).2).s),(vN ((numR r 4).2).at_),(vN ((numR r 4).2).f)] TR] [] rfl rfl hq14021 (Fits.solid True.intro Fits.nil)
   exact WD.cw hW (st1_4 w14021 H14021)
  ·
   exact kS 2 rfl (op_loadS (vs:=[_]) rfl (HS.cells (i:=1) rfl rfl) Tryz.underlying254 rfl Fa.I254 rfl<|WD.cw hW (st1_5 wS HS))
  ·
   exact kS 6 rfl (op_alloc HS Fa.I116 (fun b14121 w14121 H14121=>(WD.cw hW (st1_6 b14121 w14121 H14121))))
 have st1_2: ∀(wS:World),Owl.Own T w wS [a1_0,a1_1,a1_2]→W 7 (bz 8 4) [(0,(.agg #[(ptr q 0)])),(1,(ptr b1 0)),(2,(ptr b2 0)),(7,(.agg #[(ptr q 0)]))] wS:=by
  intro wS HS
  rw [hW]
  refine wd2 0 6 ?_ ?_
  ·
   exact kS 0 rfl (op_loadS (vs:=[_]) rfl (HS.cells (i:=1) rfl rfl) Tryz.underlying254 rfl Fa.I254 rfl<|WD.cw hW (st1_5 wS HS))
  ·
   exact kS 6 rfl (op_alloc HS Fa.I116 (fun b14121 w14121 H14121=>(WD.cw hW (st1_7 b14121 w14121 H14121))))
 have st1_3: ∀(b14121:_) (wS:World),Owl.Own T w wS [a1_0,a1_1,a1_2,.blk b14121 [(vU32 0),(vU8 0),(str [])] 116]→W 7 (bz 8 64) [(0,(.agg #[(ptr q 0)])),(1,(ptr b1 0)),(2,(ptr b2 0)),(3,(ptr b14121 0))] wS:=by
  intro b14121 wS HS
  rw [hW]
  refine wd2 0 2 ?_ ?_
  ·
   exact kS 0 rfl (op_loadS (vs:=[_]) rfl (HS.cells (i:=1) rfl rfl) Tryz.underlying254 rfl Fa.I254 rfl<|WD.cw hW (st1_6 b14121 wS HS))
  ·
   exact kS 2 rfl (op_loadS (vs:=[_]) rfl (HS.cells (i:=1) rfl rfl) Tryz.underlying254 rfl Fa.I254 rfl<|WD.cw hW (st1_7 b14121 wS HS))
 have st1_0: ∀(wS:World),Owl.Own T w wS [a1_0,a1_1,a1_2]→W 8 (bz 8 0) [(0,(.agg #[(ptr q 0)])),(1,(ptr b1 0)),(2,(ptr b2 0))] wS:=by
  intro wS HS
  rw [hW]
  refine wd3 0 2 6 ?_ ?_ ?_
  ·
   exact kS 0 rfl (op_loadS (vs:=[_]) rfl (HS.cells (i:=1) rfl rfl) Tryz.underlying254 rfl Fa.I254 rfl<|WD.cw hW (st1_1 wS HS))
  ·
   exact kS 2 rfl (op_loadS (vs:=[_]) rfl (HS.cells (i:=1) rfl rfl) Tryz.underlying254 rfl Fa.I254 rfl<|WD.cw hW (st1_2 wS HS))
  ·
   exact kS 6 rfl (op_alloc HS Fa.I116 (fun b14121 w14121 H14121=>(WD.cw hW (st1_3 b14121 w14121 H14121))))
 have hq:=st1_0 w3 H3
 rw [hW] at hq ⊢
 refine WD.cov ?_ hq
 exact by repeat (first | exact trivial | refine ⟨rfl,?_⟩)
end Go.Proofs.YtbjhccnffacbcaaGreat
