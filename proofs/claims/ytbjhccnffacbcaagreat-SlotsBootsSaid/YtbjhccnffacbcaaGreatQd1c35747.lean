/- General lemmas and walks: WCap13, WCap14, WCap15, WPack, WPack2, WImg, WImg2, WImg3, WImg4, WImg5, WImg6, WImg7, WImg8, WImg9, WImg10, WImg11, WImg12. No condition but what each theorem names. -/
import Derived.Test.YtbjhccnffacbcaaGreatQ1314499c
import Derived.Test.YtbjhccnffacbcaaGreatQe6acaa47
import Derived.Test.YtbjhccnffacbcaaGreatQa8c57553
import Derived.Test.YtbjhccnffacbcaaGreatQ17bab6b1
set_option maxRecDepth 100000
set_option maxHeartbeats 8000000
namespace Go.Proofs.YtbjhccnffacbcaaGreat
open Go.Owl Go.Spec
theorem grant_bad1 (c:Nat) (pg:UInt32) (hv:Value) (he:List UInt32) (mb cn:Nat) (gs:List Gr) (env:Int) (mp:UInt32) (ev pv:Value) (xs:List Xt) (ps:List UInt16) (con:Bool) (pages:UInt32) (w:World) (hC:cellsAt w c [(vU32 pg),hv,(.map (some mb))]) (hH:Arr w hv 1 he.length (List.map vU32 he)) (hM:w.heap[mb]?=some (mP .i64 (List.map Gr.me gs) cn)) (hG:BsOK 199 Gr.cells Gr.b gs w) (hS:grD.list.ok w gs) (_hE:Arr w ev 2 xs.length (List.flatMap xtc xs)) (_hP:Arr w pv 1 ps.length (List.map vU16 ps)) (_hn:xs.length<2^40) (_hm:ps.length<2^40) (hb:env<1∨env>8) :
  Calls Tryz.prog 132 #[(ptr c 0),(vI env),(.agg #[(vU32 mp),ev,pv,(.bool con)]),(vU32 pages)] w (fun e w'=>e=.returned (vN 2)∧Fr [] w w'):=by
 refine enter Tryz.func132 rfl rfl ?_
 have H0:=((((((Own.start w []).oldB hC).oldA hH).mpOld hM).bsOld hG).dpOld hS)
 refine ws<|wo (op_box H0 rfl rfl (fun b1 w1 H1=>(wo (op_box H1 rfl rfl (fun b2 w2 H2=>(wa rfl<|wn<|WC.seq<|WC.block<|ws<|wm rfl<|wo (op_eqlPN Fa.PT110 rfl rfl<|wa rfl<|wn<|WC.no rfl rfl<|ws<|wm rfl<|wo (op_lssI (b:=(1:Int)) rfl rfl<|wm rfl (wF 17 (env<(1:Int)) (fun hb3 hc3=>?_) (fun hb3 hc3=>?_))))))))))
 ·
  exact wN hb3<|wN hb3<|wo (op_pickT rfl hb3 rfl<|wm rfl<|wN rfl<|wN rfl<|wN rfl<|wo (op_pickT rfl rfl rfl<|wm rfl<|wN rfl<|wN rfl<|wo (op_pickT rfl rfl rfl<|wa rfl<|wn<|WC.yes rfl rfl<|ws<|wa rfl<|wn<|WC.ret<|WQ.inRet<|WQ.thenRet<|WQ.out (.tmp rfl .nil) (⟨rfl,H2.fr⟩))))
 exact wY hb3 (op_move rfl<|wY hb3 (op_gtrI (b:=(8:Int)) rfl rfl<|wo (op_pickF rfl hb3 rfl<|wm rfl<|WL.no rfl rfl rfl (decide_eq_true (by omega)) rfl<|WL.no rfl rfl rfl (decide_eq_true (by omega)) rfl<|WL.no rfl rfl rfl (decide_eq_true (by omega)) rfl<|wo (op_pickT rfl (decide_eq_true (by omega)) rfl<|wm rfl<|wN rfl<|wN rfl<|wo (op_pickT rfl rfl rfl<|wa rfl<|wn<|WC.yes rfl rfl<|ws<|wa rfl<|wn<|WC.ret<|WQ.inRet<|WQ.thenRet<|WQ.out (.tmp rfl .nil) (⟨rfl,H2.fr⟩))))))
theorem grant_bad2 (c:Nat) (pg:UInt32) (hv:Value) (he:List UInt32) (mb cn:Nat) (gs:List Gr) (env:Int) (mp:UInt32) (ev pv:Value) (xs:List Xt) (ps:List UInt16) (con:Bool) (pages:UInt32) (w:World) (hC:cellsAt w c [(vU32 pg),hv,(.map (some mb))]) (hH:Arr w hv 1 he.length (List.map vU32 he)) (hM:w.heap[mb]?=some (mP .i64 (List.map Gr.me gs) cn)) (hG:BsOK 199 Gr.cells Gr.b gs w) (hS:grD.list.ok w gs) (hE:Arr w ev 2 xs.length (List.flatMap xtc xs)) (hP:Arr w pv 1 ps.length (List.map vU16 ps)) (hn:xs.length<2^40) (hm:ps.length<2^40) (h1:1≤env) (h8:env≤8) (hmf:mfE mp xs ps≠0) :
  Calls Tryz.prog 132 #[(ptr c 0),(vI env),(.agg #[(vU32 mp),ev,pv,(.bool con)]),(vU32 pages)] w (fun e w'=>e=.returned (vN 2)∧Fr [] w w'):=by
 refine enter Tryz.func132 rfl rfl ?_
 have H0:=((((((Own.start w []).oldB hC).oldA hH).mpOld hM).bsOld hG).dpOld hS)
 exact ws<|wo (op_box H0 rfl rfl (fun b1 w1 H1=>(wo (op_box H1 rfl rfl (fun b2 w2 H2=>(wa rfl<|wn<|WC.seq<|WC.block<|ws<|wm rfl<|wo (op_eqlPN Fa.PT110 rfl rfl<|wa rfl<|wn<|WC.no rfl rfl<|ws<|wm rfl<|wo (op_lssI (b:=(1:Int)) rfl rfl<|wm rfl<|WL.yes rfl rfl rfl (decide_eq_false (by omega)) rfl (op_move rfl<|WL.yes rfl rfl rfl (decide_eq_false (by omega)) rfl (op_gtrI (b:=(8:Int)) rfl rfl<|wo (op_pickF rfl (decide_eq_false (by omega)) rfl<|wm rfl<|WL.yes rfl rfl rfl (decide_eq_false (by omega)) rfl (op_loadS (vs:=[_,_,_,_]) rfl (H2.cells (i:=5) rfl rfl) Tryz.underlying40 rfl Fa.I40 rfl<|WL.yes rfl rfl rfl (decide_eq_false (by omega)) rfl (cq H2 Fa.C90 rfl (dcheck_ok mp _ _ xs ps con _ (H2.arr hE) (H2.arr hP) (by omega) (by omega)) fun w3 H3=>(WL.yes rfl rfl rfl (decide_eq_false (by omega)) rfl (op_neqN (b:=0) rfl rfl<|wo (op_pickF rfl (decide_eq_false (by omega)) rfl<|wm rfl<|WL.no rfl rfl rfl (decide_eq_true hmf) rfl<|WL.no rfl rfl rfl (decide_eq_true hmf) rfl<|wo (op_pickT rfl (decide_eq_true hmf) rfl<|wa rfl<|wn<|WC.yes rfl rfl<|ws<|wa rfl<|wn<|WC.ret<|WQ.inRet<|WQ.thenRet<|WQ.out (.tmp rfl .nil) (⟨rfl,H3.fr⟩))))))))))))))))))
theorem grant_bad3 (c:Nat) (pg:UInt32) (hv:Value) (he:List UInt32) (mb cn:Nat) (gs:List Gr) (env:Int) (mp:UInt32) (ev pv:Value) (xs:List Xt) (ps:List UInt16) (con:Bool) (pages:UInt32) (w:World) (hC:cellsAt w c [(vU32 pg),hv,(.map (some mb))]) (hH:Arr w hv 1 he.length (List.map vU32 he)) (hM:w.heap[mb]?=some (mP .i64 (List.map Gr.me gs) cn)) (hG:BsOK 199 Gr.cells Gr.b gs w) (hS:grD.list.ok w gs) (hE:Arr w ev 2 xs.length (List.flatMap xtc xs)) (hP:Arr w pv 1 ps.length (List.map vU16 ps)) (hn:xs.length<2^40) (hm:ps.length<2^40) (h1:1≤env) (h8:env≤8) (hmf:mfE mp xs ps=0) (hpg:pages>4096) :
  Calls Tryz.prog 132 #[(ptr c 0),(vI env),(.agg #[(vU32 mp),ev,pv,(.bool con)]),(vU32 pages)] w (fun e w'=>e=.returned (vN 2)∧Fr [] w w'):=by
 refine enter Tryz.func132 rfl rfl ?_
 have H0:=((((((Own.start w []).oldB hC).oldA hH).mpOld hM).bsOld hG).dpOld hS)
 exact ws<|wo (op_box H0 rfl rfl (fun b1 w1 H1=>(wo (op_box H1 rfl rfl (fun b2 w2 H2=>(wa rfl<|wn<|WC.seq<|WC.block<|ws<|wm rfl<|wo (op_eqlPN Fa.PT110 rfl rfl<|wa rfl<|wn<|WC.no rfl rfl<|ws<|wm rfl<|wo (op_lssI (b:=(1:Int)) rfl rfl<|wm rfl<|WL.yes rfl rfl rfl (decide_eq_false (by omega)) rfl (op_move rfl<|WL.yes rfl rfl rfl (decide_eq_false (by omega)) rfl (op_gtrI (b:=(8:Int)) rfl rfl<|wo (op_pickF rfl (decide_eq_false (by omega)) rfl<|wm rfl<|WL.yes rfl rfl rfl (decide_eq_false (by omega)) rfl (op_loadS (vs:=[_,_,_,_]) rfl (H2.cells (i:=5) rfl rfl) Tryz.underlying40 rfl Fa.I40 rfl<|WL.yes rfl rfl rfl (decide_eq_false (by omega)) rfl (cq H2 Fa.C90 rfl (dcheck_ok mp _ _ xs ps con _ (H2.arr hE) (H2.arr hP) (by omega) (by omega)) fun w3 H3=>(WL.yes rfl rfl rfl (decide_eq_false (by omega)) rfl (op_neqN (b:=0) rfl rfl<|wo (op_pickF rfl (decide_eq_false (by omega)) rfl<|wm rfl<|WL.yes rfl rfl rfl (decide_eq_false (fun h=>h hmf)) rfl (op_load rfl (H3.cell (i:=6) rfl rfl) Tryz.underlying22 rfl<|WL.yes rfl rfl rfl (decide_eq_false (fun h=>h hmf)) rfl (op_gtrU32 (b:=4096) rfl rfl<|wo (op_pickF rfl (decide_eq_false (fun h=>h hmf)) rfl<|wa rfl<|wn<|WC.yes rfl (decide_eq_true hpg)<|ws<|wa rfl<|wn<|WC.ret<|WQ.inRet<|WQ.thenRet<|WQ.out (.tmp rfl .nil) (⟨rfl,H3.fr⟩))))))))))))))))))))
theorem capsNew2_ok (pg:UInt32) (lv:Value) (he:List UInt32) (w:World) (hA:Arr w lv 1 he.length (List.map vU32 he)) (hn:he.length<2^40) (hok0:hardE pg he=0) :
  Calls Tryz.prog 126 #[.agg #[vU32 pg,lv]] w (fun e w'=> ∃c v mb,e=.returned (.tuple #[ptr c 0,vN 0])∧(∀b∈footA v (List.map vU32 he),w.heap.size≤b)∧Owl.Own [] w w' [.blk c [(vU32 pg),v,(.map (some mb))] 196,Ent.ar v 1 he.length (List.map vU32 he),.obj mb (mP .i64 (List.map Gr.me []) 0),Ent.bs 199 Gr.cells Gr.b [],Ent.dp grD.list []]) :=
 (capsNew_ok pg lv he w hA hn hok0).mono (fun _e _w' ⟨c,v,mb,h1,h⟩=>⟨c,v,mb,h1,h.rowFresh (i:=1) rfl,((h.freeze (i:=1) rfl).bsNil 199 Gr.cells Gr.b).dpNil grD⟩)
theorem capG_ok (c:Nat) (pg:UInt32) (hv:Value) (he:List UInt32) (mb cn:Nat) (gs:List Gr) (en:Int) (mp:UInt32) (ev pv:Value) (xs:List Xt) (ps:List UInt16) (con:Bool) (pages:UInt32) (l:List Gr) (T:List Nat) (w:World) (H:Owl.Own T w w [.blk c [(vU32 pg),hv,(.map (some mb))] 196,Ent.ar hv 1 he.length (List.map vU32 he),.obj mb (mP .i64 (List.map Gr.me gs) cn),Ent.bs 199 Gr.cells Gr.b gs,Ent.dp grD.list gs,Ent.ar ev 2 xs.length (List.flatMap xtc xs),Ent.ar pv 1 ps.length (List.map vU16 ps)]) (hR:CapR gs cn l) (hT: ∀b∈T,b=c∨b=mb∨b∈List.map Gr.b gs) (hn:xs.length<2^40) (hm:ps.length<2^40) (hhe:he.length<2^32) :
    Calls Tryz.prog 132 #[ptr c 0,vI en,.agg #[vU32 mp,ev,pv,.bool con],vU32 pages] w (fun e w'=> ∃cn' gs',e=.returned (vN (grantE pg he l en mp xs ps pages))∧CapR gs' cn' (grantG pg he l en mp xs ps con pages)∧DpTo w gs gs'∧Owl.Own T w w' [.blk c [(vU32 pg),hv,(.map (some mb))] 196,Ent.ar hv 1 he.length (List.map vU32 he),.obj mb (mP .i64 (List.map Gr.me gs') cn'),Ent.bs 199 Gr.cells Gr.b gs',Ent.dp grD.list gs',Ent.ar ev 2 xs.length (List.flatMap xtc xs),Ent.ar pv 1 ps.length (List.map vU16 ps)]):=by
  obtain ⟨hI,rfl⟩:=hR
  rw [grantE_bare]
  have no: ∀n,n≠0→grantE pg he gs en mp xs ps pages=n→CapR gs cn (grantG pg he (gs.map Gr.bare) en mp xs ps con pages):=fun n h0 h=>⟨hI,by rw [grantG,grantE_bare,h,if_neg h0]⟩
  by_cases h1:en<1∨en>8
  · have e0:grantE pg he gs en mp xs ps pages=2:=if_pos (.inl h1)
    exact (grant_bad1 c pg hv he mb cn gs en mp ev pv xs ps con pages w (H.cellsAt (i:=0) rfl) (H.arrO (i:=1) rfl) (H.mp (i:=2) rfl) (H.bsG (i:=3) rfl) (H.dpO (i:=4) rfl) (H.arrO (i:=5) rfl) (H.arrO (i:=6) rfl) hn hm h1).mono (fun e w' ⟨he1,hf⟩=>⟨cn,gs,by rw [e0]; exact he1,no 2 (by decide) e0,DpTo.sub (fun _ h=>h),H.fr' hf⟩)
  by_cases h2:mfE mp xs ps≠0
  · have e0:grantE pg he gs en mp xs ps pages=2:=if_pos (.inr (.inl h2))
    exact (grant_bad2 c pg hv he mb cn gs en mp ev pv xs ps con pages w (H.cellsAt (i:=0) rfl) (H.arrO (i:=1) rfl) (H.mp (i:=2) rfl) (H.bsG (i:=3) rfl) (H.dpO (i:=4) rfl) (H.arrO (i:=5) rfl) (H.arrO (i:=6) rfl) hn hm (by omega) (by omega) h2).mono (fun e w' ⟨he1,hf⟩=>⟨cn,gs,by rw [e0]; exact he1,no 2 (by decide) e0,DpTo.sub (fun _ h=>h),H.fr' hf⟩)
  by_cases h3:pages>4096
  · have e0:grantE pg he gs en mp xs ps pages=2:=if_pos (.inr (.inr h3))
    exact (grant_bad3 c pg hv he mb cn gs en mp ev pv xs ps con pages w (H.cellsAt (i:=0) rfl) (H.arrO (i:=1) rfl) (H.mp (i:=2) rfl) (H.bsG (i:=3) rfl) (H.dpO (i:=4) rfl) (H.arrO (i:=5) rfl) (H.arrO (i:=6) rfl) hn hm (by omega) (by omega) (Classical.not_not.1 h2) h3).mono (fun e w' ⟨he1,hf⟩=>⟨cn,gs,by rw [e0]; exact he1,no 2 (by decide) e0,DpTo.sub (fun _ h=>h),H.fr' hf⟩)
  have e1:grantE pg he gs en mp xs ps pages=if hasE gs en=true then 9 else whyE pg he gs mp xs ps pages:=if_neg (fun h=>h.elim h1 (fun h=>h.elim h2 h3))
  obtain ⟨n,rfl⟩: ∃n:Nat,en=n:=⟨en.toNat,by omega⟩
  cases h4:hasE gs n with
  | true =>
    obtain ⟨hg,hge⟩:=obs_yes h4
    have e0:=e1.trans (if_pos h4)
    exact (grant_have c pg hv he mb cn gs n mp ev pv xs ps con pages (obs gs n) T w H hI.me (by omega) (by omega) hn hm hhe hI.fit (Classical.not_not.1 h2) h3 hg hge).mono (fun e w' ⟨he1,h⟩=>⟨cn,gs,by rw [e0]; exact he1,no 9 (by decide) e0,DpTo.sub (fun _ h=>h),h⟩)
  | false =>
    have e0:=e1.trans (if_neg (by rw [h4]; decide))
    by_cases h5:whyE pg he gs mp xs ps pages=0
    · rw [h5] at e0
      exact (grant_yes c pg hv he mb cn gs n mp ev pv xs ps con pages T w H hI.me (by omega) (by omega) hn hm hhe hI.fit (Classical.not_not.1 h2) h3 (hasE_no h4) h5 hT).mono (fun e w' ⟨b,v1,v2,he1,hz,h⟩=>⟨cn+1,_,by rw [e0]; exact he1,⟨hI.add (fun g hg he=>hasE_no h4 g hg (by rw [he])) hn hm,by rw [grantG,grantE_bare,e0,if_pos rfl,List.map_append]; rfl⟩,DpTo.add hz,h⟩)
    · exact (grant_no c pg hv he mb cn gs n mp ev pv xs ps con pages T w H hI.me (by omega) (by omega) hn hm hhe hI.fit (Classical.not_not.1 h2) h3 (hasE_no h4) h5).mono (fun e w' ⟨he1,h⟩=>⟨cn,gs,by rw [e0]; exact he1,no _ h5 e0,DpTo.sub (fun _ h=>h),h⟩)
theorem freeL_ok (c:Nat) (pg:UInt32) (hv:Value) (he:List UInt32) (mb cn:Nat) (gs:List Gr) (l:List Gr) (w:World) (hC:cellsAt w c [(vU32 pg),hv,(.map (some mb))]) (hH:Arr w hv 1 he.length (List.map vU32 he)) (hM:w.heap[mb]?=some (mP .i64 (List.map Gr.me gs) cn)) (hG:BsOK 199 Gr.cells Gr.b gs w) (hS:grD.list.ok w gs) (hR:CapR gs cn l) :
  Calls Tryz.prog 60 #[ptr c 0] w (fun e w'=>e=.returned (vU32 (freeS pg l))∧Fr [] w w'):=by
 rw [←hR.free]
 exact free_ok c pg hv he mb cn gs w hC hH hM hG hS hR.1.me
theorem qtext_ok (v:Value) (m:Nat) (l:List UInt8) (w:World) (hA:Arr w v 1 m (l.map vU8)) :
  Calls Tryz.prog 187 #[v] w (fun e w'=>e=.returned (str l)∧Fr [] w w'):=by
 refine enter Tryz.func187 rfl rfl ?_
 have H0:=Own.start w []
 exact ws<|wa rfl<|wn<|ws<|wm rfl<|wo (op_bytesStr (l:=l) Tryz.underlying114 Tryz.underlying5 Tryz.underlying9 rfl (H0.arr hA) rfl<|wa rfl<|wn<|WC.ret<|WQ.out (.tmp rfl .nil) (⟨rfl,H0.fr⟩))
theorem qget_ok (s:List UInt8) (w:World) :
  Calls Tryz.prog 107 #[(str s)] w (fun e w'=>e=.returned (.tuple #[vU32 (getV s),vN (getE s)])∧Fr [] w w'):=by
 refine enter Tryz.func107 rfl rfl ?_
 have H0:=Own.start w []
 refine ws<|wa rfl<|wa rfl<|wn<|WC.seq<|ws<|wm rfl<|wo (op_lenStr Tryz.underlying9 rfl<|wo (op_lssN (b:=1) rfl rfl<|wm rfl (wF 8 (s.length<1) (fun hb1 hc1=>?_) (fun hb1 hc1=>?_))))
 ·
  exact wN hb1<|wN hb1<|wN hb1<|wo (op_pickT rfl hb1 rfl<|wn<|WC.yes rfl rfl<|ws<|wa rfl<|wa rfl<|wn<|WC.ret<|WQ.thenRet<|WQ.out (.tmp rfl (.tmp rfl .nil)) (⟨by first | (have hk:k=s.length:=(by omega); subst hk; rw [getV,getE,if_neg (by omega),if_neg (by omega)]; rfl) | (rw [getV,getE,if_pos (by omega),if_pos (by omega)]; rfl),H0.fr⟩))
 refine wY hb1 (op_move rfl<|wY hb1 (op_lenStr Tryz.underlying9 rfl<|wY hb1 (op_gtrN (b:=4) rfl rfl<|wo (op_pickF rfl hb1 rfl<|wn (wE (s.length>4) (fun hb2 hc2=>?_) (fun hb2 hc2=>?_))))))
 ·
  exact ws<|wa rfl<|wa rfl<|wn<|WC.ret<|WQ.thenRet<|WQ.out (.tmp rfl (.tmp rfl .nil)) (⟨by first | (have hk:k=s.length:=(by omega); subst hk; rw [getV,getE,if_neg (by omega),if_neg (by omega)]; rfl) | (rw [getV,getE,if_pos (by omega),if_pos (by omega)]; rfl),H0.fr⟩)
 refine WC.skip<|WQ.next<|WC.seq<|ws<|wm rfl<|wo (op_lenStr Tryz.underlying9 rfl<|wm rfl<|wn<|WC.block<|WC.loop (α:=Nat) (fun k=>[(0,(str s)),(3,(vN 0)),(14,(vN s.length)),(15,(vN k)),(2,(vU32 (getTo s k)))]) (fun k w'=>(k≤s.length)∧Owl.Own [] w w' []) (fun k=>s.length-k) 0 ⟨(by omega),H0⟩ ⟨rfl,rfl,rfl,rfl,rfl,trivial⟩ ?_)
 rintro k w3 ⟨hinv,H3⟩
 show WC _ _ _ _ _ [(0,(str s)),(3,(vN 0)),(14,(vN s.length)),(15,(vN k)),(2,(vU32 (getTo s k)))] _
 refine ws<|wo (op_lssN rfl rfl<|wn<|WC.seq (wE (k<s.length) (fun hb4 hc4=>?_) (fun hb4 hc4=>?_)))
 ·
  exact WC.skip<|WQ.next<|WC.seq<|WC.block<|ws<|wm rfl<|wa rfl<|wn<|WC.region<|wm rfl<|wm rfl<|wm rfl<|wo (op_indexStrD Tryz.underlying9 rfl rfl (by omega)<|wo (op_convU8U32 (hs:=Tryz.underlying5) (hd:=Tryz.underlying22) rfl<|wm rfl<|wo (op_mulN (a:=8) rfl rfl (by omega)<|wo (op_shlU32 rfl rfl<|wo (op_orU32 rfl rfl<|wa rfl<|WL.nil<|WQ.inNormal<|WQ.next<|WC.region<|wo (op_addN (b:=1) rfl rfl (by omega)<|wm rfl<|WL.nil<|WQ.round (k+1) ⟨(by omega),H3⟩ ⟨rfl,rfl,rfl,rfl,rfl,trivial⟩ (by omega)))))))
 exact WC.exit<|WQ.thenExit<|WQ.thenExit<|WQ.inHere<|WQ.next<|ws<|wm rfl<|wa rfl<|wa rfl<|wn<|WC.ret<|WQ.out (.tmp rfl (.tmp rfl .nil)) (⟨by first | (have hk:k=s.length:=(by omega); subst hk; rw [getV,getE,if_neg (by omega),if_neg (by omega)]; rfl) | (rw [getV,getE,if_pos (by omega),if_pos (by omega)]; rfl),H3.fr⟩)
theorem put_ok (v:UInt32) (n:Int) (w:World) :
  Calls Tryz.prog 151 #[(vU32 v),(vI n)] w (fun e w'=>e=.returned (.tuple #[str (numS v n),vN (numE v n)])∧Fr [] w w'):=by
 refine enter Tryz.func151 rfl rfl ?_
 have H0:=Own.start w []
 refine ws<|wa rfl<|wa rfl<|wn<|WC.seq<|WC.block<|ws<|wm rfl<|wo (op_lssI (b:=(1:Int)) rfl rfl<|wm rfl (wF 9 (n<(1:Int)) (fun hb1 hc1=>?_) (fun hb1 hc1=>?_)))
 ·
  refine wN hb1<|wN hb1<|wo (op_pickT rfl hb1 rfl<|wa rfl<|wn<|WC.yes rfl rfl<|ws<|wa rfl<|wa rfl<|wn<|WC.ret<|WQ.inRet<|WQ.thenRet<|WQ.out (.tmp rfl (.tmp rfl .nil)) ?_)
  rw [numS,numE,if_pos (show n<1∨n>4 from by omega),if_neg (by decide)]
  exact ⟨rfl,H0.fr⟩
 refine wY hb1 (op_move rfl<|wY hb1 (op_gtrI (b:=(4:Int)) rfl rfl<|wo (op_pickF rfl hb1 rfl<|wa rfl<|wn (wE (n>(4:Int)) (fun hb2 hc2=>?_) (fun hb2 hc2=>?_)))))
 ·
  refine ws<|wa rfl<|wa rfl<|wn<|WC.ret<|WQ.inRet<|WQ.thenRet<|WQ.out (.tmp rfl (.tmp rfl .nil)) ?_
  rw [numS,numE,if_pos (show n<1∨n>4 from by omega),if_neg (by decide)]
  exact ⟨rfl,H0.fr⟩
 obtain ⟨m,rfl⟩: ∃m:Nat,n=(m:Int):=⟨n.toNat,by omega⟩
 refine ws<|wm rfl<|wo (op_lssN (b:=4) rfl rfl<|wm rfl (wF 16 (m<4) (fun hb3 hc3=>?_) (fun hb3 hc3=>?_)))
 ·
  refine wY hb3 (op_move rfl<|wY hb3 (op_move rfl<|wY hb3 (op_mulN (a:=8) rfl rfl (by omega)<|wY hb3 (op_shrU32 rfl rfl<|wY hb3 (op_neqU32 (b:=0) rfl rfl<|wo (op_pickT rfl hb3 rfl<|wa rfl<|wn (wE ((shrU32 v (8 * m))≠(0:UInt32)) (fun hb4 hc4=>?_) (fun hb4 hc4=>?_))))))))
  ·
   refine ws<|wa rfl<|wa rfl<|wn<|WC.ret<|WQ.inRet<|WQ.thenRet<|WQ.out (.tmp rfl (.tmp rfl .nil)) ?_
   rw [numS,numE,if_neg (show ¬((m:Int)<1∨(m:Int)>4) from by omega),Int.toNat_natCast,if_pos (show rV v m≠0 from by rw [←rV_shr]; exact hc4),if_neg (by decide)]
   exact ⟨rfl,H0.fr⟩
  refine WC.skip<|WQ.inNormal<|WQ.next<|ws<|wm rfl<|wo (op_convU32U8 (hs:=Tryz.underlying22) (hd:=Tryz.underlying5) rfl<|wm rfl<|wo (op_shrU32 (s:=8) rfl rfl<|wo (op_convU32U8 (hs:=Tryz.underlying22) (hd:=Tryz.underlying5) rfl<|wm rfl<|wo (op_shrU32 (s:=16) rfl rfl<|wo (op_convU32U8 (hs:=Tryz.underlying22) (hd:=Tryz.underlying5) rfl<|wm rfl<|wo (op_shrU32 (s:=24) rfl rfl<|wo (op_convU32U8 (hs:=Tryz.underlying22) (hd:=Tryz.underlying5) rfl<|wo (op_buildSlice (cs:=[_,_,_,_]) H0 Tryz.underlying114 Fa.I5 rfl rfl rfl rfl (by decide) (by decide) (fun b5 w5 H5=>(wm rfl<|wo (op_cutHi Tryz.underlying114 Fa.I5 rfl (H5.arrR (i:=0) rfl) rfl (by omega)<|wo (cq H5 Fa.C187 rfl (qtext_ok _ _ (([(UInt8.ofNat v.toNat),(UInt8.ofNat (shrU32 v 8).toNat),(UInt8.ofNat (shrU32 v 16).toNat),(UInt8.ofNat (shrU32 v 24).toNat)].take m)) _ (((H5.arrR (i:=0) rfl)).cutHiM (f:=vU8) (l:=[(UInt8.ofNat v.toNat),(UInt8.ofNat (shrU32 v 8).toNat),(UInt8.ofNat (shrU32 v 16).toNat),(UInt8.ofNat (shrU32 v 24).toNat)]) (b:=m) (by omega))) fun w6 H6=>(wa rfl<|wa rfl<|wn<|WC.ret<|WQ.out (.tmp rfl (.tmp rfl .nil)) ?_)))))))))))))
  rw [numS,numE,if_neg (show ¬((m:Int)<1∨(m:Int)>4) from by omega),Int.toNat_natCast,if_neg (show ¬(rV v m≠0) from fun h=>h (by rw [←rV_shr]; exact Decidable.not_not.mp hc4)),if_pos rfl,←rB_take v (by omega)]
  exact ⟨rfl,H6.fr⟩
 refine wN hb3<|wN hb3<|wN hb3<|wN hb3<|wN hb3<|wo (op_pickF rfl hb3 rfl<|wa rfl<|wn<|WC.no rfl rfl<|WC.skip<|WQ.inNormal<|WQ.next<|ws<|wm rfl<|wo (op_convU32U8 (hs:=Tryz.underlying22) (hd:=Tryz.underlying5) rfl<|wm rfl<|wo (op_shrU32 (s:=8) rfl rfl<|wo (op_convU32U8 (hs:=Tryz.underlying22) (hd:=Tryz.underlying5) rfl<|wm rfl<|wo (op_shrU32 (s:=16) rfl rfl<|wo (op_convU32U8 (hs:=Tryz.underlying22) (hd:=Tryz.underlying5) rfl<|wm rfl<|wo (op_shrU32 (s:=24) rfl rfl<|wo (op_convU32U8 (hs:=Tryz.underlying22) (hd:=Tryz.underlying5) rfl<|wo (op_buildSlice (cs:=[_,_,_,_]) H0 Tryz.underlying114 Fa.I5 rfl rfl rfl rfl (by decide) (by decide) (fun b7 w7 H7=>(wm rfl<|wo (op_cutHi Tryz.underlying114 Fa.I5 rfl (H7.arrR (i:=0) rfl) rfl (by omega)<|wo (cq H7 Fa.C187 rfl (qtext_ok _ _ (([(UInt8.ofNat v.toNat),(UInt8.ofNat (shrU32 v 8).toNat),(UInt8.ofNat (shrU32 v 16).toNat),(UInt8.ofNat (shrU32 v 24).toNat)].take m)) _ (((H7.arrR (i:=0) rfl)).cutHiM (f:=vU8) (l:=[(UInt8.ofNat v.toNat),(UInt8.ofNat (shrU32 v 8).toNat),(UInt8.ofNat (shrU32 v 16).toNat),(UInt8.ofNat (shrU32 v 24).toNat)]) (b:=m) (by omega))) fun w8 H8=>(wa rfl<|wa rfl<|wn<|WC.ret<|WQ.out (.tmp rfl (.tmp rfl .nil)) ?_))))))))))))))
 rw [numS,numE,if_neg (show ¬((m:Int)<1∨(m:Int)>4) from by omega),Int.toNat_natCast,if_neg (show ¬(rV v m≠0) from fun h=>h (by rw [show m=4 from by omega]; exact rV_4 v)),if_pos rfl,←rB_take v (by omega)]
 exact ⟨rfl,H8.fr⟩
theorem num_ok (v:UInt32) (n:Int) (w:World) :
  Calls Tryz.prog 196 #[(vU32 v),(vI n)] w (fun e w'=>e=.returned (.tuple #[str (numS v n),vN (numE v n)])∧Fr [] w w'):=by
 refine enter Tryz.func196 rfl rfl ?_
 have H0:=Own.start w []
 refine ws<|wa rfl<|wa rfl<|wn<|WC.seq<|WC.block<|ws<|wm rfl<|wo (op_lssI (b:=(1:Int)) rfl rfl<|wm rfl (wF 9 (n<(1:Int)) (fun hb1 hc1=>?_) (fun hb1 hc1=>?_)))
 ·
  refine wN hb1<|wN hb1<|wo (op_pickT rfl hb1 rfl<|wa rfl<|wn<|WC.yes rfl rfl<|ws<|wa rfl<|wa rfl<|wn<|WC.ret<|WQ.inRet<|WQ.thenRet<|WQ.out (.tmp rfl (.tmp rfl .nil)) ?_)
  rw [numS,numE,if_pos (show n<1∨n>4 from by omega),if_neg (by decide)]
  exact ⟨rfl,H0.fr⟩
 refine wY hb1 (op_move rfl<|wY hb1 (op_gtrI (b:=(4:Int)) rfl rfl<|wo (op_pickF rfl hb1 rfl<|wa rfl<|wn (wE (n>(4:Int)) (fun hb2 hc2=>?_) (fun hb2 hc2=>?_)))))
 ·
  refine ws<|wa rfl<|wa rfl<|wn<|WC.ret<|WQ.inRet<|WQ.thenRet<|WQ.out (.tmp rfl (.tmp rfl .nil)) ?_
  rw [numS,numE,if_pos (show n<1∨n>4 from by omega),if_neg (by decide)]
  exact ⟨rfl,H0.fr⟩
 obtain ⟨m,rfl⟩: ∃m:Nat,n=(m:Int):=⟨n.toNat,by omega⟩
 refine ws<|wm rfl<|wo (op_lssN (b:=4) rfl rfl<|wm rfl (wF 16 (m<4) (fun hb3 hc3=>?_) (fun hb3 hc3=>?_)))
 ·
  refine wY hb3 (op_move rfl<|wY hb3 (op_move rfl<|wY hb3 (op_mulN (a:=8) rfl rfl (by omega)<|wY hb3 (op_shrU32 rfl rfl<|wY hb3 (op_neqU32 (b:=0) rfl rfl<|wo (op_pickT rfl hb3 rfl<|wa rfl<|wn (wE ((shrU32 v (8 * m))≠(0:UInt32)) (fun hb4 hc4=>?_) (fun hb4 hc4=>?_))))))))
  ·
   refine ws<|wa rfl<|wa rfl<|wn<|WC.ret<|WQ.inRet<|WQ.thenRet<|WQ.out (.tmp rfl (.tmp rfl .nil)) ?_
   rw [numS,numE,if_neg (show ¬((m:Int)<1∨(m:Int)>4) from by omega),Int.toNat_natCast,if_pos (show rV v m≠0 from by rw [←rV_shr]; exact hc4),if_neg (by decide)]
   exact ⟨rfl,H0.fr⟩
  exact WC.skip<|WQ.inNormal<|WQ.next<|ws<|wm rfl<|wm rfl<|wo (cq H0 Fa.C151 rfl (put_ok v ((m:Nat)) _) fun w5 H5=>(we rfl rfl<|we rfl rfl<|wa rfl<|wa rfl<|wn<|WC.ret<|WQ.out (.tmp rfl (.tmp rfl .nil)) (⟨rfl,H5.fr⟩)))
 exact wN hb3<|wN hb3<|wN hb3<|wN hb3<|wN hb3<|wo (op_pickF rfl hb3 rfl<|wa rfl<|wn<|WC.no rfl rfl<|WC.skip<|WQ.inNormal<|WQ.next<|ws<|wm rfl<|wm rfl<|wo (cq H0 Fa.C151 rfl (put_ok v ((m:Nat)) _) fun w6 H6=>(we rfl rfl<|we rfl rfl<|wa rfl<|wa rfl<|wn<|WC.ret<|WQ.out (.tmp rfl (.tmp rfl .nil)) (⟨rfl,H6.fr⟩))))
theorem rdnew_ok (s:List UInt8) (w:World) :
  Calls Tryz.prog 157 #[(str s)] w (fun e w'=> ∃q,e=.returned (ptr q 0)∧Owl.Own [] w w' [.blk q [str s,vN 0,vN 0] 298]):=by
 refine enter Tryz.func157 rfl rfl ?_
 have H0:=Own.start w []
 exact ws<|wa rfl<|wn<|ws<|wm rfl<|wo (op_build (cs:=[_,_,_]) Fa.I296 Fa.PL296 rfl rfl<|wo (op_build (cs:=[_,_,_]) Fa.I298 Fa.PL298 rfl rfl<|wo (op_box H0 rfl rfl (fun b1 w1 H1=>(wa rfl<|wn<|WC.ret<|WQ.out (.tmp rfl .nil) (⟨_,rfl,H1⟩))))))
theorem spoilt_ok (q:Nat) (r:Rd) (x:Nat) (TR:TypeId) (T:List Nat) (w:World) (H:Owl.Own T w w [.blk q [(str r.s),(vN r.at_),(vN r.f)] TR]) :
  Calls Tryz.prog 198 #[(ptr q 0),(vN x)] w (fun e w'=>e=.returned (vN x)∧Owl.Own T w w' [.blk q [str (r.bad x).s,vN (r.bad x).at_,vN (r.bad x).f] TR]):=by
 exact enter Tryz.func198 rfl rfl<|ws<|wa rfl<|wn<|ws<|wm rfl<|wm rfl<|wo (op_nilCheck rfl<|wo (op_fieldAddr rfl Fa.F296_2<|wo (op_storeB (i:=0) H rfl rfl rfl rfl rfl Fa.I25 (fun w1 H1=>(wn<|ws<|wm rfl<|wa rfl<|wn<|WC.ret<|WQ.out (.tmp rfl .nil) (⟨rfl,H1⟩))))))
theorem qleft_ok (q:Nat) (r:Rd) (w:World) (hQ:cellsAt w q [(str r.s),(vN r.at_),(vN r.f)]) (hr:r.s.length<2^47) :
  Calls Tryz.prog 201 #[(ptr q 0)] w (fun e w'=>e=.returned (vN (r.s.length-r.at_))∧Fr [] w w'):=by
 refine enter Tryz.func201 rfl rfl ?_
 have H0:=((Own.start w []).oldB hQ)
 have hrh:=r.h
 refine ws<|wa rfl<|wn<|WC.seq<|WC.draw 11 Fa.M H0 (mh rfl<|oh (fun w1 H1=>op_nilCheck rfl zr)<|oh (fun w1 H1=>op_fieldAddr rfl Fa.F296_0 zr)<|oh (fun w1 H1=>op_load rfl (H1.cellO (i:=0) rfl rfl) Tryz.underlying9 rfl zr)<|oh (fun w1 H1=>op_lenStr Tryz.underlying9 rfl zr)<|mh rfl<|oh (fun w1 H1=>op_nilCheck rfl zr)<|oh (fun w1 H1=>op_fieldAddr rfl Fa.F296_1 zr)<|oh (fun w1 H1=>op_load rfl (H1.cellO (i:=0) rfl rfl) Tryz.underlying3 rfl zr)<|oh (fun w1 H1=>op_subN rfl rfl (by omega) (by omega) zr)<|ah rfl  HW.nil) (by kernel_rfl) ?_
 intro β1 w1 H1
 exact wn<|WC.ret<|WQ.out (.tmp rfl .nil) (⟨rfl,H1.fr⟩)
theorem fault_ok (q:Nat) (r:Rd) (w:World) (hQ:cellsAt w q [(str r.s),(vN r.at_),(vN r.f)]) :
  Calls Tryz.prog 197 #[(ptr q 0)] w (fun e w'=>e=.returned (vN r.f)∧Fr [] w w'):=by
 refine enter Tryz.func197 rfl rfl ?_
 have H0:=((Own.start w []).oldB hQ)
 exact ws<|wa rfl<|wn<|WC.seq<|ws<|wm rfl<|wo (op_eqlPN Fa.PT251 rfl rfl<|wn<|WC.no rfl rfl<|WC.skip<|WQ.next<|ws<|wm rfl<|wo (op_nilCheck rfl<|wo (op_fieldAddr rfl Fa.F298_0<|wo (op_fieldAddr rfl Fa.F296_2<|wo (op_load rfl (H0.cellO (i:=0) rfl rfl) Tryz.underlying25 rfl<|wa rfl<|wn<|WC.ret<|WQ.out (.tmp rfl .nil) (⟨rfl,H0.fr⟩))))))
theorem rtake_ok (q:Nat) (r:Rd) (n:Nat) (TR:TypeId) (T:List Nat) (w:World) (H:Owl.Own T w w [.blk q [(str r.s),(vN r.at_),(vN r.f)] TR]) (hr:r.s.length<2^47) :
  Calls Tryz.prog 199 #[(ptr q 0),(vN n)] w (fun e w'=>e=.returned (.tuple #[str (rawR r n).1.1,vN (rawR r n).1.2])∧Owl.Own T w w' [.blk q [str (rawR r n).2.s,vN (rawR r n).2.at_,vN (rawR r n).2.f] TR]):=by
 refine enter Tryz.func199 rfl rfl ?_
 have hrh:=r.h
 refine ws<|wa rfl<|wa rfl<|wn<|WC.seq<|ws<|wm rfl<|wm rfl<|wo (op_callF Fa.C201 rfl ((qleft_ok q r _ (H.cellsAt (i:=0) rfl) (by first | assumption | omega)).mono (fun e w1 hq=>?_)))
 obtain ⟨rfl,hf1⟩:=hq
 refine ⟨_,rfl,?_⟩
 have H1:=H.fr' hf1
 refine wo (op_gtrN rfl rfl<|wn (wE (n>(r.s.length-r.at_)) (fun hb2 hc2=>?_) (fun hb2 hc2=>?_)))
 ·
  refine ws<|wm rfl<|wo (op_callF Fa.C198 rfl ((spoilt_ok q r 6 TR _ _ (H1.part [0] rfl rfl)).mono (fun e w3 hq=>?_)))
  obtain ⟨rfl,hq3⟩:=hq
  refine ⟨_,rfl,?_⟩
  have H3:=H1.splice [0] [.blk q [(str (r.bad 6).s),(vN (r.bad 6).at_),(vN (r.bad 6).f)] TR] [] rfl rfl hq3 (Fits.solid True.intro Fits.nil)
  refine wa rfl<|wa rfl<|wn<|WC.ret<|WQ.thenRet<|WQ.out (.tmp rfl (.tmp rfl .nil)) ?_
  rw [rawR_1 hc2]
  exact ⟨rfl,H3⟩
 refine WC.skip<|WQ.next<|ws<|wm rfl<|wo (op_nilCheck rfl<|wo (op_fieldAddr rfl Fa.F296_1<|wo (op_load rfl (H1.cell (i:=0) rfl rfl) Tryz.underlying3 rfl<|wm rfl<|wo (op_addN rfl rfl (by omega)<|wo (op_nilCheck rfl<|wo (op_fieldAddr rfl Fa.F296_1<|wo (op_storeB (i:=0) H1 rfl rfl rfl rfl rfl Fa.I3 (fun w4 H4=>(wn<|WC.seq<|WC.draw 17 Fa.M H4 (mh rfl<|oh (fun w1 H1=>op_nilCheck rfl zr)<|oh (fun w1 H1=>op_fieldAddr rfl Fa.F296_0 zr)<|oh (fun w1 H1=>op_load rfl (H1.cell (i:=0) rfl rfl) Tryz.underlying9 rfl zr)<|mh rfl<|oh (fun w1 H1=>op_nilCheck rfl zr)<|oh (fun w1 H1=>op_fieldAddr rfl Fa.F296_1 zr)<|oh (fun w1 H1=>op_load rfl (H1.cell (i:=0) rfl rfl) Tryz.underlying3 rfl zr)<|mh rfl<|oh (fun w1 H1=>op_subN rfl rfl (by omega) (by omega) zr)<|mh rfl<|oh (fun w1 H1=>op_nilCheck rfl zr)<|oh (fun w1 H1=>op_fieldAddr rfl Fa.F296_1 zr)<|oh (fun w1 H1=>op_load rfl (H1.cell (i:=0) rfl rfl) Tryz.underlying3 rfl zr)<|oh (fun w1 H1=>op_sliceStr Tryz.underlying9 rfl rfl rfl (by omega) (by omega) zr)<|ah rfl<|ah rfl  HW.nil) (by kernel_rfl) ?_)))))))))
 intro β5 w5 H5
 refine wn<|WC.ret<|WQ.out (.tmp rfl (.tmp rfl .nil)) ?_
 rw [rawR_2 hc2]
 exact ⟨by show _=Ending.returned (.tuple #[str ((r.s.drop r.at_).take n),vN 0]); rw [show r.at_+n-n=r.at_ from by omega,show r.at_+n-r.at_=n from by omega]; rfl,H5⟩
theorem take_ok (q:Nat) (r:Rd) (n:Int) (TR:TypeId) (T:List Nat) (w:World) (H:Owl.Own T w w [.blk q [(str r.s),(vN r.at_),(vN r.f)] TR]) (hr:r.s.length<2^47) :
  Calls Tryz.prog 158 #[(ptr q 0),(vI n)] w (fun e w'=>e=.returned (.tuple #[str (takeR r n).1.1,vN (takeR r n).1.2])∧Owl.Own T w w' [.blk q [str (takeR r n).2.s,vN (takeR r n).2.at_,vN (takeR r n).2.f] TR]):=by
 refine enter Tryz.func158 rfl rfl<|ws<|wa rfl<|wa rfl<|wn<|WC.seq<|ws<|wm rfl<|wo (op_callF Fa.C197 rfl ((fault_ok q r _ (H.cellsAt (i:=0) rfl)).mono (fun e w1 hq=>?_)))
 obtain ⟨rfl,hf1⟩:=hq
 refine ⟨_,rfl,?_⟩
 have H1:=H.fr' hf1
 refine wa rfl<|wn<|ws<|wm rfl<|wo (op_neqN (b:=0) rfl rfl<|wn (wE (r.f≠0) (fun hb2 hc2=>?_) (fun hb2 hc2=>?_)))
 ·
  refine ws<|wm rfl<|wa rfl<|wa rfl<|wn<|WC.ret<|WQ.thenRet<|WQ.out (.tmp rfl (.tmp rfl .nil)) ?_
  rw [takeR,if_pos hc2]
  exact ⟨rfl,H1⟩
 refine WC.skip<|WQ.next<|WC.seq<|ws<|wm rfl<|wo (op_lssI (b:=(0:Int)) rfl rfl<|wn (wE (n<(0:Int)) (fun hb3 hc3=>?_) (fun hb3 hc3=>?_)))
 ·
  refine ws<|wm rfl<|wo (op_nilCheck rfl<|wo (op_fieldAddr rfl Fa.F298_0<|wo (op_callF Fa.C198 rfl ((spoilt_ok q r 2 TR _ _ (H1.part [0] rfl rfl)).mono (fun e w4 hq=>?_)))))
  obtain ⟨rfl,hq4⟩:=hq
  refine ⟨_,rfl,?_⟩
  have H4:=H1.splice [0] [.blk q [(str (r.bad 2).s),(vN (r.bad 2).at_),(vN (r.bad 2).f)] TR] [] rfl rfl hq4 (Fits.solid True.intro Fits.nil)
  refine wa rfl<|wa rfl<|wn<|WC.ret<|WQ.thenRet<|WQ.out (.tmp rfl (.tmp rfl .nil)) ?_
  rw [takeR,if_neg hc2,if_pos hc3]
  exact ⟨rfl,H4⟩
 obtain ⟨m,rfl⟩: ∃m:Nat,n=(m:Int):=⟨n.toNat,by omega⟩
 refine WC.skip<|WQ.next<|ws<|wm rfl<|wo (op_nilCheck rfl<|wo (op_fieldAddr rfl Fa.F298_0<|wm rfl<|wo (op_callF Fa.C199 rfl ((rtake_ok q r ((m:Nat)) TR _ _ (H1.part [0] rfl rfl) (by first | assumption | omega)).mono (fun e w5 hq=>?_)))))
 obtain ⟨rfl,hq5⟩:=hq
 refine ⟨_,rfl,?_⟩
 have H5:=H1.splice [0] [.blk q [(str ((rawR r (m:Nat)).2).s),(vN ((rawR r (m:Nat)).2).at_),(vN ((rawR r (m:Nat)).2).f)] TR] [] rfl rfl hq5 (Fits.solid True.intro Fits.nil)
 refine we rfl rfl<|we rfl rfl<|wa rfl<|wa rfl<|wn<|WC.ret<|WQ.out (.tmp rfl (.tmp rfl .nil)) ?_
 rw [takeR,if_neg hc2,if_neg (show ¬((m:Int)<0) from by omega),Int.toNat_natCast]
 exact ⟨rfl,H5⟩
theorem rdnum_ok (q:Nat) (r:Rd) (n:Int) (TR:TypeId) (T:List Nat) (w:World) (H:Owl.Own T w w [.blk q [(str r.s),(vN r.at_),(vN r.f)] TR]) (hr:r.s.length<2^47) :
  Calls Tryz.prog 200 #[(ptr q 0),(vI n)] w (fun e w'=>e=.returned (.tuple #[vU32 (numR r n).1.1,vN (numR r n).1.2])∧Owl.Own T w w' [.blk q [str (numR r n).2.s,vN (numR r n).2.at_,vN (numR r n).2.f] TR]):=by
 refine enter Tryz.func200 rfl rfl<|ws<|wa rfl<|wa rfl<|wn<|WC.seq<|ws<|wm rfl<|wo (op_callF Fa.C197 rfl ((fault_ok q r _ (H.cellsAt (i:=0) rfl)).mono (fun e w1 hq=>?_)))
 obtain ⟨rfl,hf1⟩:=hq
 refine ⟨_,rfl,?_⟩
 have H1:=H.fr' hf1
 refine wa rfl<|wn<|ws<|wm rfl<|wo (op_neqN (b:=0) rfl rfl<|wn (wE (r.f≠0) (fun hb2 hc2=>?_) (fun hb2 hc2=>?_)))
 ·
  refine ws<|wm rfl<|wa rfl<|wa rfl<|wn<|WC.ret<|WQ.thenRet<|WQ.out (.tmp rfl (.tmp rfl .nil)) ?_
  rw [numR,if_pos hc2]
  exact ⟨rfl,H1⟩
 refine WC.skip<|WQ.next<|WC.seq<|ws<|wm rfl<|wo (op_lssI (b:=(1:Int)) rfl rfl<|wm rfl (wF 16 (n<(1:Int)) (fun hb3 hc3=>?_) (fun hb3 hc3=>?_)))
 ·
  refine wN hb3<|wN hb3<|wo (op_pickT rfl hb3 rfl<|wn<|WC.yes rfl rfl<|ws<|wm rfl<|wo (op_nilCheck rfl<|wo (op_fieldAddr rfl Fa.F298_0<|wo (op_callF Fa.C198 rfl ((spoilt_ok q r 2 TR _ _ (H1.part [0] rfl rfl)).mono (fun e w4 hq=>?_))))))
  obtain ⟨rfl,hq4⟩:=hq
  refine ⟨_,rfl,?_⟩
  have H4:=H1.splice [0] [.blk q [(str (r.bad 2).s),(vN (r.bad 2).at_),(vN (r.bad 2).f)] TR] [] rfl rfl hq4 (Fits.solid True.intro Fits.nil)
  refine wa rfl<|wa rfl<|wn<|WC.ret<|WQ.thenRet<|WQ.out (.tmp rfl (.tmp rfl .nil)) ?_
  rw [numR,if_neg hc2,if_pos (show n<1∨n>4 from by omega)]
  exact ⟨rfl,H4⟩
 refine wY hb3 (op_move rfl<|wY hb3 (op_gtrI (b:=(4:Int)) rfl rfl<|wo (op_pickF rfl hb3 rfl<|wn (wE (n>(4:Int)) (fun hb5 hc5=>?_) (fun hb5 hc5=>?_)))))
 ·
  refine ws<|wm rfl<|wo (op_nilCheck rfl<|wo (op_fieldAddr rfl Fa.F298_0<|wo (op_callF Fa.C198 rfl ((spoilt_ok q r 2 TR _ _ (H1.part [0] rfl rfl)).mono (fun e w6 hq=>?_)))))
  obtain ⟨rfl,hq6⟩:=hq
  refine ⟨_,rfl,?_⟩
  have H6:=H1.splice [0] [.blk q [(str (r.bad 2).s),(vN (r.bad 2).at_),(vN (r.bad 2).f)] TR] [] rfl rfl hq6 (Fits.solid True.intro Fits.nil)
  refine wa rfl<|wa rfl<|wn<|WC.ret<|WQ.thenRet<|WQ.out (.tmp rfl (.tmp rfl .nil)) ?_
  rw [numR,if_neg hc2,if_pos (show n<1∨n>4 from by omega)]
  exact ⟨rfl,H6⟩
 obtain ⟨m,rfl⟩: ∃m:Nat,n=(m:Int):=⟨n.toNat,by omega⟩
 refine WC.skip<|WQ.next<|ws<|wm rfl<|wo (op_nilCheck rfl<|wo (op_fieldAddr rfl Fa.F298_0<|wm rfl<|wo (op_callF Fa.C199 rfl ((rtake_ok q r ((m:Nat)) TR _ _ (H1.part [0] rfl rfl) (by first | assumption | omega)).mono (fun e w7 hq=>?_)))))
 obtain ⟨rfl,hq7⟩:=hq
 refine ⟨_,rfl,?_⟩
 have H7:=H1.splice [0] [.blk q [(str ((rawR r (m:Nat)).2).s),(vN ((rawR r (m:Nat)).2).at_),(vN ((rawR r (m:Nat)).2).f)] TR] [] rfl rfl hq7 (Fits.solid True.intro Fits.nil)
 refine wm rfl<|we rfl rfl<|we rfl rfl<|wa rfl<|wa rfl<|wn<|WC.seq<|ws<|wm rfl<|wo (op_neqN (b:=0) rfl rfl<|wn (wE ((rawR r (m:Nat)).1.2≠0) (fun hb8 hc8=>?_) (fun hb8 hc8=>?_)))
 ·
  refine ws<|wm rfl<|wa rfl<|wa rfl<|wn<|WC.ret<|WQ.thenRet<|WQ.out (.tmp rfl (.tmp rfl .nil)) ?_
  rw [numR,if_neg hc2,if_neg (show ¬((m:Int)<1∨(m:Int)>4) from by omega),Int.toNat_natCast,if_pos hc8]
  exact ⟨rfl,H7⟩
 refine WC.skip<|WQ.next<|ws<|wm rfl<|wo (cq H7 Fa.C107 rfl (qget_ok ((rawR r (m:Nat)).1.1) _) fun w9 H9=>(we rfl rfl<|we rfl rfl<|wa rfl<|wa rfl<|wn<|WC.ret<|WQ.out (.tmp rfl (.tmp rfl .nil)) ?_))
 have hl:=rawR_len (Decidable.not_not.mp hc8)
 rw [numR,if_neg hc2,if_neg (show ¬((m:Int)<1∨(m:Int)>4) from by omega),Int.toNat_natCast,if_neg hc8]
 exact ⟨by rw [getE,if_neg (by omega)]; rfl,H9⟩
theorem rdend_ok (q:Nat) (r:Rd) (TR:TypeId) (T:List Nat) (w:World) (H:Owl.Own T w w [.blk q [(str r.s),(vN r.at_),(vN r.f)] TR]) (hr:r.s.length<2^47) :
  Calls Tryz.prog 161 #[(ptr q 0)] w (fun e w'=>e=.returned (vN (endR r).1)∧Owl.Own T w w' [.blk q [str (endR r).2.s,vN (endR r).2.at_,vN (endR r).2.f] TR]):=by
 refine enter Tryz.func161 rfl rfl<|ws<|wa rfl<|wn<|WC.seq<|ws<|wm rfl<|wo (op_callF Fa.C197 rfl ((fault_ok q r _ (H.cellsAt (i:=0) rfl)).mono (fun e w1 hq=>?_)))
 obtain ⟨rfl,hf1⟩:=hq
 refine ⟨_,rfl,?_⟩
 have H1:=H.fr' hf1
 refine wa rfl<|wn<|ws<|wm rfl<|wo (op_neqN (b:=0) rfl rfl<|wn (wE (r.f≠0) (fun hb2 hc2=>?_) (fun hb2 hc2=>?_)))
 ·
  refine ws<|wm rfl<|wa rfl<|wn<|WC.ret<|WQ.thenRet<|WQ.out (.tmp rfl .nil) ?_
  rw [endR,if_pos hc2]
  exact ⟨rfl,H1⟩
 refine WC.skip<|WQ.next<|WC.seq<|ws<|wm rfl<|wo (op_nilCheck rfl<|wo (op_fieldAddr rfl Fa.F298_0<|wo (cq H1 Fa.C201 rfl (qleft_ok q r _ (H1.cellsAt (i:=0) rfl) hr) fun w3 H3=>(wo (op_gtrN (b:=0) rfl rfl<|wn (wE ((r.s.length-r.at_)>0) (fun hb4 hc4=>?_) (fun hb4 hc4=>?_)))))))
 ·
  refine ws<|wm rfl<|wo (op_nilCheck rfl<|wo (op_fieldAddr rfl Fa.F298_0<|wo (op_callF Fa.C198 rfl ((spoilt_ok q r 7 TR _ _ (H3.part [0] rfl rfl)).mono (fun e w5 hq=>?_)))))
  obtain ⟨rfl,hq5⟩:=hq
  refine ⟨_,rfl,?_⟩
  have H5:=H3.splice [0] [.blk q [(str (r.bad 7).s),(vN (r.bad 7).at_),(vN (r.bad 7).f)] TR] [] rfl rfl hq5 (Fits.solid True.intro Fits.nil)
  refine wa rfl<|wn<|WC.ret<|WQ.thenRet<|WQ.out (.tmp rfl .nil) ?_
  rw [endR,if_neg hc2,if_pos hc4]
  exact ⟨rfl,H5⟩
 refine WC.skip<|WQ.next<|ws<|wa rfl<|wn<|WC.ret<|WQ.out (.tmp rfl .nil) ?_
 rw [endR,if_neg hc2,if_neg hc4]
 exact ⟨rfl,H3⟩
theorem perms_ok (p:UInt8) (w:World) :
  Calls Tryz.prog 91 #[(vU8 p)] w (fun e w'=>e=.returned (.bool (permOk p))∧Fr [] w w'):=by
 refine enter Tryz.func91 rfl rfl ?_
 have H0:=Own.start w []
 exact ws<|wa rfl<|wn<|ws<|wo (op_buildSlice (cs:=[_,_,_]) H0 Tryz.underlying114 Fa.I5 rfl rfl rfl rfl (by decide) (by decide) (fun b1 w1 H1=>(wm rfl<|wo (cq H1 Fa.C142 rfl (con8_ok _ ([1,3,5]) p _ (H1.arrR (i:=0) rfl) (by decide)) fun w2 H2=>(wa rfl<|wn<|WC.ret<|WQ.out (.tmp rfl .nil) (⟨rfl,H2.fr⟩))))))
theorem send_ok (x:Sg) (w:World) :
  Calls Tryz.prog 92 #[(.agg #[(vU32 x.a),(vU8 x.p),(str x.b)])] w (fun e w'=>e=.returned (vU64 (sgEnd x))∧Fr [] w w'):=by
 refine enter Tryz.func92 rfl rfl ?_
 have H0:=Own.start w []
 exact ws<|wo (op_box H0 rfl rfl (fun b1 w1 H1=>(wa rfl<|wn<|ws<|wo (op_fieldAddr rfl Fa.F116_0<|wo (op_load rfl (H1.cell (i:=0) rfl rfl) Tryz.underlying22 rfl<|wo (op_convU32U64 (hs:=Tryz.underlying22) (hd:=Tryz.underlying154) rfl<|wo (op_fieldAddr rfl Fa.F116_2<|wo (op_load rfl (H1.cell (i:=0) rfl rfl) Tryz.underlying9 rfl<|wo (op_lenStr Tryz.underlying9 rfl<|wo (op_convNU64 (hs:=Tryz.underlying3) (hd:=Tryz.underlying154) rfl<|wo (op_addU64 rfl rfl<|wa rfl<|wn<|WC.ret<|WQ.out (.tmp rfl .nil) (⟨rfl,H1.fr⟩))))))))))))
theorem icheck_ok (pg:UInt32) (ev pv sv:Value) (xs:List Xt) (ps:List UInt16) (con:Bool) (en:UInt32) (sg:List Sg) (w:World) (hE:Arr w ev 2 xs.length (List.flatMap xtc xs)) (hP:Arr w pv 1 ps.length (List.map vU16 ps)) (hS:Arr w sv 3 sg.length (List.flatMap sgc sg)) (hn:xs.length<2^47) (hm:ps.length<2^47) (hk:sg.length<2^47) :
  Calls Tryz.prog 41 #[(.agg #[(vU32 pg),ev,pv,(.bool con),(vU32 en),sv])] w (fun e w'=>e=.returned (vN (imE pg xs ps en sg))∧Fr [] w w'):=by
 refine enter Tryz.func41 rfl rfl ?_
 have H0:=Own.start w []
 refine ws<|wo (op_box H0 rfl rfl (fun b1 w1 H1=>(wa rfl<|wn<|WC.seq<|ws<|wo (op_fieldAddr rfl Fa.F43_0<|wo (op_loadS (vs:=[_,_,_,_]) rfl (H1.cells (i:=0) rfl rfl) Tryz.underlying40 rfl Fa.I40 rfl<|wo (cq H1 Fa.C90 rfl (dcheck_ok pg _ _ xs ps con _ (H1.arr hE) (H1.arr hP) hn hm) fun w2 H2=>(wo (op_neqN (b:=0) rfl rfl<|wm rfl (wF 11 ((mfE pg xs ps)≠0) (fun hb3 hc3=>?_) (fun hb3 hc3=>?_))))))))))
 ·
  exact wN hb3<|wN hb3<|wN hb3<|wN hb3<|wo (op_pickT rfl hb3 rfl<|wm rfl<|wN rfl<|wN rfl<|wN rfl<|wN rfl<|wo (op_pickT rfl rfl rfl<|wm rfl<|wN rfl<|wN rfl<|wN rfl<|wN rfl<|wo (op_pickT rfl rfl rfl<|wn<|WC.yes rfl rfl<|ws<|wa rfl<|wn<|WC.ret<|WQ.thenRet<|WQ.out (.tmp rfl .nil) (⟨by rw [im_head (by (rw [imHead,hb3])<;>rfl)]; rfl,H2.fr⟩))))
 refine wY hb3 (op_fieldAddr rfl Fa.F43_2<|wY hb3 (op_load rfl (H2.cell (i:=0) rfl rfl) Tryz.underlying41 rfl<|wY hb3 (op_lenA Tryz.underlying41 rfl (H2.arr hS)<|wY hb3 (op_lssN (b:=1) rfl rfl<|wo (op_pickF rfl hb3 rfl<|wm rfl (wF 17 (sg.length<1) (fun hb4 hc4=>?_) (fun hb4 hc4=>?_)))))))
 ·
  exact wN hb4<|wN hb4<|wN hb4<|wN hb4<|wo (op_pickT rfl hb4 rfl<|wm rfl<|wN rfl<|wN rfl<|wN rfl<|wN rfl<|wo (op_pickT rfl rfl rfl<|wn<|WC.yes rfl rfl<|ws<|wa rfl<|wn<|WC.ret<|WQ.thenRet<|WQ.out (.tmp rfl .nil) (⟨by rw [im_head (by (rw [imHead,hb3,hb4])<;>rfl)]; rfl,H2.fr⟩)))
 refine wY hb4 (op_fieldAddr rfl Fa.F43_2<|wY hb4 (op_load rfl (H2.cell (i:=0) rfl rfl) Tryz.underlying41 rfl<|wY hb4 (op_lenA Tryz.underlying41 rfl (H2.arr hS)<|wY hb4 (op_gtrN (b:=8) rfl rfl<|wo (op_pickF rfl hb4 rfl<|wm rfl (wF 23 (sg.length>8) (fun hb5 hc5=>?_) (fun hb5 hc5=>?_)))))))
 ·
  exact wN hb5<|wN hb5<|wN hb5<|wN hb5<|wo (op_pickT rfl hb5 rfl<|wn<|WC.yes rfl rfl<|ws<|wa rfl<|wn<|WC.ret<|WQ.thenRet<|WQ.out (.tmp rfl .nil) (⟨by rw [im_head (by (rw [imHead,hb3,hb4,hb5])<;>rfl)]; rfl,H2.fr⟩))
 refine wY hb5 (op_fieldAddr rfl Fa.F43_1<|wY hb5 (op_load rfl (H2.cell (i:=0) rfl rfl) Tryz.underlying22 rfl<|wY hb5 (op_remU32 (b:=8) rfl rfl (by decide)<|wY hb5 (op_neqU32 (b:=0) rfl rfl<|wo (op_pickF rfl hb5 rfl<|wn (wE ((en%(8:UInt32))≠(0:UInt32)) (fun hb6 hc6=>?_) (fun hb6 hc6=>?_)))))))
 ·
  exact ws<|wa rfl<|wn<|WC.ret<|WQ.thenRet<|WQ.out (.tmp rfl .nil) (⟨by rw [im_head (by (rw [imHead,hb3,hb4,hb5,hb6])<;>rfl)]; rfl,H2.fr⟩)
 refine WC.skip<|WQ.next<|ws<|wa rfl<|wn<|ws<|wa rfl<|wn<|WC.seq<|ws<|wo (op_fieldAddr rfl Fa.F43_2<|wo (op_load rfl (H2.cell (i:=0) rfl rfl) Tryz.underlying41 rfl<|wo (op_lenA Tryz.underlying41 rfl (H2.arr hS)<|wm rfl<|wn<|WC.block<|WC.loop (α:=Nat) (fun k=>[(1,(ptr b1 0)),(30,sv),(31,(vN sg.length)),(3,(vU64 (ckTo en sg k).1)),(4,(.bool (ckTo en sg k).2)),(32,(vN k))]) (fun k w'=>(k≤sg.length∧(∀j,j<k→sgBad (ckTo en sg j).1 (sg.getD j Sg.zero)=false))∧Owl.Own [] w w' [.blk b1 [(vU32 pg),ev,pv,(.bool con),(vU32 en),sv] 43]) (fun k=>sg.length-k) 0 ⟨⟨Nat.zero_le _,fun j h=>by omega⟩,H2⟩ ⟨rfl,rfl,rfl,rfl,rfl,rfl,trivial⟩ ?_)))
 rintro k w7 ⟨⟨hk1,hok⟩,H7⟩
 show WC _ _ _ _ _ [(1,(ptr b1 0)),(30,sv),(31,(vN sg.length)),(3,(vU64 (ckTo en sg k).1)),(4,(.bool (ckTo en sg k).2)),(32,(vN k))] _
 refine ws<|wo (op_lssN rfl rfl<|wn<|WC.seq (wE (k<sg.length) (fun hb8 hc8=>?_) (fun hb8 hc8=>?_)))
 ·
  refine WC.skip<|WQ.next<|WC.seq<|WC.block<|ws<|wo (op_indexAddr Tryz.underlying41 Fa.I116 rfl (H7.arr hS) rfl (by omega)<|wo (op_loadSP (vs:=sgc (sg.getD k Sg.zero)) rfl (Arr.atsF (H7.arr hS) (fun _=>rfl) (by decide) Sg.zero (by omega)) Tryz.underlying116 rfl Fa.I116 rfl<|wo (op_alloc H7 Fa.I116 (fun b9 w9 H9=>(wo (op_storeBW (i:=1) H9 rfl rfl rfl rfl rfl Fa.I116 (fun w10 H10=>(wn<|WC.seq<|ws<|wo (op_fieldAddr rfl Fa.F116_1<|wo (op_load rfl (H10.cell (i:=1) rfl rfl) Tryz.underlying5 rfl<|wo (cq H10 Fa.C91 rfl (perms_ok ((sg.getD k Sg.zero).p) _) fun w11 H11=>(wo (op_not rfl<|wm rfl (wV 40 (!(permOk ((sg.getD k Sg.zero).p))) (fun hb12=>?_) (fun hb12=>?_)))))))))))))))
  ·
   have hn12:=(Bool.not_eq_true' _).mp hb12
   exact wN hb12<|wN hb12<|wN hb12<|wN hb12<|wo (op_pickT rfl hb12 rfl<|wm rfl<|wN rfl<|wN rfl<|wN rfl<|wN rfl<|wN rfl<|wo (op_pickT rfl rfl rfl<|wm rfl<|wN rfl<|wN rfl<|wN rfl<|wo (op_pickT rfl rfl rfl<|wm rfl<|wN rfl<|wN rfl<|wN rfl<|wo (op_pickT rfl rfl rfl<|wn<|WC.yes rfl rfl<|ws<|wa rfl<|wn<|WC.ret<|WQ.thenRet<|WQ.inRet<|WQ.thenRet<|WQ.thenRet<|WQ.inRet<|WQ.thenRet<|WQ.out (.tmp rfl .nil) (⟨by rw [im_bad (k:=k) (by omega) (by (rw [sgBad,hn12])<;>rfl)]; rfl,H11.fr⟩)))))
  have hn12:=(Bool.not_eq_false' _).mp hb12
  refine wY hb12 (op_fieldAddr rfl Fa.F116_0<|wY hb12 (op_load rfl (H11.cell (i:=1) rfl rfl) Tryz.underlying22 rfl<|wY hb12 (op_remU32 (b:=256) rfl rfl (by decide)<|wY hb12 (op_neqU32 (b:=0) rfl rfl<|wo (op_pickF rfl hb12 rfl<|wm rfl (wF 46 (((sg.getD k Sg.zero).a%(256:UInt32))≠(0:UInt32)) (fun hb13 hc13=>?_) (fun hb13 hc13=>?_)))))))
  ·
   exact wN hb13<|wN hb13<|wN hb13<|wN hb13<|wN hb13<|wo (op_pickT rfl hb13 rfl<|wm rfl<|wN rfl<|wN rfl<|wN rfl<|wo (op_pickT rfl rfl rfl<|wm rfl<|wN rfl<|wN rfl<|wN rfl<|wo (op_pickT rfl rfl rfl<|wn<|WC.yes rfl rfl<|ws<|wa rfl<|wn<|WC.ret<|WQ.thenRet<|WQ.inRet<|WQ.thenRet<|WQ.thenRet<|WQ.inRet<|WQ.thenRet<|WQ.out (.tmp rfl .nil) (⟨by rw [im_bad (k:=k) (by omega) (by (rw [sgBad,hn12,hb13])<;>rfl)]; rfl,H11.fr⟩))))
  refine wY hb13 (op_fieldAddr rfl Fa.F116_0<|wY hb13 (op_load rfl (H11.cell (i:=1) rfl rfl) Tryz.underlying22 rfl<|wY hb13 (op_convU32U64 (hs:=Tryz.underlying22) (hd:=Tryz.underlying154) rfl<|wY hb13 (op_move rfl<|wY hb13 (op_lssU64 rfl rfl<|wo (op_pickF rfl hb13 rfl<|wm rfl (wF 53 ((UInt64.ofNat (sg.getD k Sg.zero).a.toNat)<(ckTo en sg k).1) (fun hb14 hc14=>?_) (fun hb14 hc14=>?_))))))))
  ·
   exact wN hb14<|wN hb14<|wN hb14<|wo (op_pickT rfl hb14 rfl<|wm rfl<|wN rfl<|wN rfl<|wN rfl<|wo (op_pickT rfl rfl rfl<|wn<|WC.yes rfl rfl<|ws<|wa rfl<|wn<|WC.ret<|WQ.thenRet<|WQ.inRet<|WQ.thenRet<|WQ.thenRet<|WQ.inRet<|WQ.thenRet<|WQ.out (.tmp rfl .nil) (⟨by rw [im_bad (k:=k) (by omega) (by (rw [sgBad,hn12,hb13,hb14])<;>rfl)]; rfl,H11.fr⟩)))
  refine wY hb14 (op_fieldAddr rfl Fa.F116_2<|wY hb14 (op_load rfl (H11.cell (i:=1) rfl rfl) Tryz.underlying9 rfl<|wY hb14 (op_eqlStr rfl rfl<|wo (op_pickF rfl hb14 rfl<|wm rfl (wF 58 ((sg.getD k Sg.zero).b=[]) (fun hb15 hc15=>?_) (fun hb15 hc15=>?_))))))
  ·
   exact wN hb15<|wN hb15<|wN hb15<|wo (op_pickT rfl hb15 rfl<|wn<|WC.yes rfl rfl<|ws<|wa rfl<|wn<|WC.ret<|WQ.thenRet<|WQ.inRet<|WQ.thenRet<|WQ.thenRet<|WQ.inRet<|WQ.thenRet<|WQ.out (.tmp rfl .nil) (⟨by rw [im_bad (k:=k) (by omega) (by (rw [sgBad,hn12,hb13,hb14,hb15])<;>rfl)]; rfl,H11.fr⟩))
  refine wY hb15 (op_loadS (vs:=[_,_,_]) rfl (H11.cells (i:=1) rfl rfl) Tryz.underlying116 rfl Fa.I116 rfl<|wY hb15 (cq H11 Fa.C92 rfl (send_ok (sg.getD k Sg.zero) _) fun w16 H16=>(wY hb15 (op_gtrU64 (b:=131072) rfl rfl<|wo (op_pickF rfl hb15 rfl<|wn (wE ((sgEnd (sg.getD k Sg.zero))>(131072:UInt64)) (fun hb17 hc17=>?_) (fun hb17 hc17=>?_)))))))
  ·
   exact ws<|wa rfl<|wn<|WC.ret<|WQ.thenRet<|WQ.inRet<|WQ.thenRet<|WQ.thenRet<|WQ.inRet<|WQ.thenRet<|WQ.out (.tmp rfl .nil) (⟨by rw [im_bad (k:=k) (by omega) (by (rw [sgBad,hn12,hb13,hb14,hb15,hb17])<;>rfl)]; rfl,H16.fr⟩)
  refine WC.skip<|WQ.next<|ws<|wo (op_loadS (vs:=[_,_,_]) rfl (H16.cells (i:=1) rfl rfl) Tryz.underlying116 rfl Fa.I116 rfl<|wo (cq H16 Fa.C92 rfl (send_ok (sg.getD k Sg.zero) _) fun w18 H18=>(wo (op_addU64 (b:=256) rfl rfl<|wo (op_subU64 (b:=1) rfl rfl<|wo (op_quoU64 (b:=256) rfl rfl (by decide)<|wo (op_mulU64 (b:=256) rfl rfl<|wa rfl<|wn (wB (ckTo en sg k).2 (fun hb19=>?_) (fun hb19=>?_)))))))))
  ·
   refine WC.draw 24 Fa.M H18 (mh rfl<|mh rfl<|nh hb19<|nh hb19<|nh hb19<|nh hb19<|nh hb19<|uh<|uh<|uh<|uh<|uh<|nh hb19<|nh hb19<|uh<|uh<|uh<|uh<|uh<|uh<|uh<|nh hb19<|oh (fun w1 H1=>op_pickT rfl hb19 rfl zr)<|ah rfl  HW.nil) (by kernel_rfl) ?_
   intro β20 w20 H20
   exact WL.nil<|WQ.inNormal<|WQ.next<|WC.region<|wo (op_addN (b:=1) rfl rfl (by omega)<|wm rfl<|WL.nil<|WQ.round (k+1) ⟨⟨by omega,allPrev hok (by (rw [sgBad,hn12,hb13,hb14,hb15,hb17])<;>rfl)⟩,(H20.take 1)⟩ ⟨rfl,rfl,rfl,rfl,(congrArg (fun b=>some (Value.bool b)) (show true=(ckTo en sg (k+1)).2 by (rw [ckTo_2,sgBegins,hb19])<;>rfl)),rfl,trivial⟩ (by omega))
  refine wG (((sg.getD k Sg.zero).p &&& (4:UInt8))≠(0:UInt8)) (fun hb21 hc21=>?_) (fun hb21 hc21=>?_)
  ·
   refine wG (en≥(sg.getD k Sg.zero).a) (fun hb22 hc22=>?_) (fun hb22 hc22=>?_)
   ·
    refine WC.draw 24 Fa.M H18 (mh rfl<|mh rfl<|yh hb19 (fun w1 H1=>op_fieldAddr rfl Fa.F116_1 zr)<|yh hb19 (fun w1 H1=>op_load rfl (H1.cell (i:=1) rfl rfl) Tryz.underlying5 rfl zr)<|yh hb19 (fun w1 H1=>op_andU8 (b:=4) rfl rfl zr)<|yh hb19 (fun w1 H1=>op_neqU8 (b:=0) rfl rfl zr)<|yh hb19 (fun w1 H1=>op_move rfl zr)<|yh hb21 (fun w1 H1=>op_fieldAddr rfl Fa.F43_1 zr)<|yh hb21 (fun w1 H1=>op_load rfl (H1.cell (i:=0) rfl rfl) Tryz.underlying22 rfl zr)<|yh hb21 (fun w1 H1=>op_fieldAddr rfl Fa.F116_0 zr)<|yh hb21 (fun w1 H1=>op_load rfl (H1.cell (i:=1) rfl rfl) Tryz.underlying22 rfl zr)<|yh hb21 (fun w1 H1=>op_geqU32 rfl rfl zr)<|yh hb19 (fun w1 H1=>op_pickT rfl hb21 rfl zr)<|yh hb19 (fun w1 H1=>op_move rfl zr)<|yh hb22 (fun w1 H1=>op_fieldAddr rfl Fa.F43_1 zr)<|yh hb22 (fun w1 H1=>op_load rfl (H1.cell (i:=0) rfl rfl) Tryz.underlying22 rfl zr)<|yh hb22 (fun w1 H1=>op_convU32U64 (hs:=Tryz.underlying22) (hd:=Tryz.underlying154) rfl zr)<|yh hb22 (fun w1 H1=>op_addU64 (b:=8) rfl rfl zr)<|yh hb22 (fun w1 H1=>op_loadS (vs:=[_,_,_]) rfl (H1.cells (i:=1) rfl rfl) Tryz.underlying116 rfl Fa.I116 rfl zr)<|yh hb22 (fun w1 H1=>op_callF Fa.C92 rfl ((send_ok (sg.getD k Sg.zero) _).mono (fun e w2 hq=>⟨_,hq.1,rfl,hq.2⟩)))<|yh hb22 (fun w1 H1=>op_leqU64 rfl rfl zr)<|yh hb19 (fun w1 H1=>op_pickT rfl hb22 rfl zr)<|oh (fun w1 H1=>op_pickF rfl hb19 rfl zr)<|ah rfl  HW.nil) (by kernel_rfl) ?_
    intro β24 w24 H24
    exact WL.nil<|WQ.inNormal<|WQ.next<|WC.region<|wo (op_addN (b:=1) rfl rfl (by omega)<|wm rfl<|WL.nil<|WQ.round (k+1) ⟨⟨by omega,allPrev hok (by (rw [sgBad,hn12,hb13,hb14,hb15,hb17])<;>rfl)⟩,(H24.take 1)⟩ ⟨rfl,rfl,rfl,rfl,(congrArg (fun b=>some (Value.bool b)) (show (decide (((UInt64.ofNat en.toNat)+(8:UInt64))≤(sgEnd (sg.getD k Sg.zero))))=(ckTo en sg (k+1)).2 by (rw [ckTo_2,sgBegins,hb19,hb21,hb22])<;>rfl)),rfl,trivial⟩ (by omega))
   refine WC.draw 24 Fa.M H18 (mh rfl<|mh rfl<|yh hb19 (fun w1 H1=>op_fieldAddr rfl Fa.F116_1 zr)<|yh hb19 (fun w1 H1=>op_load rfl (H1.cell (i:=1) rfl rfl) Tryz.underlying5 rfl zr)<|yh hb19 (fun w1 H1=>op_andU8 (b:=4) rfl rfl zr)<|yh hb19 (fun w1 H1=>op_neqU8 (b:=0) rfl rfl zr)<|yh hb19 (fun w1 H1=>op_move rfl zr)<|yh hb21 (fun w1 H1=>op_fieldAddr rfl Fa.F43_1 zr)<|yh hb21 (fun w1 H1=>op_load rfl (H1.cell (i:=0) rfl rfl) Tryz.underlying22 rfl zr)<|yh hb21 (fun w1 H1=>op_fieldAddr rfl Fa.F116_0 zr)<|yh hb21 (fun w1 H1=>op_load rfl (H1.cell (i:=1) rfl rfl) Tryz.underlying22 rfl zr)<|yh hb21 (fun w1 H1=>op_geqU32 rfl rfl zr)<|yh hb19 (fun w1 H1=>op_pickT rfl hb21 rfl zr)<|yh hb19 (fun w1 H1=>op_move rfl zr)<|nh hb22<|nh hb22<|nh hb22<|nh hb22<|nh hb22<|nh hb22<|nh hb22<|yh hb19 (fun w1 H1=>op_pickF rfl hb22 rfl zr)<|oh (fun w1 H1=>op_pickF rfl hb19 rfl zr)<|ah rfl  HW.nil) (by kernel_rfl) ?_
   intro β25 w25 H25
   exact WL.nil<|WQ.inNormal<|WQ.next<|WC.region<|wo (op_addN (b:=1) rfl rfl (by omega)<|wm rfl<|WL.nil<|WQ.round (k+1) ⟨⟨by omega,allPrev hok (by (rw [sgBad,hn12,hb13,hb14,hb15,hb17])<;>rfl)⟩,(H25.take 1)⟩ ⟨rfl,rfl,rfl,rfl,(congrArg (fun b=>some (Value.bool b)) (show false=(ckTo en sg (k+1)).2 by (rw [ckTo_2,sgBegins,hb19,hb21,hb22])<;>rfl)),rfl,trivial⟩ (by omega))
  refine WC.draw 24 Fa.M H18 (mh rfl<|mh rfl<|yh hb19 (fun w1 H1=>op_fieldAddr rfl Fa.F116_1 zr)<|yh hb19 (fun w1 H1=>op_load rfl (H1.cell (i:=1) rfl rfl) Tryz.underlying5 rfl zr)<|yh hb19 (fun w1 H1=>op_andU8 (b:=4) rfl rfl zr)<|yh hb19 (fun w1 H1=>op_neqU8 (b:=0) rfl rfl zr)<|yh hb19 (fun w1 H1=>op_move rfl zr)<|nh hb21<|nh hb21<|nh hb21<|nh hb21<|nh hb21<|yh hb19 (fun w1 H1=>op_pickF rfl hb21 rfl zr)<|yh hb19 (fun w1 H1=>op_move rfl zr)<|nh rfl<|nh rfl<|nh rfl<|nh rfl<|nh rfl<|nh rfl<|nh rfl<|yh hb19 (fun w1 H1=>op_pickF rfl rfl rfl zr)<|oh (fun w1 H1=>op_pickF rfl hb19 rfl zr)<|ah rfl  HW.nil) (by kernel_rfl) ?_
  intro β26 w26 H26
  exact WL.nil<|WQ.inNormal<|WQ.next<|WC.region<|wo (op_addN (b:=1) rfl rfl (by omega)<|wm rfl<|WL.nil<|WQ.round (k+1) ⟨⟨by omega,allPrev hok (by (rw [sgBad,hn12,hb13,hb14,hb15,hb17])<;>rfl)⟩,(H26.take 1)⟩ ⟨rfl,rfl,rfl,rfl,(congrArg (fun b=>some (Value.bool b)) (show false=(ckTo en sg (k+1)).2 by (rw [ckTo_2,sgBegins,hb19,hb21])<;>rfl)),rfl,trivial⟩ (by omega))
 refine WC.exit<|WQ.thenExit<|WQ.thenExit<|WQ.inHere<|WQ.next<|WC.seq<|ws<|wm rfl<|wo (op_not rfl<|wn (wC (!(ckTo en sg k).2) (fun hb27=>?_) (fun hb27=>?_)))
 ·
  have hn27:=(Bool.not_eq_true' _).mp hb27
  exact ws<|wa rfl<|wn<|WC.ret<|WQ.thenRet<|WQ.out (.tmp rfl .nil) (⟨by rw [im_end (by (rw [imHead,hb3,hb4,hb5,hb6])<;>rfl) (fun j hj=>hok j (by omega)),show sg.length=k by omega,hn27]; rfl,H7.fr⟩)
 have hn27:=(Bool.not_eq_false' _).mp hb27
 exact WC.skip<|WQ.next<|ws<|wa rfl<|wn<|WC.ret<|WQ.out (.tmp rfl .nil) (⟨by rw [im_end (by (rw [imHead,hb3,hb4,hb5,hb6])<;>rfl) (fun j hj=>hok j (by omega)),show sg.length=k by omega,hn27]; rfl,H7.fr⟩)
theorem qcc_new (b:Nat) (v:Value) (T0:TypeId) (T:List Nat) (w:World) (H:Owl.Own T w w [.blk b [(.pointer none),v] T0]) (hc:Tryz.prog.cellsOf T0=2) (hl:liesAt Tryz.prog Tryz.prog.depth T0 1 0 175 1=true) :
  Calls Tryz.prog 150 #[(ptr b 0)] w (fun e w'=>e=.returned undef∧Owl.Own T w w' [.blk b [ptr b 0,v] T0]):=by
 exact enter Tryz.func150 rfl rfl<|ws<|wm rfl<|wo (op_nilCheck rfl<|wo (op_fieldAddr rfl Fa.F175_0<|wo (op_load rfl (H.cell (i:=0) rfl rfl) Tryz.underlying173 rfl<|wo (op_eqlPN Fa.PT173 rfl rfl<|wn<|WC.yes rfl rfl<|WC.region<|wm rfl<|wm rfl<|wo (op_toUnsafe (i:=0) H Tryz.underlying173 Tryz.underlying285 Fa.CO175 rfl rfl rfl<|wo (op_noEscape Tryz.func186 (by kernel_rfl) (by kernel_rfl) (by kernel_rfl) (by kernel_rfl) rfl<|wo (op_fromUnsafe (i:=0) H Tryz.underlying285 Tryz.underlying173 Fa.CO175 rfl rfl rfl hc hl<|wo (op_nilCheck rfl<|wo (op_fieldAddr rfl Fa.F175_0<|wo (op_storeB (i:=0) H rfl rfl rfl rfl rfl Fa.I173 (fun w1 H1=>(WL.nil<|WQ.outEnd .nil (⟨rfl,H1⟩)))))))))))))
theorem qcc_old (b:Nat) (v:Value) (T0:TypeId) (T:List Nat) (w:World) (H:Owl.Own T w w [.blk b [(ptr b 0),v] T0]) (_hc:Tryz.prog.cellsOf T0=2) (_hl:liesAt Tryz.prog Tryz.prog.depth T0 1 0 175 1=true) :
  Calls Tryz.prog 150 #[(ptr b 0)] w (fun e w'=>e=.returned undef∧Owl.Own T w w' [.blk b [ptr b 0,v] T0]):=by
 exact enter Tryz.func150 rfl rfl<|ws<|wm rfl<|wo (op_nilCheck rfl<|wo (op_fieldAddr rfl Fa.F175_0<|wo (op_load rfl (H.cell (i:=0) rfl rfl) Tryz.underlying173 rfl<|wo (op_eqlPN Fa.PT173 rfl rfl<|wn<|WC.no rfl rfl<|ws<|wm rfl<|wo (op_nilCheck rfl<|wo (op_fieldAddr rfl Fa.F175_0<|wo (op_load rfl (H.cell (i:=0) rfl rfl) Tryz.underlying173 rfl<|wm rfl<|wo (op_neqPP Tryz.underlying173 Fa.CO175 rfl rfl<|wn<|WC.no rfl rfl<|WC.skip<|WQ.outEnd .nil (⟨rfl,H⟩)))))))))
theorem qcc_ok (b:Nat) (A v:Value) (T0:TypeId) (T:List Nat) (w:World) (H:Owl.Own T w w [.blk b [A,v] T0]) (hA:A=.pointer none∨A=ptr b 0) (hc:Tryz.prog.cellsOf T0=2) (hl:liesAt Tryz.prog Tryz.prog.depth T0 1 0 175 1=true) :
    Calls Tryz.prog 150 #[ptr b 0] w (fun e w'=>e=.returned undef∧Owl.Own T w w' [.blk b [ptr b 0,v] T0]):=by
  rcases hA with rfl | rfl
  · exact qcc_new b v T0 T w H hc hl
  · exact qcc_old b v T0 T w H hc hl
theorem qws_ok (b:Nat) (A v:Value) (n:Nat) (bs s:List UInt8) (T0:TypeId) (T:List Nat) (w:World) (H:Owl.Own T w w [.blk b [A,v] T0,.row v 5 1 n (List.map vU8 bs)]) (hA:A=.pointer none∨A=ptr b 0) (hc:Tryz.prog.cellsOf T0=2) (hl:liesAt Tryz.prog Tryz.prog.depth T0 1 0 175 1=true) (hs:n+s.length<2^46) :
  Calls Tryz.prog 106 #[(ptr b 0),(str s)] w (fun e w'=> ∃v,e=.returned (.tuple #[vN s.length,.nilIface])∧Owl.Own T w w' [.blk b [ptr b 0,v] T0,.row v 5 1 (n+s.length) (List.map vU8 (bs++s))]):=by
 refine enter Tryz.func106 rfl rfl<|ws<|wa rfl<|wa rfl<|wn<|ws<|wm rfl<|wo (op_callF Fa.C150 rfl ((qcc_ok b A v T0 _ _ (H.part [0] rfl rfl) hA hc hl).mono (fun e w1 hq=>?_)))
 obtain ⟨rfl,hq1⟩:=hq
 refine ⟨_,rfl,?_⟩
 have H1:=H.splice [0] [.blk b [(ptr b 0),v] T0] [] rfl rfl hq1 (Fits.solid True.intro Fits.nil)
 exact wn<|ws<|wm rfl<|wm rfl<|wo (op_nilCheck rfl<|wo (op_fieldAddr rfl Fa.F175_1<|wo (op_load rfl (H1.cell (i:=0) rfl rfl) Tryz.underlying114 rfl<|wm rfl<|wo (op_appendM (f:=vU8) (l:=bs) (l':=s) (i:=1) H1 Tryz.underlying114 Fa.I5 rfl rfl rfl rfl (Src.ofStr Tryz.underlying9) (one_mapM (fun _=>rfl)) (by omega) (by omega) (fun v2 w2 H2=>(wo (op_nilCheck rfl<|wo (op_fieldAddr rfl Fa.F175_1<|wo (op_storeB (i:=0) H2 rfl rfl rfl rfl (Arr.one (H2.arrR (i:=1) rfl)) Fa.I114 (fun w3 H3=>(wn<|ws<|wm rfl<|wo (op_lenStr Tryz.underlying9 rfl<|wa rfl<|wa rfl<|wn<|WC.ret<|WQ.out (.tmp rfl (.tmp rfl .nil)) (⟨_,rfl,H3⟩)))))))))))))
theorem qbstr_1 (b:Nat) (A:Value) (n:Nat) (bs:List UInt8) (T0:TypeId) (a0:Option Addr) (cap:Nat) (T:List Nat) (w:World) (H:Owl.Own T w w [.blk b [A,(.slice a0 n cap)] T0,.row (.slice a0 n cap) 5 1 n (List.map vU8 bs)]) (hz:a0=none∨cap≠0) :
  Calls Tryz.prog 109 #[(ptr b 0)] w (fun e w'=>e=.returned (str bs)∧Fr T w w'):=by
 refine enter Tryz.func109 rfl rfl<|ws<|wa rfl<|wn<|WC.seq<|WC.draw 10 Fa.M H (mh rfl<|oh (fun w1 H1=>op_nilCheck rfl zr)<|oh (fun w1 H1=>op_fieldAddr rfl Fa.F175_1 zr)<|oh (fun w1 H1=>op_load rfl (H1.cell (i:=0) rfl rfl) Tryz.underlying114 rfl zr)<|oh (fun w1 H1=>op_sliceData rfl hz zr)<|mh rfl<|oh (fun w1 H1=>op_nilCheck rfl zr)<|oh (fun w1 H1=>op_fieldAddr rfl Fa.F175_1 zr)<|oh (fun w1 H1=>op_load rfl (H1.cell (i:=0) rfl rfl) Tryz.underlying114 rfl zr)<|oh (fun w1 H1=>op_lenA Tryz.underlying114 rfl (H1.arrR (i:=1) rfl) zr)  HW.nil) (by kernel_rfl) ?_
 intro β1 w1 H1
 exact wo (op_unsafeString (i:=1) H1 rfl Tryz.underlying243 Fa.CO5 rfl rfl (fun w2 H2=>(wa rfl<|wn<|WC.ret<|WQ.out (.tmp rfl .nil) (⟨rfl,H1.frPart (I:=[1]) rfl H2⟩))))
theorem qbstr_ok (b:Nat) (A v:Value) (n:Nat) (bs:List UInt8) (T0:TypeId) (T:List Nat) (w:World) (H:Owl.Own T w w [.blk b [A,v] T0,.row v 5 1 n (List.map vU8 bs)]) (hz:v=.slice none 0 0∨n≠0) :
  Calls Tryz.prog 109 #[ptr b 0] w (fun e w'=>e=.returned (str bs)∧Fr T w w'):=by
 obtain ⟨a0,cap,rfl,h⟩:=H.rowForm (i:=1) rfl hz
 exact qbstr_1 b A n bs T0 a0 cap T w H h
theorem nums_ok (b:Nat) (v lv:Value) (q:Nat) (bs:List UInt8) (l:List UInt32) (n:Nat) (T:List Nat) (w:World) (H:Owl.Own T w w [.blk b [(ptr b 0),v] 249,.row v 5 1 q (List.map vU8 bs)]) (hA: ∀w1,Fr T w w1→Arr w1 lv 1 l.length (List.map vU32 l)) (hb:q+4 * l.length<2^46) :
  Calls Tryz.prog 156 #[(ptr b 0),(vN n),lv] w (fun e w'=> ∃v',e=.returned undef∧Owl.Own T w w' [.blk b [ptr b 0,v'] 249,.row v' 5 1 (bs++(numsTo l n l.length)).length (List.map vU8 (bs++(numsTo l n l.length)))]):=by
 refine enter Tryz.func156 rfl rfl ?_
 obtain rfl:bs.length=q:=map_len H (i:=1) rfl
 refine ws<|wm rfl<|wo (op_lenA Tryz.underlying73 rfl (hA _ H.fr)<|wm rfl<|wn<|WC.block<|WC.loop (α:=Nat × Value) (fun (k,v2)=>[(0,(ptr b 0)),(1,(vN n)),(10,lv),(11,(vN l.length)),(12,(vN k))]) (fun (k,v2) w'=>(k≤l.length)∧Owl.Own T w w' [.blk b [(ptr b 0),v2] 249,.row v2 5 1 (bs++(numsTo l n k)).length (List.map vU8 (bs++(numsTo l n k)))]) (fun (k,v2)=>l.length-k) (0,v) ⟨Nat.zero_le _,(Own.rowEqN (i:=1) (f:=vU8) H rfl (List.append_nil bs).symm (by rw [numsTo,List.append_nil]))⟩ ⟨rfl,rfl,rfl,rfl,rfl,trivial⟩ ?_)
 rintro ⟨k,v2⟩ w1 ⟨hinv,H1⟩
 show WC _ _ _ _ _ [(0,(ptr b 0)),(1,(vN n)),(10,lv),(11,(vN l.length)),(12,(vN k))] _
 have hnl:=numsTo_len l n k
 have hnk:=numE_len (l.getD k 0) n
 refine ws<|wo (op_lssN rfl rfl<|wn<|WC.seq (wE (k<l.length) (fun hb2 hc2=>?_) (fun hb2 hc2=>?_)))
 ·
  refine WC.skip<|WQ.next<|WC.seq<|WC.block<|ws<|wo (op_indexAddr1 Tryz.underlying73 Fa.I22 rfl (hA _ H1.fr) rfl (by omega)<|wo (op_load rfl ((hA _ H1.fr).at (get_map vU32 0 (Arr.ltM (hA _ H1.fr) (by omega)))) Tryz.underlying22 rfl<|wa rfl<|wn<|ws<|wm rfl<|wm rfl<|wo (cq H1 Fa.C196 rfl (num_ok (l.getD k 0) ((n:Nat)) _) fun w3 H3=>(wm rfl<|we rfl rfl<|we rfl rfl<|wa rfl<|wa rfl<|wn<|WC.region<|wm rfl<|wo (op_nilCheck rfl<|wo (op_fieldAddr rfl Fa.F249_0<|wm rfl<|wo (op_callF Fa.C106 rfl ((qws_ok b (ptr b 0) v2 (bs++(numsTo l n k)).length (bs++(numsTo l n k)) (numS (l.getD k 0) (n:Nat)) 249 _ _ (H3.part [0,1] rfl rfl) (.inr rfl) Fa.CO249 Fa.LI249_175 (by rw [List.length_append]; omega)).mono (fun e w4 hq=>?_)))))))))
  obtain ⟨v4,rfl,hq4⟩:=hq
  refine ⟨_,rfl,?_⟩
  have H4:=H3.splice [0,1] [.blk b [(ptr b 0),v4] 249,.row v4 5 1 ((bs++(numsTo l n k)).length+(numS (l.getD k 0) (n:Nat)).length) (List.map vU8 ((bs++(numsTo l n k))++(numS (l.getD k 0) (n:Nat))))] [] rfl rfl hq4 (Fits.solid True.intro (Fits.solid True.intro Fits.nil))
  exact WL.nil<|WQ.inNormal<|WQ.next<|WC.region<|wo (op_addN (b:=1) rfl rfl (by omega)<|wm rfl<|WL.nil<|WQ.round (k+1,v4) ⟨(by omega),(Own.rowEqN (i:=1) (f:=vU8) H4 rfl (List.append_assoc ..) (by rw [numsTo]; simp only [List.length_append]; omega))⟩ ⟨rfl,rfl,rfl,rfl,rfl,trivial⟩ (by show l.length-(k+1)<l.length-k; omega))
 exact WC.exit<|WQ.thenExit<|WQ.thenExit<|WQ.inHere<|WQ.outEnd .nil (⟨_,rfl,(by have e:k=l.length:=(by omega); have h:=(show Owl.Own T w w1 [.blk b [(ptr b 0),v2] 249,.row v2 5 1 (bs++(numsTo l n k)).length (List.map vU8 (bs++(numsTo l n k)))] from H1); rw [e] at h; exact h)⟩)
theorem nums1_ok (b:Nat) (v lv:Value) (q:Nat) (bs:List UInt8) (u:UInt32) (n:Nat) (T:List Nat) (w:World) (H:Owl.Own T w w [.blk b [ptr b 0,v] 249,.row v 5 1 q (List.map vU8 bs)]) (hA: ∀w1,Fr T w w1→Arr w1 lv 1 1 (List.map vU32 [u])) (hb:q<2^45) :
  Calls Tryz.prog 156 #[ptr b 0,vN n,lv] w (fun e w'=> ∃v',e=.returned undef∧Owl.Own T w w' [.blk b [ptr b 0,v'] 249,.row v' 5 1 (bs++numS u n).length (List.map vU8 (bs++numS u n))]):=by
 have h:=nums_ok b v lv q bs [u] n T w H hA (by show q+4 * 1<2^46; omega)
 rw [show numsTo [u] n [u].length=numS u n from List.nil_append _] at h
 exact h
set_option maxHeartbeats 8000000
theorem iput_ok (pg:UInt32) (ev pv sv:Value) (xs:List Xt) (ps:List UInt16) (con:Bool) (en:UInt32) (sg:List Sg) (w:World) (hE:Arr w ev 2 xs.length (List.flatMap xtc xs)) (hP:Arr w pv 1 ps.length (List.map vU16 ps)) (hS:Arr w sv 3 sg.length (List.flatMap sgc sg)) (bx:xs.length≤2^20) (bp:ps.length≤2^20) (bs:sg.length≤2^10) (bb: ∀x∈sg,x.b.length≤2^30) :
  Calls Tryz.prog 113 #[(.agg #[(vU32 pg),ev,pv,(.bool con),(vU32 en),sv])] w (fun e w'=>e=.returned (.tuple #[str (imB pg xs ps con en sg),vN (imE pg xs ps en sg)])∧Fr [] w w'):=by
 refine enter Tryz.func113 rfl rfl ?_
 have H0:=Own.start w []
 have hq1:=imP1_len pg xs
 have hq2:=imP2_len pg xs ps
 have hq3:=imP3_len pg xs ps con en sg
 refine ws<|wo (op_box H0 rfl rfl (fun b1 w1 H1=>(wa rfl<|wa rfl<|wn<|WC.seq<|ws<|wo (op_loadS (vs:=[_,_,_,_,_,_]) rfl (H1.cells (i:=0) rfl rfl) Tryz.underlying43 rfl Fa.I43 rfl<|wo (cq H1 Fa.C41 rfl (icheck_ok pg _ _ _ xs ps con en sg _ (H1.arr hE) (H1.arr hP) (H1.arr hS) (by omega) (by omega) (by omega)) fun w2 H2=>(wa rfl<|wn<|ws<|wm rfl<|wo (op_neqN (b:=0) rfl rfl<|wn (wE ((imE pg xs ps en sg)≠0) (fun hb3 hc3=>?_) (fun hb3 hc3=>?_)))))))))
 ·
  refine ws<|wm rfl<|wa rfl<|wa rfl<|wn<|WC.ret<|WQ.thenRet<|WQ.out (.tmp rfl (.tmp rfl .nil)) ?_
  have h2:=hc3
  rw [imB,if_neg h2]
  exact ⟨rfl,H2.fr⟩
 refine WC.skip<|WQ.next<|ws<|wo (op_alloc H2 Fa.I249 (fun b4 w4 H4=>(wn<|ws ?_)))
 have H5:=H4.nilRow 5 1
 refine wo (op_fieldAddr rfl Fa.F249_0<|wo (op_callF Fa.C106 rfl ((qws_ok b4 (.pointer none) (.slice none 0 0) 0 ([]) ([65,73,77,49]) 249 _ _ (H5.part [1,2] rfl rfl) (.inl rfl) Fa.CO249 Fa.LI249_175 (by first | (show 0+4<2^46; decide) | (simp only [List.length_append]; omega))).mono (fun e w6 hq=>?_))))
 obtain ⟨v6,rfl,hq6⟩:=hq
 refine ⟨_,rfl,?_⟩
 have H6:=H5.splice [1,2] [.blk b4 [(ptr b4 0),v6] 249,.row v6 5 1 (0+ [65,73,77,49].length) (List.map vU8 ([]++[65,73,77,49]))] [] rfl rfl hq6 (Fits.solid True.intro (Fits.solid True.intro Fits.nil))
 refine wn<|ws<|wo (op_fieldAddr rfl Fa.F43_0<|wo (op_fieldAddr rfl Fa.F40_0<|wo (op_load rfl (H6.cell (i:=0) rfl rfl) Tryz.underlying22 rfl<|wo (op_buildSlice (cs:=[_]) H6 Tryz.underlying73 Fa.I22 rfl rfl rfl rfl (by decide) (by decide) (fun b7 w7 H7=>(wo (op_callF Fa.C156 rfl ((nums1_ok b4 v6 (.slice (some ⟨b7,0,none⟩) 1 1) (0+ [65,73,77,49].length) ([]++[65,73,77,49]) pg 4 _ _ (H7.part [1,2] rfl rfl) (H7.stayR (I:=[1,2]) (k:=3) rfl rfl rfl) (by (try simp only [List.length_cons,List.length_nil]); omega)).mono (fun e w8 hq=>?_)))))))))
 obtain ⟨v8,rfl,hq8⟩:=hq
 refine ⟨_,rfl,?_⟩
 have H8:=H7.splice [1,2] [.blk b4 [(ptr b4 0),v8] 249,.row v8 5 1 (([]++[65,73,77,49])++(numS pg 4)).length (List.map vU8 (([]++[65,73,77,49])++(numS pg 4)))] [] rfl rfl hq8 (Fits.solid True.intro (Fits.solid True.intro Fits.nil))
 refine wn<|ws<|wo (op_fieldAddr rfl Fa.F43_0<|wo (op_fieldAddr rfl Fa.F40_1<|wo (op_load rfl (H8.cell (i:=0) rfl rfl) Tryz.underlying37 rfl<|wo (op_lenA Tryz.underlying37 rfl (H8.arr hE)<|wo (op_convNU32 (hs:=Tryz.underlying3) (hd:=Tryz.underlying22) rfl<|wo (op_buildSlice (cs:=[_]) H8 Tryz.underlying73 Fa.I22 rfl rfl rfl rfl (by decide) (by decide) (fun b9 w9 H9=>(wo (op_callF Fa.C156 rfl ((nums1_ok b4 v8 (.slice (some ⟨b9,0,none⟩) 1 1) (([]++[65,73,77,49])++(numS pg 4)).length (([]++[65,73,77,49])++(numS pg 4)) (UInt32.ofNat xs.length) 1 _ _ (H9.part [1,2] rfl rfl) (H9.stayR (I:=[1,2]) (k:=4) rfl rfl rfl) (by have:=numE_len pg 4; (try simp only [List.length_append,List.length_cons,List.length_nil]); omega)).mono (fun e w10 hq=>?_)))))))))))
 obtain ⟨v10,rfl,hq10⟩:=hq
 refine ⟨_,rfl,?_⟩
 have H10:=H9.splice [1,2] [.blk b4 [(ptr b4 0),v10] 249,.row v10 5 1 ((([]++[65,73,77,49])++(numS pg 4))++(numS (UInt32.ofNat xs.length) 1)).length (List.map vU8 ((([]++[65,73,77,49])++(numS pg 4))++(numS (UInt32.ofNat xs.length) 1)))] [] rfl rfl hq10 (Fits.solid True.intro (Fits.solid True.intro Fits.nil))
 refine wn<|WC.seq<|ws ?_
 have H11:Owl.Own [] w w10 [.blk b1 [(vU32 pg),ev,pv,(.bool con),(vU32 en),sv] 43,.blk b4 [(ptr b4 0),v10] 249,.row v10 5 1 (imP1 pg xs).length (List.map vU8 (imP1 pg xs)),.row (.slice (some ⟨b7,0,none⟩) 1 1) 22 1 1 (List.map vU32 [pg]),.row (.slice (some ⟨b9,0,none⟩) 1 1) 22 1 1 (List.map vU32 [(UInt32.ofNat xs.length)])]:=Own.rowEqN (i:=2) (f:=vU8) H10 rfl rfl rfl
 refine wo (op_fieldAddr rfl Fa.F43_0<|wo (op_fieldAddr rfl Fa.F40_1<|wo (op_load rfl (H11.cell (i:=0) rfl rfl) Tryz.underlying37 rfl<|wo (op_lenA Tryz.underlying37 rfl (H11.arr hE)<|wm rfl<|wn<|WC.block<|WC.loop (α:=Nat × Value) (fun (k,x)=>[(1,(ptr b1 0)),(5,(ptr b4 0)),(34,ev),(35,(vN xs.length)),(36,(vN k))]) (fun (k,x) w'=>(k≤xs.length)∧Owl.Own [] w w' [.blk b1 [(vU32 pg),ev,pv,(.bool con),(vU32 en),sv] 43,.blk b4 [(ptr b4 0),x] 249,.row x 5 1 ((imP1 pg xs)++putX xs k).length (List.map vU8 ((imP1 pg xs)++putX xs k)),.row (.slice (some ⟨b7,0,none⟩) 1 1) 22 1 1 (List.map vU32 [pg]),.row (.slice (some ⟨b9,0,none⟩) 1 1) 22 1 1 (List.map vU32 [(UInt32.ofNat xs.length)])]) (fun (k,x)=>xs.length-k) (0,v10) ⟨Nat.zero_le _,(Own.rowEqN (i:=2) (f:=vU8) H11 rfl (List.append_nil _).symm (congrArg List.length (List.append_nil _).symm))⟩ ⟨rfl,rfl,rfl,rfl,rfl,trivial⟩ ?_))))
 rintro ⟨k,x⟩ w12 ⟨hk1,H12⟩
 show WC _ _ _ _ _ [(1,(ptr b1 0)),(5,(ptr b4 0)),(34,ev),(35,(vN xs.length)),(36,(vN k))] _
 have hq1:=imP1_len pg xs
 have hqx:=putX_len xs k
 refine ws<|wo (op_lssN rfl rfl<|wn<|WC.seq (wE (k<xs.length) (fun hb13 hc13=>?_) (fun hb13 hc13=>?_)))
 ·
  refine WC.skip<|WQ.next<|WC.seq<|WC.block<|ws<|wo (op_indexAddr Tryz.underlying37 Fa.I207 rfl (H12.arr hE) rfl (by omega)<|wo (op_loadSP (vs:=xtc (xs.getD k Xt.zero)) rfl (Arr.atsF (H12.arr hE) (fun _=>rfl) (by decide) Xt.zero (by omega)) Tryz.underlying207 rfl Fa.I207 rfl<|wo (op_alloc H12 Fa.I207 (fun b14 w14 H14=>(wo (op_storeBW (i:=5) H14 rfl rfl rfl rfl rfl Fa.I207 (fun w15 H15=>(wn<|ws<|wo (op_fieldAddr rfl Fa.F207_0<|wo (op_load rfl (H15.cell (i:=5) rfl rfl) Tryz.underlying22 rfl<|wo (op_buildSlice (cs:=[_]) H15 Tryz.underlying73 Fa.I22 rfl rfl rfl rfl (by decide) (by decide) (fun b16 w16 H16=>(wo (op_callF Fa.C156 rfl ((nums1_ok b4 x (.slice (some ⟨b16,0,none⟩) 1 1) ((imP1 pg xs)++putX xs k).length ((imP1 pg xs)++putX xs k) ((xs.getD k Xt.zero).id) 1 _ _ (H16.part [1,2] rfl rfl) (H16.stayR (I:=[1,2]) (k:=6) rfl rfl rfl) (by (try simp only [List.length_append]); omega)).mono (fun e w17 hq=>?_))))))))))))))))
  obtain ⟨v17,rfl,hq17⟩:=hq
  refine ⟨_,rfl,?_⟩
  have H17:=H16.splice [1,2] [.blk b4 [(ptr b4 0),v17] 249,.row v17 5 1 (((imP1 pg xs)++putX xs k)++(numS ((xs.getD k Xt.zero).id) 1)).length (List.map vU8 (((imP1 pg xs)++putX xs k)++(numS ((xs.getD k Xt.zero).id) 1)))] [] rfl rfl hq17 (Fits.solid True.intro (Fits.solid True.intro Fits.nil))
  refine wn<|WC.region<|wo (op_fieldAddr rfl Fa.F207_1<|wo (op_load rfl (H17.cell (i:=5) rfl rfl) Tryz.underlying22 rfl<|wo (op_buildSlice (cs:=[_]) H17 Tryz.underlying73 Fa.I22 rfl rfl rfl rfl (by decide) (by decide) (fun b18 w18 H18=>(wo (op_callF Fa.C156 rfl ((nums1_ok b4 v17 (.slice (some ⟨b18,0,none⟩) 1 1) (((imP1 pg xs)++putX xs k)++(numS ((xs.getD k Xt.zero).id) 1)).length (((imP1 pg xs)++putX xs k)++(numS ((xs.getD k Xt.zero).id) 1)) ((xs.getD k Xt.zero).bl) 2 _ _ (H18.part [1,2] rfl rfl) (H18.stayR (I:=[1,2]) (k:=7) rfl rfl rfl) (by have:=numE_len ((xs.getD k Xt.zero).id) 1; (try simp only [List.length_append]); omega)).mono (fun e w19 hq=>?_))))))))
  obtain ⟨v19,rfl,hq19⟩:=hq
  refine ⟨_,rfl,?_⟩
  have H19:=H18.splice [1,2] [.blk b4 [(ptr b4 0),v19] 249,.row v19 5 1 ((((imP1 pg xs)++putX xs k)++(numS ((xs.getD k Xt.zero).id) 1))++(numS ((xs.getD k Xt.zero).bl) 2)).length (List.map vU8 ((((imP1 pg xs)++putX xs k)++(numS ((xs.getD k Xt.zero).id) 1))++(numS ((xs.getD k Xt.zero).bl) 2)))] [] rfl rfl hq19 (Fits.solid True.intro (Fits.solid True.intro Fits.nil))
  exact WL.nil<|WQ.inNormal<|WQ.next<|WC.region<|wo (op_addN (b:=1) rfl rfl (by omega)<|wm rfl<|WL.nil<|WQ.round (k+1,v19) ⟨(by omega),(by have h:=(show Owl.Own [] w w19 [.blk b1 [(vU32 pg),ev,pv,(.bool con),(vU32 en),sv] 43,.blk b4 [(ptr b4 0),v19] 249,.row v19 5 1 ((((imP1 pg xs)++putX xs k)++(numS ((xs.getD k Xt.zero).id) 1))++(numS ((xs.getD k Xt.zero).bl) 2)).length (List.map vU8 ((((imP1 pg xs)++putX xs k)++(numS ((xs.getD k Xt.zero).id) 1))++(numS ((xs.getD k Xt.zero).bl) 2))),.row (.slice (some ⟨b7,0,none⟩) 1 1) 22 1 1 (List.map vU32 [pg]),.row (.slice (some ⟨b9,0,none⟩) 1 1) 22 1 1 (List.map vU32 [(UInt32.ofNat xs.length)])] from (H19.take 5)); exact Own.rowEqN (i:=2) (f:=vU8) h rfl (by simp only [putX,List.append_assoc]) (by simp only [putX,List.append_assoc,List.length_append]; try omega))⟩ ⟨rfl,rfl,rfl,rfl,rfl,trivial⟩ (by show xs.length-(k+1)<xs.length-k; omega))
 refine WC.exit<|WQ.thenExit<|WQ.thenExit<|WQ.inHere<|WQ.next<|ws<|wo (op_fieldAddr rfl Fa.F43_0<|wo (op_fieldAddr rfl Fa.F40_2<|wo (op_load rfl (H12.cell (i:=0) rfl rfl) Tryz.underlying38 rfl<|wo (op_lenA Tryz.underlying38 rfl (H12.arr hP)<|wo (op_convNU32 (hs:=Tryz.underlying3) (hd:=Tryz.underlying22) rfl<|wo (op_buildSlice (cs:=[_]) H12 Tryz.underlying73 Fa.I22 rfl rfl rfl rfl (by decide) (by decide) (fun b20 w20 H20=>(wo (op_callF Fa.C156 rfl ((nums1_ok b4 x (.slice (some ⟨b20,0,none⟩) 1 1) ((imP1 pg xs)++putX xs k).length ((imP1 pg xs)++putX xs k) (UInt32.ofNat ps.length) 1 _ _ (H20.part [1,2] rfl rfl) (H20.stayR (I:=[1,2]) (k:=5) rfl rfl rfl) (by (try simp only [List.length_append]); omega)).mono (fun e w21 hq=>?_)))))))))))
 obtain ⟨v21,rfl,hq21⟩:=hq
 refine ⟨_,rfl,?_⟩
 have H21:=H20.splice [1,2] [.blk b4 [(ptr b4 0),v21] 249,.row v21 5 1 (((imP1 pg xs)++putX xs k)++(numS (UInt32.ofNat ps.length) 1)).length (List.map vU8 (((imP1 pg xs)++putX xs k)++(numS (UInt32.ofNat ps.length) 1)))] [] rfl rfl hq21 (Fits.solid True.intro (Fits.solid True.intro Fits.nil))
 refine wn<|WC.seq<|ws ?_
 obtain rfl:k=xs.length:=by omega
 have H22:Owl.Own [] w w21 [.blk b1 [(vU32 pg),ev,pv,(.bool con),(vU32 en),sv] 43,.blk b4 [(ptr b4 0),v21] 249,.row v21 5 1 (imP2 pg xs ps).length (List.map vU8 (imP2 pg xs ps)),.row (.slice (some ⟨b7,0,none⟩) 1 1) 22 1 1 (List.map vU32 [pg]),.row (.slice (some ⟨b9,0,none⟩) 1 1) 22 1 1 (List.map vU32 [(UInt32.ofNat xs.length)]),.row (.slice (some ⟨b20,0,none⟩) 1 1) 22 1 1 (List.map vU32 [(UInt32.ofNat ps.length)])]:=Own.rowEqN (i:=2) (f:=vU8) H21 rfl rfl rfl
 refine wo (op_fieldAddr rfl Fa.F43_0<|wo (op_fieldAddr rfl Fa.F40_2<|wo (op_load rfl (H22.cell (i:=0) rfl rfl) Tryz.underlying38 rfl<|wo (op_lenA Tryz.underlying38 rfl (H22.arr hP)<|wm rfl<|wn<|WC.block<|WC.loop (α:=Nat × Value) (fun (j,x)=>[(1,(ptr b1 0)),(5,(ptr b4 0)),(58,pv),(59,(vN ps.length)),(60,(vN j))]) (fun (j,x) w'=>(j≤ps.length)∧Owl.Own [] w w' [.blk b1 [(vU32 pg),ev,pv,(.bool con),(vU32 en),sv] 43,.blk b4 [(ptr b4 0),x] 249,.row x 5 1 ((imP2 pg xs ps)++putP ps j).length (List.map vU8 ((imP2 pg xs ps)++putP ps j)),.row (.slice (some ⟨b7,0,none⟩) 1 1) 22 1 1 (List.map vU32 [pg]),.row (.slice (some ⟨b9,0,none⟩) 1 1) 22 1 1 (List.map vU32 [(UInt32.ofNat xs.length)]),.row (.slice (some ⟨b20,0,none⟩) 1 1) 22 1 1 (List.map vU32 [(UInt32.ofNat ps.length)])]) (fun (j,x)=>ps.length-j) (0,v21) ⟨Nat.zero_le _,(Own.rowEqN (i:=2) (f:=vU8) H22 rfl (List.append_nil _).symm (congrArg List.length (List.append_nil _).symm))⟩ ⟨rfl,rfl,rfl,rfl,rfl,trivial⟩ ?_))))
 rintro ⟨j,x⟩ w23 ⟨hj1,H23⟩
 show WC _ _ _ _ _ [(1,(ptr b1 0)),(5,(ptr b4 0)),(58,pv),(59,(vN ps.length)),(60,(vN j))] _
 have hq2:=imP2_len pg xs ps
 have hqp:=putP_len ps j
 refine ws<|wo (op_lssN rfl rfl<|wn<|WC.seq (wE (j<ps.length) (fun hb24 hc24=>?_) (fun hb24 hc24=>?_)))
 ·
  refine WC.skip<|WQ.next<|WC.seq<|WC.block<|ws<|wo (op_indexAddr1 Tryz.underlying38 Fa.I203 rfl (H23.arr hP) rfl (by omega)<|wo (op_load rfl ((H23.arr hP).at (get_map vU16 0 (Arr.ltM (H23.arr hP) (by omega)))) Tryz.underlying203 rfl<|wa rfl<|wn<|WC.region<|wm rfl<|wo (op_convU16U32 (hs:=Tryz.underlying203) (hd:=Tryz.underlying22) rfl<|wo (op_buildSlice (cs:=[_]) H23 Tryz.underlying73 Fa.I22 rfl rfl rfl rfl (by decide) (by decide) (fun b25 w25 H25=>(wo (op_callF Fa.C156 rfl ((nums1_ok b4 x (.slice (some ⟨b25,0,none⟩) 1 1) ((imP2 pg xs ps)++putP ps j).length ((imP2 pg xs ps)++putP ps j) (UInt32.ofNat (ps.getD j 0).toNat) 2 _ _ (H25.part [1,2] rfl rfl) (H25.stayR (I:=[1,2]) (k:=6) rfl rfl rfl) (by (try simp only [List.length_append]); omega)).mono (fun e w26 hq=>?_)))))))))
  obtain ⟨v26,rfl,hq26⟩:=hq
  refine ⟨_,rfl,?_⟩
  have H26:=H25.splice [1,2] [.blk b4 [(ptr b4 0),v26] 249,.row v26 5 1 (((imP2 pg xs ps)++putP ps j)++(numS (UInt32.ofNat (ps.getD j 0).toNat) 2)).length (List.map vU8 (((imP2 pg xs ps)++putP ps j)++(numS (UInt32.ofNat (ps.getD j 0).toNat) 2)))] [] rfl rfl hq26 (Fits.solid True.intro (Fits.solid True.intro Fits.nil))
  exact WL.nil<|WQ.inNormal<|WQ.next<|WC.region<|wo (op_addN (b:=1) rfl rfl (by omega)<|wm rfl<|WL.nil<|WQ.round (j+1,v26) ⟨(by omega),(by have h:=(show Owl.Own [] w w26 [.blk b1 [(vU32 pg),ev,pv,(.bool con),(vU32 en),sv] 43,.blk b4 [(ptr b4 0),v26] 249,.row v26 5 1 (((imP2 pg xs ps)++putP ps j)++(numS (UInt32.ofNat (ps.getD j 0).toNat) 2)).length (List.map vU8 (((imP2 pg xs ps)++putP ps j)++(numS (UInt32.ofNat (ps.getD j 0).toNat) 2))),.row (.slice (some ⟨b7,0,none⟩) 1 1) 22 1 1 (List.map vU32 [pg]),.row (.slice (some ⟨b9,0,none⟩) 1 1) 22 1 1 (List.map vU32 [(UInt32.ofNat xs.length)]),.row (.slice (some ⟨b20,0,none⟩) 1 1) 22 1 1 (List.map vU32 [(UInt32.ofNat ps.length)])] from (H26.take 6)); exact Own.rowEqN (i:=2) (f:=vU8) h rfl (by simp only [putP,List.append_assoc]) (by simp only [putP,List.append_assoc,List.length_append]; try omega))⟩ ⟨rfl,rfl,rfl,rfl,rfl,trivial⟩ (by show ps.length-(j+1)<ps.length-j; omega))
 refine WC.exit<|WQ.thenExit<|WQ.thenExit<|WQ.inHere<|WQ.next<|ws<|wa rfl<|wn<|WC.cut (α:=Unit) (fun _=>[(1,(ptr b1 0)),(5,(ptr b4 0)),(10,(vU32 (conN con)))]) (fun _ w'=>Owl.Own [] w w' [.blk b1 [(vU32 pg),ev,pv,(.bool con),(vU32 en),sv] 43,.blk b4 [(ptr b4 0),x] 249,.row x 5 1 ((imP2 pg xs ps)++putP ps j).length (List.map vU8 ((imP2 pg xs ps)++putP ps j)),.row (.slice (some ⟨b7,0,none⟩) 1 1) 22 1 1 (List.map vU32 [pg]),.row (.slice (some ⟨b9,0,none⟩) 1 1) 22 1 1 (List.map vU32 [(UInt32.ofNat xs.length)]),.row (.slice (some ⟨b20,0,none⟩) 1 1) 22 1 1 (List.map vU32 [(UInt32.ofNat ps.length)])]) ?_ ?_
 ·
  refine ws<|wo (op_fieldAddr rfl Fa.F43_0<|wo (op_fieldAddr rfl Fa.F40_3<|wo (op_load rfl (H23.cell (i:=0) rfl rfl) Tryz.underlying4 rfl<|wn (wC con (fun hb27=>?_) (fun hb27=>?_)))))
  ·
   exact WC.region<|wa rfl<|WL.nil<|WQ.here () H23 ⟨rfl,rfl,(by rw [conN,hb27]; rfl),trivial⟩
  exact WC.skip<|WQ.here () H23 ⟨rfl,rfl,(by rw [conN,hb27]; rfl),trivial⟩
 rintro ⟨⟩ w28 H28
 show WC _ _ _ _ _ [(1,(ptr b1 0)),(5,(ptr b4 0)),(10,(vU32 (conN con)))] _
 refine ws<|wm rfl<|wo (op_buildSlice (cs:=[_]) H28 Tryz.underlying73 Fa.I22 rfl rfl rfl rfl (by decide) (by decide) (fun b29 w29 H29=>(wo (op_callF Fa.C156 rfl ((nums1_ok b4 x (.slice (some ⟨b29,0,none⟩) 1 1) ((imP2 pg xs ps)++putP ps j).length ((imP2 pg xs ps)++putP ps j) (conN con) 1 _ _ (H29.part [1,2] rfl rfl) (H29.stayR (I:=[1,2]) (k:=6) rfl rfl rfl) (by (try simp only [List.length_append]); omega)).mono (fun e w30 hq=>?_))))))
 obtain ⟨v30,rfl,hq30⟩:=hq
 refine ⟨_,rfl,?_⟩
 have H30:=H29.splice [1,2] [.blk b4 [(ptr b4 0),v30] 249,.row v30 5 1 (((imP2 pg xs ps)++putP ps j)++(numS (conN con) 1)).length (List.map vU8 (((imP2 pg xs ps)++putP ps j)++(numS (conN con) 1)))] [] rfl rfl hq30 (Fits.solid True.intro (Fits.solid True.intro Fits.nil))
 refine wn<|ws<|wo (op_fieldAddr rfl Fa.F43_1<|wo (op_load rfl (H30.cell (i:=0) rfl rfl) Tryz.underlying22 rfl<|wo (op_buildSlice (cs:=[_]) H30 Tryz.underlying73 Fa.I22 rfl rfl rfl rfl (by decide) (by decide) (fun b31 w31 H31=>(wo (op_callF Fa.C156 rfl ((nums1_ok b4 v30 (.slice (some ⟨b31,0,none⟩) 1 1) (((imP2 pg xs ps)++putP ps j)++(numS (conN con) 1)).length (((imP2 pg xs ps)++putP ps j)++(numS (conN con) 1)) en 4 _ _ (H31.part [1,2] rfl rfl) (H31.stayR (I:=[1,2]) (k:=7) rfl rfl rfl) (by have:=numE_len (conN con) 1; (try simp only [List.length_append]); omega)).mono (fun e w32 hq=>?_))))))))
 obtain ⟨v32,rfl,hq32⟩:=hq
 refine ⟨_,rfl,?_⟩
 have H32:=H31.splice [1,2] [.blk b4 [(ptr b4 0),v32] 249,.row v32 5 1 ((((imP2 pg xs ps)++putP ps j)++(numS (conN con) 1))++(numS en 4)).length (List.map vU8 ((((imP2 pg xs ps)++putP ps j)++(numS (conN con) 1))++(numS en 4)))] [] rfl rfl hq32 (Fits.solid True.intro (Fits.solid True.intro Fits.nil))
 refine wn<|ws<|wo (op_fieldAddr rfl Fa.F43_2<|wo (op_load rfl (H32.cell (i:=0) rfl rfl) Tryz.underlying41 rfl<|wo (op_lenA Tryz.underlying41 rfl (H32.arr hS)<|wo (op_convNU32 (hs:=Tryz.underlying3) (hd:=Tryz.underlying22) rfl<|wo (op_buildSlice (cs:=[_]) H32 Tryz.underlying73 Fa.I22 rfl rfl rfl rfl (by decide) (by decide) (fun b33 w33 H33=>(wo (op_callF Fa.C156 rfl ((nums1_ok b4 v32 (.slice (some ⟨b33,0,none⟩) 1 1) ((((imP2 pg xs ps)++putP ps j)++(numS (conN con) 1))++(numS en 4)).length ((((imP2 pg xs ps)++putP ps j)++(numS (conN con) 1))++(numS en 4)) (UInt32.ofNat sg.length) 1 _ _ (H33.part [1,2] rfl rfl) (H33.stayR (I:=[1,2]) (k:=8) rfl rfl rfl) (by have:=numE_len (conN con) 1; have:=numE_len en 4; (try simp only [List.length_append]); omega)).mono (fun e w34 hq=>?_))))))))))
 obtain ⟨v34,rfl,hq34⟩:=hq
 refine ⟨_,rfl,?_⟩
 have H34:=H33.splice [1,2] [.blk b4 [(ptr b4 0),v34] 249,.row v34 5 1 (((((imP2 pg xs ps)++putP ps j)++(numS (conN con) 1))++(numS en 4))++(numS (UInt32.ofNat sg.length) 1)).length (List.map vU8 (((((imP2 pg xs ps)++putP ps j)++(numS (conN con) 1))++(numS en 4))++(numS (UInt32.ofNat sg.length) 1)))] [] rfl rfl hq34 (Fits.solid True.intro (Fits.solid True.intro Fits.nil))
 refine wn<|WC.seq<|ws ?_
 obtain rfl:j=ps.length:=by omega
 have H35:Owl.Own [] w w34 [.blk b1 [(vU32 pg),ev,pv,(.bool con),(vU32 en),sv] 43,.blk b4 [(ptr b4 0),v34] 249,.row v34 5 1 (imP3 pg xs ps con en sg).length (List.map vU8 (imP3 pg xs ps con en sg)),.row (.slice (some ⟨b7,0,none⟩) 1 1) 22 1 1 (List.map vU32 [pg]),.row (.slice (some ⟨b9,0,none⟩) 1 1) 22 1 1 (List.map vU32 [(UInt32.ofNat xs.length)]),.row (.slice (some ⟨b20,0,none⟩) 1 1) 22 1 1 (List.map vU32 [(UInt32.ofNat ps.length)]),.row (.slice (some ⟨b29,0,none⟩) 1 1) 22 1 1 (List.map vU32 [(conN con)]),.row (.slice (some ⟨b31,0,none⟩) 1 1) 22 1 1 (List.map vU32 [en]),.row (.slice (some ⟨b33,0,none⟩) 1 1) 22 1 1 (List.map vU32 [(UInt32.ofNat sg.length)])]:=Own.rowEqN (i:=2) (f:=vU8) H34 rfl rfl rfl
 refine wo (op_fieldAddr rfl Fa.F43_2<|wo (op_load rfl (H35.cell (i:=0) rfl rfl) Tryz.underlying41 rfl<|wo (op_lenA Tryz.underlying41 rfl (H35.arr hS)<|wm rfl<|wn<|WC.block<|WC.loop (α:=Nat × Value) (fun (i,x)=>[(1,(ptr b1 0)),(5,(ptr b4 0)),(86,sv),(87,(vN sg.length)),(88,(vN i))]) (fun (i,x) w'=>(i≤sg.length)∧Owl.Own [] w w' [.blk b1 [(vU32 pg),ev,pv,(.bool con),(vU32 en),sv] 43,.blk b4 [(ptr b4 0),x] 249,.row x 5 1 ((imP3 pg xs ps con en sg)++putS sg i).length (List.map vU8 ((imP3 pg xs ps con en sg)++putS sg i)),.row (.slice (some ⟨b7,0,none⟩) 1 1) 22 1 1 (List.map vU32 [pg]),.row (.slice (some ⟨b9,0,none⟩) 1 1) 22 1 1 (List.map vU32 [(UInt32.ofNat xs.length)]),.row (.slice (some ⟨b20,0,none⟩) 1 1) 22 1 1 (List.map vU32 [(UInt32.ofNat ps.length)]),.row (.slice (some ⟨b29,0,none⟩) 1 1) 22 1 1 (List.map vU32 [(conN con)]),.row (.slice (some ⟨b31,0,none⟩) 1 1) 22 1 1 (List.map vU32 [en]),.row (.slice (some ⟨b33,0,none⟩) 1 1) 22 1 1 (List.map vU32 [(UInt32.ofNat sg.length)])]) (fun (i,x)=>sg.length-i) (0,v34) ⟨Nat.zero_le _,(Own.rowEqN (i:=2) (f:=vU8) H35 rfl (List.append_nil _).symm (congrArg List.length (List.append_nil _).symm))⟩ ⟨rfl,rfl,rfl,rfl,rfl,trivial⟩ ?_)))
 rintro ⟨i,x⟩ w36 ⟨hi1,H36⟩
 show WC _ _ _ _ _ [(1,(ptr b1 0)),(5,(ptr b4 0)),(86,sv),(87,(vN sg.length)),(88,(vN i))] _
 have hq3:=imP3_len pg xs ps con en sg
 have hqs:=putS_len bb i
 have hqb:=getS_mem bb i
 have hn1:=numE_len (sg.getD i Sg.zero).a 4
 have hn2:=numE_len (UInt32.ofNat (sg.getD i Sg.zero).p.toNat) 1
 have hn3:=numE_len (UInt32.ofNat (sg.getD i Sg.zero).b.length) 4
 refine ws<|wo (op_lssN rfl rfl<|wn<|WC.seq (wE (i<sg.length) (fun hb37 hc37=>?_) (fun hb37 hc37=>?_)))
 ·
  refine WC.skip<|WQ.next<|WC.seq<|WC.block<|ws<|wo (op_indexAddr Tryz.underlying41 Fa.I116 rfl (H36.arr hS) rfl (by omega)<|wo (op_loadSP (vs:=sgc (sg.getD i Sg.zero)) rfl (Arr.atsF (H36.arr hS) (fun _=>rfl) (by decide) Sg.zero (by omega)) Tryz.underlying116 rfl Fa.I116 rfl<|wo (op_alloc H36 Fa.I116 (fun b38 w38 H38=>(wo (op_storeBW (i:=9) H38 rfl rfl rfl rfl rfl Fa.I116 (fun w39 H39=>(wn<|ws<|wo (op_fieldAddr rfl Fa.F116_0<|wo (op_load rfl (H39.cell (i:=9) rfl rfl) Tryz.underlying22 rfl<|wo (op_buildSlice (cs:=[_]) H39 Tryz.underlying73 Fa.I22 rfl rfl rfl rfl (by decide) (by decide) (fun b40 w40 H40=>(wo (op_callF Fa.C156 rfl ((nums1_ok b4 x (.slice (some ⟨b40,0,none⟩) 1 1) ((imP3 pg xs ps con en sg)++putS sg i).length ((imP3 pg xs ps con en sg)++putS sg i) ((sg.getD i Sg.zero).a) 4 _ _ (H40.part [1,2] rfl rfl) (H40.stayR (I:=[1,2]) (k:=10) rfl rfl rfl) (by (try simp only [List.length_append]); omega)).mono (fun e w41 hq=>?_))))))))))))))))
  obtain ⟨v41,rfl,hq41⟩:=hq
  refine ⟨_,rfl,?_⟩
  have H41:=H40.splice [1,2] [.blk b4 [(ptr b4 0),v41] 249,.row v41 5 1 (((imP3 pg xs ps con en sg)++putS sg i)++(numS ((sg.getD i Sg.zero).a) 4)).length (List.map vU8 (((imP3 pg xs ps con en sg)++putS sg i)++(numS ((sg.getD i Sg.zero).a) 4)))] [] rfl rfl hq41 (Fits.solid True.intro (Fits.solid True.intro Fits.nil))
  refine wn<|ws<|wo (op_fieldAddr rfl Fa.F116_1<|wo (op_load rfl (H41.cell (i:=9) rfl rfl) Tryz.underlying5 rfl<|wo (op_convU8U32 (hs:=Tryz.underlying5) (hd:=Tryz.underlying22) rfl<|wo (op_buildSlice (cs:=[_]) H41 Tryz.underlying73 Fa.I22 rfl rfl rfl rfl (by decide) (by decide) (fun b42 w42 H42=>(wo (op_callF Fa.C156 rfl ((nums1_ok b4 v41 (.slice (some ⟨b42,0,none⟩) 1 1) (((imP3 pg xs ps con en sg)++putS sg i)++(numS ((sg.getD i Sg.zero).a) 4)).length (((imP3 pg xs ps con en sg)++putS sg i)++(numS ((sg.getD i Sg.zero).a) 4)) (UInt32.ofNat (sg.getD i Sg.zero).p.toNat) 1 _ _ (H42.part [1,2] rfl rfl) (H42.stayR (I:=[1,2]) (k:=11) rfl rfl rfl) (by have:=numE_len ((sg.getD i Sg.zero).a) 4; (try simp only [List.length_append]); omega)).mono (fun e w43 hq=>?_)))))))))
  obtain ⟨v43,rfl,hq43⟩:=hq
  refine ⟨_,rfl,?_⟩
  have H43:=H42.splice [1,2] [.blk b4 [(ptr b4 0),v43] 249,.row v43 5 1 ((((imP3 pg xs ps con en sg)++putS sg i)++(numS ((sg.getD i Sg.zero).a) 4))++(numS (UInt32.ofNat (sg.getD i Sg.zero).p.toNat) 1)).length (List.map vU8 ((((imP3 pg xs ps con en sg)++putS sg i)++(numS ((sg.getD i Sg.zero).a) 4))++(numS (UInt32.ofNat (sg.getD i Sg.zero).p.toNat) 1)))] [] rfl rfl hq43 (Fits.solid True.intro (Fits.solid True.intro Fits.nil))
  refine wn<|ws<|wo (op_fieldAddr rfl Fa.F116_2<|wo (op_load rfl (H43.cell (i:=9) rfl rfl) Tryz.underlying9 rfl<|wo (op_lenStr Tryz.underlying9 rfl<|wo (op_convNU32 (hs:=Tryz.underlying3) (hd:=Tryz.underlying22) rfl<|wo (op_buildSlice (cs:=[_]) H43 Tryz.underlying73 Fa.I22 rfl rfl rfl rfl (by decide) (by decide) (fun b44 w44 H44=>(wo (op_callF Fa.C156 rfl ((nums1_ok b4 v43 (.slice (some ⟨b44,0,none⟩) 1 1) ((((imP3 pg xs ps con en sg)++putS sg i)++(numS ((sg.getD i Sg.zero).a) 4))++(numS (UInt32.ofNat (sg.getD i Sg.zero).p.toNat) 1)).length ((((imP3 pg xs ps con en sg)++putS sg i)++(numS ((sg.getD i Sg.zero).a) 4))++(numS (UInt32.ofNat (sg.getD i Sg.zero).p.toNat) 1)) (UInt32.ofNat (sg.getD i Sg.zero).b.length) 4 _ _ (H44.part [1,2] rfl rfl) (H44.stayR (I:=[1,2]) (k:=12) rfl rfl rfl) (by have:=numE_len ((sg.getD i Sg.zero).a) 4; have:=numE_len (UInt32.ofNat (sg.getD i Sg.zero).p.toNat) 1; (try simp only [List.length_append]); omega)).mono (fun e w45 hq=>?_))))))))))
  obtain ⟨v45,rfl,hq45⟩:=hq
  refine ⟨_,rfl,?_⟩
  have H45:=H44.splice [1,2] [.blk b4 [(ptr b4 0),v45] 249,.row v45 5 1 (((((imP3 pg xs ps con en sg)++putS sg i)++(numS ((sg.getD i Sg.zero).a) 4))++(numS (UInt32.ofNat (sg.getD i Sg.zero).p.toNat) 1))++(numS (UInt32.ofNat (sg.getD i Sg.zero).b.length) 4)).length (List.map vU8 (((((imP3 pg xs ps con en sg)++putS sg i)++(numS ((sg.getD i Sg.zero).a) 4))++(numS (UInt32.ofNat (sg.getD i Sg.zero).p.toNat) 1))++(numS (UInt32.ofNat (sg.getD i Sg.zero).b.length) 4)))] [] rfl rfl hq45 (Fits.solid True.intro (Fits.solid True.intro Fits.nil))
  refine wn<|WC.region<|wo (op_fieldAddr rfl Fa.F249_0<|wo (op_fieldAddr rfl Fa.F116_2<|wo (op_load rfl (H45.cell (i:=9) rfl rfl) Tryz.underlying9 rfl<|wo (op_callF Fa.C106 rfl ((qws_ok b4 (ptr b4 0) v45 (((((imP3 pg xs ps con en sg)++putS sg i)++(numS ((sg.getD i Sg.zero).a) 4))++(numS (UInt32.ofNat (sg.getD i Sg.zero).p.toNat) 1))++(numS (UInt32.ofNat (sg.getD i Sg.zero).b.length) 4)).length (((((imP3 pg xs ps con en sg)++putS sg i)++(numS ((sg.getD i Sg.zero).a) 4))++(numS (UInt32.ofNat (sg.getD i Sg.zero).p.toNat) 1))++(numS (UInt32.ofNat (sg.getD i Sg.zero).b.length) 4)) ((sg.getD i Sg.zero).b) 249 _ _ (H45.part [1,2] rfl rfl) (.inr rfl) Fa.CO249 Fa.LI249_175 (by first | (show 0+4<2^46; decide) | (simp only [List.length_append]; omega))).mono (fun e w46 hq=>?_))))))
  obtain ⟨v46,rfl,hq46⟩:=hq
  refine ⟨_,rfl,?_⟩
  have H46:=H45.splice [1,2] [.blk b4 [(ptr b4 0),v46] 249,.row v46 5 1 ((((((imP3 pg xs ps con en sg)++putS sg i)++(numS ((sg.getD i Sg.zero).a) 4))++(numS (UInt32.ofNat (sg.getD i Sg.zero).p.toNat) 1))++(numS (UInt32.ofNat (sg.getD i Sg.zero).b.length) 4)).length+(sg.getD i Sg.zero).b.length) (List.map vU8 ((((((imP3 pg xs ps con en sg)++putS sg i)++(numS ((sg.getD i Sg.zero).a) 4))++(numS (UInt32.ofNat (sg.getD i Sg.zero).p.toNat) 1))++(numS (UInt32.ofNat (sg.getD i Sg.zero).b.length) 4))++(sg.getD i Sg.zero).b))] [] rfl rfl hq46 (Fits.solid True.intro (Fits.solid True.intro Fits.nil))
  exact WL.nil<|WQ.inNormal<|WQ.next<|WC.region<|wo (op_addN (b:=1) rfl rfl (by omega)<|wm rfl<|WL.nil<|WQ.round (i+1,v46) ⟨(by omega),(by have h:=(show Owl.Own [] w w46 [.blk b1 [(vU32 pg),ev,pv,(.bool con),(vU32 en),sv] 43,.blk b4 [(ptr b4 0),v46] 249,.row v46 5 1 ((((((imP3 pg xs ps con en sg)++putS sg i)++(numS ((sg.getD i Sg.zero).a) 4))++(numS (UInt32.ofNat (sg.getD i Sg.zero).p.toNat) 1))++(numS (UInt32.ofNat (sg.getD i Sg.zero).b.length) 4)).length+(sg.getD i Sg.zero).b.length) (List.map vU8 ((((((imP3 pg xs ps con en sg)++putS sg i)++(numS ((sg.getD i Sg.zero).a) 4))++(numS (UInt32.ofNat (sg.getD i Sg.zero).p.toNat) 1))++(numS (UInt32.ofNat (sg.getD i Sg.zero).b.length) 4))++(sg.getD i Sg.zero).b)),.row (.slice (some ⟨b7,0,none⟩) 1 1) 22 1 1 (List.map vU32 [pg]),.row (.slice (some ⟨b9,0,none⟩) 1 1) 22 1 1 (List.map vU32 [(UInt32.ofNat xs.length)]),.row (.slice (some ⟨b20,0,none⟩) 1 1) 22 1 1 (List.map vU32 [(UInt32.ofNat ps.length)]),.row (.slice (some ⟨b29,0,none⟩) 1 1) 22 1 1 (List.map vU32 [(conN con)]),.row (.slice (some ⟨b31,0,none⟩) 1 1) 22 1 1 (List.map vU32 [en]),.row (.slice (some ⟨b33,0,none⟩) 1 1) 22 1 1 (List.map vU32 [(UInt32.ofNat sg.length)])] from (H46.take 9)); exact Own.rowEqN (i:=2) (f:=vU8) h rfl (by simp only [putS,List.append_assoc]) (by simp only [putS,List.append_assoc,List.length_append]; try omega))⟩ ⟨rfl,rfl,rfl,rfl,rfl,trivial⟩ (by show sg.length-(i+1)<sg.length-i; omega))
 refine WC.exit<|WQ.thenExit<|WQ.thenExit<|WQ.inHere<|WQ.next<|ws<|wo (op_fieldAddr rfl Fa.F249_0<|wo (op_callF Fa.C109 rfl ((qbstr_ok b4 (ptr b4 0) x ((imP3 pg xs ps con en sg)++putS sg i).length ((imP3 pg xs ps con en sg)++putS sg i) 249 _ _ (H36.part [1,2] rfl rfl) (.inr (imP3_ne _ _ _ _ _ _ _))).mono (fun e w47 hq=>?_))))
 obtain ⟨rfl,hq47⟩:=hq
 refine ⟨_,rfl,?_⟩
 have H47:=H36.rest (I:=[1,2]) (J:=[0,3,4,5,6,7,8]) rfl rfl rfl rfl hq47
 refine wa rfl<|wa rfl<|wn<|WC.ret<|WQ.out (.tmp rfl (.tmp rfl .nil)) ?_
 obtain rfl:i=sg.length:=by omega
 rw [imB,if_pos (Decidable.not_not.mp hc3),Decidable.not_not.mp hc3]
 exact ⟨rfl,H47.fr⟩
theorem copy11_ok (pg:UInt32) (ev pv:Value) (xs:List Xt) (ps:List UInt16) (con:Bool) (w:World) (hE:Arr w ev 2 xs.length (List.flatMap xtc xs)) (hP:Arr w pv 1 ps.length (List.map vU16 ps)) (hn:xs.length * 8≤140737488355328) (hm:ps.length * 2≤140737488355328) :
  Calls Tryz.prog 56 #[(.agg #[(vU32 pg),ev,pv,(.bool con)])] w (fun e w'=> ∃v u,e=.returned (.agg #[vU32 pg,v,u,.bool con])∧Owl.Own [] w w' [.row v 207 2 xs.length (List.flatMap xtc xs),.row u 203 1 ps.length (List.map vU16 ps)]):=by
 refine enter Tryz.func56 rfl rfl ?_
 have H0:=Own.start w []
 refine ws<|wo (op_box H0 rfl rfl (fun b1 w1 H1=>(wo (op_alloc H1 Fa.I40 (fun b2 w2 H2=>(wn<|ws<|wo (op_fieldAddr rfl Fa.F40_1<|wo (op_load rfl (H2.cell (i:=0) rfl rfl) Tryz.underlying37 rfl ?_))))))))
 have H4:=H2.nilRow 207 2
 refine wo (op_appendF (f:=xtc) (l:=[]) (l':=xs) (i:=2) H4 Tryz.underlying37 Fa.I207 rfl rfl rfl rfl (Src.ofArr Tryz.underlying37 (H4.arr hE)) (one_flat (fun _=>by simp [xtc,Value.oneCell'])) (by omega) (by omega) (fun v3 w3 H3=>(wo (op_fieldAddr rfl Fa.F40_1<|wo (op_storeB (i:=0) H3 rfl rfl rfl rfl (Arr.one (H3.arrR (i:=2) rfl)) Fa.I37 (fun w5 H5=>(wn<|ws<|wo (op_fieldAddr rfl Fa.F40_2<|wo (op_load rfl (H5.cell (i:=0) rfl rfl) Tryz.underlying38 rfl ?_)))))))))
 have H7:=H5.nilRow 203 1
 exact wo (op_appendM (f:=vU16) (l:=[]) (l':=ps) (i:=3) H7 Tryz.underlying38 Fa.I203 rfl rfl rfl rfl (Src.ofArr Tryz.underlying38 (H7.arr hP)) (one_mapM (fun _=>rfl)) (by omega) (by omega) (fun v6 w6 H6=>(wo (op_fieldAddr rfl Fa.F40_2<|wo (op_storeB (i:=0) H6 rfl rfl rfl rfl (Arr.one (H6.arrR (i:=3) rfl)) Fa.I38 (fun w8 H8=>(wn<|ws<|wo (op_loadS (vs:=[_,_,_,_]) rfl (H8.cells (i:=0) rfl rfl) Tryz.underlying40 rfl Fa.I40 rfl<|wo (op_storeBW (i:=1) H8 rfl rfl rfl rfl (one_cons rfl (one_cons (Arr.one (H8.arrR (i:=2) rfl)) (one_cons (Arr.one (H8.arrR (i:=3) rfl)) (one_cons rfl one_nil)))) Fa.I40 (fun w9 H9=>(wn<|WC.ret<|WQ.out (.cell rfl (run_loadVarS (vs:=[_,_,_,_]) (H9.cells (i:=1) rfl rfl) Tryz.underlying40 rfl Fa.I40 rfl) .nil) (⟨_,_,rfl,(by have h:=(show Owl.Own [] w w9 [.blk b1 [(vU32 pg),v3,v6,(.bool con)] 40,.blk b2 [(vU32 pg),v3,v6,(.bool con)] 40,.row v3 207 2 (0+xs.length) (List.flatMap xtc ([]++xs)),.row v6 203 1 (0+ps.length) (List.map vU16 ([]++ps))] from H9); have h2:=Own.sel h [2,3] rfl rfl; simp only [Nat.zero_add,List.nil_append] at h2; exact h2)⟩))))))))))))
theorem copy16_ok (pg:UInt32) (ev pv sv:Value) (xs:List Xt) (ps:List UInt16) (con:Bool) (en:UInt32) (sg:List Sg) (w:World) (hE:Arr w ev 2 xs.length (List.flatMap xtc xs)) (hP:Arr w pv 1 ps.length (List.map vU16 ps)) (hS:Arr w sv 3 sg.length (List.flatMap sgc sg)) (hn:xs.length * 8≤140737488355328) (hm:ps.length * 2≤140737488355328) (hk:sg.length * 24≤140737488355328) :
  Calls Tryz.prog 19 #[(.agg #[(vU32 pg),ev,pv,(.bool con),(vU32 en),sv])] w (fun e w'=> ∃v u q,e=.returned (.agg #[vU32 pg,v,u,.bool con,vU32 en,q])∧Owl.Own [] w w' [.row v 207 2 xs.length (List.flatMap xtc xs),.row u 203 1 ps.length (List.map vU16 ps),.row q 116 3 sg.length (List.flatMap sgc sg)]):=by
 refine enter Tryz.func19 rfl rfl ?_
 have H0:=Own.start w []
 refine ws<|wo (op_box H0 rfl rfl (fun b1 w1 H1=>(wo (op_alloc H1 Fa.I43 (fun b2 w2 H2=>(wn<|ws<|wo (op_fieldAddr rfl Fa.F43_0<|wo (op_loadS (vs:=[_,_,_,_]) rfl (H2.cells (i:=0) rfl rfl) Tryz.underlying40 rfl Fa.I40 rfl<|wo (op_callF Fa.C56 rfl ((copy11_ok pg _ _ xs ps con _ (H2.arr hE) (H2.arr hP) (by omega) (by omega)).mono (fun e w3 hq=>?_)))))))))))
 obtain ⟨v3,u3,rfl,hq3⟩:=hq
 refine ⟨_,rfl,?_⟩
 have H3:=H2.splice [] [] [.row v3 207 2 xs.length (List.flatMap xtc xs),.row u3 203 1 ps.length (List.map vU16 ps)] rfl rfl hq3 (Fits.solid True.intro (Fits.solid True.intro Fits.nil))
 refine wo (op_fieldAddr rfl Fa.F43_0<|wo (op_storeBS (i:=0) (vs:=[_,_,_,_]) H3 rfl rfl rfl rfl (one_cons rfl (one_cons (Arr.one (H3.arrR (i:=2) rfl)) (one_cons (Arr.one (H3.arrR (i:=3) rfl)) (one_cons rfl one_nil)))) Fa.I40 (fun w4 H4=>(wn<|ws<|wo (op_fieldAddr rfl Fa.F43_2<|wo (op_load rfl (H4.cell (i:=0) rfl rfl) Tryz.underlying41 rfl ?_))))))
 have H6:=H4.nilRow 116 3
 exact wo (op_appendF (f:=sgc) (l:=[]) (l':=sg) (i:=4) H6 Tryz.underlying41 Fa.I116 rfl rfl rfl rfl (Src.ofArr Tryz.underlying41 (H6.arr hS)) (one_flat (fun _=>by simp [sgc,Value.oneCell'])) (by omega) (by omega) (fun v5 w5 H5=>(wo (op_fieldAddr rfl Fa.F43_2<|wo (op_storeB (i:=0) H5 rfl rfl rfl rfl (Arr.one (H5.arrR (i:=4) rfl)) Fa.I41 (fun w7 H7=>(wn<|ws<|wo (op_loadS (vs:=[_,_,_,_,_,_]) rfl (H7.cells (i:=0) rfl rfl) Tryz.underlying43 rfl Fa.I43 rfl<|wo (op_storeBW (i:=1) H7 rfl rfl rfl rfl (one_cons rfl (one_cons (Arr.one (H7.arrR (i:=2) rfl)) (one_cons (Arr.one (H7.arrR (i:=3) rfl)) (one_cons rfl (one_cons rfl (one_cons (Arr.one (H7.arrR (i:=4) rfl)) one_nil)))))) Fa.I43 (fun w8 H8=>(wn<|WC.ret<|WQ.out (.cell rfl (run_loadVarS (vs:=[_,_,_,_,_,_]) (H8.cells (i:=1) rfl rfl) Tryz.underlying43 rfl Fa.I43 rfl) .nil) (⟨_,_,_,rfl,(by have h:=(show Owl.Own [] w w8 [.blk b1 [(vU32 pg),v3,u3,(.bool con),(vU32 en),v5] 43,.blk b2 [(vU32 pg),v3,u3,(.bool con),(vU32 en),v5] 43,.row v3 207 2 xs.length (List.flatMap xtc xs),.row u3 203 1 ps.length (List.map vU16 ps),.row v5 116 3 (0+sg.length) (List.flatMap sgc ([]++sg))] from H8); have h2:=Own.sel h [2,3,4] rfl rfl; simp only [Nat.zero_add,List.nil_append] at h2; exact h2)⟩))))))))))))
theorem ipgs_ok (pg:UInt32) (ev pv sv:Value) (xs:List Xt) (ps:List UInt16) (con:Bool) (en:UInt32) (sg:List Sg) (w:World) (hE:Arr w ev 2 xs.length (List.flatMap xtc xs)) (hP:Arr w pv 1 ps.length (List.map vU16 ps)) (hS:Arr w sv 3 sg.length (List.flatMap sgc sg)) (hn:xs.length<2^47) (hm:ps.length<2^47) (hk:sg.length<2^47) (hB: ∀x∈sg,x.b.length≤2^30) (hs:sg.length≤2^20) :
  Calls Tryz.prog 87 #[(.agg #[(vU32 pg),ev,pv,(.bool con),(vU32 en),sv])] w (fun e w'=> ∃v,e=.returned v∧Owl.Own [] w w' [.row v 22 1 (if imE pg xs ps en sg=0 then pagesTo sg sg.length else []).length (List.map vU32 (if imE pg xs ps en sg=0 then pagesTo sg sg.length else []))]):=by
 refine enter Tryz.func87 rfl rfl ?_
 have H0:=Own.start w []
 refine ws<|wo (op_box H0 rfl rfl (fun b1 w1 H1=>(wa rfl ?_)))
 have H2:=H1.nilRow 22 1
 refine wn<|WC.seq<|ws<|wo (op_loadS (vs:=[_,_,_,_,_,_]) rfl (H2.cells (i:=0) rfl rfl) Tryz.underlying43 rfl Fa.I43 rfl<|wo (cq H2 Fa.C41 rfl (icheck_ok pg _ _ _ xs ps con en sg _ (H2.arr hE) (H2.arr hP) (H2.arr hS) (by omega) (by omega) (by omega)) fun w3 H3=>(wo (op_neqN (b:=0) rfl rfl<|wn (wE ((imE pg xs ps en sg)≠0) (fun hb4 hc4=>?_) (fun hb4 hc4=>?_))))))
 ·
  refine ws<|wa rfl<|wn<|WC.ret<|WQ.thenRet<|WQ.out (.tmp rfl .nil) ?_
  rw [if_neg hc4]
  exact ⟨_,rfl,(H3.nilRow 22 1).sel [2] rfl rfl⟩
 have him:imE pg xs ps en sg=0:=Decidable.not_not.mp hc4
 refine WC.skip<|WQ.next<|WC.seq<|ws<|wo (op_fieldAddr rfl Fa.F43_2<|wo (op_load rfl (H3.cell (i:=0) rfl rfl) Tryz.underlying41 rfl<|wo (op_lenA Tryz.underlying41 rfl (H3.arr hS)<|wm rfl<|wn<|WC.block<|WC.loop (α:=Nat × Value) (fun (k,q)=>[(1,(ptr b1 0)),(2,q),(10,sv),(11,(vN sg.length)),(12,(vN k))]) (fun (k,q) w'=>(k≤sg.length)∧Owl.Own [] w w' [.blk b1 [(vU32 pg),ev,pv,(.bool con),(vU32 en),sv] 43,.row q 22 1 (pagesTo sg k).length (List.map vU32 (pagesTo sg k))]) (fun (k,q)=>sg.length-k) (0,(.slice none 0 0)) ⟨Nat.zero_le _,H3⟩ ⟨rfl,rfl,rfl,rfl,rfl,trivial⟩ ?_)))
 rintro ⟨k,q⟩ w5 ⟨hk1,H5⟩
 show WC _ _ _ _ _ [(1,(ptr b1 0)),(2,q),(10,sv),(11,(vN sg.length)),(12,(vN k))] _
 have hpl:=pagesTo_len hB k
 have hgb:=getS_mem hB k
 have hpg:pgN (sg.getD k Sg.zero)=((sg.getD k Sg.zero).b.length+255) / 256:=rfl
 refine ws<|wo (op_lssN rfl rfl<|wn<|WC.seq (wE (k<sg.length) (fun hb6 hc6=>?_) (fun hb6 hc6=>?_)))
 ·
  refine WC.skip<|WQ.next<|WC.seq<|WC.block<|ws<|wo (op_indexAddr Tryz.underlying41 Fa.I116 rfl (H5.arr hS) rfl (by omega)<|wo (op_loadSP (vs:=sgc (sg.getD k Sg.zero)) rfl (Arr.atsF (H5.arr hS) (fun _=>rfl) (by decide) Sg.zero (by omega)) Tryz.underlying116 rfl Fa.I116 rfl<|wo (op_alloc H5 Fa.I116 (fun b7 w7 H7=>(wo (op_storeBW (i:=2) H7 rfl rfl rfl rfl rfl Fa.I116 (fun w8 H8=>(wn<|ws<|wo (op_fieldAddr rfl Fa.F116_0<|wo (op_load rfl (H8.cell (i:=2) rfl rfl) Tryz.underlying22 rfl<|wo (op_convU32U64 (hs:=Tryz.underlying22) (hd:=Tryz.underlying154) rfl<|wa rfl<|wn<|WC.block<|WC.loop (α:=Nat × Value) (fun (j,r)=>[(1,(ptr b1 0)),(2,r),(4,(ptr b7 0)),(5,(vU64 (UInt64.ofNat ((sg.getD k Sg.zero).a.toNat+256 * j)))),(10,sv),(11,(vN sg.length)),(12,(vN k))]) (fun (j,r) w'=>(j≤pgN (sg.getD k Sg.zero))∧Owl.Own [] w w' [.blk b1 [(vU32 pg),ev,pv,(.bool con),(vU32 en),sv] 43,.row r 22 1 (pagesTo sg k++pgL (sg.getD k Sg.zero) j).length (List.map vU32 (pagesTo sg k++pgL (sg.getD k Sg.zero) j)),.blk b7 [(vU32 (sg.getD k Sg.zero).a),(vU8 (sg.getD k Sg.zero).p),(str (sg.getD k Sg.zero).b)] 116]) (fun (j,r)=>pgN (sg.getD k Sg.zero)-j) (0,q) ⟨Nat.zero_le _,(Own.rowEqN (i:=1) (f:=vU32) H8 rfl (List.append_nil _).symm (congrArg List.length (List.append_nil _).symm))⟩ ⟨rfl,rfl,rfl,rfl,rfl,rfl,rfl,trivial⟩ ?_)))))))))))
  rintro ⟨j,r⟩ w9 ⟨hj1,H9⟩
  show WC _ _ _ _ _ [(1,(ptr b1 0)),(2,r),(4,(ptr b7 0)),(5,(vU64 (UInt64.ofNat ((sg.getD k Sg.zero).a.toNat+256 * j)))),(10,sv),(11,(vN sg.length)),(12,(vN k))] _
  have hnb:=im_all him k (by omega)
  have hlt:=pg_lt hnb (by omega) hj1
  have hpj:(pagesTo sg k++pgL (sg.getD k Sg.zero) j).length=(pagesTo sg k).length+j:=by rw [List.length_append,pgL_len]
  have hal:=(sg.getD k Sg.zero).a.toNat_lt
  refine WC.seq<|ws<|wm rfl<|wo (op_loadS (vs:=[_,_,_]) rfl (H9.cells (i:=2) rfl rfl) Tryz.underlying116 rfl Fa.I116 rfl<|wo (cq H9 Fa.C92 rfl (send_ok (sg.getD k Sg.zero) _) fun w10 H10=>(wo (op_lssU64 rfl rfl<|wn (wE ((UInt64.ofNat ((sg.getD k Sg.zero).a.toNat+256 * j))<(sgEnd (sg.getD k Sg.zero))) (fun hb11 hc11=>?_) (fun hb11 hc11=>?_))))))
  ·
   exact WC.skip<|WQ.next<|WC.seq<|WC.block<|WC.region<|wm rfl<|wm rfl<|wo (op_convU64U32 (hs:=Tryz.underlying154) (hd:=Tryz.underlying22) rfl<|wo (op_buildSlice (cs:=[_]) H10 Tryz.underlying73 Fa.I22 rfl rfl rfl rfl (by decide) (by decide) (fun b12 w12 H12=>(wo (op_appendM (f:=vU32) (l:=(pagesTo sg k++pgL (sg.getD k Sg.zero) j)) (l':=[(UInt32.ofNat (UInt64.ofNat ((sg.getD k Sg.zero).a.toNat+256 * j)).toNat)]) (i:=1) H12 Tryz.underlying73 Fa.I22 rfl rfl rfl rfl (Src.ofArr Tryz.underlying73 (H12.arrR (i:=3) rfl)) (one_mapM (fun _=>rfl)) (by omega) (by omega) (fun v13 w13 H13=>(wa rfl<|WL.nil<|WQ.inNormal<|WQ.next<|WC.region<|wm rfl<|wo (op_addU64 (b:=256) rfl rfl<|wa rfl<|WL.nil<|WQ.round (j+1,v13) ⟨(by have:=hlt.1 hc11; omega),(Own.rowEqN (i:=1) (f:=vU32) (show Owl.Own [] w w13 [.blk b1 [(vU32 pg),ev,pv,(.bool con),(vU32 en),sv] 43,.row v13 22 1 ((pagesTo sg k++pgL (sg.getD k Sg.zero) j).length+1) (List.map vU32 ((pagesTo sg k++pgL (sg.getD k Sg.zero) j)++[(UInt32.ofNat (UInt64.ofNat ((sg.getD k Sg.zero).a.toNat+256 * j)).toNat)])),.blk b7 [(vU32 (sg.getD k Sg.zero).a),(vU8 (sg.getD k Sg.zero).p),(str (sg.getD k Sg.zero).b)] 116] from (H13.take 3)) rfl (by rw [pg_u32 (by omega),List.append_assoc]; rfl) (by simp only [List.length_append,pgL_len]; omega))⟩ ⟨rfl,rfl,rfl,(congrArg (fun n=>some (vU64 n)) (pg_add _ _)),rfl,rfl,rfl,trivial⟩ (by have:=hlt.1 hc11; show pgN (sg.getD k Sg.zero)-(j+1)<pgN (sg.getD k Sg.zero)-j; omega)))))))))
  have hjn:¬256 * j<(sg.getD k Sg.zero).b.length:=fun h=>hc11 (hlt.2 h)
  refine WC.exit<|WQ.thenExit<|WQ.thenExit<|WQ.inHere<|WQ.inNormal<|WQ.next<|WC.region<|wo (op_addN (b:=1) rfl rfl (by omega)<|wm rfl<|WL.nil ?_)
  have hje:j=pgN (sg.getD k Sg.zero):=by omega
  exact WQ.round (k+1,r) ⟨(by omega),(by have h:=(show Owl.Own [] w w10 [.blk b1 [(vU32 pg),ev,pv,(.bool con),(vU32 en),sv] 43,.row r 22 1 (pagesTo sg k++pgL (sg.getD k Sg.zero) j).length (List.map vU32 (pagesTo sg k++pgL (sg.getD k Sg.zero) j))] from (H10.take 2)); rw [hje] at h; exact Own.rowEqN (i:=1) (f:=vU32) h rfl rfl (by rw [pagesTo]))⟩ ⟨rfl,rfl,rfl,rfl,rfl,trivial⟩ (by show sg.length-(k+1)<sg.length-k; omega)
 refine WC.exit<|WQ.thenExit<|WQ.thenExit<|WQ.inHere<|WQ.next<|ws<|wm rfl<|wa rfl<|wn<|WC.ret<|WQ.out (.tmp rfl .nil) ?_
 obtain rfl:k=sg.length:=by omega
 rw [if_pos him]
 exact ⟨_,rfl,H5.sel [1] rfl rfl⟩
theorem inum_ok (q:Nat) (r:Rd) (n:Int) (TR:TypeId) (T:List Nat) (w:World) (H:Owl.Own T w w [.blk q [(str r.s),(vN r.at_),(vN r.f)] TR]) (hr:r.s.length<2^47) :
  Calls Tryz.prog 159 #[(.agg #[(ptr q 0)]),(vI n)] w (fun e w'=>e=.returned (vU32 (numR r n).1.1)∧Owl.Own T w w' [.blk q [str (numR r n).2.s,vN (numR r n).2.at_,vN (numR r n).2.f] TR]):=by
 refine enter Tryz.func159 rfl rfl<|ws<|wo (op_box H rfl rfl (fun b1 w1 H1=>(wa rfl<|wn<|ws<|wo (op_fieldAddr rfl Fa.F254_0<|wo (op_load rfl (H1.cell (i:=1) rfl rfl) Tryz.underlying251 rfl<|wm rfl<|wo (op_callF Fa.C200 rfl ((rdnum_ok q r (n) TR _ _ (H1.part [0] rfl rfl) hr).mono (fun e w2 hq=>?_))))))))
 obtain ⟨rfl,hq2⟩:=hq
 refine ⟨_,rfl,?_⟩
 have H2:=H1.splice [0] [.blk q [(str ((numR r n).2).s),(vN ((numR r n).2).at_),(vN ((numR r n).2).f)] TR] [] rfl rfl hq2 (Fits.solid True.intro Fits.nil)
 exact wm rfl<|we rfl rfl<|we rfl rfl<|wa rfl<|wa rfl<|wn<|ws<|wm rfl<|wa rfl<|wn<|WC.ret<|WQ.out (.tmp rfl .nil) (⟨rfl,H2.take 1⟩)
theorem iseg_ok (q:Nat) (r:Rd) (TR:TypeId) (T:List Nat) (w:World) (H:Owl.Own T w w [.blk q [(str r.s),(vN r.at_),(vN r.f)] TR]) (hr:r.s.length<2^47) :
  Calls Tryz.prog 160 #[(.agg #[(ptr q 0)])] w (fun e w'=>e=.returned (.agg #[vU32 (segR r).1.a,vU8 (segR r).1.p,str (segR r).1.b])∧Owl.Own T w w' [.blk q [str (segR r).2.s,vN (segR r).2.at_,vN (segR r).2.f] TR]):=by
 refine enter Tryz.func160 rfl rfl<|ws<|wo (op_box H rfl rfl (fun b1 w1 H1=>(wo (op_alloc H1 Fa.I116 (fun b2 w2 H2=>(wn<|WC.seq<|WC.drawn 8 rfl Fa.M H2 ?_))))))
 intro w3 H3
 refine WD.named (fun W hW=>?_)
 let a1_0:Ent:=.blk q [(str r.s),(vN r.at_),(vN r.f)] TR
 let a1_1:Ent:=.blk b1 [(ptr q 0)] 254
 let a1_2:Ent:=.blk b2 [(vU32 0),(vU8 0),(str [])] 116
 let a1_3:Ent:=.blk q [(str ((numR r 4).2).s),(vN ((numR r 4).2).at_),(vN ((numR r 4).2).f)] TR
 let a1_4:Ent:=.blk q [(str ((numR ((numR r 4).2) 1).2).s),(vN ((numR ((numR r 4).2) 1).2).at_),(vN ((numR ((numR r 4).2) 1).2).f)] TR
 have st1_18: ∀b14121 wS,Owl.Own T w wS [a1_4,a1_1,a1_2,.blk b14121 [(vU32 (numR r 4).1.1),(vU8 (UInt8.ofNat (numR ((numR r 4).2) 1).1.1.toNat)),(str [])] 116]→W 0 (bz 8 255) [(0,(.agg #[(ptr q 0)])),(1,(ptr b1 0)),(2,(ptr b2 0)),(3,(ptr b14121 0))] wS:=fun b14121 wS HS=>by
  rw [hW]
  refine WD.done (by kernel_rfl)<|WQ.next<|WC.cut (α:=Unit) (fun _=>[(2,(ptr b2 0)),(3,(ptr b14121 0))]) (fun _ w'=>Owl.Own T w w' [.blk q [(str ((segR r).2).s),(vN ((segR r).2).at_),(vN ((segR r).2).f)] TR,.blk b1 [(ptr q 0)] 254,.blk b2 [(vU32 0),(vU8 0),(str [])] 116,.blk b14121 [(vU32 (segR r).1.a),(vU8 (segR r).1.p),(str (segR r).1.b)] 116]) ?_ ?_
  ·
   refine ws<|wo (op_loadS (vs:=[_]) rfl (HS.cells (i:=1) rfl rfl) Tryz.underlying254 rfl Fa.I254 rfl<|wo (op_callF Fa.C159 rfl ((inum_ok q ((numR ((numR r 4).2) 1).2) (4) TR _ _ (HS.part [0] rfl rfl) (by first | with_reducible exact hr | ((repeat rw [numR_s]); with_reducible exact hr))).mono (fun e w5 hq=>?_))))
   obtain ⟨rfl,hq5⟩:=hq
   refine ⟨_,rfl,?_⟩
   have H5:=HS.splice [0] [.blk q [(str ((numR ((numR ((numR r 4).2) 1).2) 4).2).s),(vN ((numR ((numR ((numR r 4).2) 1).2) 4).2).at_),(vN ((numR ((numR ((numR r 4).2) 1).2) 4).2).f)] TR] [] rfl rfl hq5 (Fits.solid True.intro Fits.nil)
   refine wa rfl<|wn<|ws<|wm rfl<|wo (op_leqU32 (b:=131072) rfl rfl<|wn (wE ((numR ((numR ((numR r 4).2) 1).2) 4).1.1≤(131072:UInt32)) (fun hb6 hc6=>?_) (fun hb6 hc6=>?_)))
   ·
    refine WC.region<|wo (op_fieldAddr rfl Fa.F254_0<|wo (op_load rfl (H5.cell (i:=1) rfl rfl) Tryz.underlying251 rfl<|wm rfl<|wo (op_convU32N (hs:=Tryz.underlying22) (hd:=Tryz.underlying3) rfl<|wo (op_callF Fa.C158 rfl ((take_ok q ((numR ((numR ((numR r 4).2) 1).2) 4).2) (((numR ((numR ((numR r 4).2) 1).2) 4).1.1.toNat:Nat)) TR _ _ (H5.part [0] rfl rfl) (by first | with_reducible exact hr | ((repeat rw [numR_s]); with_reducible exact hr))).mono (fun e w7 hq=>?_))))))
    obtain ⟨rfl,hq7⟩:=hq
    refine ⟨_,rfl,?_⟩
    have H7:=H5.splice [0] [.blk q [(str ((takeR ((numR ((numR ((numR r 4).2) 1).2) 4).2) ((numR ((numR ((numR r 4).2) 1).2) 4).1.1.toNat:Nat)).2).s),(vN ((takeR ((numR ((numR ((numR r 4).2) 1).2) 4).2) ((numR ((numR ((numR r 4).2) 1).2) 4).1.1.toNat:Nat)).2).at_),(vN ((takeR ((numR ((numR ((numR r 4).2) 1).2) 4).2) ((numR ((numR ((numR r 4).2) 1).2) 4).1.1.toNat:Nat)).2).f)] TR] [] rfl rfl hq7 (Fits.solid True.intro Fits.nil)
    exact wm rfl<|we rfl rfl<|we rfl rfl<|wo (op_fieldAddr rfl Fa.F116_2<|wo (op_storeB (i:=3) H7 rfl rfl rfl rfl rfl Fa.I9 (fun w8 H8=>(WL.nil<|WQ.here () (by rw [segR_yes hc6]; exact H8) ⟨rfl,rfl,trivial⟩))))
   exact WC.skip<|WQ.here () (by rw [segR_no hc6]; exact H5) ⟨rfl,rfl,trivial⟩
  rintro ⟨⟩ w9 H9
  show WC _ _ _ _ _ [(2,(ptr b2 0)),(3,(ptr b14121 0))] _
  exact ws<|wo (op_loadS (vs:=[_,_,_]) rfl (H9.cells (i:=3) rfl rfl) Tryz.underlying116 rfl Fa.I116 rfl<|wo (op_storeBW (i:=2) H9 rfl rfl rfl rfl rfl Fa.I116 (fun w10 H10=>(wn<|WC.ret<|WQ.out (.cell rfl (run_loadVarS (vs:=[_,_,_]) (H10.cells (i:=2) rfl rfl) Tryz.underlying116 rfl Fa.I116 rfl) .nil) (⟨rfl,H10.take 1⟩)))))
 have st1_17: ∀b14121 wS,Owl.Own T w wS [a1_4,a1_1,a1_2,.blk b14121 [(vU32 0),(vU8 0),(str [])] 116]→W 1 (bz 8 127) [(0,(.agg #[(ptr q 0)])),(1,(ptr b1 0)),(2,(ptr b2 0)),(3,(ptr b14121 0)),(10,(.agg #[(vU32 (numR r 4).1.1),(vU8 (UInt8.ofNat (numR ((numR r 4).2) 1).1.1.toNat)),(str [])]))] wS:=fun b14121 wS HS=>by
  rw [hW]
  exact wd1 7<|kS 7 rfl (op_storeBW (i:=3) HS rfl rfl rfl rfl rfl Fa.I116 (fun w14141 H14141=>(WD.cw hW (st1_18 b14121 w14141 H14141))))
 have st1_15: ∀wS,Owl.Own T w wS [a1_4,a1_1,a1_2]→W 2 (bz 8 63) [(0,(.agg #[(ptr q 0)])),(1,(ptr b1 0)),(2,(ptr b2 0)),(10,(.agg #[(vU32 (numR r 4).1.1),(vU8 (UInt8.ofNat (numR ((numR r 4).2) 1).1.1.toNat)),(str [])]))] wS:=fun wS HS=>by
  rw [hW]
  exact wd1 6<|kS 6 rfl (op_alloc HS Fa.I116 (fun b14121 w14121 H14121=>(WD.cw hW (st1_17 b14121 w14121 H14121))))
 have st1_16: ∀b14121 wS,Owl.Own T w wS [a1_4,a1_1,a1_2,.blk b14121 [(vU32 0),(vU8 0),(str [])] 116]→W 2 (bz 8 95) [(0,(.agg #[(ptr q 0)])),(1,(ptr b1 0)),(2,(ptr b2 0)),(3,(ptr b14121 0)),(6,(vU32 (numR r 4).1.1)),(9,(vU8 (UInt8.ofNat (numR ((numR r 4).2) 1).1.1.toNat)))] wS:=fun b14121 wS HS=>by
  rw [hW]
  exact wd1 5<|kS 5 rfl (op_build (cs:=[_,_,_]) Fa.I116 Fa.PL116 rfl rfl<|WD.cw hW (st1_17 b14121 wS HS))
 have st1_13: ∀wS,Owl.Own T w wS [a1_4,a1_1,a1_2]→W 3 (bz 8 31) [(0,(.agg #[(ptr q 0)])),(1,(ptr b1 0)),(2,(ptr b2 0)),(6,(vU32 (numR r 4).1.1)),(9,(vU8 (UInt8.ofNat (numR ((numR r 4).2) 1).1.1.toNat)))] wS:=fun wS HS=>by
  rw [hW]
  refine wd2 5 6 ?_ ?_
  ·
   exact kS 5 rfl (op_build (cs:=[_,_,_]) Fa.I116 Fa.PL116 rfl rfl<|WD.cw hW (st1_15 wS HS))
  exact kS 6 rfl (op_alloc HS Fa.I116 (fun b14121 w14121 H14121=>(WD.cw hW (st1_16 b14121 w14121 H14121))))
 have st1_14: ∀b14121 wS,Owl.Own T w wS [a1_4,a1_1,a1_2,.blk b14121 [(vU32 0),(vU8 0),(str [])] 116]→W 3 (bz 8 79) [(0,(.agg #[(ptr q 0)])),(1,(ptr b1 0)),(2,(ptr b2 0)),(3,(ptr b14121 0)),(6,(vU32 (numR r 4).1.1)),(8,(vU32 (numR ((numR r 4).2) 1).1.1))] wS:=fun b14121 wS HS=>by
  rw [hW]
  exact wd1 4<|kS 4 rfl (op_convU32U8 (hs:=Tryz.underlying22) (hd:=Tryz.underlying5) rfl<|WD.cw hW (st1_16 b14121 wS HS))
 have st1_11: ∀wS,Owl.Own T w wS [a1_4,a1_1,a1_2]→W 4 (bz 8 15) [(0,(.agg #[(ptr q 0)])),(1,(ptr b1 0)),(2,(ptr b2 0)),(6,(vU32 (numR r 4).1.1)),(8,(vU32 (numR ((numR r 4).2) 1).1.1))] wS:=fun wS HS=>by
  rw [hW]
  refine wd2 4 6 ?_ ?_
  ·
   exact kS 4 rfl (op_convU32U8 (hs:=Tryz.underlying22) (hd:=Tryz.underlying5) rfl<|WD.cw hW (st1_13 wS HS))
  exact kS 6 rfl (op_alloc HS Fa.I116 (fun b14121 w14121 H14121=>(WD.cw hW (st1_14 b14121 w14121 H14121))))
 have st1_12: ∀b14121 wS,Owl.Own T w wS [a1_3,a1_1,a1_2,.blk b14121 [(vU32 0),(vU8 0),(str [])] 116]→W 4 (bz 8 71) [(0,(.agg #[(ptr q 0)])),(1,(ptr b1 0)),(2,(ptr b2 0)),(3,(ptr b14121 0)),(6,(vU32 (numR r 4).1.1)),(7,(.agg #[(ptr q 0)]))] wS:=fun b14121 wS HS=>by
  rw [hW]
  refine wd1 3<|kS 3 rfl (op_callF Fa.C159 rfl ((inum_ok q ((numR r 4).2) (1) TR _ _ (HS.part [0] rfl rfl) (by first | with_reducible exact hr | ((repeat rw [numR_s]); with_reducible exact hr))).mono (fun e w14061 hq=>?_)))
  obtain ⟨rfl,hq14061⟩:=hq
  refine ⟨_,rfl,?_⟩
  have H14061:=HS.splice [0] [.blk q [(str ((numR ((numR r 4).2) 1).2).s),(vN ((numR ((numR r 4).2) 1).2).at_),(vN ((numR ((numR r 4).2) 1).2).f)] TR] [] rfl rfl hq14061 (Fits.solid True.intro Fits.nil)
  exact WD.cw hW (st1_14 b14121 w14061 H14061)
 have st1_8: ∀wS,Owl.Own T w wS [a1_3,a1_1,a1_2]→W 5 (bz 8 7) [(0,(.agg #[(ptr q 0)])),(1,(ptr b1 0)),(2,(ptr b2 0)),(6,(vU32 (numR r 4).1.1)),(7,(.agg #[(ptr q 0)]))] wS:=fun wS HS=>by
  rw [hW]
  refine wd2 3 6 ?_ ?_
  ·
   refine kS 3 rfl (op_callF Fa.C159 rfl ((inum_ok q ((numR r 4).2) (1) TR _ _ (HS.part [0] rfl rfl) (by first | with_reducible exact hr | ((repeat rw [numR_s]); with_reducible exact hr))).mono (fun e w14061 hq=>?_)))
   obtain ⟨rfl,hq14061⟩:=hq
   refine ⟨_,rfl,?_⟩
   have H14061:=HS.splice [0] [.blk q [(str ((numR ((numR r 4).2) 1).2).s),(vN ((numR ((numR r 4).2) 1).2).at_),(vN ((numR ((numR r 4).2) 1).2).f)] TR] [] rfl rfl hq14061 (Fits.solid True.intro Fits.nil)
   exact WD.cw hW (st1_11 w14061 H14061)
  exact kS 6 rfl (op_alloc HS Fa.I116 (fun b14121 w14121 H14121=>(WD.cw hW (st1_12 b14121 w14121 H14121))))
 have st1_9: ∀b14121 wS,Owl.Own T w wS [a1_3,a1_1,a1_2,.blk b14121 [(vU32 0),(vU8 0),(str [])] 116]→W 5 (bz 8 67) [(0,(.agg #[(ptr q 0)])),(1,(ptr b1 0)),(2,(ptr b2 0)),(3,(ptr b14121 0)),(6,(vU32 (numR r 4).1.1))] wS:=fun b14121 wS HS=>by
  rw [hW]
  exact wd1 2<|kS 2 rfl (op_loadS (vs:=[_]) rfl (HS.cells (i:=1) rfl rfl) Tryz.underlying254 rfl Fa.I254 rfl<|WD.cw hW (st1_12 b14121 wS HS))
 have st1_10: ∀b14121 wS,Owl.Own T w wS [a1_0,a1_1,a1_2,.blk b14121 [(vU32 0),(vU8 0),(str [])] 116]→W 5 (bz 8 69) [(0,(.agg #[(ptr q 0)])),(1,(ptr b1 0)),(2,(ptr b2 0)),(3,(ptr b14121 0)),(5,(.agg #[(ptr q 0)])),(7,(.agg #[(ptr q 0)]))] wS:=fun b14121 wS HS=>by
  rw [hW]
  refine wd1 1<|kS 1 rfl (op_callF Fa.C159 rfl ((inum_ok q r (4) TR _ _ (HS.part [0] rfl rfl) (by first | with_reducible exact hr | ((repeat rw [numR_s]); with_reducible exact hr))).mono (fun e w14021 hq=>?_)))
  obtain ⟨rfl,hq14021⟩:=hq
  refine ⟨_,rfl,?_⟩
  have H14021:=HS.splice [0] [.blk q [(str ((numR r 4).2).s),(vN ((numR r 4).2).at_),(vN ((numR r 4).2).f)] TR] [] rfl rfl hq14021 (Fits.solid True.intro Fits.nil)
  exact WD.cw hW (st1_12 b14121 w14021 H14021)
 have st1_4: ∀wS,Owl.Own T w wS [a1_3,a1_1,a1_2]→W 6 (bz 8 3) [(0,(.agg #[(ptr q 0)])),(1,(ptr b1 0)),(2,(ptr b2 0)),(6,(vU32 (numR r 4).1.1))] wS:=fun wS HS=>by
  rw [hW]
  refine wd2 2 6 ?_ ?_
  ·
   exact kS 2 rfl (op_loadS (vs:=[_]) rfl (HS.cells (i:=1) rfl rfl) Tryz.underlying254 rfl Fa.I254 rfl<|WD.cw hW (st1_8 wS HS))
  exact kS 6 rfl (op_alloc HS Fa.I116 (fun b14121 w14121 H14121=>(WD.cw hW (st1_9 b14121 w14121 H14121))))
 have st1_5: ∀wS,Owl.Own T w wS [a1_0,a1_1,a1_2]→W 6 (bz 8 5) [(0,(.agg #[(ptr q 0)])),(1,(ptr b1 0)),(2,(ptr b2 0)),(5,(.agg #[(ptr q 0)])),(7,(.agg #[(ptr q 0)]))] wS:=fun wS HS=>by
  rw [hW]
  refine wd2 1 6 ?_ ?_
  ·
   refine kS 1 rfl (op_callF Fa.C159 rfl ((inum_ok q r (4) TR _ _ (HS.part [0] rfl rfl) (by first | with_reducible exact hr | ((repeat rw [numR_s]); with_reducible exact hr))).mono (fun e w14021 hq=>?_)))
   obtain ⟨rfl,hq14021⟩:=hq
   refine ⟨_,rfl,?_⟩
   have H14021:=HS.splice [0] [.blk q [(str ((numR r 4).2).s),(vN ((numR r 4).2).at_),(vN ((numR r 4).2).f)] TR] [] rfl rfl hq14021 (Fits.solid True.intro Fits.nil)
   exact WD.cw hW (st1_8 w14021 H14021)
  exact kS 6 rfl (op_alloc HS Fa.I116 (fun b14121 w14121 H14121=>(WD.cw hW (st1_10 b14121 w14121 H14121))))
 have st1_6: ∀b14121 wS,Owl.Own T w wS [a1_0,a1_1,a1_2,.blk b14121 [(vU32 0),(vU8 0),(str [])] 116]→W 6 (bz 8 65) [(0,(.agg #[(ptr q 0)])),(1,(ptr b1 0)),(2,(ptr b2 0)),(3,(ptr b14121 0)),(5,(.agg #[(ptr q 0)]))] wS:=fun b14121 wS HS=>by
  rw [hW]
  refine wd2 1 2 ?_ ?_
  ·
   refine kS 1 rfl (op_callF Fa.C159 rfl ((inum_ok q r (4) TR _ _ (HS.part [0] rfl rfl) (by first | with_reducible exact hr | ((repeat rw [numR_s]); with_reducible exact hr))).mono (fun e w14021 hq=>?_)))
   obtain ⟨rfl,hq14021⟩:=hq
   refine ⟨_,rfl,?_⟩
   have H14021:=HS.splice [0] [.blk q [(str ((numR r 4).2).s),(vN ((numR r 4).2).at_),(vN ((numR r 4).2).f)] TR] [] rfl rfl hq14021 (Fits.solid True.intro Fits.nil)
   exact WD.cw hW (st1_9 b14121 w14021 H14021)
  exact kS 2 rfl (op_loadS (vs:=[_]) rfl (HS.cells (i:=1) rfl rfl) Tryz.underlying254 rfl Fa.I254 rfl<|WD.cw hW (st1_10 b14121 wS HS))
 have st1_7: ∀b14121 wS,Owl.Own T w wS [a1_0,a1_1,a1_2,.blk b14121 [(vU32 0),(vU8 0),(str [])] 116]→W 6 (bz 8 68) [(0,(.agg #[(ptr q 0)])),(1,(ptr b1 0)),(2,(ptr b2 0)),(3,(ptr b14121 0)),(7,(.agg #[(ptr q 0)]))] wS:=fun b14121 wS HS=>by
  rw [hW]
  exact wd1 0<|kS 0 rfl (op_loadS (vs:=[_]) rfl (HS.cells (i:=1) rfl rfl) Tryz.underlying254 rfl Fa.I254 rfl<|WD.cw hW (st1_10 b14121 wS HS))
 have st1_1: ∀wS,Owl.Own T w wS [a1_0,a1_1,a1_2]→W 7 (bz 8 1) [(0,(.agg #[(ptr q 0)])),(1,(ptr b1 0)),(2,(ptr b2 0)),(5,(.agg #[(ptr q 0)]))] wS:=fun wS HS=>by
  rw [hW]
  refine wd3 1 2 6 ?_ ?_ ?_
  ·
   refine kS 1 rfl (op_callF Fa.C159 rfl ((inum_ok q r (4) TR _ _ (HS.part [0] rfl rfl) (by first | with_reducible exact hr | ((repeat rw [numR_s]); with_reducible exact hr))).mono (fun e w14021 hq=>?_)))
   obtain ⟨rfl,hq14021⟩:=hq
   refine ⟨_,rfl,?_⟩
   have H14021:=HS.splice [0] [.blk q [(str ((numR r 4).2).s),(vN ((numR r 4).2).at_),(vN ((numR r 4).2).f)] TR] [] rfl rfl hq14021 (Fits.solid True.intro Fits.nil)
   exact WD.cw hW (st1_4 w14021 H14021)
  ·
   exact kS 2 rfl (op_loadS (vs:=[_]) rfl (HS.cells (i:=1) rfl rfl) Tryz.underlying254 rfl Fa.I254 rfl<|WD.cw hW (st1_5 wS HS))
  exact kS 6 rfl (op_alloc HS Fa.I116 (fun b14121 w14121 H14121=>(WD.cw hW (st1_6 b14121 w14121 H14121))))
 have st1_2: ∀wS,Owl.Own T w wS [a1_0,a1_1,a1_2]→W 7 (bz 8 4) [(0,(.agg #[(ptr q 0)])),(1,(ptr b1 0)),(2,(ptr b2 0)),(7,(.agg #[(ptr q 0)]))] wS:=fun wS HS=>by
  rw [hW]
  refine wd2 0 6 ?_ ?_
  ·
   exact kS 0 rfl (op_loadS (vs:=[_]) rfl (HS.cells (i:=1) rfl rfl) Tryz.underlying254 rfl Fa.I254 rfl<|WD.cw hW (st1_5 wS HS))
  exact kS 6 rfl (op_alloc HS Fa.I116 (fun b14121 w14121 H14121=>(WD.cw hW (st1_7 b14121 w14121 H14121))))
 have st1_3: ∀b14121 wS,Owl.Own T w wS [a1_0,a1_1,a1_2,.blk b14121 [(vU32 0),(vU8 0),(str [])] 116]→W 7 (bz 8 64) [(0,(.agg #[(ptr q 0)])),(1,(ptr b1 0)),(2,(ptr b2 0)),(3,(ptr b14121 0))] wS:=fun b14121 wS HS=>by
  rw [hW]
  refine wd2 0 2 ?_ ?_
  ·
   exact kS 0 rfl (op_loadS (vs:=[_]) rfl (HS.cells (i:=1) rfl rfl) Tryz.underlying254 rfl Fa.I254 rfl<|WD.cw hW (st1_6 b14121 wS HS))
  exact kS 2 rfl (op_loadS (vs:=[_]) rfl (HS.cells (i:=1) rfl rfl) Tryz.underlying254 rfl Fa.I254 rfl<|WD.cw hW (st1_7 b14121 wS HS))
 have st1_0: ∀wS,Owl.Own T w wS [a1_0,a1_1,a1_2]→W 8 (bz 8 0) [(0,(.agg #[(ptr q 0)])),(1,(ptr b1 0)),(2,(ptr b2 0))] wS:=fun wS HS=>by
  rw [hW]
  refine wd3 0 2 6 ?_ ?_ ?_
  ·
   exact kS 0 rfl (op_loadS (vs:=[_]) rfl (HS.cells (i:=1) rfl rfl) Tryz.underlying254 rfl Fa.I254 rfl<|WD.cw hW (st1_1 wS HS))
  ·
   exact kS 2 rfl (op_loadS (vs:=[_]) rfl (HS.cells (i:=1) rfl rfl) Tryz.underlying254 rfl Fa.I254 rfl<|WD.cw hW (st1_2 wS HS))
  exact kS 6 rfl (op_alloc HS Fa.I116 (fun b14121 w14121 H14121=>(WD.cw hW (st1_3 b14121 w14121 H14121))))
 have hq:=st1_0 w3 H3
 rw [hW] at hq ⊢
 refine WD.cov ?_ hq
 exact by repeat (first | exact trivial | refine ⟨rfl,?_⟩)
theorem iget_fin {s:List UInt8} (hb:gBad s=false) {e:Ending} {w w':World} {x y z:Value} (he:e=.returned (.tuple #[.agg #[vU32 (g2 s).1.1,x,y,.bool (decide ((g7 s).1.1=1)),vU32 (g8 s).1.1,z],vN 0]))
  (H:Owl.Own [] w w' [.row x 207 2 (g3 s).1.1.toNat (List.flatMap xtc (gX s)),.row y 203 1 (g5 s).1.1.toNat (List.map vU16 (gP s)),.row z 116 3 (g9 s).1.1.toNat (List.flatMap sgc (gS s))]) :
  ∃v u q,e=.returned (.tuple #[.agg #[vU32 (imG s).pg,v,u,.bool (imG s).c,vU32 (imG s).en,q],vN (imGE s)])∧Owl.Own [] w w' [.row v 207 2 (imG s).xs.length (List.flatMap xtc (imG s).xs),.row u 203 1 (imG s).ps.length (List.map vU16 (imG s).ps),.row q 116 3 (imG s).sg.length (List.flatMap sgc (imG s).sg)]:=by
 rw [←gX_len,←gP_len,←gS_len] at H
 rw [(get_good hb).1,(get_good hb).2]
 dsimp only
 exact ⟨x,y,z,he,H⟩
theorem iget_ok (s:List UInt8) (w:World) (hs:s.length<2^47) :
  Calls Tryz.prog 116 #[(str s)] w (fun e w'=> ∃v u q,e=.returned (.tuple #[.agg #[vU32 (imG s).pg,v,u,.bool (imG s).c,vU32 (imG s).en,q],vN (imGE s)])∧Owl.Own [] w w' [.row v 207 2 (imG s).xs.length (List.flatMap xtc (imG s).xs),.row u 203 1 (imG s).ps.length (List.map vU16 (imG s).ps),.row q 116 3 (imG s).sg.length (List.flatMap sgc (imG s).sg)]):=by
 refine enter Tryz.func116 rfl rfl ?_
 have H0:=Own.start w []
 refine ws<|wo (op_alloc H0 Fa.I43 (fun b1 w1 H1=>(wa rfl<|wn<|ws<|wm rfl<|wo (op_callF Fa.C157 rfl ((rdnew_ok s _).mono (fun e w2 hq=>?_))))))
 obtain ⟨q2,rfl,hq2⟩:=hq
 refine ⟨_,rfl,?_⟩
 have H2:=H1.splice [] [] [.blk q2 [(str s),(vN 0),(vN 0)] 298] rfl rfl hq2 (Fits.solid True.intro Fits.nil)
 refine wo (op_build (cs:=[_]) Fa.I254 Fa.PL254 rfl rfl<|wo (op_alloc H2 Fa.I254 (fun b3 w3 H3=>(wo (op_storeBW (i:=2) H3 rfl rfl rfl rfl rfl Fa.I254 (fun w4 H4=>(wn<|ws<|wo (op_fieldAddr rfl Fa.F254_0<|wo (op_load rfl (H4.cell (i:=2) rfl rfl) Tryz.underlying251 rfl<|wo (op_callF Fa.C158 rfl ((take_ok q2 (Rd.mk s 0 0 (Nat.zero_le _)) (4) 298 _ _ (H4.part [1] rfl rfl) (by first | (rw [g1_t]; exact hs) | (rw [g2_t]; exact hs) | (rw [g4_t]; exact hs) | (rw [g6_t]; exact hs) | (rw [g7_t]; exact hs) | (rw [g8_t]; exact hs) | (rw [g10_t]; exact hs) | (rw [xsD_t,g3_t]; exact hs) | (rw [numR_s,xsD_t,g3_t]; exact hs) | (rw [psD_t,g5_t]; exact hs) | (rw [sgD_t,g9_t]; exact hs) | exact hs)).mono (fun e w5 hq=>?_))))))))))))
 obtain ⟨rfl,hq5⟩:=hq
 refine ⟨_,rfl,?_⟩
 have H5:=H4.splice [1] [.blk q2 [(str ((takeR (Rd.mk s 0 0 (Nat.zero_le _)) 4).2).s),(vN ((takeR (Rd.mk s 0 0 (Nat.zero_le _)) 4).2).at_),(vN ((takeR (Rd.mk s 0 0 (Nat.zero_le _)) 4).2).f)] 298] [] rfl rfl hq5 (Fits.solid True.intro Fits.nil)
 refine wm rfl<|we rfl rfl<|we rfl rfl<|wa rfl<|wa rfl<|wn<|ws ?_
 have H6:Owl.Own [] w w5 [.blk b1 [(vU32 0),(.slice none 0 0),(.slice none 0 0),(.bool false),(vU32 0),(.slice none 0 0)] 43,.blk q2 [(str ((g1 s).2).s),(vN ((g1 s).2).at_),(vN ((g1 s).2).f)] 298,.blk b3 [(ptr q2 0)] 254]:=by have h:=H5; rw [show takeR (Rd.mk s 0 0 (Nat.zero_le _)) 4=g1 s from rfl] at h; exact h
 rw [show takeR (Rd.mk s 0 0 (Nat.zero_le _)) 4=g1 s from rfl]
 refine wo (op_alloc H6 Fa.I43 (fun b7 w7 H7=>(wn<|ws<|wo (op_loadS (vs:=[_]) rfl (H7.cells (i:=2) rfl rfl) Tryz.underlying254 rfl Fa.I254 rfl<|wo (op_callF Fa.C159 rfl ((inum_ok q2 ((g1 s).2) (4) 298 _ _ (H7.part [1] rfl rfl) (by first | (rw [g1_t]; exact hs) | (rw [g2_t]; exact hs) | (rw [g4_t]; exact hs) | (rw [g6_t]; exact hs) | (rw [g7_t]; exact hs) | (rw [g8_t]; exact hs) | (rw [g10_t]; exact hs) | (rw [xsD_t,g3_t]; exact hs) | (rw [numR_s,xsD_t,g3_t]; exact hs) | (rw [psD_t,g5_t]; exact hs) | (rw [sgD_t,g9_t]; exact hs) | exact hs)).mono (fun e w8 hq=>?_)))))))
 obtain ⟨rfl,hq8⟩:=hq
 refine ⟨_,rfl,?_⟩
 have H8:=H7.splice [1] [.blk q2 [(str ((numR ((g1 s).2) 4).2).s),(vN ((numR ((g1 s).2) 4).2).at_),(vN ((numR ((g1 s).2) 4).2).f)] 298] [] rfl rfl hq8 (Fits.solid True.intro Fits.nil)
 refine wo (op_fieldAddr rfl Fa.F43_0<|wo (op_fieldAddr rfl Fa.F40_0<|wo (op_storeB (i:=3) H8 rfl rfl rfl rfl rfl Fa.I22 (fun w9 H9=>(wn<|WC.seq<|ws ?_)))))
 have H10:Owl.Own [] w w9 [.blk b1 [(vU32 0),(.slice none 0 0),(.slice none 0 0),(.bool false),(vU32 0),(.slice none 0 0)] 43,.blk q2 [(str ((g2 s).2).s),(vN ((g2 s).2).at_),(vN ((g2 s).2).f)] 298,.blk b3 [(ptr q2 0)] 254,.blk b7 [(vU32 (g2 s).1.1),(.slice none 0 0),(.slice none 0 0),(.bool false),(vU32 0),(.slice none 0 0)] 43]:=by have h:=H9; rw [show numR (g1 s).2 4=g2 s from rfl] at h; exact h
 have H11:=H10.nilRow 207 2
 have H12:=H11.nilRow 203 1
 have H13:=H12.nilRow 116 3
 refine wo (op_loadS (vs:=[_]) rfl (H13.cells (i:=2) rfl rfl) Tryz.underlying254 rfl Fa.I254 rfl<|wo (op_callF Fa.C159 rfl ((inum_ok q2 ((g2 s).2) (1) 298 _ _ (H13.part [1] rfl rfl) (by first | (rw [g1_t]; exact hs) | (rw [g2_t]; exact hs) | (rw [g4_t]; exact hs) | (rw [g6_t]; exact hs) | (rw [g7_t]; exact hs) | (rw [g8_t]; exact hs) | (rw [g10_t]; exact hs) | (rw [xsD_t,g3_t]; exact hs) | (rw [numR_s,xsD_t,g3_t]; exact hs) | (rw [psD_t,g5_t]; exact hs) | (rw [sgD_t,g9_t]; exact hs) | exact hs)).mono (fun e w14 hq=>?_))))
 obtain ⟨rfl,hq14⟩:=hq
 refine ⟨_,rfl,?_⟩
 have H14:=H13.splice [1] [.blk q2 [(str ((numR ((g2 s).2) 1).2).s),(vN ((numR ((g2 s).2) 1).2).at_),(vN ((numR ((g2 s).2) 1).2).f)] 298] [] rfl rfl hq14 (Fits.solid True.intro Fits.nil)
 have H15:Owl.Own [] w w14 [.blk b1 [(vU32 0),(.slice none 0 0),(.slice none 0 0),(.bool false),(vU32 0),(.slice none 0 0)] 43,.blk q2 [(str ((g3 s).2).s),(vN ((g3 s).2).at_),(vN ((g3 s).2).f)] 298,.blk b3 [(ptr q2 0)] 254,.blk b7 [(vU32 (g2 s).1.1),(.slice none 0 0),(.slice none 0 0),(.bool false),(vU32 0),(.slice none 0 0)] 43,.row (.slice none 0 0) 207 2 0 (List.flatMap xtc []),.row (.slice none 0 0) 203 1 0 (List.map vU16 []),.row (.slice none 0 0) 116 3 0 (List.flatMap sgc [])]:=by have h:=H14; rw [show numR (g2 s).2 1=g3 s from rfl] at h; exact h
 rw [show numR (g2 s).2 1=g3 s from rfl]
 refine wa rfl<|wn<|WC.block<|WC.loop (α:=Nat × Value) (fun (k,x)=>[(2,(ptr b1 0)),(4,(ptr b3 0)),(5,(str (g1 s).1.1)),(7,(ptr b7 0)),(8,(vU32 ((g3 s).1.1-UInt32.ofNat k)))]) (fun (k,x) w'=>(k≤(g3 s).1.1.toNat)∧Owl.Own [] w w' [.blk b1 [(vU32 0),(.slice none 0 0),(.slice none 0 0),(.bool false),(vU32 0),(.slice none 0 0)] 43,.blk q2 [(str (xsD (g3 s).2 k).s),(vN (xsD (g3 s).2 k).at_),(vN (xsD (g3 s).2 k).f)] 298,.blk b3 [(ptr q2 0)] 254,.blk b7 [(vU32 (g2 s).1.1),x,(.slice none 0 0),(.bool false),(vU32 0),(.slice none 0 0)] 43,.row x 207 2 k (List.flatMap xtc (xsL (g3 s).2 k)),.row (.slice none 0 0) 203 1 0 (List.map vU16 []),.row (.slice none 0 0) 116 3 0 (List.flatMap sgc [])]) (fun (k,x)=>(g3 s).1.1.toNat-k) (0,(.slice none 0 0)) ⟨(Nat.zero_le _),(by rw [xsD_0]; exact H15)⟩ ⟨rfl,rfl,rfl,rfl,(congrArg (fun n=>some (vU32 n)) (u32_sub0 _)),trivial⟩ ?_
 rintro ⟨k,x⟩ w16 ⟨hk1,H16⟩
 show WC _ _ _ _ _ [(2,(ptr b1 0)),(4,(ptr b3 0)),(5,(str (g1 s).1.1)),(7,(ptr b7 0)),(8,(vU32 ((g3 s).1.1-UInt32.ofNat k)))] _
 have hct:=u32_gt hk1
 have hnl:=(g3 s).1.1.toNat_lt
 refine WC.seq<|ws<|wm rfl<|wo (op_gtrU32 (b:=0) rfl rfl<|wn (wE (((g3 s).1.1-UInt32.ofNat k)>(0:UInt32)) (fun hb17 hc17=>?_) (fun hb17 hc17=>?_)))
 ·
  have hkn:=hct.1 hc17
  refine WC.skip<|WQ.next<|WC.seq<|WC.block<|WC.drawn 13 rfl Fa.M H16 ?_
  intro w18 H18
  refine WD.named (fun W hW=>?_)
  let e8:List (Nat × Value)→List (Nat × Value):=fun r=>(2,(ptr b1 0))::(4,(ptr b3 0))::(5,(str (g1 s).1.1))::(7,(ptr b7 0))::(8,(vU32 ((g3 s).1.1-UInt32.ofNat k)))::(27,(vU32 ((g3 s).1.1-UInt32.ofNat k)))::(28,(.bool (decide (((g3 s).1.1-UInt32.ofNat k)>(0:UInt32)))))::r
  let a8_0:Ent:=.blk b1 [(vU32 0),(.slice none 0 0),(.slice none 0 0),(.bool false),(vU32 0),(.slice none 0 0)] 43
  let a8_1:Ent:=.blk q2 [(str (xsD (g3 s).2 k).s),(vN (xsD (g3 s).2 k).at_),(vN (xsD (g3 s).2 k).f)] 298
  let a8_2:Ent:=.blk b3 [(ptr q2 0)] 254
  let a8_3:Ent:=.blk b7 [(vU32 (g2 s).1.1),x,(.slice none 0 0),(.bool false),(vU32 0),(.slice none 0 0)] 43
  let a8_4:Ent:=.row x 207 2 k (List.flatMap xtc (xsL (g3 s).2 k))
  let a8_5:Ent:=.row (.slice none 0 0) 203 1 0 (List.map vU16 [])
  let a8_6:Ent:=.row (.slice none 0 0) 116 3 0 (List.flatMap sgc [])
  let a8_7:Ent:=.blk q2 [(str ((numR (xsD (g3 s).2 k) 1).2).s),(vN ((numR (xsD (g3 s).2 k) 1).2).at_),(vN ((numR (xsD (g3 s).2 k) 1).2).f)] 298
  let a8_8:Ent:=.blk q2 [(str ((numR ((numR (xsD (g3 s).2 k) 1).2) 2).2).s),(vN ((numR ((numR (xsD (g3 s).2 k) 1).2) 2).2).at_),(vN ((numR ((numR (xsD (g3 s).2 k) 1).2) 2).2).f)] 298
  have st8_39: ∀v29181 b29161 wS,Owl.Own [] w wS [a8_0,a8_8,a8_2,.blk b7 [(vU32 (g2 s).1.1),v29181,(.slice none 0 0),(.bool false),(vU32 0),(.slice none 0 0)] 43,.row v29181 207 2 (k+1) (List.flatMap xtc ((xsL (g3 s).2 k)++[(Xt.mk ((numR (xsD (g3 s).2 k) 1).1.1) ((numR ((numR (xsD (g3 s).2 k) 1).2) 2).1.1))])),a8_5,a8_6,.row (.slice (some ⟨b29161,0,none⟩) 1 1) 207 2 1 (List.map vU32 [(numR (xsD (g3 s).2 k) 1).1.1,(numR ((numR (xsD (g3 s).2 k) 1).2) 2).1.1])]→W 0 (bz 13 8191) (e8 []) wS:=fun v29181 b29161 wS HS=>by
   rw [hW]
   exact WD.done (by kernel_rfl)<|WQ.inNormal<|WQ.next<|WC.region<|wm rfl<|wo (op_subU32 (b:=1) rfl rfl<|wa rfl<|WL.nil<|WQ.round (k+1,v29181) ⟨(by omega),(by rw [xsD_s,xsL_s]; exact (HS.take 7))⟩ ⟨rfl,rfl,rfl,rfl,(congrArg (fun n=>some (vU32 n)) (u32_dec hkn)),trivial⟩ (by show (g3 s).1.1.toNat-(k+1)<(g3 s).1.1.toNat-k; omega))
  have st8_38: ∀v29181 b29161 wS,Owl.Own [] w wS [a8_0,a8_8,a8_2,a8_3,.row v29181 207 2 (k+1) (List.flatMap xtc ((xsL (g3 s).2 k)++[(Xt.mk ((numR (xsD (g3 s).2 k) 1).1.1) ((numR ((numR (xsD (g3 s).2 k) 1).2) 2).1.1))])),a8_5,a8_6,.row (.slice (some ⟨b29161,0,none⟩) 1 1) 207 2 1 (List.map vU32 [(numR (xsD (g3 s).2 k) 1).1.1,(numR ((numR (xsD (g3 s).2 k) 1).2) 2).1.1])]→W 1 (bz 13 4095) (e8 [(40,v29181),(42,(ptr b7 1))]) wS:=fun v29181 b29161 wS HS=>by
   rw [hW]
   exact wd1 12<|kS 12 rfl (op_storeB (i:=3) HS rfl rfl rfl rfl (Arr.one (HS.arrR (i:=4) rfl)) Fa.I37 (fun w29241 H29241=>(WD.cw hW (st8_39 v29181 b29161 w29241 H29241))))
  have st8_37: ∀v29181 b29161 wS,Owl.Own [] w wS [a8_0,a8_8,a8_2,a8_3,.row v29181 207 2 (k+1) (List.flatMap xtc ((xsL (g3 s).2 k)++[(Xt.mk ((numR (xsD (g3 s).2 k) 1).1.1) ((numR ((numR (xsD (g3 s).2 k) 1).2) 2).1.1))])),a8_5,a8_6,.row (.slice (some ⟨b29161,0,none⟩) 1 1) 207 2 1 (List.map vU32 [(numR (xsD (g3 s).2 k) 1).1.1,(numR ((numR (xsD (g3 s).2 k) 1).2) 2).1.1])]→W 2 (bz 13 2047) (e8 [(40,v29181),(41,(ptr b7 0))]) wS:=fun v29181 b29161 wS HS=>by
   rw [hW]
   exact wd1 11<|kS 11 rfl (op_fieldAddr rfl Fa.F40_1<|WD.cw hW (st8_38 v29181 b29161 wS HS))
  have st8_36: ∀v29181 b29161 wS,Owl.Own [] w wS [a8_0,a8_8,a8_2,a8_3,.row v29181 207 2 (k+1) (List.flatMap xtc ((xsL (g3 s).2 k)++[(Xt.mk ((numR (xsD (g3 s).2 k) 1).1.1) ((numR ((numR (xsD (g3 s).2 k) 1).2) 2).1.1))])),a8_5,a8_6,.row (.slice (some ⟨b29161,0,none⟩) 1 1) 207 2 1 (List.map vU32 [(numR (xsD (g3 s).2 k) 1).1.1,(numR ((numR (xsD (g3 s).2 k) 1).2) 2).1.1])]→W 3 (bz 13 1023) (e8 [(40,v29181)]) wS:=fun v29181 b29161 wS HS=>by
   rw [hW]
   exact wd1 10<|kS 10 rfl (op_fieldAddr rfl Fa.F43_0<|WD.cw hW (st8_37 v29181 b29161 wS HS))
  have st8_35: ∀b29161 wS,Owl.Own [] w wS [a8_0,a8_8,a8_2,a8_3,a8_4,a8_5,a8_6,.row (.slice (some ⟨b29161,0,none⟩) 1 1) 207 2 1 (List.map vU32 [(numR (xsD (g3 s).2 k) 1).1.1,(numR ((numR (xsD (g3 s).2 k) 1).2) 2).1.1])]→W 4 (bz 13 511) (e8 [(33,x),(39,(.slice (some ⟨b29161,0,none⟩) 1 1))]) wS:=fun b29161 wS HS=>by
   rw [hW]
   exact wd1 9<|kS 9 rfl (op_appendF (f:=xtc) (l:=(xsL (g3 s).2 k)) (l':=[(Xt.mk ((numR (xsD (g3 s).2 k) 1).1.1) ((numR ((numR (xsD (g3 s).2 k) 1).2) 2).1.1))]) (i:=4) HS Tryz.underlying37 Fa.I207 rfl rfl rfl rfl (Src.ofArr Tryz.underlying37 (HS.arrR (i:=7) rfl)) (one_flat (fun _=>by simp [xtc,Value.oneCell'])) (by omega) (by omega) (fun v29181 w29181 H29181=>(WD.cw hW (st8_36 v29181 b29161 w29181 H29181))))
  have st8_33: ∀wS,Owl.Own [] w wS [a8_0,a8_8,a8_2,a8_3,a8_4,a8_5,a8_6]→W 5 (bz 13 255) (e8 [(33,x),(38,(.agg #[(vU32 (numR (xsD (g3 s).2 k) 1).1.1),(vU32 (numR ((numR (xsD (g3 s).2 k) 1).2) 2).1.1)]))]) wS:=fun wS HS=>by
   rw [hW]
   exact wd1 8<|kS 8 rfl (op_buildSlice (cs:=[_,_]) HS Tryz.underlying37 Fa.I207 rfl rfl rfl rfl (by decide) (by decide) (fun b29161 w29161 H29161=>(WD.cw hW (st8_35 b29161 w29161 H29161))))
  have st8_34: ∀b29161 wS,Owl.Own [] w wS [a8_0,a8_8,a8_2,a8_3,a8_4,a8_5,a8_6,.row (.slice (some ⟨b29161,0,none⟩) 1 1) 207 2 1 (List.map vU32 [(numR (xsD (g3 s).2 k) 1).1.1,(numR ((numR (xsD (g3 s).2 k) 1).2) 2).1.1])]→W 5 (bz 13 507) (e8 [(32,(ptr b7 1)),(39,(.slice (some ⟨b29161,0,none⟩) 1 1))]) wS:=fun b29161 wS HS=>by
   rw [hW]
   exact wd1 2<|kS 2 rfl (op_load rfl (HS.cell (i:=3) rfl rfl) Tryz.underlying37 rfl<|WD.cw hW (st8_35 b29161 wS HS))
  have st8_30: ∀wS,Owl.Own [] w wS [a8_0,a8_8,a8_2,a8_3,a8_4,a8_5,a8_6]→W 6 (bz 13 127) (e8 [(33,x),(35,(vU32 (numR (xsD (g3 s).2 k) 1).1.1)),(37,(vU32 (numR ((numR (xsD (g3 s).2 k) 1).2) 2).1.1))]) wS:=fun wS HS=>by
   rw [hW]
   exact wd1 7<|kS 7 rfl (op_build (cs:=[_,_]) Fa.I207 Fa.PL207 rfl rfl<|WD.cw hW (st8_33 wS HS))
  have st8_31: ∀wS,Owl.Own [] w wS [a8_0,a8_8,a8_2,a8_3,a8_4,a8_5,a8_6]→W 6 (bz 13 251) (e8 [(32,(ptr b7 1)),(38,(.agg #[(vU32 (numR (xsD (g3 s).2 k) 1).1.1),(vU32 (numR ((numR (xsD (g3 s).2 k) 1).2) 2).1.1)]))]) wS:=fun wS HS=>by
   rw [hW]
   refine wd2 2 8 ?_ ?_
   ·
    exact kS 2 rfl (op_load rfl (HS.cell (i:=3) rfl rfl) Tryz.underlying37 rfl<|WD.cw hW (st8_33 wS HS))
   exact kS 8 rfl (op_buildSlice (cs:=[_,_]) HS Tryz.underlying37 Fa.I207 rfl rfl rfl rfl (by decide) (by decide) (fun b29161 w29161 H29161=>(WD.cw hW (st8_34 b29161 w29161 H29161))))
  have st8_32: ∀b29161 wS,Owl.Own [] w wS [a8_0,a8_8,a8_2,a8_3,a8_4,a8_5,a8_6,.row (.slice (some ⟨b29161,0,none⟩) 1 1) 207 2 1 (List.map vU32 [(numR (xsD (g3 s).2 k) 1).1.1,(numR ((numR (xsD (g3 s).2 k) 1).2) 2).1.1])]→W 6 (bz 13 505) (e8 [(31,(ptr b7 0)),(39,(.slice (some ⟨b29161,0,none⟩) 1 1))]) wS:=fun b29161 wS HS=>by
   rw [hW]
   exact wd1 1<|kS 1 rfl (op_fieldAddr rfl Fa.F40_1<|WD.cw hW (st8_34 b29161 wS HS))
  have st8_26: ∀wS,Owl.Own [] w wS [a8_0,a8_7,a8_2,a8_3,a8_4,a8_5,a8_6]→W 7 (bz 13 63) (e8 [(33,x),(35,(vU32 (numR (xsD (g3 s).2 k) 1).1.1)),(36,(.agg #[(ptr q2 0)]))]) wS:=fun wS HS=>by
   rw [hW]
   refine wd1 6<|kS 6 rfl (op_callF Fa.C159 rfl ((inum_ok q2 ((numR (xsD (g3 s).2 k) 1).2) (2) 298 _ _ (HS.part [1] rfl rfl) (by first | (rw [g1_t]; exact hs) | (rw [g2_t]; exact hs) | (rw [g4_t]; exact hs) | (rw [g6_t]; exact hs) | (rw [g7_t]; exact hs) | (rw [g8_t]; exact hs) | (rw [g10_t]; exact hs) | (rw [xsD_t,g3_t]; exact hs) | (rw [numR_s,xsD_t,g3_t]; exact hs) | (rw [psD_t,g5_t]; exact hs) | (rw [sgD_t,g9_t]; exact hs) | exact hs)).mono (fun e w29121 hq=>?_)))
   obtain ⟨rfl,hq29121⟩:=hq
   refine ⟨_,rfl,?_⟩
   have H29121:=HS.splice [1] [.blk q2 [(str ((numR ((numR (xsD (g3 s).2 k) 1).2) 2).2).s),(vN ((numR ((numR (xsD (g3 s).2 k) 1).2) 2).2).at_),(vN ((numR ((numR (xsD (g3 s).2 k) 1).2) 2).2).f)] 298] [] rfl rfl hq29121 (Fits.solid True.intro Fits.nil)
   exact WD.cw hW (st8_30 w29121 H29121)
  have st8_27: ∀wS,Owl.Own [] w wS [a8_0,a8_8,a8_2,a8_3,a8_4,a8_5,a8_6]→W 7 (bz 13 123) (e8 [(32,(ptr b7 1)),(35,(vU32 (numR (xsD (g3 s).2 k) 1).1.1)),(37,(vU32 (numR ((numR (xsD (g3 s).2 k) 1).2) 2).1.1))]) wS:=fun wS HS=>by
   rw [hW]
   refine wd2 2 7 ?_ ?_
   ·
    exact kS 2 rfl (op_load rfl (HS.cell (i:=3) rfl rfl) Tryz.underlying37 rfl<|WD.cw hW (st8_30 wS HS))
   exact kS 7 rfl (op_build (cs:=[_,_]) Fa.I207 Fa.PL207 rfl rfl<|WD.cw hW (st8_31 wS HS))
  have st8_28: ∀wS,Owl.Own [] w wS [a8_0,a8_8,a8_2,a8_3,a8_4,a8_5,a8_6]→W 7 (bz 13 249) (e8 [(31,(ptr b7 0)),(38,(.agg #[(vU32 (numR (xsD (g3 s).2 k) 1).1.1),(vU32 (numR ((numR (xsD (g3 s).2 k) 1).2) 2).1.1)]))]) wS:=fun wS HS=>by
   rw [hW]
   refine wd2 1 8 ?_ ?_
   ·
    exact kS 1 rfl (op_fieldAddr rfl Fa.F40_1<|WD.cw hW (st8_31 wS HS))
   exact kS 8 rfl (op_buildSlice (cs:=[_,_]) HS Tryz.underlying37 Fa.I207 rfl rfl rfl rfl (by decide) (by decide) (fun b29161 w29161 H29161=>(WD.cw hW (st8_32 b29161 w29161 H29161))))
  have st8_29: ∀b29161 wS,Owl.Own [] w wS [a8_0,a8_8,a8_2,a8_3,a8_4,a8_5,a8_6,.row (.slice (some ⟨b29161,0,none⟩) 1 1) 207 2 1 (List.map vU32 [(numR (xsD (g3 s).2 k) 1).1.1,(numR ((numR (xsD (g3 s).2 k) 1).2) 2).1.1])]→W 7 (bz 13 504) (e8 [(39,(.slice (some ⟨b29161,0,none⟩) 1 1))]) wS:=fun b29161 wS HS=>by
   rw [hW]
   exact wd1 0<|kS 0 rfl (op_fieldAddr rfl Fa.F43_0<|WD.cw hW (st8_32 b29161 wS HS))
  have st8_21: ∀wS,Owl.Own [] w wS [a8_0,a8_7,a8_2,a8_3,a8_4,a8_5,a8_6]→W 8 (bz 13 31) (e8 [(33,x),(35,(vU32 (numR (xsD (g3 s).2 k) 1).1.1))]) wS:=fun wS HS=>by
   rw [hW]
   exact wd1 5<|kS 5 rfl (op_loadS (vs:=[_]) rfl (HS.cells (i:=2) rfl rfl) Tryz.underlying254 rfl Fa.I254 rfl<|WD.cw hW (st8_26 wS HS))
  have st8_22: ∀wS,Owl.Own [] w wS [a8_0,a8_1,a8_2,a8_3,a8_4,a8_5,a8_6]→W 8 (bz 13 47) (e8 [(33,x),(34,(.agg #[(ptr q2 0)])),(36,(.agg #[(ptr q2 0)]))]) wS:=fun wS HS=>by
   rw [hW]
   refine wd1 4<|kS 4 rfl (op_callF Fa.C159 rfl ((inum_ok q2 (xsD (g3 s).2 k) (1) 298 _ _ (HS.part [1] rfl rfl) (by first | (rw [g1_t]; exact hs) | (rw [g2_t]; exact hs) | (rw [g4_t]; exact hs) | (rw [g6_t]; exact hs) | (rw [g7_t]; exact hs) | (rw [g8_t]; exact hs) | (rw [g10_t]; exact hs) | (rw [xsD_t,g3_t]; exact hs) | (rw [numR_s,xsD_t,g3_t]; exact hs) | (rw [psD_t,g5_t]; exact hs) | (rw [sgD_t,g9_t]; exact hs) | exact hs)).mono (fun e w29081 hq=>?_)))
   obtain ⟨rfl,hq29081⟩:=hq
   refine ⟨_,rfl,?_⟩
   have H29081:=HS.splice [1] [.blk q2 [(str ((numR (xsD (g3 s).2 k) 1).2).s),(vN ((numR (xsD (g3 s).2 k) 1).2).at_),(vN ((numR (xsD (g3 s).2 k) 1).2).f)] 298] [] rfl rfl hq29081 (Fits.solid True.intro Fits.nil)
   exact WD.cw hW (st8_26 w29081 H29081)
  have st8_23: ∀wS,Owl.Own [] w wS [a8_0,a8_7,a8_2,a8_3,a8_4,a8_5,a8_6]→W 8 (bz 13 59) (e8 [(32,(ptr b7 1)),(35,(vU32 (numR (xsD (g3 s).2 k) 1).1.1)),(36,(.agg #[(ptr q2 0)]))]) wS:=fun wS HS=>by
   rw [hW]
   refine wd2 2 6 ?_ ?_
   ·
    exact kS 2 rfl (op_load rfl (HS.cell (i:=3) rfl rfl) Tryz.underlying37 rfl<|WD.cw hW (st8_26 wS HS))
   refine kS 6 rfl (op_callF Fa.C159 rfl ((inum_ok q2 ((numR (xsD (g3 s).2 k) 1).2) (2) 298 _ _ (HS.part [1] rfl rfl) (by first | (rw [g1_t]; exact hs) | (rw [g2_t]; exact hs) | (rw [g4_t]; exact hs) | (rw [g6_t]; exact hs) | (rw [g7_t]; exact hs) | (rw [g8_t]; exact hs) | (rw [g10_t]; exact hs) | (rw [xsD_t,g3_t]; exact hs) | (rw [numR_s,xsD_t,g3_t]; exact hs) | (rw [psD_t,g5_t]; exact hs) | (rw [sgD_t,g9_t]; exact hs) | exact hs)).mono (fun e w29121 hq=>?_)))
   obtain ⟨rfl,hq29121⟩:=hq
   refine ⟨_,rfl,?_⟩
   have H29121:=HS.splice [1] [.blk q2 [(str ((numR ((numR (xsD (g3 s).2 k) 1).2) 2).2).s),(vN ((numR ((numR (xsD (g3 s).2 k) 1).2) 2).2).at_),(vN ((numR ((numR (xsD (g3 s).2 k) 1).2) 2).2).f)] 298] [] rfl rfl hq29121 (Fits.solid True.intro Fits.nil)
   exact WD.cw hW (st8_27 w29121 H29121)
  have st8_24: ∀wS,Owl.Own [] w wS [a8_0,a8_8,a8_2,a8_3,a8_4,a8_5,a8_6]→W 8 (bz 13 121) (e8 [(31,(ptr b7 0)),(35,(vU32 (numR (xsD (g3 s).2 k) 1).1.1)),(37,(vU32 (numR ((numR (xsD (g3 s).2 k) 1).2) 2).1.1))]) wS:=fun wS HS=>by
   rw [hW]
   refine wd2 1 7 ?_ ?_
   ·
    exact kS 1 rfl (op_fieldAddr rfl Fa.F40_1<|WD.cw hW (st8_27 wS HS))
   exact kS 7 rfl (op_build (cs:=[_,_]) Fa.I207 Fa.PL207 rfl rfl<|WD.cw hW (st8_28 wS HS))
  have st8_25: ∀wS,Owl.Own [] w wS [a8_0,a8_8,a8_2,a8_3,a8_4,a8_5,a8_6]→W 8 (bz 13 248) (e8 [(38,(.agg #[(vU32 (numR (xsD (g3 s).2 k) 1).1.1),(vU32 (numR ((numR (xsD (g3 s).2 k) 1).2) 2).1.1)]))]) wS:=fun wS HS=>by
   rw [hW]
   refine wd2 0 8 ?_ ?_
   ·
    exact kS 0 rfl (op_fieldAddr rfl Fa.F43_0<|WD.cw hW (st8_28 wS HS))
   exact kS 8 rfl (op_buildSlice (cs:=[_,_]) HS Tryz.underlying37 Fa.I207 rfl rfl rfl rfl (by decide) (by decide) (fun b29161 w29161 H29161=>(WD.cw hW (st8_29 b29161 w29161 H29161))))
  have st8_15: ∀wS,Owl.Own [] w wS [a8_0,a8_1,a8_2,a8_3,a8_4,a8_5,a8_6]→W 9 (bz 13 15) (e8 [(33,x),(34,(.agg #[(ptr q2 0)]))]) wS:=fun wS HS=>by
   rw [hW]
   refine wd2 4 5 ?_ ?_
   ·
    refine kS 4 rfl (op_callF Fa.C159 rfl ((inum_ok q2 (xsD (g3 s).2 k) (1) 298 _ _ (HS.part [1] rfl rfl) (by first | (rw [g1_t]; exact hs) | (rw [g2_t]; exact hs) | (rw [g4_t]; exact hs) | (rw [g6_t]; exact hs) | (rw [g7_t]; exact hs) | (rw [g8_t]; exact hs) | (rw [g10_t]; exact hs) | (rw [xsD_t,g3_t]; exact hs) | (rw [numR_s,xsD_t,g3_t]; exact hs) | (rw [psD_t,g5_t]; exact hs) | (rw [sgD_t,g9_t]; exact hs) | exact hs)).mono (fun e w29081 hq=>?_)))
    obtain ⟨rfl,hq29081⟩:=hq
    refine ⟨_,rfl,?_⟩
    have H29081:=HS.splice [1] [.blk q2 [(str ((numR (xsD (g3 s).2 k) 1).2).s),(vN ((numR (xsD (g3 s).2 k) 1).2).at_),(vN ((numR (xsD (g3 s).2 k) 1).2).f)] 298] [] rfl rfl hq29081 (Fits.solid True.intro Fits.nil)
    exact WD.cw hW (st8_21 w29081 H29081)
   exact kS 5 rfl (op_loadS (vs:=[_]) rfl (HS.cells (i:=2) rfl rfl) Tryz.underlying254 rfl Fa.I254 rfl<|WD.cw hW (st8_22 wS HS))
  have st8_16: ∀wS,Owl.Own [] w wS [a8_0,a8_1,a8_2,a8_3,a8_4,a8_5,a8_6]→W 9 (bz 13 39) (e8 [(33,x),(36,(.agg #[(ptr q2 0)]))]) wS:=fun wS HS=>by
   rw [hW]
   exact wd1 3<|kS 3 rfl (op_loadS (vs:=[_]) rfl (HS.cells (i:=2) rfl rfl) Tryz.underlying254 rfl Fa.I254 rfl<|WD.cw hW (st8_22 wS HS))
  have st8_17: ∀wS,Owl.Own [] w wS [a8_0,a8_7,a8_2,a8_3,a8_4,a8_5,a8_6]→W 9 (bz 13 27) (e8 [(32,(ptr b7 1)),(35,(vU32 (numR (xsD (g3 s).2 k) 1).1.1))]) wS:=fun wS HS=>by
   rw [hW]
   refine wd2 2 5 ?_ ?_
   ·
    exact kS 2 rfl (op_load rfl (HS.cell (i:=3) rfl rfl) Tryz.underlying37 rfl<|WD.cw hW (st8_21 wS HS))
   exact kS 5 rfl (op_loadS (vs:=[_]) rfl (HS.cells (i:=2) rfl rfl) Tryz.underlying254 rfl Fa.I254 rfl<|WD.cw hW (st8_23 wS HS))
  have st8_18: ∀wS,Owl.Own [] w wS [a8_0,a8_1,a8_2,a8_3,a8_4,a8_5,a8_6]→W 9 (bz 13 43) (e8 [(32,(ptr b7 1)),(34,(.agg #[(ptr q2 0)])),(36,(.agg #[(ptr q2 0)]))]) wS:=fun wS HS=>by
   rw [hW]
   refine wd2 2 4 ?_ ?_
   ·
    exact kS 2 rfl (op_load rfl (HS.cell (i:=3) rfl rfl) Tryz.underlying37 rfl<|WD.cw hW (st8_22 wS HS))
   refine kS 4 rfl (op_callF Fa.C159 rfl ((inum_ok q2 (xsD (g3 s).2 k) (1) 298 _ _ (HS.part [1] rfl rfl) (by first | (rw [g1_t]; exact hs) | (rw [g2_t]; exact hs) | (rw [g4_t]; exact hs) | (rw [g6_t]; exact hs) | (rw [g7_t]; exact hs) | (rw [g8_t]; exact hs) | (rw [g10_t]; exact hs) | (rw [xsD_t,g3_t]; exact hs) | (rw [numR_s,xsD_t,g3_t]; exact hs) | (rw [psD_t,g5_t]; exact hs) | (rw [sgD_t,g9_t]; exact hs) | exact hs)).mono (fun e w29081 hq=>?_)))
   obtain ⟨rfl,hq29081⟩:=hq
   refine ⟨_,rfl,?_⟩
   have H29081:=HS.splice [1] [.blk q2 [(str ((numR (xsD (g3 s).2 k) 1).2).s),(vN ((numR (xsD (g3 s).2 k) 1).2).at_),(vN ((numR (xsD (g3 s).2 k) 1).2).f)] 298] [] rfl rfl hq29081 (Fits.solid True.intro Fits.nil)
   exact WD.cw hW (st8_23 w29081 H29081)
  have st8_19: ∀wS,Owl.Own [] w wS [a8_0,a8_7,a8_2,a8_3,a8_4,a8_5,a8_6]→W 9 (bz 13 57) (e8 [(31,(ptr b7 0)),(35,(vU32 (numR (xsD (g3 s).2 k) 1).1.1)),(36,(.agg #[(ptr q2 0)]))]) wS:=fun wS HS=>by
   rw [hW]
   refine wd2 1 6 ?_ ?_
   ·
    exact kS 1 rfl (op_fieldAddr rfl Fa.F40_1<|WD.cw hW (st8_23 wS HS))
   refine kS 6 rfl (op_callF Fa.C159 rfl ((inum_ok q2 ((numR (xsD (g3 s).2 k) 1).2) (2) 298 _ _ (HS.part [1] rfl rfl) (by first | (rw [g1_t]; exact hs) | (rw [g2_t]; exact hs) | (rw [g4_t]; exact hs) | (rw [g6_t]; exact hs) | (rw [g7_t]; exact hs) | (rw [g8_t]; exact hs) | (rw [g10_t]; exact hs) | (rw [xsD_t,g3_t]; exact hs) | (rw [numR_s,xsD_t,g3_t]; exact hs) | (rw [psD_t,g5_t]; exact hs) | (rw [sgD_t,g9_t]; exact hs) | exact hs)).mono (fun e w29121 hq=>?_)))
   obtain ⟨rfl,hq29121⟩:=hq
   refine ⟨_,rfl,?_⟩
   have H29121:=HS.splice [1] [.blk q2 [(str ((numR ((numR (xsD (g3 s).2 k) 1).2) 2).2).s),(vN ((numR ((numR (xsD (g3 s).2 k) 1).2) 2).2).at_),(vN ((numR ((numR (xsD (g3 s).2 k) 1).2) 2).2).f)] 298] [] rfl rfl hq29121 (Fits.solid True.intro Fits.nil)
   exact WD.cw hW (st8_24 w29121 H29121)
  have st8_20: ∀wS,Owl.Own [] w wS [a8_0,a8_8,a8_2,a8_3,a8_4,a8_5,a8_6]→W 9 (bz 13 120) (e8 [(35,(vU32 (numR (xsD (g3 s).2 k) 1).1.1)),(37,(vU32 (numR ((numR (xsD (g3 s).2 k) 1).2) 2).1.1))]) wS:=fun wS HS=>by
   rw [hW]
   refine wd2 0 7 ?_ ?_
   ·
    exact kS 0 rfl (op_fieldAddr rfl Fa.F43_0<|WD.cw hW (st8_24 wS HS))
   exact kS 7 rfl (op_build (cs:=[_,_]) Fa.I207 Fa.PL207 rfl rfl<|WD.cw hW (st8_25 wS HS))
  have st8_9: ∀wS,Owl.Own [] w wS [a8_0,a8_1,a8_2,a8_3,a8_4,a8_5,a8_6]→W 10 (bz 13 7) (e8 [(33,x)]) wS:=fun wS HS=>by
   rw [hW]
   refine wd2 3 5 ?_ ?_
   ·
    exact kS 3 rfl (op_loadS (vs:=[_]) rfl (HS.cells (i:=2) rfl rfl) Tryz.underlying254 rfl Fa.I254 rfl<|WD.cw hW (st8_15 wS HS))
   exact kS 5 rfl (op_loadS (vs:=[_]) rfl (HS.cells (i:=2) rfl rfl) Tryz.underlying254 rfl Fa.I254 rfl<|WD.cw hW (st8_16 wS HS))
  have st8_10: ∀wS,Owl.Own [] w wS [a8_0,a8_1,a8_2,a8_3,a8_4,a8_5,a8_6]→W 10 (bz 13 11) (e8 [(32,(ptr b7 1)),(34,(.agg #[(ptr q2 0)]))]) wS:=fun wS HS=>by
   rw [hW]
   refine wd3 2 4 5 ?_ ?_ ?_
   ·
    exact kS 2 rfl (op_load rfl (HS.cell (i:=3) rfl rfl) Tryz.underlying37 rfl<|WD.cw hW (st8_15 wS HS))
   ·
    refine kS 4 rfl (op_callF Fa.C159 rfl ((inum_ok q2 (xsD (g3 s).2 k) (1) 298 _ _ (HS.part [1] rfl rfl) (by first | (rw [g1_t]; exact hs) | (rw [g2_t]; exact hs) | (rw [g4_t]; exact hs) | (rw [g6_t]; exact hs) | (rw [g7_t]; exact hs) | (rw [g8_t]; exact hs) | (rw [g10_t]; exact hs) | (rw [xsD_t,g3_t]; exact hs) | (rw [numR_s,xsD_t,g3_t]; exact hs) | (rw [psD_t,g5_t]; exact hs) | (rw [sgD_t,g9_t]; exact hs) | exact hs)).mono (fun e w29081 hq=>?_)))
    obtain ⟨rfl,hq29081⟩:=hq
    refine ⟨_,rfl,?_⟩
    have H29081:=HS.splice [1] [.blk q2 [(str ((numR (xsD (g3 s).2 k) 1).2).s),(vN ((numR (xsD (g3 s).2 k) 1).2).at_),(vN ((numR (xsD (g3 s).2 k) 1).2).f)] 298] [] rfl rfl hq29081 (Fits.solid True.intro Fits.nil)
    exact WD.cw hW (st8_17 w29081 H29081)
   exact kS 5 rfl (op_loadS (vs:=[_]) rfl (HS.cells (i:=2) rfl rfl) Tryz.underlying254 rfl Fa.I254 rfl<|WD.cw hW (st8_18 wS HS))
  have st8_11: ∀wS,Owl.Own [] w wS [a8_0,a8_1,a8_2,a8_3,a8_4,a8_5,a8_6]→W 10 (bz 13 35) (e8 [(32,(ptr b7 1)),(36,(.agg #[(ptr q2 0)]))]) wS:=fun wS HS=>by
   rw [hW]
   refine wd2 2 3 ?_ ?_
   ·
    exact kS 2 rfl (op_load rfl (HS.cell (i:=3) rfl rfl) Tryz.underlying37 rfl<|WD.cw hW (st8_16 wS HS))
   exact kS 3 rfl (op_loadS (vs:=[_]) rfl (HS.cells (i:=2) rfl rfl) Tryz.underlying254 rfl Fa.I254 rfl<|WD.cw hW (st8_18 wS HS))
  have st8_12: ∀wS,Owl.Own [] w wS [a8_0,a8_7,a8_2,a8_3,a8_4,a8_5,a8_6]→W 10 (bz 13 25) (e8 [(31,(ptr b7 0)),(35,(vU32 (numR (xsD (g3 s).2 k) 1).1.1))]) wS:=fun wS HS=>by
   rw [hW]
   refine wd2 1 5 ?_ ?_
   ·
    exact kS 1 rfl (op_fieldAddr rfl Fa.F40_1<|WD.cw hW (st8_17 wS HS))
   exact kS 5 rfl (op_loadS (vs:=[_]) rfl (HS.cells (i:=2) rfl rfl) Tryz.underlying254 rfl Fa.I254 rfl<|WD.cw hW (st8_19 wS HS))
  have st8_13: ∀wS,Owl.Own [] w wS [a8_0,a8_1,a8_2,a8_3,a8_4,a8_5,a8_6]→W 10 (bz 13 41) (e8 [(31,(ptr b7 0)),(34,(.agg #[(ptr q2 0)])),(36,(.agg #[(ptr q2 0)]))]) wS:=fun wS HS=>by
   rw [hW]
   refine wd2 1 4 ?_ ?_
   ·
    exact kS 1 rfl (op_fieldAddr rfl Fa.F40_1<|WD.cw hW (st8_18 wS HS))
   refine kS 4 rfl (op_callF Fa.C159 rfl ((inum_ok q2 (xsD (g3 s).2 k) (1) 298 _ _ (HS.part [1] rfl rfl) (by first | (rw [g1_t]; exact hs) | (rw [g2_t]; exact hs) | (rw [g4_t]; exact hs) | (rw [g6_t]; exact hs) | (rw [g7_t]; exact hs) | (rw [g8_t]; exact hs) | (rw [g10_t]; exact hs) | (rw [xsD_t,g3_t]; exact hs) | (rw [numR_s,xsD_t,g3_t]; exact hs) | (rw [psD_t,g5_t]; exact hs) | (rw [sgD_t,g9_t]; exact hs) | exact hs)).mono (fun e w29081 hq=>?_)))
   obtain ⟨rfl,hq29081⟩:=hq
   refine ⟨_,rfl,?_⟩
   have H29081:=HS.splice [1] [.blk q2 [(str ((numR (xsD (g3 s).2 k) 1).2).s),(vN ((numR (xsD (g3 s).2 k) 1).2).at_),(vN ((numR (xsD (g3 s).2 k) 1).2).f)] 298] [] rfl rfl hq29081 (Fits.solid True.intro Fits.nil)
   exact WD.cw hW (st8_19 w29081 H29081)
  have st8_14: ∀wS,Owl.Own [] w wS [a8_0,a8_7,a8_2,a8_3,a8_4,a8_5,a8_6]→W 10 (bz 13 56) (e8 [(35,(vU32 (numR (xsD (g3 s).2 k) 1).1.1)),(36,(.agg #[(ptr q2 0)]))]) wS:=fun wS HS=>by
   rw [hW]
   refine wd2 0 6 ?_ ?_
   ·
    exact kS 0 rfl (op_fieldAddr rfl Fa.F43_0<|WD.cw hW (st8_19 wS HS))
   refine kS 6 rfl (op_callF Fa.C159 rfl ((inum_ok q2 ((numR (xsD (g3 s).2 k) 1).2) (2) 298 _ _ (HS.part [1] rfl rfl) (by first | (rw [g1_t]; exact hs) | (rw [g2_t]; exact hs) | (rw [g4_t]; exact hs) | (rw [g6_t]; exact hs) | (rw [g7_t]; exact hs) | (rw [g8_t]; exact hs) | (rw [g10_t]; exact hs) | (rw [xsD_t,g3_t]; exact hs) | (rw [numR_s,xsD_t,g3_t]; exact hs) | (rw [psD_t,g5_t]; exact hs) | (rw [sgD_t,g9_t]; exact hs) | exact hs)).mono (fun e w29121 hq=>?_)))
   obtain ⟨rfl,hq29121⟩:=hq
   refine ⟨_,rfl,?_⟩
   have H29121:=HS.splice [1] [.blk q2 [(str ((numR ((numR (xsD (g3 s).2 k) 1).2) 2).2).s),(vN ((numR ((numR (xsD (g3 s).2 k) 1).2) 2).2).at_),(vN ((numR ((numR (xsD (g3 s).2 k) 1).2) 2).2).f)] 298] [] rfl rfl hq29121 (Fits.solid True.intro Fits.nil)
   exact WD.cw hW (st8_20 w29121 H29121)
  have st8_4: ∀wS,Owl.Own [] w wS [a8_0,a8_1,a8_2,a8_3,a8_4,a8_5,a8_6]→W 11 (bz 13 3) (e8 [(32,(ptr b7 1))]) wS:=fun wS HS=>by
   rw [hW]
   refine wd3 2 3 5 ?_ ?_ ?_
   ·
    exact kS 2 rfl (op_load rfl (HS.cell (i:=3) rfl rfl) Tryz.underlying37 rfl<|WD.cw hW (st8_9 wS HS))
   ·
    exact kS 3 rfl (op_loadS (vs:=[_]) rfl (HS.cells (i:=2) rfl rfl) Tryz.underlying254 rfl Fa.I254 rfl<|WD.cw hW (st8_10 wS HS))
   exact kS 5 rfl (op_loadS (vs:=[_]) rfl (HS.cells (i:=2) rfl rfl) Tryz.underlying254 rfl Fa.I254 rfl<|WD.cw hW (st8_11 wS HS))
  have st8_5: ∀wS,Owl.Own [] w wS [a8_0,a8_1,a8_2,a8_3,a8_4,a8_5,a8_6]→W 11 (bz 13 9) (e8 [(31,(ptr b7 0)),(34,(.agg #[(ptr q2 0)]))]) wS:=fun wS HS=>by
   rw [hW]
   refine wd3 1 4 5 ?_ ?_ ?_
   ·
    exact kS 1 rfl (op_fieldAddr rfl Fa.F40_1<|WD.cw hW (st8_10 wS HS))
   ·
    refine kS 4 rfl (op_callF Fa.C159 rfl ((inum_ok q2 (xsD (g3 s).2 k) (1) 298 _ _ (HS.part [1] rfl rfl) (by first | (rw [g1_t]; exact hs) | (rw [g2_t]; exact hs) | (rw [g4_t]; exact hs) | (rw [g6_t]; exact hs) | (rw [g7_t]; exact hs) | (rw [g8_t]; exact hs) | (rw [g10_t]; exact hs) | (rw [xsD_t,g3_t]; exact hs) | (rw [numR_s,xsD_t,g3_t]; exact hs) | (rw [psD_t,g5_t]; exact hs) | (rw [sgD_t,g9_t]; exact hs) | exact hs)).mono (fun e w29081 hq=>?_)))
    obtain ⟨rfl,hq29081⟩:=hq
    refine ⟨_,rfl,?_⟩
    have H29081:=HS.splice [1] [.blk q2 [(str ((numR (xsD (g3 s).2 k) 1).2).s),(vN ((numR (xsD (g3 s).2 k) 1).2).at_),(vN ((numR (xsD (g3 s).2 k) 1).2).f)] 298] [] rfl rfl hq29081 (Fits.solid True.intro Fits.nil)
    exact WD.cw hW (st8_12 w29081 H29081)
   exact kS 5 rfl (op_loadS (vs:=[_]) rfl (HS.cells (i:=2) rfl rfl) Tryz.underlying254 rfl Fa.I254 rfl<|WD.cw hW (st8_13 wS HS))
  have st8_6: ∀wS,Owl.Own [] w wS [a8_0,a8_1,a8_2,a8_3,a8_4,a8_5,a8_6]→W 11 (bz 13 33) (e8 [(31,(ptr b7 0)),(36,(.agg #[(ptr q2 0)]))]) wS:=fun wS HS=>by
   rw [hW]
   refine wd2 1 3 ?_ ?_
   ·
    exact kS 1 rfl (op_fieldAddr rfl Fa.F40_1<|WD.cw hW (st8_11 wS HS))
   exact kS 3 rfl (op_loadS (vs:=[_]) rfl (HS.cells (i:=2) rfl rfl) Tryz.underlying254 rfl Fa.I254 rfl<|WD.cw hW (st8_13 wS HS))
  have st8_7: ∀wS,Owl.Own [] w wS [a8_0,a8_7,a8_2,a8_3,a8_4,a8_5,a8_6]→W 11 (bz 13 24) (e8 [(35,(vU32 (numR (xsD (g3 s).2 k) 1).1.1))]) wS:=fun wS HS=>by
   rw [hW]
   refine wd2 0 5 ?_ ?_
   ·
    exact kS 0 rfl (op_fieldAddr rfl Fa.F43_0<|WD.cw hW (st8_12 wS HS))
   exact kS 5 rfl (op_loadS (vs:=[_]) rfl (HS.cells (i:=2) rfl rfl) Tryz.underlying254 rfl Fa.I254 rfl<|WD.cw hW (st8_14 wS HS))
  have st8_8: ∀wS,Owl.Own [] w wS [a8_0,a8_1,a8_2,a8_3,a8_4,a8_5,a8_6]→W 11 (bz 13 40) (e8 [(34,(.agg #[(ptr q2 0)])),(36,(.agg #[(ptr q2 0)]))]) wS:=fun wS HS=>by
   rw [hW]
   refine wd2 0 4 ?_ ?_
   ·
    exact kS 0 rfl (op_fieldAddr rfl Fa.F43_0<|WD.cw hW (st8_13 wS HS))
   refine kS 4 rfl (op_callF Fa.C159 rfl ((inum_ok q2 (xsD (g3 s).2 k) (1) 298 _ _ (HS.part [1] rfl rfl) (by first | (rw [g1_t]; exact hs) | (rw [g2_t]; exact hs) | (rw [g4_t]; exact hs) | (rw [g6_t]; exact hs) | (rw [g7_t]; exact hs) | (rw [g8_t]; exact hs) | (rw [g10_t]; exact hs) | (rw [xsD_t,g3_t]; exact hs) | (rw [numR_s,xsD_t,g3_t]; exact hs) | (rw [psD_t,g5_t]; exact hs) | (rw [sgD_t,g9_t]; exact hs) | exact hs)).mono (fun e w29081 hq=>?_)))
   obtain ⟨rfl,hq29081⟩:=hq
   refine ⟨_,rfl,?_⟩
   have H29081:=HS.splice [1] [.blk q2 [(str ((numR (xsD (g3 s).2 k) 1).2).s),(vN ((numR (xsD (g3 s).2 k) 1).2).at_),(vN ((numR (xsD (g3 s).2 k) 1).2).f)] 298] [] rfl rfl hq29081 (Fits.solid True.intro Fits.nil)
   exact WD.cw hW (st8_14 w29081 H29081)
  have st8_1: ∀wS,Owl.Own [] w wS [a8_0,a8_1,a8_2,a8_3,a8_4,a8_5,a8_6]→W 12 (bz 13 1) (e8 [(31,(ptr b7 0))]) wS:=fun wS HS=>by
   rw [hW]
   refine wd3 1 3 5 ?_ ?_ ?_
   ·
    exact kS 1 rfl (op_fieldAddr rfl Fa.F40_1<|WD.cw hW (st8_4 wS HS))
   ·
    exact kS 3 rfl (op_loadS (vs:=[_]) rfl (HS.cells (i:=2) rfl rfl) Tryz.underlying254 rfl Fa.I254 rfl<|WD.cw hW (st8_5 wS HS))
   exact kS 5 rfl (op_loadS (vs:=[_]) rfl (HS.cells (i:=2) rfl rfl) Tryz.underlying254 rfl Fa.I254 rfl<|WD.cw hW (st8_6 wS HS))
  have st8_2: ∀wS,Owl.Own [] w wS [a8_0,a8_1,a8_2,a8_3,a8_4,a8_5,a8_6]→W 12 (bz 13 8) (e8 [(34,(.agg #[(ptr q2 0)]))]) wS:=fun wS HS=>by
   rw [hW]
   refine wd3 0 4 5 ?_ ?_ ?_
   ·
    exact kS 0 rfl (op_fieldAddr rfl Fa.F43_0<|WD.cw hW (st8_5 wS HS))
   ·
    refine kS 4 rfl (op_callF Fa.C159 rfl ((inum_ok q2 (xsD (g3 s).2 k) (1) 298 _ _ (HS.part [1] rfl rfl) (by first | (rw [g1_t]; exact hs) | (rw [g2_t]; exact hs) | (rw [g4_t]; exact hs) | (rw [g6_t]; exact hs) | (rw [g7_t]; exact hs) | (rw [g8_t]; exact hs) | (rw [g10_t]; exact hs) | (rw [xsD_t,g3_t]; exact hs) | (rw [numR_s,xsD_t,g3_t]; exact hs) | (rw [psD_t,g5_t]; exact hs) | (rw [sgD_t,g9_t]; exact hs) | exact hs)).mono (fun e w29081 hq=>?_)))
    obtain ⟨rfl,hq29081⟩:=hq
    refine ⟨_,rfl,?_⟩
    have H29081:=HS.splice [1] [.blk q2 [(str ((numR (xsD (g3 s).2 k) 1).2).s),(vN ((numR (xsD (g3 s).2 k) 1).2).at_),(vN ((numR (xsD (g3 s).2 k) 1).2).f)] 298] [] rfl rfl hq29081 (Fits.solid True.intro Fits.nil)
    exact WD.cw hW (st8_7 w29081 H29081)
   exact kS 5 rfl (op_loadS (vs:=[_]) rfl (HS.cells (i:=2) rfl rfl) Tryz.underlying254 rfl Fa.I254 rfl<|WD.cw hW (st8_8 wS HS))
  have st8_3: ∀wS,Owl.Own [] w wS [a8_0,a8_1,a8_2,a8_3,a8_4,a8_5,a8_6]→W 12 (bz 13 32) (e8 [(36,(.agg #[(ptr q2 0)]))]) wS:=fun wS HS=>by
   rw [hW]
   refine wd2 0 3 ?_ ?_
   ·
    exact kS 0 rfl (op_fieldAddr rfl Fa.F43_0<|WD.cw hW (st8_6 wS HS))
   exact kS 3 rfl (op_loadS (vs:=[_]) rfl (HS.cells (i:=2) rfl rfl) Tryz.underlying254 rfl Fa.I254 rfl<|WD.cw hW (st8_8 wS HS))
  have st8_0: ∀wS,Owl.Own [] w wS [a8_0,a8_1,a8_2,a8_3,a8_4,a8_5,a8_6]→W 13 (bz 13 0) (e8 []) wS:=fun wS HS=>by
   rw [hW]
   refine wd3 0 3 5 ?_ ?_ ?_
   ·
    exact kS 0 rfl (op_fieldAddr rfl Fa.F43_0<|WD.cw hW (st8_1 wS HS))
   ·
    exact kS 3 rfl (op_loadS (vs:=[_]) rfl (HS.cells (i:=2) rfl rfl) Tryz.underlying254 rfl Fa.I254 rfl<|WD.cw hW (st8_2 wS HS))
   exact kS 5 rfl (op_loadS (vs:=[_]) rfl (HS.cells (i:=2) rfl rfl) Tryz.underlying254 rfl Fa.I254 rfl<|WD.cw hW (st8_3 wS HS))
  have hq:=st8_0 w18 H18
  rw [hW] at hq ⊢
  refine WD.cov ?_ hq
  exact by repeat (first | exact trivial | refine ⟨rfl,?_⟩)
 refine WC.exit<|WQ.thenExit<|WQ.thenExit<|WQ.inHere<|WQ.next<|WC.seq<|ws ?_
 have hkx:¬k<(g3 s).1.1.toNat:=fun h=>hc17 (hct.2 h)
 obtain rfl:k=(g3 s).1.1.toNat:=by omega
 have H20:Owl.Own [] w w16 [.blk b1 [(vU32 0),(.slice none 0 0),(.slice none 0 0),(.bool false),(vU32 0),(.slice none 0 0)] 43,.blk q2 [(str (g4 s).s),(vN (g4 s).at_),(vN (g4 s).f)] 298,.blk b3 [(ptr q2 0)] 254,.blk b7 [(vU32 (g2 s).1.1),x,(.slice none 0 0),(.bool false),(vU32 0),(.slice none 0 0)] 43,.row x 207 2 (g3 s).1.1.toNat (List.flatMap xtc (gX s)),.row (.slice none 0 0) 203 1 0 (List.map vU16 []),.row (.slice none 0 0) 116 3 0 (List.flatMap sgc [])]:=by have h:=H16; rw [show xsD (g3 s).2 (g3 s).1.1.toNat=g4 s from rfl] at h; rw [show xsL (g3 s).2 (g3 s).1.1.toNat=gX s from rfl] at h; exact h
 refine wo (op_loadS (vs:=[_]) rfl (H20.cells (i:=2) rfl rfl) Tryz.underlying254 rfl Fa.I254 rfl<|wo (op_callF Fa.C159 rfl ((inum_ok q2 (g4 s) (1) 298 _ _ (H20.part [1] rfl rfl) (by first | (rw [g1_t]; exact hs) | (rw [g2_t]; exact hs) | (rw [g4_t]; exact hs) | (rw [g6_t]; exact hs) | (rw [g7_t]; exact hs) | (rw [g8_t]; exact hs) | (rw [g10_t]; exact hs) | (rw [xsD_t,g3_t]; exact hs) | (rw [numR_s,xsD_t,g3_t]; exact hs) | (rw [psD_t,g5_t]; exact hs) | (rw [sgD_t,g9_t]; exact hs) | exact hs)).mono (fun e w21 hq=>?_))))
 obtain ⟨rfl,hq21⟩:=hq
 refine ⟨_,rfl,?_⟩
 have H21:=H20.splice [1] [.blk q2 [(str ((numR (g4 s) 1).2).s),(vN ((numR (g4 s) 1).2).at_),(vN ((numR (g4 s) 1).2).f)] 298] [] rfl rfl hq21 (Fits.solid True.intro Fits.nil)
 have H22:Owl.Own [] w w21 [.blk b1 [(vU32 0),(.slice none 0 0),(.slice none 0 0),(.bool false),(vU32 0),(.slice none 0 0)] 43,.blk q2 [(str ((g5 s).2).s),(vN ((g5 s).2).at_),(vN ((g5 s).2).f)] 298,.blk b3 [(ptr q2 0)] 254,.blk b7 [(vU32 (g2 s).1.1),x,(.slice none 0 0),(.bool false),(vU32 0),(.slice none 0 0)] 43,.row x 207 2 (g3 s).1.1.toNat (List.flatMap xtc (gX s)),.row (.slice none 0 0) 203 1 0 (List.map vU16 []),.row (.slice none 0 0) 116 3 0 (List.flatMap sgc [])]:=by have h:=H21; rw [show numR (g4 s) 1=g5 s from rfl] at h; exact h
 rw [show numR (g4 s) 1=g5 s from rfl]
 refine wa rfl<|wn<|WC.block<|WC.loop (α:=Nat × Value) (fun (j,y)=>[(2,(ptr b1 0)),(4,(ptr b3 0)),(5,(str (g1 s).1.1)),(7,(ptr b7 0)),(9,(vU32 ((g5 s).1.1-UInt32.ofNat j)))]) (fun (j,y) w'=>(j≤(g5 s).1.1.toNat)∧Owl.Own [] w w' [.blk b1 [(vU32 0),(.slice none 0 0),(.slice none 0 0),(.bool false),(vU32 0),(.slice none 0 0)] 43,.blk q2 [(str (psD (g5 s).2 j).s),(vN (psD (g5 s).2 j).at_),(vN (psD (g5 s).2 j).f)] 298,.blk b3 [(ptr q2 0)] 254,.blk b7 [(vU32 (g2 s).1.1),x,y,(.bool false),(vU32 0),(.slice none 0 0)] 43,.row x 207 2 (g3 s).1.1.toNat (List.flatMap xtc (gX s)),.row y 203 1 j (List.map vU16 (psL (g5 s).2 j)),.row (.slice none 0 0) 116 3 0 (List.flatMap sgc [])]) (fun (j,y)=>(g5 s).1.1.toNat-j) (0,(.slice none 0 0)) ⟨(Nat.zero_le _),(by rw [psD_0]; exact H22)⟩ ⟨rfl,rfl,rfl,rfl,(congrArg (fun n=>some (vU32 n)) (u32_sub0 _)),trivial⟩ ?_
 rintro ⟨j,y⟩ w23 ⟨hj1,H23⟩
 show WC _ _ _ _ _ [(2,(ptr b1 0)),(4,(ptr b3 0)),(5,(str (g1 s).1.1)),(7,(ptr b7 0)),(9,(vU32 ((g5 s).1.1-UInt32.ofNat j)))] _
 have hct:=u32_gt hj1
 have hnl:=(g5 s).1.1.toNat_lt
 refine WC.seq<|ws<|wm rfl<|wo (op_gtrU32 (b:=0) rfl rfl<|wn (wE (((g5 s).1.1-UInt32.ofNat j)>(0:UInt32)) (fun hb24 hc24=>?_) (fun hb24 hc24=>?_)))
 ·
  have hkn:=hct.1 hc24
  refine WC.skip<|WQ.next<|WC.seq<|WC.block<|WC.drawn 11 rfl Fa.M H23 ?_
  intro w25 H25
  refine WD.named (fun W hW=>?_)
  let e12:List (Nat × Value)→List (Nat × Value):=fun r=>(2,(ptr b1 0))::(4,(ptr b3 0))::(5,(str (g1 s).1.1))::(7,(ptr b7 0))::(9,(vU32 ((g5 s).1.1-UInt32.ofNat j)))::(45,(vU32 ((g5 s).1.1-UInt32.ofNat j)))::(46,(.bool (decide (((g5 s).1.1-UInt32.ofNat j)>(0:UInt32)))))::r
  let a12_0:Ent:=.blk b1 [(vU32 0),(.slice none 0 0),(.slice none 0 0),(.bool false),(vU32 0),(.slice none 0 0)] 43
  let a12_1:Ent:=.blk q2 [(str (psD (g5 s).2 j).s),(vN (psD (g5 s).2 j).at_),(vN (psD (g5 s).2 j).f)] 298
  let a12_2:Ent:=.blk b3 [(ptr q2 0)] 254
  let a12_3:Ent:=.blk b7 [(vU32 (g2 s).1.1),x,y,(.bool false),(vU32 0),(.slice none 0 0)] 43
  let a12_4:Ent:=.row x 207 2 (g3 s).1.1.toNat (List.flatMap xtc (gX s))
  let a12_5:Ent:=.row y 203 1 j (List.map vU16 (psL (g5 s).2 j))
  let a12_6:Ent:=.row (.slice none 0 0) 116 3 0 (List.flatMap sgc [])
  let a12_7:Ent:=.blk q2 [(str ((numR (psD (g5 s).2 j) 2).2).s),(vN ((numR (psD (g5 s).2 j) 2).2).at_),(vN ((numR (psD (g5 s).2 j) 2).2).f)] 298
  have st12_23: ∀v36141 b36121 wS,Owl.Own [] w wS [a12_0,a12_7,a12_2,.blk b7 [(vU32 (g2 s).1.1),x,v36141,(.bool false),(vU32 0),(.slice none 0 0)] 43,a12_4,.row v36141 203 1 (j+1) (List.map vU16 ((psL (g5 s).2 j)++[(UInt16.ofNat (numR (psD (g5 s).2 j) 2).1.1.toNat)])),a12_6,.row (.slice (some ⟨b36121,0,none⟩) 1 1) 203 1 1 (List.map vU16 [(UInt16.ofNat (numR (psD (g5 s).2 j) 2).1.1.toNat)])]→W 0 (bz 11 2047) (e12 []) wS:=fun v36141 b36121 wS HS=>by
   rw [hW]
   exact WD.done (by kernel_rfl)<|WQ.inNormal<|WQ.next<|WC.region<|wm rfl<|wo (op_subU32 (b:=1) rfl rfl<|wa rfl<|WL.nil<|WQ.round (j+1,v36141) ⟨(by omega),(by rw [psD_s,psL_s]; exact (HS.take 7))⟩ ⟨rfl,rfl,rfl,rfl,(congrArg (fun n=>some (vU32 n)) (u32_dec hkn)),trivial⟩ (by show (g5 s).1.1.toNat-(j+1)<(g5 s).1.1.toNat-j; omega))
  have st12_22: ∀v36141 b36121 wS,Owl.Own [] w wS [a12_0,a12_7,a12_2,a12_3,a12_4,.row v36141 203 1 (j+1) (List.map vU16 ((psL (g5 s).2 j)++[(UInt16.ofNat (numR (psD (g5 s).2 j) 2).1.1.toNat)])),a12_6,.row (.slice (some ⟨b36121,0,none⟩) 1 1) 203 1 1 (List.map vU16 [(UInt16.ofNat (numR (psD (g5 s).2 j) 2).1.1.toNat)])]→W 1 (bz 11 1023) (e12 [(56,v36141),(58,(ptr b7 2))]) wS:=fun v36141 b36121 wS HS=>by
   rw [hW]
   exact wd1 10<|kS 10 rfl (op_storeB (i:=3) HS rfl rfl rfl rfl (Arr.one (HS.arrR (i:=5) rfl)) Fa.I38 (fun w36201 H36201=>(WD.cw hW (st12_23 v36141 b36121 w36201 H36201))))
  have st12_21: ∀v36141 b36121 wS,Owl.Own [] w wS [a12_0,a12_7,a12_2,a12_3,a12_4,.row v36141 203 1 (j+1) (List.map vU16 ((psL (g5 s).2 j)++[(UInt16.ofNat (numR (psD (g5 s).2 j) 2).1.1.toNat)])),a12_6,.row (.slice (some ⟨b36121,0,none⟩) 1 1) 203 1 1 (List.map vU16 [(UInt16.ofNat (numR (psD (g5 s).2 j) 2).1.1.toNat)])]→W 2 (bz 11 511) (e12 [(56,v36141),(57,(ptr b7 0))]) wS:=fun v36141 b36121 wS HS=>by
   rw [hW]
   exact wd1 9<|kS 9 rfl (op_fieldAddr rfl Fa.F40_2<|WD.cw hW (st12_22 v36141 b36121 wS HS))
  have st12_20: ∀v36141 b36121 wS,Owl.Own [] w wS [a12_0,a12_7,a12_2,a12_3,a12_4,.row v36141 203 1 (j+1) (List.map vU16 ((psL (g5 s).2 j)++[(UInt16.ofNat (numR (psD (g5 s).2 j) 2).1.1.toNat)])),a12_6,.row (.slice (some ⟨b36121,0,none⟩) 1 1) 203 1 1 (List.map vU16 [(UInt16.ofNat (numR (psD (g5 s).2 j) 2).1.1.toNat)])]→W 3 (bz 11 255) (e12 [(56,v36141)]) wS:=fun v36141 b36121 wS HS=>by
   rw [hW]
   exact wd1 8<|kS 8 rfl (op_fieldAddr rfl Fa.F43_0<|WD.cw hW (st12_21 v36141 b36121 wS HS))
  have st12_19: ∀b36121 wS,Owl.Own [] w wS [a12_0,a12_7,a12_2,a12_3,a12_4,a12_5,a12_6,.row (.slice (some ⟨b36121,0,none⟩) 1 1) 203 1 1 (List.map vU16 [(UInt16.ofNat (numR (psD (g5 s).2 j) 2).1.1.toNat)])]→W 4 (bz 11 127) (e12 [(51,y),(55,(.slice (some ⟨b36121,0,none⟩) 1 1))]) wS:=fun b36121 wS HS=>by
   rw [hW]
   exact wd1 7<|kS 7 rfl (op_appendM (f:=vU16) (l:=(psL (g5 s).2 j)) (l':=[(UInt16.ofNat (numR (psD (g5 s).2 j) 2).1.1.toNat)]) (i:=5) HS Tryz.underlying38 Fa.I203 rfl rfl rfl rfl (Src.ofArr Tryz.underlying38 (HS.arrR (i:=7) rfl)) (one_mapM (fun _=>rfl)) (by omega) (by omega) (fun v36141 w36141 H36141=>(WD.cw hW (st12_20 v36141 b36121 w36141 H36141))))
  have st12_17: ∀wS,Owl.Own [] w wS [a12_0,a12_7,a12_2,a12_3,a12_4,a12_5,a12_6]→W 5 (bz 11 63) (e12 [(51,y),(54,(vU16 (UInt16.ofNat (numR (psD (g5 s).2 j) 2).1.1.toNat)))]) wS:=fun wS HS=>by
   rw [hW]
   exact wd1 6<|kS 6 rfl (op_buildSlice (cs:=[_]) HS Tryz.underlying38 Fa.I203 rfl rfl rfl rfl (by decide) (by decide) (fun b36121 w36121 H36121=>(WD.cw hW (st12_19 b36121 w36121 H36121))))
  have st12_18: ∀b36121 wS,Owl.Own [] w wS [a12_0,a12_7,a12_2,a12_3,a12_4,a12_5,a12_6,.row (.slice (some ⟨b36121,0,none⟩) 1 1) 203 1 1 (List.map vU16 [(UInt16.ofNat (numR (psD (g5 s).2 j) 2).1.1.toNat)])]→W 5 (bz 11 123) (e12 [(50,(ptr b7 2)),(55,(.slice (some ⟨b36121,0,none⟩) 1 1))]) wS:=fun b36121 wS HS=>by
   rw [hW]
   exact wd1 2<|kS 2 rfl (op_load rfl (HS.cell (i:=3) rfl rfl) Tryz.underlying38 rfl<|WD.cw hW (st12_19 b36121 wS HS))
  have st12_14: ∀wS,Owl.Own [] w wS [a12_0,a12_7,a12_2,a12_3,a12_4,a12_5,a12_6]→W 6 (bz 11 31) (e12 [(51,y),(53,(vU32 (numR (psD (g5 s).2 j) 2).1.1))]) wS:=fun wS HS=>by
   rw [hW]
   exact wd1 5<|kS 5 rfl (op_convU32U16 (hs:=Tryz.underlying22) (hd:=Tryz.underlying203) rfl<|WD.cw hW (st12_17 wS HS))
  have st12_15: ∀wS,Owl.Own [] w wS [a12_0,a12_7,a12_2,a12_3,a12_4,a12_5,a12_6]→W 6 (bz 11 59) (e12 [(50,(ptr b7 2)),(54,(vU16 (UInt16.ofNat (numR (psD (g5 s).2 j) 2).1.1.toNat)))]) wS:=fun wS HS=>by
   rw [hW]
   refine wd2 2 6 ?_ ?_
   ·
    exact kS 2 rfl (op_load rfl (HS.cell (i:=3) rfl rfl) Tryz.underlying38 rfl<|WD.cw hW (st12_17 wS HS))
   exact kS 6 rfl (op_buildSlice (cs:=[_]) HS Tryz.underlying38 Fa.I203 rfl rfl rfl rfl (by decide) (by decide) (fun b36121 w36121 H36121=>(WD.cw hW (st12_18 b36121 w36121 H36121))))
  have st12_16: ∀b36121 wS,Owl.Own [] w wS [a12_0,a12_7,a12_2,a12_3,a12_4,a12_5,a12_6,.row (.slice (some ⟨b36121,0,none⟩) 1 1) 203 1 1 (List.map vU16 [(UInt16.ofNat (numR (psD (g5 s).2 j) 2).1.1.toNat)])]→W 6 (bz 11 121) (e12 [(49,(ptr b7 0)),(55,(.slice (some ⟨b36121,0,none⟩) 1 1))]) wS:=fun b36121 wS HS=>by
   rw [hW]
   exact wd1 1<|kS 1 rfl (op_fieldAddr rfl Fa.F40_2<|WD.cw hW (st12_18 b36121 wS HS))
  have st12_10: ∀wS,Owl.Own [] w wS [a12_0,a12_1,a12_2,a12_3,a12_4,a12_5,a12_6]→W 7 (bz 11 15) (e12 [(51,y),(52,(.agg #[(ptr q2 0)]))]) wS:=fun wS HS=>by
   rw [hW]
   refine wd1 4<|kS 4 rfl (op_callF Fa.C159 rfl ((inum_ok q2 (psD (g5 s).2 j) (2) 298 _ _ (HS.part [1] rfl rfl) (by first | (rw [g1_t]; exact hs) | (rw [g2_t]; exact hs) | (rw [g4_t]; exact hs) | (rw [g6_t]; exact hs) | (rw [g7_t]; exact hs) | (rw [g8_t]; exact hs) | (rw [g10_t]; exact hs) | (rw [xsD_t,g3_t]; exact hs) | (rw [numR_s,xsD_t,g3_t]; exact hs) | (rw [psD_t,g5_t]; exact hs) | (rw [sgD_t,g9_t]; exact hs) | exact hs)).mono (fun e w36081 hq=>?_)))
   obtain ⟨rfl,hq36081⟩:=hq
   refine ⟨_,rfl,?_⟩
   have H36081:=HS.splice [1] [.blk q2 [(str ((numR (psD (g5 s).2 j) 2).2).s),(vN ((numR (psD (g5 s).2 j) 2).2).at_),(vN ((numR (psD (g5 s).2 j) 2).2).f)] 298] [] rfl rfl hq36081 (Fits.solid True.intro Fits.nil)
   exact WD.cw hW (st12_14 w36081 H36081)
  have st12_11: ∀wS,Owl.Own [] w wS [a12_0,a12_7,a12_2,a12_3,a12_4,a12_5,a12_6]→W 7 (bz 11 27) (e12 [(50,(ptr b7 2)),(53,(vU32 (numR (psD (g5 s).2 j) 2).1.1))]) wS:=fun wS HS=>by
   rw [hW]
   refine wd2 2 5 ?_ ?_
   ·
    exact kS 2 rfl (op_load rfl (HS.cell (i:=3) rfl rfl) Tryz.underlying38 rfl<|WD.cw hW (st12_14 wS HS))
   exact kS 5 rfl (op_convU32U16 (hs:=Tryz.underlying22) (hd:=Tryz.underlying203) rfl<|WD.cw hW (st12_15 wS HS))
  have st12_12: ∀wS,Owl.Own [] w wS [a12_0,a12_7,a12_2,a12_3,a12_4,a12_5,a12_6]→W 7 (bz 11 57) (e12 [(49,(ptr b7 0)),(54,(vU16 (UInt16.ofNat (numR (psD (g5 s).2 j) 2).1.1.toNat)))]) wS:=fun wS HS=>by
   rw [hW]
   refine wd2 1 6 ?_ ?_
   ·
    exact kS 1 rfl (op_fieldAddr rfl Fa.F40_2<|WD.cw hW (st12_15 wS HS))
   exact kS 6 rfl (op_buildSlice (cs:=[_]) HS Tryz.underlying38 Fa.I203 rfl rfl rfl rfl (by decide) (by decide) (fun b36121 w36121 H36121=>(WD.cw hW (st12_16 b36121 w36121 H36121))))
  have st12_13: ∀b36121 wS,Owl.Own [] w wS [a12_0,a12_7,a12_2,a12_3,a12_4,a12_5,a12_6,.row (.slice (some ⟨b36121,0,none⟩) 1 1) 203 1 1 (List.map vU16 [(UInt16.ofNat (numR (psD (g5 s).2 j) 2).1.1.toNat)])]→W 7 (bz 11 120) (e12 [(55,(.slice (some ⟨b36121,0,none⟩) 1 1))]) wS:=fun b36121 wS HS=>by
   rw [hW]
   exact wd1 0<|kS 0 rfl (op_fieldAddr rfl Fa.F43_0<|WD.cw hW (st12_16 b36121 wS HS))
  have st12_6: ∀wS,Owl.Own [] w wS [a12_0,a12_1,a12_2,a12_3,a12_4,a12_5,a12_6]→W 8 (bz 11 7) (e12 [(51,y)]) wS:=fun wS HS=>by
   rw [hW]
   exact wd1 3<|kS 3 rfl (op_loadS (vs:=[_]) rfl (HS.cells (i:=2) rfl rfl) Tryz.underlying254 rfl Fa.I254 rfl<|WD.cw hW (st12_10 wS HS))
  have st12_7: ∀wS,Owl.Own [] w wS [a12_0,a12_1,a12_2,a12_3,a12_4,a12_5,a12_6]→W 8 (bz 11 11) (e12 [(50,(ptr b7 2)),(52,(.agg #[(ptr q2 0)]))]) wS:=fun wS HS=>by
   rw [hW]
   refine wd2 2 4 ?_ ?_
   ·
    exact kS 2 rfl (op_load rfl (HS.cell (i:=3) rfl rfl) Tryz.underlying38 rfl<|WD.cw hW (st12_10 wS HS))
   refine kS 4 rfl (op_callF Fa.C159 rfl ((inum_ok q2 (psD (g5 s).2 j) (2) 298 _ _ (HS.part [1] rfl rfl) (by first | (rw [g1_t]; exact hs) | (rw [g2_t]; exact hs) | (rw [g4_t]; exact hs) | (rw [g6_t]; exact hs) | (rw [g7_t]; exact hs) | (rw [g8_t]; exact hs) | (rw [g10_t]; exact hs) | (rw [xsD_t,g3_t]; exact hs) | (rw [numR_s,xsD_t,g3_t]; exact hs) | (rw [psD_t,g5_t]; exact hs) | (rw [sgD_t,g9_t]; exact hs) | exact hs)).mono (fun e w36081 hq=>?_)))
   obtain ⟨rfl,hq36081⟩:=hq
   refine ⟨_,rfl,?_⟩
   have H36081:=HS.splice [1] [.blk q2 [(str ((numR (psD (g5 s).2 j) 2).2).s),(vN ((numR (psD (g5 s).2 j) 2).2).at_),(vN ((numR (psD (g5 s).2 j) 2).2).f)] 298] [] rfl rfl hq36081 (Fits.solid True.intro Fits.nil)
   exact WD.cw hW (st12_11 w36081 H36081)
  have st12_8: ∀wS,Owl.Own [] w wS [a12_0,a12_7,a12_2,a12_3,a12_4,a12_5,a12_6]→W 8 (bz 11 25) (e12 [(49,(ptr b7 0)),(53,(vU32 (numR (psD (g5 s).2 j) 2).1.1))]) wS:=fun wS HS=>by
   rw [hW]
   refine wd2 1 5 ?_ ?_
   ·
    exact kS 1 rfl (op_fieldAddr rfl Fa.F40_2<|WD.cw hW (st12_11 wS HS))
   exact kS 5 rfl (op_convU32U16 (hs:=Tryz.underlying22) (hd:=Tryz.underlying203) rfl<|WD.cw hW (st12_12 wS HS))
  have st12_9: ∀wS,Owl.Own [] w wS [a12_0,a12_7,a12_2,a12_3,a12_4,a12_5,a12_6]→W 8 (bz 11 56) (e12 [(54,(vU16 (UInt16.ofNat (numR (psD (g5 s).2 j) 2).1.1.toNat)))]) wS:=fun wS HS=>by
   rw [hW]
   refine wd2 0 6 ?_ ?_
   ·
    exact kS 0 rfl (op_fieldAddr rfl Fa.F43_0<|WD.cw hW (st12_12 wS HS))
   exact kS 6 rfl (op_buildSlice (cs:=[_]) HS Tryz.underlying38 Fa.I203 rfl rfl rfl rfl (by decide) (by decide) (fun b36121 w36121 H36121=>(WD.cw hW (st12_13 b36121 w36121 H36121))))
  have st12_3: ∀wS,Owl.Own [] w wS [a12_0,a12_1,a12_2,a12_3,a12_4,a12_5,a12_6]→W 9 (bz 11 3) (e12 [(50,(ptr b7 2))]) wS:=fun wS HS=>by
   rw [hW]
   refine wd2 2 3 ?_ ?_
   ·
    exact kS 2 rfl (op_load rfl (HS.cell (i:=3) rfl rfl) Tryz.underlying38 rfl<|WD.cw hW (st12_6 wS HS))
   exact kS 3 rfl (op_loadS (vs:=[_]) rfl (HS.cells (i:=2) rfl rfl) Tryz.underlying254 rfl Fa.I254 rfl<|WD.cw hW (st12_7 wS HS))
  have st12_4: ∀wS,Owl.Own [] w wS [a12_0,a12_1,a12_2,a12_3,a12_4,a12_5,a12_6]→W 9 (bz 11 9) (e12 [(49,(ptr b7 0)),(52,(.agg #[(ptr q2 0)]))]) wS:=fun wS HS=>by
   rw [hW]
   refine wd2 1 4 ?_ ?_
   ·
    exact kS 1 rfl (op_fieldAddr rfl Fa.F40_2<|WD.cw hW (st12_7 wS HS))
   refine kS 4 rfl (op_callF Fa.C159 rfl ((inum_ok q2 (psD (g5 s).2 j) (2) 298 _ _ (HS.part [1] rfl rfl) (by first | (rw [g1_t]; exact hs) | (rw [g2_t]; exact hs) | (rw [g4_t]; exact hs) | (rw [g6_t]; exact hs) | (rw [g7_t]; exact hs) | (rw [g8_t]; exact hs) | (rw [g10_t]; exact hs) | (rw [xsD_t,g3_t]; exact hs) | (rw [numR_s,xsD_t,g3_t]; exact hs) | (rw [psD_t,g5_t]; exact hs) | (rw [sgD_t,g9_t]; exact hs) | exact hs)).mono (fun e w36081 hq=>?_)))
   obtain ⟨rfl,hq36081⟩:=hq
   refine ⟨_,rfl,?_⟩
   have H36081:=HS.splice [1] [.blk q2 [(str ((numR (psD (g5 s).2 j) 2).2).s),(vN ((numR (psD (g5 s).2 j) 2).2).at_),(vN ((numR (psD (g5 s).2 j) 2).2).f)] 298] [] rfl rfl hq36081 (Fits.solid True.intro Fits.nil)
   exact WD.cw hW (st12_8 w36081 H36081)
  have st12_5: ∀wS,Owl.Own [] w wS [a12_0,a12_7,a12_2,a12_3,a12_4,a12_5,a12_6]→W 9 (bz 11 24) (e12 [(53,(vU32 (numR (psD (g5 s).2 j) 2).1.1))]) wS:=fun wS HS=>by
   rw [hW]
   refine wd2 0 5 ?_ ?_
   ·
    exact kS 0 rfl (op_fieldAddr rfl Fa.F43_0<|WD.cw hW (st12_8 wS HS))
   exact kS 5 rfl (op_convU32U16 (hs:=Tryz.underlying22) (hd:=Tryz.underlying203) rfl<|WD.cw hW (st12_9 wS HS))
  have st12_1: ∀wS,Owl.Own [] w wS [a12_0,a12_1,a12_2,a12_3,a12_4,a12_5,a12_6]→W 10 (bz 11 1) (e12 [(49,(ptr b7 0))]) wS:=fun wS HS=>by
   rw [hW]
   refine wd2 1 3 ?_ ?_
   ·
    exact kS 1 rfl (op_fieldAddr rfl Fa.F40_2<|WD.cw hW (st12_3 wS HS))
   exact kS 3 rfl (op_loadS (vs:=[_]) rfl (HS.cells (i:=2) rfl rfl) Tryz.underlying254 rfl Fa.I254 rfl<|WD.cw hW (st12_4 wS HS))
  have st12_2: ∀wS,Owl.Own [] w wS [a12_0,a12_1,a12_2,a12_3,a12_4,a12_5,a12_6]→W 10 (bz 11 8) (e12 [(52,(.agg #[(ptr q2 0)]))]) wS:=fun wS HS=>by
   rw [hW]
   refine wd2 0 4 ?_ ?_
   ·
    exact kS 0 rfl (op_fieldAddr rfl Fa.F43_0<|WD.cw hW (st12_4 wS HS))
   refine kS 4 rfl (op_callF Fa.C159 rfl ((inum_ok q2 (psD (g5 s).2 j) (2) 298 _ _ (HS.part [1] rfl rfl) (by first | (rw [g1_t]; exact hs) | (rw [g2_t]; exact hs) | (rw [g4_t]; exact hs) | (rw [g6_t]; exact hs) | (rw [g7_t]; exact hs) | (rw [g8_t]; exact hs) | (rw [g10_t]; exact hs) | (rw [xsD_t,g3_t]; exact hs) | (rw [numR_s,xsD_t,g3_t]; exact hs) | (rw [psD_t,g5_t]; exact hs) | (rw [sgD_t,g9_t]; exact hs) | exact hs)).mono (fun e w36081 hq=>?_)))
   obtain ⟨rfl,hq36081⟩:=hq
   refine ⟨_,rfl,?_⟩
   have H36081:=HS.splice [1] [.blk q2 [(str ((numR (psD (g5 s).2 j) 2).2).s),(vN ((numR (psD (g5 s).2 j) 2).2).at_),(vN ((numR (psD (g5 s).2 j) 2).2).f)] 298] [] rfl rfl hq36081 (Fits.solid True.intro Fits.nil)
   exact WD.cw hW (st12_5 w36081 H36081)
  have st12_0: ∀wS,Owl.Own [] w wS [a12_0,a12_1,a12_2,a12_3,a12_4,a12_5,a12_6]→W 11 (bz 11 0) (e12 []) wS:=fun wS HS=>by
   rw [hW]
   refine wd2 0 3 ?_ ?_
   ·
    exact kS 0 rfl (op_fieldAddr rfl Fa.F43_0<|WD.cw hW (st12_1 wS HS))
   exact kS 3 rfl (op_loadS (vs:=[_]) rfl (HS.cells (i:=2) rfl rfl) Tryz.underlying254 rfl Fa.I254 rfl<|WD.cw hW (st12_2 wS HS))
  have hq:=st12_0 w25 H25
  rw [hW] at hq ⊢
  refine WD.cov ?_ hq
  exact by repeat (first | exact trivial | refine ⟨rfl,?_⟩)
 refine WC.exit<|WQ.thenExit<|WQ.thenExit<|WQ.inHere<|WQ.next<|ws ?_
 have hkx:¬j<(g5 s).1.1.toNat:=fun h=>hc24 (hct.2 h)
 obtain rfl:j=(g5 s).1.1.toNat:=by omega
 have H27:Owl.Own [] w w23 [.blk b1 [(vU32 0),(.slice none 0 0),(.slice none 0 0),(.bool false),(vU32 0),(.slice none 0 0)] 43,.blk q2 [(str (g6 s).s),(vN (g6 s).at_),(vN (g6 s).f)] 298,.blk b3 [(ptr q2 0)] 254,.blk b7 [(vU32 (g2 s).1.1),x,y,(.bool false),(vU32 0),(.slice none 0 0)] 43,.row x 207 2 (g3 s).1.1.toNat (List.flatMap xtc (gX s)),.row y 203 1 (g5 s).1.1.toNat (List.map vU16 (gP s)),.row (.slice none 0 0) 116 3 0 (List.flatMap sgc [])]:=by have h:=H23; rw [show psD (g5 s).2 (g5 s).1.1.toNat=g6 s from rfl] at h; rw [show psL (g5 s).2 (g5 s).1.1.toNat=gP s from rfl] at h; exact h
 refine wo (op_loadS (vs:=[_]) rfl (H27.cells (i:=2) rfl rfl) Tryz.underlying254 rfl Fa.I254 rfl<|wo (op_callF Fa.C159 rfl ((inum_ok q2 (g6 s) (1) 298 _ _ (H27.part [1] rfl rfl) (by first | (rw [g1_t]; exact hs) | (rw [g2_t]; exact hs) | (rw [g4_t]; exact hs) | (rw [g6_t]; exact hs) | (rw [g7_t]; exact hs) | (rw [g8_t]; exact hs) | (rw [g10_t]; exact hs) | (rw [xsD_t,g3_t]; exact hs) | (rw [numR_s,xsD_t,g3_t]; exact hs) | (rw [psD_t,g5_t]; exact hs) | (rw [sgD_t,g9_t]; exact hs) | exact hs)).mono (fun e w28 hq=>?_))))
 obtain ⟨rfl,hq28⟩:=hq
 refine ⟨_,rfl,?_⟩
 have H28:=H27.splice [1] [.blk q2 [(str ((numR (g6 s) 1).2).s),(vN ((numR (g6 s) 1).2).at_),(vN ((numR (g6 s) 1).2).f)] 298] [] rfl rfl hq28 (Fits.solid True.intro Fits.nil)
 have H29:Owl.Own [] w w28 [.blk b1 [(vU32 0),(.slice none 0 0),(.slice none 0 0),(.bool false),(vU32 0),(.slice none 0 0)] 43,.blk q2 [(str ((g7 s).2).s),(vN ((g7 s).2).at_),(vN ((g7 s).2).f)] 298,.blk b3 [(ptr q2 0)] 254,.blk b7 [(vU32 (g2 s).1.1),x,y,(.bool false),(vU32 0),(.slice none 0 0)] 43,.row x 207 2 (g3 s).1.1.toNat (List.flatMap xtc (gX s)),.row y 203 1 (g5 s).1.1.toNat (List.map vU16 (gP s)),.row (.slice none 0 0) 116 3 0 (List.flatMap sgc [])]:=by have h:=H28; rw [show numR (g6 s) 1=g7 s from rfl] at h; exact h
 rw [show numR (g6 s) 1=g7 s from rfl]
 refine wa rfl<|wn<|ws<|wm rfl<|wo (op_eqlU32 (b:=1) rfl rfl<|wo (op_fieldAddr rfl Fa.F43_0<|wo (op_fieldAddr rfl Fa.F40_3<|wo (op_storeB (i:=3) H29 rfl rfl rfl rfl rfl Fa.I4 (fun w30 H30=>(wn<|ws<|wo (op_loadS (vs:=[_]) rfl (H30.cells (i:=2) rfl rfl) Tryz.underlying254 rfl Fa.I254 rfl<|wo (op_callF Fa.C159 rfl ((inum_ok q2 ((g7 s).2) (4) 298 _ _ (H30.part [1] rfl rfl) (by first | (rw [g1_t]; exact hs) | (rw [g2_t]; exact hs) | (rw [g4_t]; exact hs) | (rw [g6_t]; exact hs) | (rw [g7_t]; exact hs) | (rw [g8_t]; exact hs) | (rw [g10_t]; exact hs) | (rw [xsD_t,g3_t]; exact hs) | (rw [numR_s,xsD_t,g3_t]; exact hs) | (rw [psD_t,g5_t]; exact hs) | (rw [sgD_t,g9_t]; exact hs) | exact hs)).mono (fun e w31 hq=>?_))))))))))
 obtain ⟨rfl,hq31⟩:=hq
 refine ⟨_,rfl,?_⟩
 have H31:=H30.splice [1] [.blk q2 [(str ((numR ((g7 s).2) 4).2).s),(vN ((numR ((g7 s).2) 4).2).at_),(vN ((numR ((g7 s).2) 4).2).f)] 298] [] rfl rfl hq31 (Fits.solid True.intro Fits.nil)
 refine wo (op_fieldAddr rfl Fa.F43_1 ?_)
 have H32:Owl.Own [] w w31 [.blk b1 [(vU32 0),(.slice none 0 0),(.slice none 0 0),(.bool false),(vU32 0),(.slice none 0 0)] 43,.blk q2 [(str ((g8 s).2).s),(vN ((g8 s).2).at_),(vN ((g8 s).2).f)] 298,.blk b3 [(ptr q2 0)] 254,.blk b7 [(vU32 (g2 s).1.1),x,y,(.bool (decide ((g7 s).1.1=(1:UInt32)))),(vU32 0),(.slice none 0 0)] 43,.row x 207 2 (g3 s).1.1.toNat (List.flatMap xtc (gX s)),.row y 203 1 (g5 s).1.1.toNat (List.map vU16 (gP s)),.row (.slice none 0 0) 116 3 0 (List.flatMap sgc [])]:=by have h:=H31; rw [show numR (g7 s).2 4=g8 s from rfl] at h; exact h
 rw [show numR (g7 s).2 4=g8 s from rfl]
 refine wo (op_storeB (i:=3) H32 rfl rfl rfl rfl rfl Fa.I22 (fun w33 H33=>(wn<|WC.seq<|ws<|wo (op_loadS (vs:=[_]) rfl (H33.cells (i:=2) rfl rfl) Tryz.underlying254 rfl Fa.I254 rfl<|wo (op_callF Fa.C159 rfl ((inum_ok q2 ((g8 s).2) (1) 298 _ _ (H33.part [1] rfl rfl) (by first | (rw [g1_t]; exact hs) | (rw [g2_t]; exact hs) | (rw [g4_t]; exact hs) | (rw [g6_t]; exact hs) | (rw [g7_t]; exact hs) | (rw [g8_t]; exact hs) | (rw [g10_t]; exact hs) | (rw [xsD_t,g3_t]; exact hs) | (rw [numR_s,xsD_t,g3_t]; exact hs) | (rw [psD_t,g5_t]; exact hs) | (rw [sgD_t,g9_t]; exact hs) | exact hs)).mono (fun e w34 hq=>?_)))))))
 obtain ⟨rfl,hq34⟩:=hq
 refine ⟨_,rfl,?_⟩
 have H34:=H33.splice [1] [.blk q2 [(str ((numR ((g8 s).2) 1).2).s),(vN ((numR ((g8 s).2) 1).2).at_),(vN ((numR ((g8 s).2) 1).2).f)] 298] [] rfl rfl hq34 (Fits.solid True.intro Fits.nil)
 have H35:Owl.Own [] w w34 [.blk b1 [(vU32 0),(.slice none 0 0),(.slice none 0 0),(.bool false),(vU32 0),(.slice none 0 0)] 43,.blk q2 [(str ((g9 s).2).s),(vN ((g9 s).2).at_),(vN ((g9 s).2).f)] 298,.blk b3 [(ptr q2 0)] 254,.blk b7 [(vU32 (g2 s).1.1),x,y,(.bool (decide ((g7 s).1.1=(1:UInt32)))),(vU32 (g8 s).1.1),(.slice none 0 0)] 43,.row x 207 2 (g3 s).1.1.toNat (List.flatMap xtc (gX s)),.row y 203 1 (g5 s).1.1.toNat (List.map vU16 (gP s)),.row (.slice none 0 0) 116 3 0 (List.flatMap sgc [])]:=by have h:=H34; rw [show numR (g8 s).2 1=g9 s from rfl] at h; exact h
 rw [show numR (g8 s).2 1=g9 s from rfl]
 refine wa rfl<|wn<|WC.block<|WC.loop (α:=Nat × Value) (fun (i,z)=>[(2,(ptr b1 0)),(4,(ptr b3 0)),(5,(str (g1 s).1.1)),(7,(ptr b7 0)),(10,(vU32 (g7 s).1.1)),(11,(vU32 ((g9 s).1.1-UInt32.ofNat i)))]) (fun (i,z) w'=>(i≤(g9 s).1.1.toNat)∧Owl.Own [] w w' [.blk b1 [(vU32 0),(.slice none 0 0),(.slice none 0 0),(.bool false),(vU32 0),(.slice none 0 0)] 43,.blk q2 [(str (sgD (g9 s).2 i).s),(vN (sgD (g9 s).2 i).at_),(vN (sgD (g9 s).2 i).f)] 298,.blk b3 [(ptr q2 0)] 254,.blk b7 [(vU32 (g2 s).1.1),x,y,(.bool (decide ((g7 s).1.1=(1:UInt32)))),(vU32 (g8 s).1.1),z] 43,.row x 207 2 (g3 s).1.1.toNat (List.flatMap xtc (gX s)),.row y 203 1 (g5 s).1.1.toNat (List.map vU16 (gP s)),.row z 116 3 i (List.flatMap sgc (sgL (g9 s).2 i))]) (fun (i,z)=>(g9 s).1.1.toNat-i) (0,(.slice none 0 0)) ⟨(Nat.zero_le _),(by rw [sgD_0]; exact H35)⟩ ⟨rfl,rfl,rfl,rfl,rfl,(congrArg (fun n=>some (vU32 n)) (u32_sub0 _)),trivial⟩ ?_
 rintro ⟨i,z⟩ w36 ⟨hi1,H36⟩
 show WC _ _ _ _ _ [(2,(ptr b1 0)),(4,(ptr b3 0)),(5,(str (g1 s).1.1)),(7,(ptr b7 0)),(10,(vU32 (g7 s).1.1)),(11,(vU32 ((g9 s).1.1-UInt32.ofNat i)))] _
 have hct:=u32_gt hi1
 have hnl:=(g9 s).1.1.toNat_lt
 refine WC.seq<|ws<|wm rfl<|wo (op_gtrU32 (b:=0) rfl rfl<|wn (wE (((g9 s).1.1-UInt32.ofNat i)>(0:UInt32)) (fun hb37 hc37=>?_) (fun hb37 hc37=>?_)))
 ·
  have hkn:=hct.1 hc37
  refine WC.skip<|WQ.next<|WC.seq<|WC.block<|WC.drawn 8 rfl Fa.M H36 ?_
  intro w38 H38
  refine WD.named (fun W hW=>?_)
  let e19:List (Nat × Value)→List (Nat × Value):=fun r=>(2,(ptr b1 0))::(4,(ptr b3 0))::(5,(str (g1 s).1.1))::(7,(ptr b7 0))::(10,(vU32 (g7 s).1.1))::(11,(vU32 ((g9 s).1.1-UInt32.ofNat i)))::(70,(vU32 ((g9 s).1.1-UInt32.ofNat i)))::(71,(.bool (decide (((g9 s).1.1-UInt32.ofNat i)>(0:UInt32)))))::r
  let a19_0:Ent:=.blk b1 [(vU32 0),(.slice none 0 0),(.slice none 0 0),(.bool false),(vU32 0),(.slice none 0 0)] 43
  let a19_1:Ent:=.blk q2 [(str (sgD (g9 s).2 i).s),(vN (sgD (g9 s).2 i).at_),(vN (sgD (g9 s).2 i).f)] 298
  let a19_2:Ent:=.blk b3 [(ptr q2 0)] 254
  let a19_3:Ent:=.blk b7 [(vU32 (g2 s).1.1),x,y,(.bool (decide ((g7 s).1.1=(1:UInt32)))),(vU32 (g8 s).1.1),z] 43
  let a19_4:Ent:=.row x 207 2 (g3 s).1.1.toNat (List.flatMap xtc (gX s))
  let a19_5:Ent:=.row y 203 1 (g5 s).1.1.toNat (List.map vU16 (gP s))
  let a19_6:Ent:=.row z 116 3 i (List.flatMap sgc (sgL (g9 s).2 i))
  let a19_7:Ent:=.blk q2 [(str ((segR (sgD (g9 s).2 i)).2).s),(vN ((segR (sgD (g9 s).2 i)).2).at_),(vN ((segR (sgD (g9 s).2 i)).2).f)] 298
  have st19_14: ∀v49101 b49081 wS,Owl.Own [] w wS [a19_0,a19_7,a19_2,.blk b7 [(vU32 (g2 s).1.1),x,y,(.bool (decide ((g7 s).1.1=(1:UInt32)))),(vU32 (g8 s).1.1),v49101] 43,a19_4,a19_5,.row v49101 116 3 (i+1) (List.flatMap sgc ((sgL (g9 s).2 i)++[(segR (sgD (g9 s).2 i)).1])),.row (.slice (some ⟨b49081,0,none⟩) 1 1) 116 3 1 (List.flatMap sgc [(segR (sgD (g9 s).2 i)).1])]→W 0 (bz 8 255) (e19 []) wS:=fun v49101 b49081 wS HS=>by
   rw [hW]
   exact WD.done (by kernel_rfl)<|WQ.inNormal<|WQ.next<|WC.region<|wm rfl<|wo (op_subU32 (b:=1) rfl rfl<|wa rfl<|WL.nil<|WQ.round (i+1,v49101) ⟨(by omega),(by rw [sgD_s,sgL_s]; exact (HS.take 7))⟩ ⟨rfl,rfl,rfl,rfl,rfl,(congrArg (fun n=>some (vU32 n)) (u32_dec hkn)),trivial⟩ (by show (g9 s).1.1.toNat-(i+1)<(g9 s).1.1.toNat-i; omega))
  have st19_13: ∀v49101 b49081 wS,Owl.Own [] w wS [a19_0,a19_7,a19_2,a19_3,a19_4,a19_5,.row v49101 116 3 (i+1) (List.flatMap sgc ((sgL (g9 s).2 i)++[(segR (sgD (g9 s).2 i)).1])),.row (.slice (some ⟨b49081,0,none⟩) 1 1) 116 3 1 (List.flatMap sgc [(segR (sgD (g9 s).2 i)).1])]→W 1 (bz 8 127) (e19 [(79,v49101),(80,(ptr b7 5))]) wS:=fun v49101 b49081 wS HS=>by
   rw [hW]
   exact wd1 7<|kS 7 rfl (op_storeB (i:=3) HS rfl rfl rfl rfl (Arr.one (HS.arrR (i:=6) rfl)) Fa.I41 (fun w49141 H49141=>(WD.cw hW (st19_14 v49101 b49081 w49141 H49141))))
  have st19_12: ∀v49101 b49081 wS,Owl.Own [] w wS [a19_0,a19_7,a19_2,a19_3,a19_4,a19_5,.row v49101 116 3 (i+1) (List.flatMap sgc ((sgL (g9 s).2 i)++[(segR (sgD (g9 s).2 i)).1])),.row (.slice (some ⟨b49081,0,none⟩) 1 1) 116 3 1 (List.flatMap sgc [(segR (sgD (g9 s).2 i)).1])]→W 2 (bz 8 63) (e19 [(79,v49101)]) wS:=fun v49101 b49081 wS HS=>by
   rw [hW]
   exact wd1 6<|kS 6 rfl (op_fieldAddr rfl Fa.F43_2<|WD.cw hW (st19_13 v49101 b49081 wS HS))
  have st19_11: ∀b49081 wS,Owl.Own [] w wS [a19_0,a19_7,a19_2,a19_3,a19_4,a19_5,a19_6,.row (.slice (some ⟨b49081,0,none⟩) 1 1) 116 3 1 (List.flatMap sgc [(segR (sgD (g9 s).2 i)).1])]→W 3 (bz 8 31) (e19 [(75,z),(78,(.slice (some ⟨b49081,0,none⟩) 1 1))]) wS:=fun b49081 wS HS=>by
   rw [hW]
   exact wd1 5<|kS 5 rfl (op_appendF (f:=sgc) (l:=(sgL (g9 s).2 i)) (l':=[(segR (sgD (g9 s).2 i)).1]) (i:=6) HS Tryz.underlying41 Fa.I116 rfl rfl rfl rfl (Src.ofArr Tryz.underlying41 (HS.arrR (i:=7) rfl)) (one_flat (fun _=>by simp [sgc,Value.oneCell'])) (by omega) (by omega) (fun v49101 w49101 H49101=>(WD.cw hW (st19_12 v49101 b49081 w49101 H49101))))
  have st19_9: ∀wS,Owl.Own [] w wS [a19_0,a19_7,a19_2,a19_3,a19_4,a19_5,a19_6]→W 4 (bz 8 15) (e19 [(75,z),(77,(.agg #[(vU32 (segR (sgD (g9 s).2 i)).1.a),(vU8 (segR (sgD (g9 s).2 i)).1.p),(str (segR (sgD (g9 s).2 i)).1.b)]))]) wS:=fun wS HS=>by
   rw [hW]
   exact wd1 4<|kS 4 rfl (op_buildSlice (cs:=[_,_,_]) HS Tryz.underlying41 Fa.I116 rfl rfl rfl rfl (by decide) (by decide) (fun b49081 w49081 H49081=>(WD.cw hW (st19_11 b49081 w49081 H49081))))
  have st19_10: ∀b49081 wS,Owl.Own [] w wS [a19_0,a19_7,a19_2,a19_3,a19_4,a19_5,a19_6,.row (.slice (some ⟨b49081,0,none⟩) 1 1) 116 3 1 (List.flatMap sgc [(segR (sgD (g9 s).2 i)).1])]→W 4 (bz 8 29) (e19 [(74,(ptr b7 5)),(78,(.slice (some ⟨b49081,0,none⟩) 1 1))]) wS:=fun b49081 wS HS=>by
   rw [hW]
   exact wd1 1<|kS 1 rfl (op_load rfl (HS.cell (i:=3) rfl rfl) Tryz.underlying41 rfl<|WD.cw hW (st19_11 b49081 wS HS))
  have st19_6: ∀wS,Owl.Own [] w wS [a19_0,a19_1,a19_2,a19_3,a19_4,a19_5,a19_6]→W 5 (bz 8 7) (e19 [(75,z),(76,(.agg #[(ptr q2 0)]))]) wS:=fun wS HS=>by
   rw [hW]
   refine wd1 3<|kS 3 rfl (op_callF Fa.C160 rfl ((iseg_ok q2 (sgD (g9 s).2 i) 298 _ _ (HS.part [1] rfl rfl) (by first | (rw [g1_t]; exact hs) | (rw [g2_t]; exact hs) | (rw [g4_t]; exact hs) | (rw [g6_t]; exact hs) | (rw [g7_t]; exact hs) | (rw [g8_t]; exact hs) | (rw [g10_t]; exact hs) | (rw [xsD_t,g3_t]; exact hs) | (rw [numR_s,xsD_t,g3_t]; exact hs) | (rw [psD_t,g5_t]; exact hs) | (rw [sgD_t,g9_t]; exact hs) | exact hs)).mono (fun e w49061 hq=>?_)))
   obtain ⟨rfl,hq49061⟩:=hq
   refine ⟨_,rfl,?_⟩
   have H49061:=HS.splice [1] [.blk q2 [(str ((segR (sgD (g9 s).2 i)).2).s),(vN ((segR (sgD (g9 s).2 i)).2).at_),(vN ((segR (sgD (g9 s).2 i)).2).f)] 298] [] rfl rfl hq49061 (Fits.solid True.intro Fits.nil)
   exact WD.cw hW (st19_9 w49061 H49061)
  have st19_7: ∀wS,Owl.Own [] w wS [a19_0,a19_7,a19_2,a19_3,a19_4,a19_5,a19_6]→W 5 (bz 8 13) (e19 [(74,(ptr b7 5)),(77,(.agg #[(vU32 (segR (sgD (g9 s).2 i)).1.a),(vU8 (segR (sgD (g9 s).2 i)).1.p),(str (segR (sgD (g9 s).2 i)).1.b)]))]) wS:=fun wS HS=>by
   rw [hW]
   refine wd2 1 4 ?_ ?_
   ·
    exact kS 1 rfl (op_load rfl (HS.cell (i:=3) rfl rfl) Tryz.underlying41 rfl<|WD.cw hW (st19_9 wS HS))
   exact kS 4 rfl (op_buildSlice (cs:=[_,_,_]) HS Tryz.underlying41 Fa.I116 rfl rfl rfl rfl (by decide) (by decide) (fun b49081 w49081 H49081=>(WD.cw hW (st19_10 b49081 w49081 H49081))))
  have st19_8: ∀b49081 wS,Owl.Own [] w wS [a19_0,a19_7,a19_2,a19_3,a19_4,a19_5,a19_6,.row (.slice (some ⟨b49081,0,none⟩) 1 1) 116 3 1 (List.flatMap sgc [(segR (sgD (g9 s).2 i)).1])]→W 5 (bz 8 28) (e19 [(78,(.slice (some ⟨b49081,0,none⟩) 1 1))]) wS:=fun b49081 wS HS=>by
   rw [hW]
   exact wd1 0<|kS 0 rfl (op_fieldAddr rfl Fa.F43_2<|WD.cw hW (st19_10 b49081 wS HS))
  have st19_3: ∀wS,Owl.Own [] w wS [a19_0,a19_1,a19_2,a19_3,a19_4,a19_5,a19_6]→W 6 (bz 8 3) (e19 [(75,z)]) wS:=fun wS HS=>by
   rw [hW]
   exact wd1 2<|kS 2 rfl (op_loadS (vs:=[_]) rfl (HS.cells (i:=2) rfl rfl) Tryz.underlying254 rfl Fa.I254 rfl<|WD.cw hW (st19_6 wS HS))
  have st19_4: ∀wS,Owl.Own [] w wS [a19_0,a19_1,a19_2,a19_3,a19_4,a19_5,a19_6]→W 6 (bz 8 5) (e19 [(74,(ptr b7 5)),(76,(.agg #[(ptr q2 0)]))]) wS:=fun wS HS=>by
   rw [hW]
   refine wd2 1 3 ?_ ?_
   ·
    exact kS 1 rfl (op_load rfl (HS.cell (i:=3) rfl rfl) Tryz.underlying41 rfl<|WD.cw hW (st19_6 wS HS))
   refine kS 3 rfl (op_callF Fa.C160 rfl ((iseg_ok q2 (sgD (g9 s).2 i) 298 _ _ (HS.part [1] rfl rfl) (by first | (rw [g1_t]; exact hs) | (rw [g2_t]; exact hs) | (rw [g4_t]; exact hs) | (rw [g6_t]; exact hs) | (rw [g7_t]; exact hs) | (rw [g8_t]; exact hs) | (rw [g10_t]; exact hs) | (rw [xsD_t,g3_t]; exact hs) | (rw [numR_s,xsD_t,g3_t]; exact hs) | (rw [psD_t,g5_t]; exact hs) | (rw [sgD_t,g9_t]; exact hs) | exact hs)).mono (fun e w49061 hq=>?_)))
   obtain ⟨rfl,hq49061⟩:=hq
   refine ⟨_,rfl,?_⟩
   have H49061:=HS.splice [1] [.blk q2 [(str ((segR (sgD (g9 s).2 i)).2).s),(vN ((segR (sgD (g9 s).2 i)).2).at_),(vN ((segR (sgD (g9 s).2 i)).2).f)] 298] [] rfl rfl hq49061 (Fits.solid True.intro Fits.nil)
   exact WD.cw hW (st19_7 w49061 H49061)
  have st19_5: ∀wS,Owl.Own [] w wS [a19_0,a19_7,a19_2,a19_3,a19_4,a19_5,a19_6]→W 6 (bz 8 12) (e19 [(77,(.agg #[(vU32 (segR (sgD (g9 s).2 i)).1.a),(vU8 (segR (sgD (g9 s).2 i)).1.p),(str (segR (sgD (g9 s).2 i)).1.b)]))]) wS:=fun wS HS=>by
   rw [hW]
   refine wd2 0 4 ?_ ?_
   ·
    exact kS 0 rfl (op_fieldAddr rfl Fa.F43_2<|WD.cw hW (st19_7 wS HS))
   exact kS 4 rfl (op_buildSlice (cs:=[_,_,_]) HS Tryz.underlying41 Fa.I116 rfl rfl rfl rfl (by decide) (by decide) (fun b49081 w49081 H49081=>(WD.cw hW (st19_8 b49081 w49081 H49081))))
  have st19_1: ∀wS,Owl.Own [] w wS [a19_0,a19_1,a19_2,a19_3,a19_4,a19_5,a19_6]→W 7 (bz 8 1) (e19 [(74,(ptr b7 5))]) wS:=fun wS HS=>by
   rw [hW]
   refine wd2 1 2 ?_ ?_
   ·
    exact kS 1 rfl (op_load rfl (HS.cell (i:=3) rfl rfl) Tryz.underlying41 rfl<|WD.cw hW (st19_3 wS HS))
   exact kS 2 rfl (op_loadS (vs:=[_]) rfl (HS.cells (i:=2) rfl rfl) Tryz.underlying254 rfl Fa.I254 rfl<|WD.cw hW (st19_4 wS HS))
  have st19_2: ∀wS,Owl.Own [] w wS [a19_0,a19_1,a19_2,a19_3,a19_4,a19_5,a19_6]→W 7 (bz 8 4) (e19 [(76,(.agg #[(ptr q2 0)]))]) wS:=fun wS HS=>by
   rw [hW]
   refine wd2 0 3 ?_ ?_
   ·
    exact kS 0 rfl (op_fieldAddr rfl Fa.F43_2<|WD.cw hW (st19_4 wS HS))
   refine kS 3 rfl (op_callF Fa.C160 rfl ((iseg_ok q2 (sgD (g9 s).2 i) 298 _ _ (HS.part [1] rfl rfl) (by first | (rw [g1_t]; exact hs) | (rw [g2_t]; exact hs) | (rw [g4_t]; exact hs) | (rw [g6_t]; exact hs) | (rw [g7_t]; exact hs) | (rw [g8_t]; exact hs) | (rw [g10_t]; exact hs) | (rw [xsD_t,g3_t]; exact hs) | (rw [numR_s,xsD_t,g3_t]; exact hs) | (rw [psD_t,g5_t]; exact hs) | (rw [sgD_t,g9_t]; exact hs) | exact hs)).mono (fun e w49061 hq=>?_)))
   obtain ⟨rfl,hq49061⟩:=hq
   refine ⟨_,rfl,?_⟩
   have H49061:=HS.splice [1] [.blk q2 [(str ((segR (sgD (g9 s).2 i)).2).s),(vN ((segR (sgD (g9 s).2 i)).2).at_),(vN ((segR (sgD (g9 s).2 i)).2).f)] 298] [] rfl rfl hq49061 (Fits.solid True.intro Fits.nil)
   exact WD.cw hW (st19_5 w49061 H49061)
  have st19_0: ∀wS,Owl.Own [] w wS [a19_0,a19_1,a19_2,a19_3,a19_4,a19_5,a19_6]→W 8 (bz 8 0) (e19 []) wS:=fun wS HS=>by
   rw [hW]
   refine wd2 0 2 ?_ ?_
   ·
    exact kS 0 rfl (op_fieldAddr rfl Fa.F43_2<|WD.cw hW (st19_1 wS HS))
   exact kS 2 rfl (op_loadS (vs:=[_]) rfl (HS.cells (i:=2) rfl rfl) Tryz.underlying254 rfl Fa.I254 rfl<|WD.cw hW (st19_2 wS HS))
  have hq:=st19_0 w38 H38
  rw [hW] at hq ⊢
  refine WD.cov ?_ hq
  exact by repeat (first | exact trivial | refine ⟨rfl,?_⟩)
 refine WC.exit<|WQ.thenExit<|WQ.thenExit<|WQ.inHere<|WQ.next<|WC.seq<|ws ?_
 have hkx:¬i<(g9 s).1.1.toNat:=fun h=>hc37 (hct.2 h)
 obtain rfl:i=(g9 s).1.1.toNat:=by omega
 have H40:Owl.Own [] w w36 [.blk b1 [(vU32 0),(.slice none 0 0),(.slice none 0 0),(.bool false),(vU32 0),(.slice none 0 0)] 43,.blk q2 [(str (g10 s).s),(vN (g10 s).at_),(vN (g10 s).f)] 298,.blk b3 [(ptr q2 0)] 254,.blk b7 [(vU32 (g2 s).1.1),x,y,(.bool (decide ((g7 s).1.1=(1:UInt32)))),(vU32 (g8 s).1.1),z] 43,.row x 207 2 (g3 s).1.1.toNat (List.flatMap xtc (gX s)),.row y 203 1 (g5 s).1.1.toNat (List.map vU16 (gP s)),.row z 116 3 (g9 s).1.1.toNat (List.flatMap sgc (gS s))]:=by have h:=H36; rw [show sgD (g9 s).2 (g9 s).1.1.toNat=g10 s from rfl] at h; rw [show sgL (g9 s).2 (g9 s).1.1.toNat=gS s from rfl] at h; exact h
 refine wo (op_fieldAddr rfl Fa.F254_0<|wo (op_load rfl (H40.cell (i:=2) rfl rfl) Tryz.underlying251 rfl<|wo (op_callF Fa.C161 rfl ((rdend_ok q2 (g10 s)  298 _ _ (H40.part [1] rfl rfl) (by first | (rw [g1_t]; exact hs) | (rw [g2_t]; exact hs) | (rw [g4_t]; exact hs) | (rw [g6_t]; exact hs) | (rw [g7_t]; exact hs) | (rw [g8_t]; exact hs) | (rw [g10_t]; exact hs) | (rw [xsD_t,g3_t]; exact hs) | (rw [numR_s,xsD_t,g3_t]; exact hs) | (rw [psD_t,g5_t]; exact hs) | (rw [sgD_t,g9_t]; exact hs) | exact hs)).mono (fun e w41 hq=>?_)))))
 obtain ⟨rfl,hq41⟩:=hq
 refine ⟨_,rfl,?_⟩
 have H41:=H40.splice [1] [.blk q2 [(str ((endR (g10 s)).2).s),(vN ((endR (g10 s)).2).at_),(vN ((endR (g10 s)).2).f)] 298] [] rfl rfl hq41 (Fits.solid True.intro Fits.nil)
 refine wo (op_neqN (b:=0) rfl rfl<|wm rfl (wF 85 ((endR (g10 s)).1≠0) (fun hb42 hc42=>?_) (fun hb42 hc42=>?_)))
 ·
  refine wN hb42<|wN hb42<|wo (op_pickT rfl hb42 rfl<|wm rfl<|wN rfl<|wN rfl<|wo (op_pickT rfl rfl rfl<|wm rfl<|wN rfl<|wN rfl<|wN rfl<|wo (op_pickT rfl rfl rfl<|wn<|WC.yes rfl rfl<|ws<|wo (op_build (cs:=[_,_,_,_,_,_]) Fa.I43 Fa.PL43 rfl rfl<|wo (op_storeBW (i:=0) H41 rfl rfl rfl rfl rfl Fa.I43 (fun w43 H43=>(wa rfl<|wn<|WC.ret<|WQ.thenRet<|WQ.out (.cell rfl (run_loadVarS (vs:=[_,_,_,_,_,_]) (H43.cells (i:=0) rfl rfl) Tryz.underlying43 rfl Fa.I43 rfl) (.tmp rfl .nil)) ?_)))))))
  have hb:gBad s=true:=by (rw [gBad,hb42])<;>rfl
  rw [(get_bad hb).1,(get_bad hb).2]
  exact ⟨.slice none 0 0,.slice none 0 0,.slice none 0 0,rfl,(((H43.sel [] rfl rfl).nilRow 207 2).nilRow 203 1).nilRow 116 3⟩
 refine wY hb42 (op_move rfl<|wY hb42 (op_neqStr rfl rfl<|wo (op_pickF rfl hb42 rfl<|wm rfl (wF 89 ((g1 s).1.1≠[65,73,77,49]) (fun hb44 hc44=>?_) (fun hb44 hc44=>?_)))))
 ·
  refine wN hb44<|wN hb44<|wo (op_pickT rfl hb44 rfl<|wm rfl<|wN rfl<|wN rfl<|wN rfl<|wo (op_pickT rfl rfl rfl<|wn<|WC.yes rfl rfl<|ws<|wo (op_build (cs:=[_,_,_,_,_,_]) Fa.I43 Fa.PL43 rfl rfl<|wo (op_storeBW (i:=0) H41 rfl rfl rfl rfl rfl Fa.I43 (fun w45 H45=>(wa rfl<|wn<|WC.ret<|WQ.thenRet<|WQ.out (.cell rfl (run_loadVarS (vs:=[_,_,_,_,_,_]) (H45.cells (i:=0) rfl rfl) Tryz.underlying43 rfl Fa.I43 rfl) (.tmp rfl .nil)) ?_))))))
  have hb:gBad s=true:=by (rw [gBad,hb42,hb44])<;>rfl
  rw [(get_bad hb).1,(get_bad hb).2]
  exact ⟨.slice none 0 0,.slice none 0 0,.slice none 0 0,rfl,(((H45.sel [] rfl rfl).nilRow 207 2).nilRow 203 1).nilRow 116 3⟩
 refine wY hb44 (op_move rfl<|wY hb44 (op_gtrU32 (b:=1) rfl rfl<|wo (op_pickF rfl hb44 rfl<|wm rfl (wF 93 ((g7 s).1.1>(1:UInt32)) (fun hb46 hc46=>?_) (fun hb46 hc46=>?_)))))
 ·
  refine wN hb46<|wN hb46<|wN hb46<|wo (op_pickT rfl hb46 rfl<|wn<|WC.yes rfl rfl<|ws<|wo (op_build (cs:=[_,_,_,_,_,_]) Fa.I43 Fa.PL43 rfl rfl<|wo (op_storeBW (i:=0) H41 rfl rfl rfl rfl rfl Fa.I43 (fun w47 H47=>(wa rfl<|wn<|WC.ret<|WQ.thenRet<|WQ.out (.cell rfl (run_loadVarS (vs:=[_,_,_,_,_,_]) (H47.cells (i:=0) rfl rfl) Tryz.underlying43 rfl Fa.I43 rfl) (.tmp rfl .nil)) ?_)))))
  have hb:gBad s=true:=by (rw [gBad,hb42,hb44,hb46])<;>rfl
  rw [(get_bad hb).1,(get_bad hb).2]
  exact ⟨.slice none 0 0,.slice none 0 0,.slice none 0 0,rfl,(((H47.sel [] rfl rfl).nilRow 207 2).nilRow 203 1).nilRow 116 3⟩
 refine wY hb46 (op_loadS (vs:=[_,_,_,_,_,_]) rfl (H41.cells (i:=3) rfl rfl) Tryz.underlying43 rfl Fa.I43 rfl<|wY hb46 (cq H41 Fa.C41 rfl (icheck_ok ((g2 s).1.1) _ _ _ (gX s) (gP s) (decide ((g7 s).1.1=(1:UInt32))) ((g8 s).1.1) (gS s) _ (Arr.lenF ((H41.arrR (i:=4) rfl)) (fun _=>rfl) (by decide)) (Arr.lenM (H41.arrR (i:=5) rfl)) (Arr.lenF ((H41.arrR (i:=6) rfl)) (fun _=>rfl) (by decide)) (by have:=xsL_len (g3 s).2 (g3 s).1.1.toNat; have:=(g3 s).1.1.toNat_lt; rw [gX]; omega) (by have:=psL_len (g5 s).2 (g5 s).1.1.toNat; have:=(g5 s).1.1.toNat_lt; rw [gP]; omega) (by have:=sgL_len (g9 s).2 (g9 s).1.1.toNat; have:=(g9 s).1.1.toNat_lt; rw [gS]; omega)) fun w48 H48=>?_))
 refine wY hb46 (op_neqN (b:=0) rfl rfl<|wo (op_pickF rfl hb46 rfl<|wn (wE ((imE ((g2 s).1.1) (gX s) (gP s) ((g8 s).1.1) (gS s))≠0) (fun hb49 hc49=>?_) (fun hb49 hc49=>?_))))
 ·
  refine ws<|wo (op_build (cs:=[_,_,_,_,_,_]) Fa.I43 Fa.PL43 rfl rfl<|wo (op_storeBW (i:=0) H48 rfl rfl rfl rfl rfl Fa.I43 (fun w50 H50=>(wa rfl<|wn<|WC.ret<|WQ.thenRet<|WQ.out (.cell rfl (run_loadVarS (vs:=[_,_,_,_,_,_]) (H50.cells (i:=0) rfl rfl) Tryz.underlying43 rfl Fa.I43 rfl) (.tmp rfl .nil)) ?_))))
  have hb:gBad s=true:=by (rw [gBad,hb42,hb44,hb46,hb49])<;>rfl
  rw [(get_bad hb).1,(get_bad hb).2]
  exact ⟨.slice none 0 0,.slice none 0 0,.slice none 0 0,rfl,(((H50.sel [] rfl rfl).nilRow 207 2).nilRow 203 1).nilRow 116 3⟩
 refine WC.skip<|WQ.next<|ws<|wo (op_loadS (vs:=[_,_,_,_,_,_]) rfl (H48.cells (i:=3) rfl rfl) Tryz.underlying43 rfl Fa.I43 rfl<|wo (op_storeBW (i:=0) H48 rfl rfl rfl rfl (one_cons rfl (one_cons (Arr.one (H48.arrR (i:=4) rfl)) (one_cons (Arr.one (H48.arrR (i:=5) rfl)) (one_cons rfl (one_cons rfl (one_cons (Arr.one (H48.arrR (i:=6) rfl)) one_nil)))))) Fa.I43 (fun w51 H51=>(wa rfl<|wn<|WC.ret<|WQ.out (.cell rfl (run_loadVarS (vs:=[_,_,_,_,_,_]) (H51.cells (i:=0) rfl rfl) Tryz.underlying43 rfl Fa.I43 rfl) (.tmp rfl .nil)) ?_))))
 have hb:gBad s=false:=by (rw [gBad,hb42,hb44,hb46,hb49])<;>rfl
 exact iget_fin (x:=x) (y:=y) (z:=z) hb rfl (H51.sel [4,5,6] rfl rfl)
end Go.Proofs.YtbjhccnffacbcaaGreat
